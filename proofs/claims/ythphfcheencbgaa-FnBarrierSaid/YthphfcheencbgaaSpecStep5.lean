/- Walk of the reference's Step: invalid machines, ill formed operations, writes, frees. -/
import Derived.Test.YthphfcheencbgaaSpecStep4
namespace Go.Proofs.Ythphfcheencbgaa.Mmu
open Go.RowKit Go.Proofs.Ythphfcheencbgaa.Base Go.Proofs.Ythphfcheencbgaa.Kinds Go.Proofs.Ythphfcheencbgaa.DecMath Go.Proofs.Ythphfcheencbgaa.L1
set_option linter.unusedVariables false
set_option linter.unusedSimpArgs false
/-- The answer is a machine whose lists are the call's own, and a code. -/
def MIPost (w : World) (r : SM × Int) (e : Ending) (w' : World) : Prop := ∃ u0 u1 u2 u3, e = .returned (.tuple #[.agg #[u0, u1, u2, u3], .int .i64 r.2]) ∧ OwnM w.heap.size w' u0 u1 u2 u3 r.1 ∧ Below w.heap.size w w'
theorem nilMT (base : Nat) (w : World) : OwnM base w (.slice none 0 0) (.slice none 0 0) (.slice none 0 0) (.slice none 0 0) ⟨[], [], [], []⟩ := ⟨Own.nil _ _ _ _ _, Own.nil _ _ _ _ _, Own.nil _ _ _ _ _, Own.nil _ _ _ _ _⟩
theorem validT_b (v0 v1 v2 v3 : Value) (m : SM) (b : Bool) (w : World) (r : RdM w v0 v1 v2 v3 m) (h : decide (Valid m) = b) : Calls Try.prog 15 #[.agg #[v0, v1, v2, v3]] w fun e w' => e = .returned (.bool b) ∧ Below w.heap.size w w' := by
  rw [← h]; exact valid_any v0 v1 v2 v3 m w r
theorem st_grown {w0 w w1 : World} {l : List (Nat × Array Value × Nat)} {α : Type} {enc : α → List Value} {sz E : Nat} {v : Value} {L : List α} (S : St w0 l w) (o : Own enc sz E w0.heap.size w v L) (hg : w.grownBy w1 v.ownBlock) (hE : ∀ x ∈ l, E ≠ x.2.2) : St w0 l w1 :=
  ⟨Own.grown o S.b S.b.size hg, fun x hx => (hg.block x.1 (S.lt x hx) (off_box o (S.blk x hx) (hE x hx))).trans (S.blk x hx), S.up, S.ord⟩
set_option maxRecDepth 100000 in
set_option maxHeartbeats 8000000 in
theorem specStep_v (v0 v1 v2 v3 : Value) (m : SM) (o : SOp) (w : World) (r : RdM w v0 v1 v2 v3 m) (hv : ¬ Valid m) : Calls Try.prog 5 #[.agg #[v0, v1, v2, v3], o.val] w (MIPost w (⟨[], [], [], []⟩, 9)) := by
  obtain ⟨A0, c0, A1, c1, A2, c2, A3, c3, rfl, rfl, rfl, rfl, hl0, hk0, hl1, hk1, hl2, hk2, hl3, hk3⟩ := r.shape
  have R := Lib.hid r
  obtain ⟨kd, a, bb, wd⟩ := o
  simp only [SOp.val]
  have HV : Hid (decide (Valid m) = false) := Lib.hid (decide_eq_false hv)
  clear r hv
  go_enter Try.func5, Try.ntmps5
  go_upto_region 1 with fail
  refine ((St.start w).push3 _ _ _ _ _ _).gen (fun w1 S1' _ => ?_)
  have S1 := Lib.hid S1'
  clear S1'
  have sT0 := S1.out
  obtain ⟨p0_0, p0_1, p0_2, p0_3⟩ := sT0.c4
  have pF0_0 := sT0.f 0
  have pF0_1 := sT0.f 1
  have pF0_2 := sT0.f 2
  have pF0_3 := sT0.f 3
  have sT1 := sT0.tail
  obtain ⟨p1_0, p1_1, p1_2, p1_3⟩ := sT1.c4
  have sT2 := sT1.tail
  obtain ⟨p2_0, p2_1, p2_2, p2_3⟩ := sT2.c4
  have sT3 := sT2.tail
  clear sT0 sT1 sT2 sT3
  go_upto_region 2 with (first | (go_at_call 15; refine (validT_b _ _ _ _ m false _ (R.out.below S1.out.b) HV.out).mono ?_; rintro e w2 ⟨rfl, hb2⟩; have S2 := Lib.hid (S1.out.below hb2); clear hb2))
  clear p0_0 p0_1 p0_2 p0_3 pF0_0 pF0_1 pF0_2 pF0_3 p1_0 p1_1 p1_2 p1_3 p2_0 p2_1 p2_2 p2_3
  have sT0 := S2.out
  obtain ⟨p0_0, p0_1, p0_2, p0_3⟩ := sT0.c4
  have pF0_0 := sT0.f 0
  have pF0_1 := sT0.f 1
  have pF0_2 := sT0.f 2
  have pF0_3 := sT0.f 3
  have sT1 := sT0.tail
  obtain ⟨p1_0, p1_1, p1_2, p1_3⟩ := sT1.c4
  have sT2 := sT1.tail
  obtain ⟨p2_0, p2_1, p2_2, p2_3⟩ := sT2.c4
  have sT3 := sT2.tail
  clear sT0 sT1 sT2 sT3
  go_wp2
  refine bodyPost_ret (v := .tuple #[.agg #[.slice none 0 0, .slice none 0 0, .slice none 0 0, .slice none 0 0], .int .i64 9]) (by simp [results, Try.results5, go_sem, *]) rfl ⟨_, _, _, _, rfl, nilMT _ _, (S2.out.s0 _ _ _ _).b⟩
set_option maxRecDepth 100000 in
set_option maxHeartbeats 8000000 in
theorem specStep_f (v0 v1 v2 v3 : Value) (m : SM) (o : SOp) (w : World) (r : RdM w v0 v1 v2 v3 m) (hv : Valid m) (hw : WfM m) (ho : ¬ opOk m o) : Calls Try.prog 5 #[.agg #[v0, v1, v2, v3], o.val] w (MIPost w (m, 1)) := by
  obtain ⟨A0, c0, A1, c1, A2, c2, A3, c3, rfl, rfl, rfl, rfl, hl0, hk0, hl1, hk1, hl2, hk2, hl3, hk3⟩ := r.shape
  have R := Lib.hid r
  obtain ⟨kd, a, bb, wd⟩ := o
  simp only [SOp.val]
  have V := Lib.hid hv
  have HV : Hid (decide (Valid m) = true) := Lib.hid (decide_eq_true hv)
  have HL : Hid (m.ws.length ≤ 1048576 ∧ m.pend.length ≤ 1048576 ∧ m.tlb.length ≤ 1048576 ∧ m.wc.length ≤ 1048576) := Lib.hid (by have := hv.frames; have := hv.npend; have := hv.ntlb; have := hv.nwc; omega)
  have hnp : m.pend.length ≤ 10000 := hv.npend
  have hnt : m.tlb.length ≤ 256 := hv.ntlb
  have hnw : m.wc.length ≤ 256 := hv.nwc
  have WM := Lib.hid hw
  have HW : Hid (decide (opOk m ⟨kd, a, bb, wd⟩) = false) := Lib.hid (decide_eq_false ho)
  clear r hv hw ho
  go_enter Try.func5, Try.ntmps5
  go_upto_region 1 with fail
  refine ((St.start w).push3 _ _ _ _ _ _).gen (fun w1 S1' _ => ?_)
  have S1 := Lib.hid S1'
  clear S1'
  have sT0 := S1.out
  obtain ⟨p0_0, p0_1, p0_2, p0_3⟩ := sT0.c4
  have pF0_0 := sT0.f 0
  have pF0_1 := sT0.f 1
  have pF0_2 := sT0.f 2
  have pF0_3 := sT0.f 3
  have sT1 := sT0.tail
  obtain ⟨p1_0, p1_1, p1_2, p1_3⟩ := sT1.c4
  have sT2 := sT1.tail
  obtain ⟨p2_0, p2_1, p2_2, p2_3⟩ := sT2.c4
  have sT3 := sT2.tail
  clear sT0 sT1 sT2 sT3
  go_upto_region 3 with (first | (go_at_call 15; refine (validT_b _ _ _ _ m true _ (R.out.below S1.out.b) HV.out).mono ?_; rintro e w2 ⟨rfl, hb2⟩; have S2 := Lib.hid (S1.out.below hb2); clear hb2))
  clear p0_0 p0_1 p0_2 p0_3 pF0_0 pF0_1 pF0_2 pF0_3 p1_0 p1_1 p1_2 p1_3 p2_0 p2_1 p2_2 p2_3
  have sT0 := S2.out
  obtain ⟨p0_0, p0_1, p0_2, p0_3⟩ := sT0.c4
  have pF0_0 := sT0.f 0
  have pF0_1 := sT0.f 1
  have pF0_2 := sT0.f 2
  have pF0_3 := sT0.f 3
  have sT1 := sT0.tail
  obtain ⟨p1_0, p1_1, p1_2, p1_3⟩ := sT1.c4
  have sT2 := sT1.tail
  obtain ⟨p2_0, p2_1, p2_2, p2_3⟩ := sT2.c4
  have sT3 := sT2.tail
  clear sT0 sT1 sT2 sT3
  go_wp2_with fail
  refine (specCopy_any _ _ _ _ m _ (R.out.below S2.out.b) HL.out).mono ?_
  rintro e w3 ⟨u0, u1, u2, u3, rfl, o3, hb3⟩
  obtain ⟨B0, d0, B1, d1, B2, d2, B3, d3, rfl, rfl, rfl, rfl⟩ := o3.shape
  have O3 := Lib.hid (o3.lower S2.out.b.size)
  have S3 := Lib.hid (S2.out.below hb3)
  clear o3 hb3 S2
  clear p0_0 p0_1 p0_2 p0_3 pF0_0 pF0_1 pF0_2 pF0_3 p1_0 p1_1 p1_2 p1_3 p2_0 p2_1 p2_2 p2_3
  go_upto_region 4 with fail
  refine st_genO (S3.out.push _ _) (O3.out.below (allocB (Below.refl _ _) _)) (fun w4 S4' O4' => ?_)
  have S4 := Lib.hid S4'
  have O4 := Lib.hid O4'
  clear S4' O4' S3 O3
  have sT0 := S4.out
  obtain ⟨p0_0, p0_1, p0_2, p0_3⟩ := sT0.c4
  have pF0_0 := sT0.f 0
  have pF0_1 := sT0.f 1
  have pF0_2 := sT0.f 2
  have pF0_3 := sT0.f 3
  have sT1 := sT0.tail
  obtain ⟨p1_0, p1_1, p1_2, p1_3⟩ := sT1.c4
  have pF1_0 := sT1.f 0
  have pF1_1 := sT1.f 1
  have pF1_2 := sT1.f 2
  have pF1_3 := sT1.f 3
  have sT2 := sT1.tail
  obtain ⟨p2_0, p2_1, p2_2, p2_3⟩ := sT2.c4
  have sT3 := sT2.tail
  obtain ⟨p3_0, p3_1, p3_2, p3_3⟩ := sT3.c4
  have sT4 := sT3.tail
  clear sT0 sT1 sT2 sT3 sT4
  go_upto_region 5 with (first | (go_at_call 17; refine (wellFormed_b _ _ _ _ m ⟨kd, a, bb, wd⟩ _ (R.out.below S4.out.b) V.out false HW.out).mono ?_; rintro e w5 ⟨rfl, hb5⟩; have S5 := Lib.hid (S4.out.below hb5); have O5 := Lib.hid (O4.out.below hb5); clear hb5))
  clear p0_0 p0_1 p0_2 p0_3 pF0_0 pF0_1 pF0_2 pF0_3 p1_0 p1_1 p1_2 p1_3 pF1_0 pF1_1 pF1_2 pF1_3 p2_0 p2_1 p2_2 p2_3 p3_0 p3_1 p3_2 p3_3
  have sT0 := S5.out
  obtain ⟨p0_0, p0_1, p0_2, p0_3⟩ := sT0.c4
  have pF0_0 := sT0.f 0
  have pF0_1 := sT0.f 1
  have pF0_2 := sT0.f 2
  have pF0_3 := sT0.f 3
  have sT1 := sT0.tail
  obtain ⟨p1_0, p1_1, p1_2, p1_3⟩ := sT1.c4
  have pF1_0 := sT1.f 0
  have pF1_1 := sT1.f 1
  have pF1_2 := sT1.f 2
  have pF1_3 := sT1.f 3
  have sT2 := sT1.tail
  obtain ⟨p2_0, p2_1, p2_2, p2_3⟩ := sT2.c4
  have sT3 := sT2.tail
  obtain ⟨p3_0, p3_1, p3_2, p3_3⟩ := sT3.c4
  have sT4 := sT3.tail
  clear sT0 sT1 sT2 sT3 sT4
  go_wp2
  refine bodyPost_ret (v := .tuple #[.agg #[.slice B0 m.ws.length d0, .slice B1 m.pend.length d1, .slice B2 m.tlb.length d2, .slice B3 m.wc.length d3], .int .i64 1]) (by simp [results, Try.results5, go_sem, *]) rfl ⟨_, _, _, _, ?_, O5.out.set4 S5.out.tail.head (by decide) _ _ _ _, (S5.out.s1 _ _ _ _).b⟩
  rfl
set_option maxRecDepth 100000 in
set_option maxHeartbeats 8000000 in
theorem specStep_w (v0 v1 v2 v3 : Value) (m : SM) (o : SOp) (w : World) (r : RdM w v0 v1 v2 v3 m) (hv : Valid m) (hw : WfM m) (ho : opOk m o) (hk : o.Kind = 1) (hwd : 0 ≤ o.Word) : Calls Try.prog 5 #[.agg #[v0, v1, v2, v3], o.val] w (MIPost w (stepS m o)) := by
  obtain ⟨A0, c0, A1, c1, A2, c2, A3, c3, rfl, rfl, rfl, rfl, hl0, hk0, hl1, hk1, hl2, hk2, hl3, hk3⟩ := r.shape
  have R := Lib.hid r
  obtain ⟨kd, a, bb, wd⟩ := o
  simp only [SOp.val]
  have V := Lib.hid hv
  have HV : Hid (decide (Valid m) = true) := Lib.hid (decide_eq_true hv)
  have HL : Hid (m.ws.length ≤ 1048576 ∧ m.pend.length ≤ 1048576 ∧ m.tlb.length ≤ 1048576 ∧ m.wc.length ≤ 1048576) := Lib.hid (by have := hv.frames; have := hv.npend; have := hv.ntlb; have := hv.nwc; omega)
  have hnp : m.pend.length ≤ 10000 := hv.npend
  have hnt : m.tlb.length ≤ 256 := hv.ntlb
  have hnw : m.wc.length ≤ 256 := hv.nwc
  have WM := Lib.hid hw
  have HW : Hid (decide (opOk m ⟨kd, a, bb, wd⟩) = true) := Lib.hid (decide_eq_true ho)
  simp only at hk hwd
  subst hk
  have hA : 0 ≤ a ∧ a < (m.ws.length : Int) := by unfold opOk at ho; simp only at ho; omega
  have HA := Lib.hid hA
  obtain ⟨cd, hcd⟩ : ∃ c, writeCode m ⟨1, a, bb, wd⟩ = c := ⟨_, rfl⟩
  have HC := Lib.hid hcd
  have HR : Hid (stepS m ⟨1, a, bb, wd⟩ = if cd = 0 then ({ m with pend := m.pend ++ [⟨a, wd⟩] }, 0) else (m, cd)) := Lib.hid (by rw [← hcd]; unfold stepS; rw [if_pos ho]; rfl)
  clear r hv hw ho hA hcd
  go_enter Try.func5, Try.ntmps5
  go_upto_region 1 with fail
  refine ((St.start w).push3 _ _ _ _ _ _).gen (fun w1 S1' _ => ?_)
  have S1 := Lib.hid S1'
  clear S1'
  have sT0 := S1.out
  obtain ⟨p0_0, p0_1, p0_2, p0_3⟩ := sT0.c4
  have pF0_0 := sT0.f 0
  have pF0_1 := sT0.f 1
  have pF0_2 := sT0.f 2
  have pF0_3 := sT0.f 3
  have sT1 := sT0.tail
  obtain ⟨p1_0, p1_1, p1_2, p1_3⟩ := sT1.c4
  have sT2 := sT1.tail
  obtain ⟨p2_0, p2_1, p2_2, p2_3⟩ := sT2.c4
  have sT3 := sT2.tail
  clear sT0 sT1 sT2 sT3
  go_upto_region 3 with (first | (go_at_call 15; refine (validT_b _ _ _ _ m true _ (R.out.below S1.out.b) HV.out).mono ?_; rintro e w2 ⟨rfl, hb2⟩; have S2 := Lib.hid (S1.out.below hb2); clear hb2))
  clear p0_0 p0_1 p0_2 p0_3 pF0_0 pF0_1 pF0_2 pF0_3 p1_0 p1_1 p1_2 p1_3 p2_0 p2_1 p2_2 p2_3
  have sT0 := S2.out
  obtain ⟨p0_0, p0_1, p0_2, p0_3⟩ := sT0.c4
  have pF0_0 := sT0.f 0
  have pF0_1 := sT0.f 1
  have pF0_2 := sT0.f 2
  have pF0_3 := sT0.f 3
  have sT1 := sT0.tail
  obtain ⟨p1_0, p1_1, p1_2, p1_3⟩ := sT1.c4
  have sT2 := sT1.tail
  obtain ⟨p2_0, p2_1, p2_2, p2_3⟩ := sT2.c4
  have sT3 := sT2.tail
  clear sT0 sT1 sT2 sT3
  go_wp2_with fail
  refine (specCopy_any _ _ _ _ m _ (R.out.below S2.out.b) HL.out).mono ?_
  rintro e w3 ⟨u0, u1, u2, u3, rfl, o3, hb3⟩
  obtain ⟨B0, d0, B1, d1, B2, d2, B3, d3, rfl, rfl, rfl, rfl⟩ := o3.shape
  have O3 := Lib.hid (o3.lower S2.out.b.size)
  have S3 := Lib.hid (S2.out.below hb3)
  clear o3 hb3 S2
  clear p0_0 p0_1 p0_2 p0_3 pF0_0 pF0_1 pF0_2 pF0_3 p1_0 p1_1 p1_2 p1_3 p2_0 p2_1 p2_2 p2_3
  go_upto_region 4 with fail
  refine st_genO (S3.out.push _ _) (O3.out.below (allocB (Below.refl _ _) _)) (fun w4 S4' O4' => ?_)
  have S4 := Lib.hid S4'
  have O4 := Lib.hid O4'
  clear S4' O4' S3 O3
  have sT0 := S4.out
  obtain ⟨p0_0, p0_1, p0_2, p0_3⟩ := sT0.c4
  have pF0_0 := sT0.f 0
  have pF0_1 := sT0.f 1
  have pF0_2 := sT0.f 2
  have pF0_3 := sT0.f 3
  have sT1 := sT0.tail
  obtain ⟨p1_0, p1_1, p1_2, p1_3⟩ := sT1.c4
  have pF1_0 := sT1.f 0
  have pF1_1 := sT1.f 1
  have pF1_2 := sT1.f 2
  have pF1_3 := sT1.f 3
  have sT2 := sT1.tail
  obtain ⟨p2_0, p2_1, p2_2, p2_3⟩ := sT2.c4
  have sT3 := sT2.tail
  obtain ⟨p3_0, p3_1, p3_2, p3_3⟩ := sT3.c4
  have sT4 := sT3.tail
  clear sT0 sT1 sT2 sT3 sT4
  go_upto_region 6 with (first | (go_at_call 17; refine (wellFormed_b _ _ _ _ m ⟨1, a, bb, wd⟩ _ (R.out.below S4.out.b) V.out true HW.out).mono ?_; rintro e w5 ⟨rfl, hb5⟩; have S5 := Lib.hid (S4.out.below hb5); have O5 := Lib.hid (O4.out.below hb5); clear hb5))
  clear p0_0 p0_1 p0_2 p0_3 pF0_0 pF0_1 pF0_2 pF0_3 p1_0 p1_1 p1_2 p1_3 pF1_0 pF1_1 pF1_2 pF1_3 p2_0 p2_1 p2_2 p2_3 p3_0 p3_1 p3_2 p3_3
  have sT0 := S5.out
  obtain ⟨p0_0, p0_1, p0_2, p0_3⟩ := sT0.c4
  have pF0_0 := sT0.f 0
  have pF0_1 := sT0.f 1
  have pF0_2 := sT0.f 2
  have pF0_3 := sT0.f 3
  have sT1 := sT0.tail
  obtain ⟨p1_0, p1_1, p1_2, p1_3⟩ := sT1.c4
  have pF1_0 := sT1.f 0
  have pF1_1 := sT1.f 1
  have pF1_2 := sT1.f 2
  have pF1_3 := sT1.f 3
  have sT2 := sT1.tail
  obtain ⟨p2_0, p2_1, p2_2, p2_3⟩ := sT2.c4
  have sT3 := sT2.tail
  obtain ⟨p3_0, p3_1, p3_2, p3_3⟩ := sT3.c4
  have sT4 := sT3.tail
  clear sT0 sT1 sT2 sT3 sT4
  go_upto_region 8 with (first | (go_at_call 18; refine (writeCode_b _ _ _ _ m ⟨1, a, bb, wd⟩ _ (R.out.below S5.out.b) V.out WM.out hwd HA.out cd HC.out).mono ?_; rintro e w6 ⟨rfl, hb6⟩; have S6 := Lib.hid (S5.out.below hb6); have O6 := Lib.hid (O5.out.below hb6); clear hb6))
  clear p0_0 p0_1 p0_2 p0_3 pF0_0 pF0_1 pF0_2 pF0_3 p1_0 p1_1 p1_2 p1_3 pF1_0 pF1_1 pF1_2 pF1_3 p2_0 p2_1 p2_2 p2_3 p3_0 p3_1 p3_2 p3_3
  have sT0 := S6.out
  obtain ⟨p0_0, p0_1, p0_2, p0_3⟩ := sT0.c4
  have pF0_0 := sT0.f 0
  have pF0_1 := sT0.f 1
  have pF0_2 := sT0.f 2
  have pF0_3 := sT0.f 3
  have sT1 := sT0.tail
  obtain ⟨p1_0, p1_1, p1_2, p1_3⟩ := sT1.c4
  have pF1_0 := sT1.f 0
  have pF1_1 := sT1.f 1
  have pF1_2 := sT1.f 2
  have pF1_3 := sT1.f 3
  have sT2 := sT1.tail
  obtain ⟨p2_0, p2_1, p2_2, p2_3⟩ := sT2.c4
  have sT3 := sT2.tail
  obtain ⟨p3_0, p3_1, p3_2, p3_3⟩ := sT3.c4
  have sT4 := sT3.tail
  clear sT0 sT1 sT2 sT3 sT4
  by_cases hc0 : cd = 0
  rotate_left
  · have hcn : (cd == 0) = false := by simpa using hc0
    go_wp2
    rw [HR.out, if_neg hc0]
    refine bodyPost_ret (v := .tuple #[.agg #[.slice B0 m.ws.length d0, .slice B1 m.pend.length d1, .slice B2 m.tlb.length d2, .slice B3 m.wc.length d3], .int .i64 cd]) (by simp [results, Try.results5, go_sem, *]) rfl ⟨_, _, _, _, ?_, O6.out.set4 S6.out.tail.head (by decide) _ _ _ _, (S6.out.s1 _ _ _ _).b⟩
    rfl
  subst hc0
  have hbw : w.heap.size ≤ w6.heap.size := S6.out.b.size
  go_wp2_with (at_builtin; refine append1 60 2 16 26 (.agg #[.int .i64 0, .int .u64 0]) Try.underlying26 infoWrS rfl (by decide) SWrite.len SWrite.one rfl (.tmp 36) (.tmp 42) rfl w.heap.size (.slice B1 m.pend.length d1) m.pend ⟨a, wd⟩ _ rfl rfl rfl O6.out.pend (by omega) (by decide) hbw ?_)
  intro v' wq hoq hg
  have SQ := Lib.hid (st_grown S6.out O6.out.pend hg (by simp only [List.mem_cons, List.not_mem_nil, or_false, forall_eq_or_imp, forall_eq]; decide))
  have PQ : Hid (OwnM w.heap.size wq (.slice B0 m.ws.length d0) v' (.slice B2 m.tlb.length d2) (.slice B3 m.wc.length d3) { m with pend := m.pend ++ [⟨a, wd⟩] }) := Lib.hid ⟨O6.out.ws.kept hg (own_apart (by decide) O6.out.ws O6.out.pend), hoq, O6.out.tlb.kept hg (own_apart (by decide) O6.out.tlb O6.out.pend), O6.out.wc.kept hg (own_apart (by decide) O6.out.wc O6.out.pend)⟩
  obtain ⟨Aq, cq, e'⟩ := hoq.shape
  subst e'
  clear hoq hg S6 O6
  clear p0_0 p0_1 p0_2 p0_3 pF0_0 pF0_1 pF0_2 pF0_3 p1_0 p1_1 p1_2 p1_3 pF1_0 pF1_1 pF1_2 pF1_3 p2_0 p2_1 p2_2 p2_3 p3_0 p3_1 p3_2 p3_3
  have sT0 := SQ.out
  obtain ⟨p0_0, p0_1, p0_2, p0_3⟩ := sT0.c4
  have pF0_0 := sT0.f 0
  have pF0_1 := sT0.f 1
  have pF0_2 := sT0.f 2
  have pF0_3 := sT0.f 3
  have sT1 := sT0.tail
  obtain ⟨p1_0, p1_1, p1_2, p1_3⟩ := sT1.c4
  have pF1_0 := sT1.f 0
  have pF1_1 := sT1.f 1
  have pF1_2 := sT1.f 2
  have pF1_3 := sT1.f 3
  have sT2 := sT1.tail
  obtain ⟨p2_0, p2_1, p2_2, p2_3⟩ := sT2.c4
  have sT3 := sT2.tail
  obtain ⟨p3_0, p3_1, p3_2, p3_3⟩ := sT3.c4
  have sT4 := sT3.tail
  clear sT0 sT1 sT2 sT3 sT4
  go_upto_region 10 with fail
  refine st_genO (SQ.out.set (l1 := []) 1 _) (PQ.out.set1 SQ.out.head (by decide) 1 _) (fun w7 S7' O7' => ?_)
  have S7 : Hid (St w _ w7) := Lib.hid S7'
  have O7 := Lib.hid O7'
  simp only [List.nil_append, List.setIfInBounds_toArray, List.set_cons_zero, List.set_cons_succ] at S7
  clear S7' O7' SQ PQ
  clear p0_0 p0_1 p0_2 p0_3 pF0_0 pF0_1 pF0_2 pF0_3 p1_0 p1_1 p1_2 p1_3 pF1_0 pF1_1 pF1_2 pF1_3 p2_0 p2_1 p2_2 p2_3 p3_0 p3_1 p3_2 p3_3
  have sT0 := S7.out
  obtain ⟨p0_0, p0_1, p0_2, p0_3⟩ := sT0.c4
  have pF0_0 := sT0.f 0
  have pF0_1 := sT0.f 1
  have pF0_2 := sT0.f 2
  have pF0_3 := sT0.f 3
  have sT1 := sT0.tail
  obtain ⟨p1_0, p1_1, p1_2, p1_3⟩ := sT1.c4
  have pF1_0 := sT1.f 0
  have pF1_1 := sT1.f 1
  have pF1_2 := sT1.f 2
  have pF1_3 := sT1.f 3
  have sT2 := sT1.tail
  obtain ⟨p2_0, p2_1, p2_2, p2_3⟩ := sT2.c4
  have sT3 := sT2.tail
  obtain ⟨p3_0, p3_1, p3_2, p3_3⟩ := sT3.c4
  have sT4 := sT3.tail
  clear sT0 sT1 sT2 sT3 sT4
  go_wp2
  rw [HR.out, if_pos trivial]
  refine bodyPost_ret (v := .tuple #[.agg #[.slice B0 m.ws.length d0, .slice Aq (m.pend ++ [(⟨a, wd⟩ : SWrite)]).length cq, .slice B2 m.tlb.length d2, .slice B3 m.wc.length d3], .int .i64 0]) (by simp [results, Try.results5, go_sem, *]) rfl ⟨_, _, _, _, ?_, O7.out.set4 S7.out.tail.head (by decide) _ _ _ _, (S7.out.s1 _ _ _ _).b⟩
  rfl
set_option maxRecDepth 100000 in
set_option maxHeartbeats 8000000 in
theorem specStep_u (v0 v1 v2 v3 : Value) (m : SM) (o : SOp) (w : World) (r : RdM w v0 v1 v2 v3 m) (hv : Valid m) (hw : WfM m) (ho : opOk m o) (hk : o.Kind = 4) : Calls Try.prog 5 #[.agg #[v0, v1, v2, v3], o.val] w (MIPost w (stepS m o)) := by
  obtain ⟨A0, c0, A1, c1, A2, c2, A3, c3, rfl, rfl, rfl, rfl, hl0, hk0, hl1, hk1, hl2, hk2, hl3, hk3⟩ := r.shape
  have R := Lib.hid r
  obtain ⟨kd, a, bb, wd⟩ := o
  simp only [SOp.val]
  have V := Lib.hid hv
  have HV : Hid (decide (Valid m) = true) := Lib.hid (decide_eq_true hv)
  have HL : Hid (m.ws.length ≤ 1048576 ∧ m.pend.length ≤ 1048576 ∧ m.tlb.length ≤ 1048576 ∧ m.wc.length ≤ 1048576) := Lib.hid (by have := hv.frames; have := hv.npend; have := hv.ntlb; have := hv.nwc; omega)
  have hnp : m.pend.length ≤ 10000 := hv.npend
  have hnt : m.tlb.length ≤ 256 := hv.ntlb
  have hnw : m.wc.length ≤ 256 := hv.nwc
  have WM := Lib.hid hw
  have HW : Hid (decide (opOk m ⟨kd, a, bb, wd⟩) = true) := Lib.hid (decide_eq_true ho)
  simp only at hk
  subst hk
  obtain ⟨ub, hub⟩ : ∃ b, usedB m a = b := ⟨_, rfl⟩
  have HU := Lib.hid hub
  have HR : Hid (stepS m ⟨4, a, bb, wd⟩ = (m, if ub = true then 4 else 0)) := Lib.hid (by rw [← hub]; unfold stepS; rw [if_pos ho]; rfl)
  clear r hv hw ho hub
  go_enter Try.func5, Try.ntmps5
  go_upto_region 1 with fail
  refine ((St.start w).push3 _ _ _ _ _ _).gen (fun w1 S1' _ => ?_)
  have S1 := Lib.hid S1'
  clear S1'
  have sT0 := S1.out
  obtain ⟨p0_0, p0_1, p0_2, p0_3⟩ := sT0.c4
  have pF0_0 := sT0.f 0
  have pF0_1 := sT0.f 1
  have pF0_2 := sT0.f 2
  have pF0_3 := sT0.f 3
  have sT1 := sT0.tail
  obtain ⟨p1_0, p1_1, p1_2, p1_3⟩ := sT1.c4
  have sT2 := sT1.tail
  obtain ⟨p2_0, p2_1, p2_2, p2_3⟩ := sT2.c4
  have sT3 := sT2.tail
  clear sT0 sT1 sT2 sT3
  go_upto_region 3 with (first | (go_at_call 15; refine (validT_b _ _ _ _ m true _ (R.out.below S1.out.b) HV.out).mono ?_; rintro e w2 ⟨rfl, hb2⟩; have S2 := Lib.hid (S1.out.below hb2); clear hb2))
  clear p0_0 p0_1 p0_2 p0_3 pF0_0 pF0_1 pF0_2 pF0_3 p1_0 p1_1 p1_2 p1_3 p2_0 p2_1 p2_2 p2_3
  have sT0 := S2.out
  obtain ⟨p0_0, p0_1, p0_2, p0_3⟩ := sT0.c4
  have pF0_0 := sT0.f 0
  have pF0_1 := sT0.f 1
  have pF0_2 := sT0.f 2
  have pF0_3 := sT0.f 3
  have sT1 := sT0.tail
  obtain ⟨p1_0, p1_1, p1_2, p1_3⟩ := sT1.c4
  have sT2 := sT1.tail
  obtain ⟨p2_0, p2_1, p2_2, p2_3⟩ := sT2.c4
  have sT3 := sT2.tail
  clear sT0 sT1 sT2 sT3
  go_wp2_with fail
  refine (specCopy_any _ _ _ _ m _ (R.out.below S2.out.b) HL.out).mono ?_
  rintro e w3 ⟨u0, u1, u2, u3, rfl, o3, hb3⟩
  obtain ⟨B0, d0, B1, d1, B2, d2, B3, d3, rfl, rfl, rfl, rfl⟩ := o3.shape
  have O3 := Lib.hid (o3.lower S2.out.b.size)
  have S3 := Lib.hid (S2.out.below hb3)
  clear o3 hb3 S2
  clear p0_0 p0_1 p0_2 p0_3 pF0_0 pF0_1 pF0_2 pF0_3 p1_0 p1_1 p1_2 p1_3 p2_0 p2_1 p2_2 p2_3
  go_upto_region 4 with fail
  refine st_genO (S3.out.push _ _) (O3.out.below (allocB (Below.refl _ _) _)) (fun w4 S4' O4' => ?_)
  have S4 := Lib.hid S4'
  have O4 := Lib.hid O4'
  clear S4' O4' S3 O3
  have sT0 := S4.out
  obtain ⟨p0_0, p0_1, p0_2, p0_3⟩ := sT0.c4
  have pF0_0 := sT0.f 0
  have pF0_1 := sT0.f 1
  have pF0_2 := sT0.f 2
  have pF0_3 := sT0.f 3
  have sT1 := sT0.tail
  obtain ⟨p1_0, p1_1, p1_2, p1_3⟩ := sT1.c4
  have pF1_0 := sT1.f 0
  have pF1_1 := sT1.f 1
  have pF1_2 := sT1.f 2
  have pF1_3 := sT1.f 3
  have sT2 := sT1.tail
  obtain ⟨p2_0, p2_1, p2_2, p2_3⟩ := sT2.c4
  have sT3 := sT2.tail
  obtain ⟨p3_0, p3_1, p3_2, p3_3⟩ := sT3.c4
  have sT4 := sT3.tail
  clear sT0 sT1 sT2 sT3 sT4
  go_upto_region 6 with (first | (go_at_call 17; refine (wellFormed_b _ _ _ _ m ⟨4, a, bb, wd⟩ _ (R.out.below S4.out.b) V.out true HW.out).mono ?_; rintro e w5 ⟨rfl, hb5⟩; have S5 := Lib.hid (S4.out.below hb5); have O5 := Lib.hid (O4.out.below hb5); clear hb5))
  clear p0_0 p0_1 p0_2 p0_3 pF0_0 pF0_1 pF0_2 pF0_3 p1_0 p1_1 p1_2 p1_3 pF1_0 pF1_1 pF1_2 pF1_3 p2_0 p2_1 p2_2 p2_3 p3_0 p3_1 p3_2 p3_3
  have sT0 := S5.out
  obtain ⟨p0_0, p0_1, p0_2, p0_3⟩ := sT0.c4
  have pF0_0 := sT0.f 0
  have pF0_1 := sT0.f 1
  have pF0_2 := sT0.f 2
  have pF0_3 := sT0.f 3
  have sT1 := sT0.tail
  obtain ⟨p1_0, p1_1, p1_2, p1_3⟩ := sT1.c4
  have pF1_0 := sT1.f 0
  have pF1_1 := sT1.f 1
  have pF1_2 := sT1.f 2
  have pF1_3 := sT1.f 3
  have sT2 := sT1.tail
  obtain ⟨p2_0, p2_1, p2_2, p2_3⟩ := sT2.c4
  have sT3 := sT2.tail
  obtain ⟨p3_0, p3_1, p3_2, p3_3⟩ := sT3.c4
  have sT4 := sT3.tail
  clear sT0 sT1 sT2 sT3 sT4
  cases ub
  · go_upto_region 14 with (first | (go_at_call 19; refine (inUse_b _ _ _ _ m a _ (R.out.below S5.out.b) V.out WM.out _ HU.out).mono ?_; rintro e w6 ⟨rfl, hb6⟩; have S6 := Lib.hid (S5.out.below hb6); have O6 := Lib.hid (O5.out.below hb6); clear hb6))
    clear p0_0 p0_1 p0_2 p0_3 pF0_0 pF0_1 pF0_2 pF0_3 p1_0 p1_1 p1_2 p1_3 pF1_0 pF1_1 pF1_2 pF1_3 p2_0 p2_1 p2_2 p2_3 p3_0 p3_1 p3_2 p3_3
    have sT0 := S6.out
    obtain ⟨p0_0, p0_1, p0_2, p0_3⟩ := sT0.c4
    have pF0_0 := sT0.f 0
    have pF0_1 := sT0.f 1
    have pF0_2 := sT0.f 2
    have pF0_3 := sT0.f 3
    have sT1 := sT0.tail
    obtain ⟨p1_0, p1_1, p1_2, p1_3⟩ := sT1.c4
    have pF1_0 := sT1.f 0
    have pF1_1 := sT1.f 1
    have pF1_2 := sT1.f 2
    have pF1_3 := sT1.f 3
    have sT2 := sT1.tail
    obtain ⟨p2_0, p2_1, p2_2, p2_3⟩ := sT2.c4
    have sT3 := sT2.tail
    obtain ⟨p3_0, p3_1, p3_2, p3_3⟩ := sT3.c4
    have sT4 := sT3.tail
    clear sT0 sT1 sT2 sT3 sT4
    go_wp2
    rw [HR.out]
    refine bodyPost_ret (v := .tuple #[.agg #[.slice B0 m.ws.length d0, .slice B1 m.pend.length d1, .slice B2 m.tlb.length d2, .slice B3 m.wc.length d3], .int .i64 0]) (by simp [results, Try.results5, go_sem, *]) rfl ⟨_, _, _, _, ?_, O6.out.set4 S6.out.tail.head (by decide) _ _ _ _, (S6.out.s1 _ _ _ _).b⟩
    rfl
  · go_upto_region 13 with (first | (go_at_call 19; refine (inUse_b _ _ _ _ m a _ (R.out.below S5.out.b) V.out WM.out _ HU.out).mono ?_; rintro e w6 ⟨rfl, hb6⟩; have S6 := Lib.hid (S5.out.below hb6); have O6 := Lib.hid (O5.out.below hb6); clear hb6))
    clear p0_0 p0_1 p0_2 p0_3 pF0_0 pF0_1 pF0_2 pF0_3 p1_0 p1_1 p1_2 p1_3 pF1_0 pF1_1 pF1_2 pF1_3 p2_0 p2_1 p2_2 p2_3 p3_0 p3_1 p3_2 p3_3
    have sT0 := S6.out
    obtain ⟨p0_0, p0_1, p0_2, p0_3⟩ := sT0.c4
    have pF0_0 := sT0.f 0
    have pF0_1 := sT0.f 1
    have pF0_2 := sT0.f 2
    have pF0_3 := sT0.f 3
    have sT1 := sT0.tail
    obtain ⟨p1_0, p1_1, p1_2, p1_3⟩ := sT1.c4
    have pF1_0 := sT1.f 0
    have pF1_1 := sT1.f 1
    have pF1_2 := sT1.f 2
    have pF1_3 := sT1.f 3
    have sT2 := sT1.tail
    obtain ⟨p2_0, p2_1, p2_2, p2_3⟩ := sT2.c4
    have sT3 := sT2.tail
    obtain ⟨p3_0, p3_1, p3_2, p3_3⟩ := sT3.c4
    have sT4 := sT3.tail
    clear sT0 sT1 sT2 sT3 sT4
    go_wp2
    rw [HR.out]
    refine bodyPost_ret (v := .tuple #[.agg #[.slice B0 m.ws.length d0, .slice B1 m.pend.length d1, .slice B2 m.tlb.length d2, .slice B3 m.wc.length d3], .int .i64 4]) (by simp [results, Try.results5, go_sem, *]) rfl ⟨_, _, _, _, ?_, O6.out.set4 S6.out.tail.head (by decide) _ _ _ _, (S6.out.s1 _ _ _ _).b⟩
    rfl
end Go.Proofs.Ythphfcheencbgaa.Mmu
