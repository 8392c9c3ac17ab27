/- Walk of the reference's l2Spoil. -/
import Derived.Test.YthphfcheencbgaaDraw5
import Derived.Test.YthphfcheencbgaaSpecStep6
namespace Go.Proofs.Ythphfcheencbgaa.Draw
open Go.RowKit Go.Proofs.Ythphfcheencbgaa.Base Go.Proofs.Ythphfcheencbgaa.Kinds Go.Proofs.Ythphfcheencbgaa.DecMath Go.Proofs.Ythphfcheencbgaa.L1 Go.Proofs.Ythphfcheencbgaa.Mmu
set_option linter.unusedVariables false
set_option linter.unusedSimpArgs false

/-- The answer is a machine, its lists the call's own. -/
def CPost (w : World) (m : SM) (e : Ending) (w' : World) : Prop := ∃ u0 u1 u2 u3, e = .returned (.agg #[u0, u1, u2, u3]) ∧ OwnM w.heap.size w' u0 u1 u2 u3 m ∧ Below w.heap.size w w'
section
variable {base : Nat} {w w1 : World} {v0 v1 v2 v3 v' : Value} {m : SM}
theorem OwnM.growP {l' : List SWrite} (h : OwnM base w v0 v1 v2 v3 m) (hg : w.grownBy w1 v1.ownBlock) (o : Own SWrite.enc 2 60 base w1 v' l') : OwnM base w1 v0 v' v2 v3 { m with pend := l' } :=
  ⟨h.ws.kept hg (own_apart (by decide) h.ws h.pend), o, h.tlb.kept hg (own_apart (by decide) h.tlb h.pend), h.wc.kept hg (own_apart (by decide) h.wc h.pend)⟩
theorem OwnM.growT {l' : List STlb} (h : OwnM base w v0 v1 v2 v3 m) (hg : w.grownBy w1 v2.ownBlock) (o : Own STlb.enc 5 40 base w1 v' l') : OwnM base w1 v0 v1 v' v3 { m with tlb := l' } :=
  ⟨h.ws.kept hg (own_apart (by decide) h.ws h.tlb), h.pend.kept hg (own_apart (by decide) h.pend h.tlb), o, h.wc.kept hg (own_apart (by decide) h.wc h.tlb)⟩
theorem OwnM.growC {l' : List SWc} (h : OwnM base w v0 v1 v2 v3 m) (hg : w.grownBy w1 v3.ownBlock) (o : Own SWc.enc 4 42 base w1 v' l') : OwnM base w1 v0 v1 v2 v' { m with wc := l' } :=
  ⟨h.ws.kept hg (own_apart (by decide) h.ws h.wc), h.pend.kept hg (own_apart (by decide) h.pend h.wc), h.tlb.kept hg (own_apart (by decide) h.tlb h.wc), o⟩
end
def sliceN : Option Value → Nat
  | some (.slice _ n _) => n
  | _ => 0
theorem tail_rep {α : Type} (l : List α) (x : α) (j : Nat) : l ++ (List.replicate j x ++ [x]) = l ++ List.replicate (j + 1) x := by rw [List.replicate_succ']
theorem tail_map {α : Type} (l : List α) (f : Nat → α) (j : Nat) : l ++ ((List.range j).map f ++ [f j]) = l ++ (List.range (j + 1)).map f := by rw [List.range_succ, List.map_append]; rfl

set_option maxRecDepth 100000 in
set_option maxHeartbeats 16000000 in
theorem spoilM_any (v : Value) (c : List Int) (p : Nat) (v0 v1 v2 v3 : Value) (m : SM) (w : World) (r : Rd bEnc 1 w v c) (hb : Bytes c) (hL : c.length ≤ 1048576) (hp : p ≤ 90000) (rm : RdM w v0 v1 v2 v3 m) (hv : m.ws.length ≤ 8192 ∧ m.pend.length ≤ 10000 ∧ m.tlb.length ≤ 256 ∧ m.wc.length ≤ 256) (hT : ∀ e ∈ m.tlb, okTlb e) :
    Calls Try.prog 10 #[v, .int .i64 p, .agg #[v0, v1, v2, v3]] w (CPost w (spoilM c p m)) := by
  obtain ⟨A0, c0, A1, c1, A2, c2, A3, c3, rfl, rfl, rfl, rfl, hl0, hk0, hl1, hk1, hl2, hk2, hl3, hk3⟩ := rm.shape
  have R := Lib.hid r
  have RM := Lib.hid rm
  have HB := Lib.hid hb
  have HV := Lib.hid hT
  have hnw : m.ws.length ≤ 8192 := hv.1
  have hnp : m.pend.length ≤ 10000 := hv.2.1
  have hnt : m.tlb.length ≤ 256 := hv.2.2.1
  have hnc : m.wc.length ≤ 256 := hv.2.2.2
  have HL : Hid (m.ws.length ≤ 1048576 ∧ m.pend.length ≤ 1048576 ∧ m.tlb.length ≤ 1048576 ∧ m.wc.length ≤ 1048576) := Lib.hid (by omega)
  have h10 := takeP_lt hb p 10 (by omega)
  have h200 := takeP_lt hb (p + 1) 200 (by omega)
  obtain ⟨a, ha⟩ : ∃ a, takeP c p 10 = a := ⟨_, rfl⟩
  obtain ⟨b, hbb⟩ : ∃ b, takeP c (p + 1) 200 = b := ⟨_, rfl⟩
  rw [ha] at h10
  rw [hbb] at h200
  obtain ⟨hb0, hb1⟩ := h200
  obtain ⟨S, hS⟩ : ∃ S, spoilM c p m = S := ⟨_, rfl⟩
  have HS0 : Hid (S = spoilM c p m) := Lib.hid hS.symm
  rw [hS]
  have HA := Lib.hid ha
  have HBB := Lib.hid hbb
  clear r rm hb hv hT ha hbb hS
  go_enter Try.func10, Try.ntmps10
  go_upto_region 1 with fail
  refine ((St.start w).push2 _ _ _ _).gen (fun w1 S1' _ => ?_)
  have S1 := Lib.hid S1'
  clear S1'
  go_upto_region 3 with (go_at_call 8; refine (take_any v c p 10 _ (R.out.below S1.out.b) HB.out hL (by omega) (by omega)).mono ?_; rw [HA.out]; rintro e w2 ⟨rfl, hb2⟩; have S2 := Lib.hid (S1.out.below hb2); clear hb2)
  go_upto_region 4 with (go_at_call 8; refine (take_any v c (p + 1) 200 _ (R.out.below S2.out.b) HB.out hL (by omega) (by omega)).mono ?_; rw [HBB.out]; rintro e w3 ⟨rfl, hb3⟩; have S3 := Lib.hid (S2.out.below hb3); clear hb3)
  clear S1 S2
  have sT0 := S3.out
  obtain ⟨p0_0, p0_1, p0_2, p0_3⟩ := sT0.c4
  have sT1 := sT0.tail
  obtain ⟨p1_0, p1_1, p1_2, p1_3⟩ := sT1.c4
  have sT2 := sT1.tail
  clear sT0 sT1 sT2
  go_wp2_with fail
  refine (specCopy_any _ _ _ _ m _ (RM.out.below S3.out.b) HL.out).mono ?_
  rintro e w4 ⟨u0, u1, u2, u3, rfl, o4, hb4⟩
  obtain ⟨B0, d0, B1, d1, B2, d2, B3, d3, rfl, rfl, rfl, rfl⟩ := o4.shape
  have O4 := Lib.hid (o4.lower S3.out.b.size)
  have S4 := Lib.hid (S3.out.below hb4)
  clear o4 hb4 S3
  clear p0_0 p0_1 p0_2 p0_3 p1_0 p1_1 p1_2 p1_3
  go_upto_region 5 with fail
  refine st_genO (S4.out.push _ _) (O4.out.below (allocB (Below.refl _ _) _)) (fun w5 S5' O5' => ?_)
  obtain ⟨ob, hob⟩ : ∃ b, w4.heap.size = b := ⟨_, rfl⟩
  rw [hob] at S5' ⊢
  have S5 := Lib.hid S5'
  have O5 := Lib.hid O5'
  clear S5' O5' S4 O4 hob
  have hbw : w.heap.size ≤ w5.heap.size := S5.out.b.size
  have hcase : a = 0 ∨ a = 1 ∨ a = 2 ∨ a = 3 ∨ a = 4 ∨ a = 5 ∨ a = 6 ∨ 6 < a := by omega
  rcases hcase with rfl | rfl | rfl | rfl | rfl | rfl | rfl | h6
  · have HE : Hid (S = { m with pend := m.pend ++ [(⟨(m.ws.length : Int), 0⟩ : SWrite)] }) := Lib.hid (by rw [HS0.out]; unfold spoilM; simp only [HA.out, HBB.out]; rfl)
    have sT0 := S5.out
    obtain ⟨p0_0, p0_1, p0_2, p0_3⟩ := sT0.c4
    have pF0_0 := sT0.f 0
    have pF0_1 := sT0.f 1
    have pF0_2 := sT0.f 2
    have pF0_3 := sT0.f 3
    have sT1 := sT0.tail
    obtain ⟨p1_0, p1_1, p1_2, p1_3⟩ := sT1.c4
    have pF1_0 := sT1.f 0
    have pF1_1 := sT1.f 1
    have pF1_2 := sT1.f 2
    have pF1_3 := sT1.f 3
    have sT2 := sT1.tail
    obtain ⟨p2_0, p2_1, p2_2, p2_3⟩ := sT2.c4
    have sT3 := sT2.tail
    clear sT0 sT1 sT2 sT3
    go_wp2_with (at_builtin; refine append1 60 2 16 26 (.agg #[.int .i64 0, .int .u64 0]) Try.underlying26 infoWrS rfl (by decide) SWrite.len SWrite.one rfl (.tmp 28) (.tmp 34) rfl w.heap.size (.slice B1 m.pend.length d1) m.pend (⟨(m.ws.length : Int), 0⟩ : SWrite) _ rfl rfl rfl O5.out.pend (by omega) (by decide) hbw ?_)
    intro v' wq hoq hg
    have SQ := Lib.hid (st_grown S5.out O5.out.pend hg (by simp only [List.mem_cons, List.not_mem_nil, or_false, forall_eq_or_imp, forall_eq]; decide))
    have PQ := Lib.hid (OwnM.growP O5.out hg hoq)
    obtain ⟨Aq, cq, e'⟩ := hoq.shape
    subst e'
    clear hoq hg S5 O5
    clear p0_0 p0_1 p0_2 p0_3 pF0_0 pF0_1 pF0_2 pF0_3 p1_0 p1_1 p1_2 p1_3 pF1_0 pF1_1 pF1_2 pF1_3 p2_0 p2_1 p2_2 p2_3
    have sT0 := SQ.out
    obtain ⟨p0_0, p0_1, p0_2, p0_3⟩ := sT0.c4
    have pF0_0 := sT0.f 0
    have pF0_1 := sT0.f 1
    have pF0_2 := sT0.f 2
    have pF0_3 := sT0.f 3
    have sT1 := sT0.tail
    obtain ⟨p1_0, p1_1, p1_2, p1_3⟩ := sT1.c4
    have pF1_0 := sT1.f 0
    have pF1_1 := sT1.f 1
    have pF1_2 := sT1.f 2
    have pF1_3 := sT1.f 3
    have sT2 := sT1.tail
    obtain ⟨p2_0, p2_1, p2_2, p2_3⟩ := sT2.c4
    have sT3 := sT2.tail
    clear sT0 sT1 sT2 sT3
    go_upto_region 7 with fail
    refine st_genO (SQ.out.set (l1 := []) 1 _) (PQ.out.set1 SQ.out.head (by decide) 1 _) (fun w7 S7' O7' => ?_)
    have S7 : Hid (St w _ w7) := Lib.hid S7'
    have O7 := Lib.hid O7'
    simp only [List.nil_append, List.setIfInBounds_toArray, List.set_cons_zero, List.set_cons_succ] at S7
    clear S7' O7' SQ PQ
    clear p0_0 p0_1 p0_2 p0_3 pF0_0 pF0_1 pF0_2 pF0_3 p1_0 p1_1 p1_2 p1_3 pF1_0 pF1_1 pF1_2 pF1_3 p2_0 p2_1 p2_2 p2_3
    have sT0 := S7.out
    obtain ⟨p0_0, p0_1, p0_2, p0_3⟩ := sT0.c4
    have pF0_0 := sT0.f 0
    have pF0_1 := sT0.f 1
    have pF0_2 := sT0.f 2
    have pF0_3 := sT0.f 3
    have sT1 := sT0.tail
    obtain ⟨p1_0, p1_1, p1_2, p1_3⟩ := sT1.c4
    have pF1_0 := sT1.f 0
    have pF1_1 := sT1.f 1
    have pF1_2 := sT1.f 2
    have pF1_3 := sT1.f 3
    have sT2 := sT1.tail
    obtain ⟨p2_0, p2_1, p2_2, p2_3⟩ := sT2.c4
    have sT3 := sT2.tail
    clear sT0 sT1 sT2 sT3
    go_wp2
    refine bodyPost_ret (v := .agg #[.slice B0 m.ws.length d0, .slice Aq (m.pend ++ [(⟨(m.ws.length : Int), 0⟩ : SWrite)]).length cq, .slice B2 m.tlb.length d2, .slice B3 m.wc.length d3]) (by simp [results, Try.results10, go_sem, *]) rfl ⟨_, _, _, _, rfl, ?_, (S7.out.s1 _ _ _ _).b⟩
    rw [HE.out]
    exact O7.out.set4 S7.out.tail.head (by decide) _ _ _ _
  · have HE : Hid (S = { m with tlb := m.tlb ++ [(⟨3, 16, 16, 1, false⟩ : STlb)] }) := Lib.hid (by rw [HS0.out]; unfold spoilM; simp only [HA.out, HBB.out]; rfl)
    have sT0 := S5.out
    obtain ⟨p0_0, p0_1, p0_2, p0_3⟩ := sT0.c4
    have pF0_0 := sT0.f 0
    have pF0_1 := sT0.f 1
    have pF0_2 := sT0.f 2
    have pF0_3 := sT0.f 3
    have sT1 := sT0.tail
    obtain ⟨p1_0, p1_1, p1_2, p1_3⟩ := sT1.c4
    have pF1_0 := sT1.f 0
    have pF1_1 := sT1.f 1
    have pF1_2 := sT1.f 2
    have pF1_3 := sT1.f 3
    have sT2 := sT1.tail
    obtain ⟨p2_0, p2_1, p2_2, p2_3⟩ := sT2.c4
    have sT3 := sT2.tail
    clear sT0 sT1 sT2 sT3
    go_wp2_with (at_builtin; refine append1 40 5 40 27 (.agg #[.int .i64 0, .int .i64 0, .int .i64 0, .int .i64 0, .bool false]) Try.underlying27 infoTlS rfl (by decide) STlb.len STlb.one rfl (.tmp 40) (.tmp 42) rfl w.heap.size (.slice B2 m.tlb.length d2) m.tlb (⟨3, 16, 16, 1, false⟩ : STlb) _ rfl rfl rfl O5.out.tlb (by omega) (by decide) hbw ?_)
    intro v' wq hoq hg
    have SQ := Lib.hid (st_grown S5.out O5.out.tlb hg (by simp only [List.mem_cons, List.not_mem_nil, or_false, forall_eq_or_imp, forall_eq]; decide))
    have PQ := Lib.hid (OwnM.growT O5.out hg hoq)
    obtain ⟨Aq, cq, e'⟩ := hoq.shape
    subst e'
    clear hoq hg S5 O5
    clear p0_0 p0_1 p0_2 p0_3 pF0_0 pF0_1 pF0_2 pF0_3 p1_0 p1_1 p1_2 p1_3 pF1_0 pF1_1 pF1_2 pF1_3 p2_0 p2_1 p2_2 p2_3
    have sT0 := SQ.out
    obtain ⟨p0_0, p0_1, p0_2, p0_3⟩ := sT0.c4
    have pF0_0 := sT0.f 0
    have pF0_1 := sT0.f 1
    have pF0_2 := sT0.f 2
    have pF0_3 := sT0.f 3
    have sT1 := sT0.tail
    obtain ⟨p1_0, p1_1, p1_2, p1_3⟩ := sT1.c4
    have pF1_0 := sT1.f 0
    have pF1_1 := sT1.f 1
    have pF1_2 := sT1.f 2
    have pF1_3 := sT1.f 3
    have sT2 := sT1.tail
    obtain ⟨p2_0, p2_1, p2_2, p2_3⟩ := sT2.c4
    have sT3 := sT2.tail
    clear sT0 sT1 sT2 sT3
    go_upto_region 9 with fail
    refine st_genO (SQ.out.set (l1 := []) 2 _) (PQ.out.set1 SQ.out.head (by decide) 2 _) (fun w7 S7' O7' => ?_)
    have S7 : Hid (St w _ w7) := Lib.hid S7'
    have O7 := Lib.hid O7'
    simp only [List.nil_append, List.setIfInBounds_toArray, List.set_cons_zero, List.set_cons_succ] at S7
    clear S7' O7' SQ PQ
    clear p0_0 p0_1 p0_2 p0_3 pF0_0 pF0_1 pF0_2 pF0_3 p1_0 p1_1 p1_2 p1_3 pF1_0 pF1_1 pF1_2 pF1_3 p2_0 p2_1 p2_2 p2_3
    have sT0 := S7.out
    obtain ⟨p0_0, p0_1, p0_2, p0_3⟩ := sT0.c4
    have pF0_0 := sT0.f 0
    have pF0_1 := sT0.f 1
    have pF0_2 := sT0.f 2
    have pF0_3 := sT0.f 3
    have sT1 := sT0.tail
    obtain ⟨p1_0, p1_1, p1_2, p1_3⟩ := sT1.c4
    have pF1_0 := sT1.f 0
    have pF1_1 := sT1.f 1
    have pF1_2 := sT1.f 2
    have pF1_3 := sT1.f 3
    have sT2 := sT1.tail
    obtain ⟨p2_0, p2_1, p2_2, p2_3⟩ := sT2.c4
    have sT3 := sT2.tail
    clear sT0 sT1 sT2 sT3
    go_wp2
    refine bodyPost_ret (v := .agg #[.slice B0 m.ws.length d0, .slice B1 m.pend.length d1, .slice Aq (m.tlb ++ [(⟨3, 16, 16, 1, false⟩ : STlb)]).length cq, .slice B3 m.wc.length d3]) (by simp [results, Try.results10, go_sem, *]) rfl ⟨_, _, _, _, rfl, ?_, (S7.out.s1 _ _ _ _).b⟩
    rw [HE.out]
    exact O7.out.set4 S7.out.tail.head (by decide) _ _ _ _
  · have HE : Hid (S = { m with tlb := m.tlb ++ [(⟨b, 1, 16, 8, false⟩ : STlb)] }) := Lib.hid (by rw [HS0.out]; unfold spoilM; simp only [HA.out, HBB.out]; rfl)
    have sT0 := S5.out
    obtain ⟨p0_0, p0_1, p0_2, p0_3⟩ := sT0.c4
    have pF0_0 := sT0.f 0
    have pF0_1 := sT0.f 1
    have pF0_2 := sT0.f 2
    have pF0_3 := sT0.f 3
    have sT1 := sT0.tail
    obtain ⟨p1_0, p1_1, p1_2, p1_3⟩ := sT1.c4
    have pF1_0 := sT1.f 0
    have pF1_1 := sT1.f 1
    have pF1_2 := sT1.f 2
    have pF1_3 := sT1.f 3
    have sT2 := sT1.tail
    obtain ⟨p2_0, p2_1, p2_2, p2_3⟩ := sT2.c4
    have sT3 := sT2.tail
    clear sT0 sT1 sT2 sT3
    go_wp2_with (at_builtin; refine append1 40 5 40 27 (.agg #[.int .i64 0, .int .i64 0, .int .i64 0, .int .i64 0, .bool false]) Try.underlying27 infoTlS rfl (by decide) STlb.len STlb.one rfl (.tmp 48) (.tmp 51) rfl w.heap.size (.slice B2 m.tlb.length d2) m.tlb (⟨b, 1, 16, 8, false⟩ : STlb) _ rfl rfl rfl O5.out.tlb (by omega) (by decide) hbw ?_)
    intro v' wq hoq hg
    have SQ := Lib.hid (st_grown S5.out O5.out.tlb hg (by simp only [List.mem_cons, List.not_mem_nil, or_false, forall_eq_or_imp, forall_eq]; decide))
    have PQ := Lib.hid (OwnM.growT O5.out hg hoq)
    obtain ⟨Aq, cq, e'⟩ := hoq.shape
    subst e'
    clear hoq hg S5 O5
    clear p0_0 p0_1 p0_2 p0_3 pF0_0 pF0_1 pF0_2 pF0_3 p1_0 p1_1 p1_2 p1_3 pF1_0 pF1_1 pF1_2 pF1_3 p2_0 p2_1 p2_2 p2_3
    have sT0 := SQ.out
    obtain ⟨p0_0, p0_1, p0_2, p0_3⟩ := sT0.c4
    have pF0_0 := sT0.f 0
    have pF0_1 := sT0.f 1
    have pF0_2 := sT0.f 2
    have pF0_3 := sT0.f 3
    have sT1 := sT0.tail
    obtain ⟨p1_0, p1_1, p1_2, p1_3⟩ := sT1.c4
    have pF1_0 := sT1.f 0
    have pF1_1 := sT1.f 1
    have pF1_2 := sT1.f 2
    have pF1_3 := sT1.f 3
    have sT2 := sT1.tail
    obtain ⟨p2_0, p2_1, p2_2, p2_3⟩ := sT2.c4
    have sT3 := sT2.tail
    clear sT0 sT1 sT2 sT3
    go_upto_region 11 with fail
    refine st_genO (SQ.out.set (l1 := []) 2 _) (PQ.out.set1 SQ.out.head (by decide) 2 _) (fun w7 S7' O7' => ?_)
    have S7 : Hid (St w _ w7) := Lib.hid S7'
    have O7 := Lib.hid O7'
    simp only [List.nil_append, List.setIfInBounds_toArray, List.set_cons_zero, List.set_cons_succ] at S7
    clear S7' O7' SQ PQ
    clear p0_0 p0_1 p0_2 p0_3 pF0_0 pF0_1 pF0_2 pF0_3 p1_0 p1_1 p1_2 p1_3 pF1_0 pF1_1 pF1_2 pF1_3 p2_0 p2_1 p2_2 p2_3
    have sT0 := S7.out
    obtain ⟨p0_0, p0_1, p0_2, p0_3⟩ := sT0.c4
    have pF0_0 := sT0.f 0
    have pF0_1 := sT0.f 1
    have pF0_2 := sT0.f 2
    have pF0_3 := sT0.f 3
    have sT1 := sT0.tail
    obtain ⟨p1_0, p1_1, p1_2, p1_3⟩ := sT1.c4
    have pF1_0 := sT1.f 0
    have pF1_1 := sT1.f 1
    have pF1_2 := sT1.f 2
    have pF1_3 := sT1.f 3
    have sT2 := sT1.tail
    obtain ⟨p2_0, p2_1, p2_2, p2_3⟩ := sT2.c4
    have sT3 := sT2.tail
    clear sT0 sT1 sT2 sT3
    go_wp2
    refine bodyPost_ret (v := .agg #[.slice B0 m.ws.length d0, .slice B1 m.pend.length d1, .slice Aq (m.tlb ++ [(⟨b, 1, 16, 8, false⟩ : STlb)]).length cq, .slice B3 m.wc.length d3]) (by simp [results, Try.results10, go_sem, *]) rfl ⟨_, _, _, _, rfl, ?_, (S7.out.s1 _ _ _ _).b⟩
    rw [HE.out]
    exact O7.out.set4 S7.out.tail.head (by decide) _ _ _ _
  · have HE : Hid (S = { m with wc := m.wc ++ [(⟨1, 0, 0, false⟩ : SWc)] }) := Lib.hid (by rw [HS0.out]; unfold spoilM; simp only [HA.out, HBB.out]; rfl)
    have sT0 := S5.out
    obtain ⟨p0_0, p0_1, p0_2, p0_3⟩ := sT0.c4
    have pF0_0 := sT0.f 0
    have pF0_1 := sT0.f 1
    have pF0_2 := sT0.f 2
    have pF0_3 := sT0.f 3
    have sT1 := sT0.tail
    obtain ⟨p1_0, p1_1, p1_2, p1_3⟩ := sT1.c4
    have pF1_0 := sT1.f 0
    have pF1_1 := sT1.f 1
    have pF1_2 := sT1.f 2
    have pF1_3 := sT1.f 3
    have sT2 := sT1.tail
    obtain ⟨p2_0, p2_1, p2_2, p2_3⟩ := sT2.c4
    have sT3 := sT2.tail
    clear sT0 sT1 sT2 sT3
    go_wp2_with (at_builtin; refine append1 42 4 32 28 (.agg #[.int .i64 0, .int .i64 0, .int .i64 0, .bool false]) Try.underlying28 infoWcS rfl (by decide) SWc.len SWc.one rfl (.tmp 57) (.tmp 59) rfl w.heap.size (.slice B3 m.wc.length d3) m.wc (⟨1, 0, 0, false⟩ : SWc) _ rfl rfl rfl O5.out.wc (by omega) (by decide) hbw ?_)
    intro v' wq hoq hg
    have SQ := Lib.hid (st_grown S5.out O5.out.wc hg (by simp only [List.mem_cons, List.not_mem_nil, or_false, forall_eq_or_imp, forall_eq]; decide))
    have PQ := Lib.hid (OwnM.growC O5.out hg hoq)
    obtain ⟨Aq, cq, e'⟩ := hoq.shape
    subst e'
    clear hoq hg S5 O5
    clear p0_0 p0_1 p0_2 p0_3 pF0_0 pF0_1 pF0_2 pF0_3 p1_0 p1_1 p1_2 p1_3 pF1_0 pF1_1 pF1_2 pF1_3 p2_0 p2_1 p2_2 p2_3
    have sT0 := SQ.out
    obtain ⟨p0_0, p0_1, p0_2, p0_3⟩ := sT0.c4
    have pF0_0 := sT0.f 0
    have pF0_1 := sT0.f 1
    have pF0_2 := sT0.f 2
    have pF0_3 := sT0.f 3
    have sT1 := sT0.tail
    obtain ⟨p1_0, p1_1, p1_2, p1_3⟩ := sT1.c4
    have pF1_0 := sT1.f 0
    have pF1_1 := sT1.f 1
    have pF1_2 := sT1.f 2
    have pF1_3 := sT1.f 3
    have sT2 := sT1.tail
    obtain ⟨p2_0, p2_1, p2_2, p2_3⟩ := sT2.c4
    have sT3 := sT2.tail
    clear sT0 sT1 sT2 sT3
    go_upto_region 13 with fail
    refine st_genO (SQ.out.set (l1 := []) 3 _) (PQ.out.set1 SQ.out.head (by decide) 3 _) (fun w7 S7' O7' => ?_)
    have S7 : Hid (St w _ w7) := Lib.hid S7'
    have O7 := Lib.hid O7'
    simp only [List.nil_append, List.setIfInBounds_toArray, List.set_cons_zero, List.set_cons_succ] at S7
    clear S7' O7' SQ PQ
    clear p0_0 p0_1 p0_2 p0_3 pF0_0 pF0_1 pF0_2 pF0_3 p1_0 p1_1 p1_2 p1_3 pF1_0 pF1_1 pF1_2 pF1_3 p2_0 p2_1 p2_2 p2_3
    have sT0 := S7.out
    obtain ⟨p0_0, p0_1, p0_2, p0_3⟩ := sT0.c4
    have pF0_0 := sT0.f 0
    have pF0_1 := sT0.f 1
    have pF0_2 := sT0.f 2
    have pF0_3 := sT0.f 3
    have sT1 := sT0.tail
    obtain ⟨p1_0, p1_1, p1_2, p1_3⟩ := sT1.c4
    have pF1_0 := sT1.f 0
    have pF1_1 := sT1.f 1
    have pF1_2 := sT1.f 2
    have pF1_3 := sT1.f 3
    have sT2 := sT1.tail
    obtain ⟨p2_0, p2_1, p2_2, p2_3⟩ := sT2.c4
    have sT3 := sT2.tail
    clear sT0 sT1 sT2 sT3
    go_wp2
    refine bodyPost_ret (v := .agg #[.slice B0 m.ws.length d0, .slice B1 m.pend.length d1, .slice B2 m.tlb.length d2, .slice Aq (m.wc ++ [(⟨1, 0, 0, false⟩ : SWc)]).length cq]) (by simp [results, Try.results10, go_sem, *]) rfl ⟨_, _, _, _, rfl, ?_, (S7.out.s1 _ _ _ _).b⟩
    rw [HE.out]
    exact O7.out.set4 S7.out.tail.head (by decide) _ _ _ _
  · have HE : Hid (S = { m with wc := m.wc ++ [(⟨3, 16, (m.ws.length : Int), false⟩ : SWc)] }) := Lib.hid (by rw [HS0.out]; unfold spoilM; simp only [HA.out, HBB.out]; rfl)
    have sT0 := S5.out
    obtain ⟨p0_0, p0_1, p0_2, p0_3⟩ := sT0.c4
    have pF0_0 := sT0.f 0
    have pF0_1 := sT0.f 1
    have pF0_2 := sT0.f 2
    have pF0_3 := sT0.f 3
    have sT1 := sT0.tail
    obtain ⟨p1_0, p1_1, p1_2, p1_3⟩ := sT1.c4
    have pF1_0 := sT1.f 0
    have pF1_1 := sT1.f 1
    have pF1_2 := sT1.f 2
    have pF1_3 := sT1.f 3
    have sT2 := sT1.tail
    obtain ⟨p2_0, p2_1, p2_2, p2_3⟩ := sT2.c4
    have sT3 := sT2.tail
    clear sT0 sT1 sT2 sT3
    go_wp2_with (at_builtin; refine append1 42 4 32 28 (.agg #[.int .i64 0, .int .i64 0, .int .i64 0, .bool false]) Try.underlying28 infoWcS rfl (by decide) SWc.len SWc.one rfl (.tmp 65) (.tmp 71) rfl w.heap.size (.slice B3 m.wc.length d3) m.wc (⟨3, 16, (m.ws.length : Int), false⟩ : SWc) _ rfl rfl rfl O5.out.wc (by omega) (by decide) hbw ?_)
    intro v' wq hoq hg
    have SQ := Lib.hid (st_grown S5.out O5.out.wc hg (by simp only [List.mem_cons, List.not_mem_nil, or_false, forall_eq_or_imp, forall_eq]; decide))
    have PQ := Lib.hid (OwnM.growC O5.out hg hoq)
    obtain ⟨Aq, cq, e'⟩ := hoq.shape
    subst e'
    clear hoq hg S5 O5
    clear p0_0 p0_1 p0_2 p0_3 pF0_0 pF0_1 pF0_2 pF0_3 p1_0 p1_1 p1_2 p1_3 pF1_0 pF1_1 pF1_2 pF1_3 p2_0 p2_1 p2_2 p2_3
    have sT0 := SQ.out
    obtain ⟨p0_0, p0_1, p0_2, p0_3⟩ := sT0.c4
    have pF0_0 := sT0.f 0
    have pF0_1 := sT0.f 1
    have pF0_2 := sT0.f 2
    have pF0_3 := sT0.f 3
    have sT1 := sT0.tail
    obtain ⟨p1_0, p1_1, p1_2, p1_3⟩ := sT1.c4
    have pF1_0 := sT1.f 0
    have pF1_1 := sT1.f 1
    have pF1_2 := sT1.f 2
    have pF1_3 := sT1.f 3
    have sT2 := sT1.tail
    obtain ⟨p2_0, p2_1, p2_2, p2_3⟩ := sT2.c4
    have sT3 := sT2.tail
    clear sT0 sT1 sT2 sT3
    go_upto_region 15 with fail
    refine st_genO (SQ.out.set (l1 := []) 3 _) (PQ.out.set1 SQ.out.head (by decide) 3 _) (fun w7 S7' O7' => ?_)
    have S7 : Hid (St w _ w7) := Lib.hid S7'
    have O7 := Lib.hid O7'
    simp only [List.nil_append, List.setIfInBounds_toArray, List.set_cons_zero, List.set_cons_succ] at S7
    clear S7' O7' SQ PQ
    clear p0_0 p0_1 p0_2 p0_3 pF0_0 pF0_1 pF0_2 pF0_3 p1_0 p1_1 p1_2 p1_3 pF1_0 pF1_1 pF1_2 pF1_3 p2_0 p2_1 p2_2 p2_3
    have sT0 := S7.out
    obtain ⟨p0_0, p0_1, p0_2, p0_3⟩ := sT0.c4
    have pF0_0 := sT0.f 0
    have pF0_1 := sT0.f 1
    have pF0_2 := sT0.f 2
    have pF0_3 := sT0.f 3
    have sT1 := sT0.tail
    obtain ⟨p1_0, p1_1, p1_2, p1_3⟩ := sT1.c4
    have pF1_0 := sT1.f 0
    have pF1_1 := sT1.f 1
    have pF1_2 := sT1.f 2
    have pF1_3 := sT1.f 3
    have sT2 := sT1.tail
    obtain ⟨p2_0, p2_1, p2_2, p2_3⟩ := sT2.c4
    have sT3 := sT2.tail
    clear sT0 sT1 sT2 sT3
    go_wp2
    refine bodyPost_ret (v := .agg #[.slice B0 m.ws.length d0, .slice B1 m.pend.length d1, .slice B2 m.tlb.length d2, .slice Aq (m.wc ++ [(⟨3, 16, (m.ws.length : Int), false⟩ : SWc)]).length cq]) (by simp [results, Try.results10, go_sem, *]) rfl ⟨_, _, _, _, rfl, ?_, (S7.out.s1 _ _ _ _).b⟩
    rw [HE.out]
    exact O7.out.set4 S7.out.tail.head (by decide) _ _ _ _
  · obtain ⟨J, hJ⟩ : ∃ J : Nat, 256 + b % 2 = ((m.tlb.length + J : Nat) : Int) := ⟨(256 + b % 2).toNat - m.tlb.length, by omega⟩
    have HE : Hid (S = { m with tlb := m.tlb ++ (List.range J).map (fun (i : Nat) => (⟨0, 1, (m.tlb.length : Int) + (i : Int), 1, false⟩ : STlb)) }) := Lib.hid (by rw [HS0.out]; unfold spoilM; simp only [HA.out, HBB.out]; rw [show (256 + b % 2).toNat - m.tlb.length = J by omega]; rfl)
    have em : Int.tmod b 2 = b % 2 := Int.tmod_eq_emod_of_nonneg hb0
    have ea : IntKind.i64.wrap (256 + b % 2) = 256 + b % 2 := by rw [IntKind.wrap_i64]; omega
    have hJb : J ≤ 257 := by omega
    have HJ := Lib.hid hJ
    clear hJ
    have sT0 := S5.out
    obtain ⟨p0_0, p0_1, p0_2, p0_3⟩ := sT0.c4
    have pF0_0 := sT0.f 0
    have pF0_1 := sT0.f 1
    have pF0_2 := sT0.f 2
    have pF0_3 := sT0.f 3
    have sT1 := sT0.tail
    obtain ⟨p1_0, p1_1, p1_2, p1_3⟩ := sT1.c4
    have pF1_0 := sT1.f 0
    have pF1_1 := sT1.f 1
    have pF1_2 := sT1.f 2
    have pF1_3 := sT1.f 3
    have sT2 := sT1.tail
    obtain ⟨p2_0, p2_1, p2_2, p2_3⟩ := sT2.c4
    have sT3 := sT2.tail
    clear sT0 sT1 sT2 sT3
    go_wp2
    clear p0_0 p0_1 p0_2 p0_3 pF0_0 pF0_1 pF0_2 pF0_3 p1_0 p1_1 p1_2 p1_3 pF1_0 pF1_1 pF1_2 pF1_3 p2_0 p2_1 p2_2 p2_3
    go_loopw [] (fun wr => ∃ (j : Nat) (A : Option Addr) (cc : Nat), j ≤ J ∧ Hid (OwnM w.heap.size wr (.slice B0 m.ws.length d0) (.slice B1 m.pend.length d1) (.slice A (m.tlb.length + j) cc) (.slice B3 m.wc.length d3) { m with tlb := m.tlb ++ (List.range j).map (fun (i : Nat) => (⟨0, 1, (m.tlb.length : Int) + (i : Int), 1, false⟩ : STlb)) }) ∧ Hid (St w [(ob, #[.slice B0 m.ws.length d0, .slice B1 m.pend.length d1, .slice A (m.tlb.length + j) cc, .slice B3 m.wc.length d3], 30), (w.heap.size + 1, #[.slice none 0 0, .slice none 0 0, .slice none 0 0, .slice none 0 0], 30), (w.heap.size, #[.slice A0 m.ws.length c0, .slice A1 m.pend.length c1, .slice A2 m.tlb.length c2, .slice A3 m.wc.length c3], 30)] wr)) (fun wr => m.tlb.length + J - sliceN (wr.cell? ⟨ob, 2, none⟩))
    case atStart => exact ⟨0, _, _, Nat.zero_le _, Lib.hid (by have := O5.out; simpa using this), S5⟩
    case round =>
      obtain ⟨j, A, cc, hj, HO, HS⟩ := hrel
      have sT0 := HS.out
      obtain ⟨p0_0, p0_1, p0_2, p0_3⟩ := sT0.c4
      have pF0_0 := sT0.f 0
      have pF0_1 := sT0.f 1
      have pF0_2 := sT0.f 2
      have pF0_3 := sT0.f 3
      have sT1 := sT0.tail
      obtain ⟨p1_0, p1_1, p1_2, p1_3⟩ := sT1.c4
      have pF1_0 := sT1.f 0
      have pF1_1 := sT1.f 1
      have pF1_2 := sT1.f 2
      have pF1_3 := sT1.f 3
      have sT2 := sT1.tail
      obtain ⟨p2_0, p2_1, p2_2, p2_3⟩ := sT2.c4
      have sT3 := sT2.tail
      clear sT0 sT1 sT2 sT3
      by_cases hlt : j < J
      · have hlt' : (((m.tlb.length + j : Nat) : Int)) < 256 + b % 2 := by have := HJ.out; omega
        have hbr : w.heap.size ≤ wr.heap.size := HS.out.b.size
        go_wp2_with (at_builtin; refine append1 40 5 40 27 (.agg #[.int .i64 0, .int .i64 0, .int .i64 0, .int .i64 0, .bool false]) Try.underlying27 infoTlS rfl (by decide) STlb.len STlb.one rfl (.tmp 84) (.tmp 89) rfl w.heap.size (.slice A (m.tlb.length + j) cc) (m.tlb ++ (List.range j).map (fun (i : Nat) => (⟨0, 1, (m.tlb.length : Int) + (i : Int), 1, false⟩ : STlb))) ⟨0, 1, (m.tlb.length : Int) + (j : Int), 1, false⟩ _ rfl rfl rfl HO.out.tlb (by simp; omega) (by decide) hbr ?_)
        intro v' wq hoq hg
        have SQ := Lib.hid (st_grown HS.out HO.out.tlb hg (by simp only [List.mem_cons, List.not_mem_nil, or_false, forall_eq_or_imp, forall_eq]; decide))
        have et := tail_map m.tlb (fun (i : Nat) => (⟨0, 1, (m.tlb.length : Int) + (i : Int), 1, false⟩ : STlb)) j
        rw [et] at hoq
        have PQ := Lib.hid (OwnM.growT HO.out hg hoq)
        obtain ⟨Aq, cq, e'⟩ := hoq.shape
        rw [show (m.tlb ++ (List.range (j + 1)).map (fun (i : Nat) => (⟨0, 1, (m.tlb.length : Int) + (i : Int), 1, false⟩ : STlb))).length = m.tlb.length + (j + 1) by simp] at e'
        subst e'
        clear hoq hg
        clear p0_0 p0_1 p0_2 p0_3 pF0_0 pF0_1 pF0_2 pF0_3 p1_0 p1_1 p1_2 p1_3 pF1_0 pF1_1 pF1_2 pF1_3 p2_0 p2_1 p2_2 p2_3
        have sT0 := SQ.out
        obtain ⟨p0_0, p0_1, p0_2, p0_3⟩ := sT0.c4
        have pF0_0 := sT0.f 0
        have pF0_1 := sT0.f 1
        have pF0_2 := sT0.f 2
        have pF0_3 := sT0.f 3
        have sT1 := sT0.tail
        obtain ⟨p1_0, p1_1, p1_2, p1_3⟩ := sT1.c4
        have pF1_0 := sT1.f 0
        have pF1_1 := sT1.f 1
        have pF1_2 := sT1.f 2
        have pF1_3 := sT1.f 3
        have sT2 := sT1.tail
        obtain ⟨p2_0, p2_1, p2_2, p2_3⟩ := sT2.c4
        have sT3 := sT2.tail
        clear sT0 sT1 sT2 sT3
        go_wp2
        go_roundw
        case rel =>
          refine ⟨j + 1, _, _, by omega, Lib.hid (PQ.out.set1 SQ.out.head (by decide) 2 _), Lib.hid ?_⟩
          have h := SQ.out.set (l1 := []) 2 (.slice Aq (m.tlb.length + (j + 1)) cq)
          simpa using h
        case measure =>
          have h := (SQ.out.set (l1 := []) 2 (.slice Aq (m.tlb.length + (j + 1)) cq)).c4
          have h2 := h.2.2.1
          have h3 := h.2.2.2
          have h4 := HS.out.c4.2.2.1
          have h5 := HS.out.c4.2.2.2
          simp [sliceN, *]
          omega
      · obtain rfl : j = J := by omega
        have hlt' : ¬ (((m.tlb.length + j : Nat) : Int)) < 256 + b % 2 := by have := HJ.out; omega
        go_wp2
        refine bodyPost_ret (v := .agg #[.slice B0 m.ws.length d0, .slice B1 m.pend.length d1, .slice A (m.tlb.length + j) cc, .slice B3 m.wc.length d3]) (by simp [results, Try.results10, go_sem, *]) rfl ⟨_, _, _, _, rfl, ?_, (HS.out.s1 _ _ _ _).b⟩
        rw [HE.out]
        exact HO.out.set4 HS.out.tail.head (by decide) _ _ _ _
  · obtain ⟨J, hJ⟩ : ∃ J : Nat, 256 + b % 2 = ((m.wc.length + J : Nat) : Int) := ⟨(256 + b % 2).toNat - m.wc.length, by omega⟩
    have HE : Hid (S = { m with wc := m.wc ++ List.replicate J (⟨2, 0, 0, true⟩ : SWc) }) := Lib.hid (by rw [HS0.out]; unfold spoilM; simp only [HA.out, HBB.out]; rw [show (256 + b % 2).toNat - m.wc.length = J by omega]; rfl)
    have em : Int.tmod b 2 = b % 2 := Int.tmod_eq_emod_of_nonneg hb0
    have ea : IntKind.i64.wrap (256 + b % 2) = 256 + b % 2 := by rw [IntKind.wrap_i64]; omega
    have hJb : J ≤ 257 := by omega
    have HJ := Lib.hid hJ
    clear hJ
    have sT0 := S5.out
    obtain ⟨p0_0, p0_1, p0_2, p0_3⟩ := sT0.c4
    have pF0_0 := sT0.f 0
    have pF0_1 := sT0.f 1
    have pF0_2 := sT0.f 2
    have pF0_3 := sT0.f 3
    have sT1 := sT0.tail
    obtain ⟨p1_0, p1_1, p1_2, p1_3⟩ := sT1.c4
    have pF1_0 := sT1.f 0
    have pF1_1 := sT1.f 1
    have pF1_2 := sT1.f 2
    have pF1_3 := sT1.f 3
    have sT2 := sT1.tail
    obtain ⟨p2_0, p2_1, p2_2, p2_3⟩ := sT2.c4
    have sT3 := sT2.tail
    clear sT0 sT1 sT2 sT3
    go_wp2
    clear p0_0 p0_1 p0_2 p0_3 pF0_0 pF0_1 pF0_2 pF0_3 p1_0 p1_1 p1_2 p1_3 pF1_0 pF1_1 pF1_2 pF1_3 p2_0 p2_1 p2_2 p2_3
    go_loopw [] (fun wr => ∃ (j : Nat) (A : Option Addr) (cc : Nat), j ≤ J ∧ Hid (OwnM w.heap.size wr (.slice B0 m.ws.length d0) (.slice B1 m.pend.length d1) (.slice B2 m.tlb.length d2) (.slice A (m.wc.length + j) cc) { m with wc := m.wc ++ List.replicate j (⟨2, 0, 0, true⟩ : SWc) }) ∧ Hid (St w [(ob, #[.slice B0 m.ws.length d0, .slice B1 m.pend.length d1, .slice B2 m.tlb.length d2, .slice A (m.wc.length + j) cc], 30), (w.heap.size + 1, #[.slice none 0 0, .slice none 0 0, .slice none 0 0, .slice none 0 0], 30), (w.heap.size, #[.slice A0 m.ws.length c0, .slice A1 m.pend.length c1, .slice A2 m.tlb.length c2, .slice A3 m.wc.length c3], 30)] wr)) (fun wr => m.wc.length + J - sliceN (wr.cell? ⟨ob, 3, none⟩))
    case atStart => exact ⟨0, _, _, Nat.zero_le _, Lib.hid (by have := O5.out; simpa using this), S5⟩
    case round =>
      obtain ⟨j, A, cc, hj, HO, HS⟩ := hrel
      have sT0 := HS.out
      obtain ⟨p0_0, p0_1, p0_2, p0_3⟩ := sT0.c4
      have pF0_0 := sT0.f 0
      have pF0_1 := sT0.f 1
      have pF0_2 := sT0.f 2
      have pF0_3 := sT0.f 3
      have sT1 := sT0.tail
      obtain ⟨p1_0, p1_1, p1_2, p1_3⟩ := sT1.c4
      have pF1_0 := sT1.f 0
      have pF1_1 := sT1.f 1
      have pF1_2 := sT1.f 2
      have pF1_3 := sT1.f 3
      have sT2 := sT1.tail
      obtain ⟨p2_0, p2_1, p2_2, p2_3⟩ := sT2.c4
      have sT3 := sT2.tail
      clear sT0 sT1 sT2 sT3
      by_cases hlt : j < J
      · have hlt' : (((m.wc.length + j : Nat) : Int)) < 256 + b % 2 := by have := HJ.out; omega
        have hbr : w.heap.size ≤ wr.heap.size := HS.out.b.size
        go_wp2_with (at_builtin; refine append1 42 4 32 28 (.agg #[.int .i64 0, .int .i64 0, .int .i64 0, .bool false]) Try.underlying28 infoWcS rfl (by decide) SWc.len SWc.one rfl (.tmp 102) (.tmp 104) rfl w.heap.size (.slice A (m.wc.length + j) cc) (m.wc ++ List.replicate j (⟨2, 0, 0, true⟩ : SWc)) ⟨2, 0, 0, true⟩ _ rfl rfl rfl HO.out.wc (by simp; omega) (by decide) hbr ?_)
        intro v' wq hoq hg
        have SQ := Lib.hid (st_grown HS.out HO.out.wc hg (by simp only [List.mem_cons, List.not_mem_nil, or_false, forall_eq_or_imp, forall_eq]; decide))
        rw [tail_rep] at hoq
        have PQ := Lib.hid (OwnM.growC HO.out hg hoq)
        obtain ⟨Aq, cq, e'⟩ := hoq.shape
        rw [show (m.wc ++ List.replicate (j + 1) (⟨2, 0, 0, true⟩ : SWc)).length = m.wc.length + (j + 1) by simp] at e'
        subst e'
        clear hoq hg
        clear p0_0 p0_1 p0_2 p0_3 pF0_0 pF0_1 pF0_2 pF0_3 p1_0 p1_1 p1_2 p1_3 pF1_0 pF1_1 pF1_2 pF1_3 p2_0 p2_1 p2_2 p2_3
        have sT0 := SQ.out
        obtain ⟨p0_0, p0_1, p0_2, p0_3⟩ := sT0.c4
        have pF0_0 := sT0.f 0
        have pF0_1 := sT0.f 1
        have pF0_2 := sT0.f 2
        have pF0_3 := sT0.f 3
        have sT1 := sT0.tail
        obtain ⟨p1_0, p1_1, p1_2, p1_3⟩ := sT1.c4
        have pF1_0 := sT1.f 0
        have pF1_1 := sT1.f 1
        have pF1_2 := sT1.f 2
        have pF1_3 := sT1.f 3
        have sT2 := sT1.tail
        obtain ⟨p2_0, p2_1, p2_2, p2_3⟩ := sT2.c4
        have sT3 := sT2.tail
        clear sT0 sT1 sT2 sT3
        go_wp2
        go_roundw
        case rel =>
          refine ⟨j + 1, _, _, by omega, Lib.hid (PQ.out.set1 SQ.out.head (by decide) 3 _), Lib.hid ?_⟩
          have h := SQ.out.set (l1 := []) 3 (.slice Aq (m.wc.length + (j + 1)) cq)
          simpa using h
        case measure =>
          have h := (SQ.out.set (l1 := []) 3 (.slice Aq (m.wc.length + (j + 1)) cq)).c4
          have h2 := h.2.2.1
          have h3 := h.2.2.2
          have h4 := HS.out.c4.2.2.1
          have h5 := HS.out.c4.2.2.2
          simp [sliceN, *]
          omega
      · obtain rfl : j = J := by omega
        have hlt' : ¬ (((m.wc.length + j : Nat) : Int)) < 256 + b % 2 := by have := HJ.out; omega
        go_wp2
        refine bodyPost_ret (v := .agg #[.slice B0 m.ws.length d0, .slice B1 m.pend.length d1, .slice B2 m.tlb.length d2, .slice A (m.wc.length + j) cc]) (by simp [results, Try.results10, go_sem, *]) rfl ⟨_, _, _, _, rfl, ?_, (HS.out.s1 _ _ _ _).b⟩
        rw [HE.out]
        exact HO.out.set4 HS.out.tail.head (by decide) _ _ _ _
  · have g0 : (a == 0) = false := by simp; omega
    have g1 : (a == 1) = false := by simp; omega
    have g2 : (a == 2) = false := by simp; omega
    have g3 : (a == 3) = false := by simp; omega
    have g4 : (a == 4) = false := by simp; omega
    have g5 : (a == 5) = false := by simp; omega
    have g6 : (a == 6) = false := by simp; omega
    have g7 : decide (6 < a) = true := decide_eq_true h6
    have HSP : Hid (S = match m.tlb[(b % (m.tlb.length : Int)).toNat]? with
      | some e => { m with tlb := m.tlb ++ [⟨e.Page, 1, (e.Out + b % 3) % 65536, e.Perm, decide (a = 7)⟩] }
      | none => m) := Lib.hid (by rw [HS0.out]; unfold spoilM; simp only [HA.out, HBB.out]; rw [if_neg (by omega), if_neg (by omega), if_neg (by omega), if_neg (by omega), if_neg (by omega), if_neg (by omega), if_neg (by omega)]; rfl)
    by_cases hz : 0 < m.tlb.length
    rotate_left
    · have hz0 : m.tlb = [] := List.length_eq_zero_iff.1 (by omega)
      have hzd : decide (0 < m.tlb.length) = false := decide_eq_false hz
      have HE : Hid (S = m) := Lib.hid (by rw [HSP.out, hz0]; rfl)
      have HZ := Lib.hid hz0
      clear hz0
      have sT0 := S5.out
      obtain ⟨p0_0, p0_1, p0_2, p0_3⟩ := sT0.c4
      have pF0_0 := sT0.f 0
      have pF0_1 := sT0.f 1
      have pF0_2 := sT0.f 2
      have pF0_3 := sT0.f 3
      have sT1 := sT0.tail
      obtain ⟨p1_0, p1_1, p1_2, p1_3⟩ := sT1.c4
      have pF1_0 := sT1.f 0
      have pF1_1 := sT1.f 1
      have pF1_2 := sT1.f 2
      have pF1_3 := sT1.f 3
      have sT2 := sT1.tail
      obtain ⟨p2_0, p2_1, p2_2, p2_3⟩ := sT2.c4
      have sT3 := sT2.tail
      clear sT0 sT1 sT2 sT3
      go_wp2
      refine bodyPost_ret (v := .agg #[.slice B0 m.ws.length d0, .slice B1 m.pend.length d1, .slice B2 m.tlb.length d2, .slice B3 m.wc.length d3]) (by simp [results, Try.results10, go_sem, *]) rfl ⟨_, _, _, _, rfl, ?_, (S5.out.s1 _ _ _ _).b⟩
      rw [HE.out]
      exact O5.out.set4 S5.out.tail.head (by decide) _ _ _ _
    have hzd : decide (0 < m.tlb.length) = true := decide_eq_true hz
    obtain ⟨t, ht⟩ : ∃ t : Nat, b % (m.tlb.length : Int) = (t : Int) := ⟨(b % (m.tlb.length : Int)).toNat, by have := Int.emod_nonneg b (show (m.tlb.length : Int) ≠ 0 by omega); omega⟩
    have htl : t < m.tlb.length := by have := Int.emod_lt_of_pos b (show (0 : Int) < (m.tlb.length : Int) by omega); omega
    have htl' : (t : Int) < (m.tlb.length : Int) := by omega
    have et : Int.tmod b (m.tlb.length : Int) = (t : Int) := by rw [Int.tmod_eq_emod_of_nonneg hb0]; exact ht
    obtain ⟨ad, x, eA, hx, q0, q1, q2, q3, q4⟩ := STlb.at (RM.out.tlb.below S5.out.b) htl
    cases eA
    have hok := HV.out x (List.mem_of_getElem? hx)
    obtain ⟨hok1, hok2, hok3, hok4, hok5, hok6, hok7, hok8⟩ := hok
    have e3 : Int.tmod b 3 = b % 3 := Int.tmod_eq_emod_of_nonneg hb0
    have e4 : IntKind.i64.wrap (x.Out + b % 3) = x.Out + b % 3 := by rw [IntKind.wrap_i64]; omega
    have e5 : Int.tmod (x.Out + b % 3) 65536 = (x.Out + b % 3) % 65536 := Int.tmod_eq_emod_of_nonneg (by omega)
    obtain ⟨b7, hb7⟩ : ∃ b7, (a == 7) = b7 := ⟨_, rfl⟩
    have HE : Hid (S = { m with tlb := m.tlb ++ [⟨x.Page, 1, (x.Out + b % 3) % 65536, x.Perm, b7⟩] }) := Lib.hid (by
      rw [HSP.out, ht]
      simp only [Int.toNat_natCast, hx, ← hb7]
      congr)
    have HT := Lib.hid ht
    have hz3 : w.heap.size + 1 < w5.heap.size := S5.out.tail.lt _ (List.mem_cons_self ..)
    have hd1 : ¬ (m.tlb.length : Int) = 0 := by omega
    have hd2 : ((m.tlb.length : Int) == 0) = false := by rw [beq_eq_false_iff_ne]; omega
    have hd3 : (m.tlb.length == 0) = false := by rw [beq_eq_false_iff_ne]; omega
    have hd4 : ¬ m.tlb = [] := fun h => by rw [h] at hz; simp at hz
    clear hx hok1 hok3 ht
    have sT0 := S5.out
    obtain ⟨p0_0, p0_1, p0_2, p0_3⟩ := sT0.c4
    have pF0_0 := sT0.f 0
    have pF0_1 := sT0.f 1
    have pF0_2 := sT0.f 2
    have pF0_3 := sT0.f 3
    have sT1 := sT0.tail
    obtain ⟨p1_0, p1_1, p1_2, p1_3⟩ := sT1.c4
    have pF1_0 := sT1.f 0
    have pF1_1 := sT1.f 1
    have pF1_2 := sT1.f 2
    have pF1_3 := sT1.f 3
    have sT2 := sT1.tail
    obtain ⟨p2_0, p2_1, p2_2, p2_3⟩ := sT2.c4
    have sT3 := sT2.tail
    clear sT0 sT1 sT2 sT3
    go_upto_region 22 with fail
    go_region_held3 (fun w' => w'.cell? ⟨w.heap.size, 2, none⟩ = some (.slice (some ad) m.tlb.length c2) ∧ w'.cell? (ad.add (t * 5)) = some (.int .i64 x.Page) ∧ w'.cell? ⟨(ad.add (t * 5)).block, (ad.add (t * 5)).off + 1, none⟩ = some (.int .i64 x.Size) ∧ w'.cell? ⟨(ad.add (t * 5)).block, (ad.add (t * 5)).off + 2, none⟩ = some (.int .i64 x.Out) ∧ w'.cell? ⟨(ad.add (t * 5)).block, (ad.add (t * 5)).off + 3, none⟩ = some (.int .i64 x.Perm) ∧ w'.cell? ⟨(ad.add (t * 5)).block, (ad.add (t * 5)).off + 4, none⟩ = some (.bool x.Doomed))
      (first | go_keep) (fail)
    refine st_genO (S5.out.push _ _).drew (O5.out.below (allocB (Below.refl _ _) _)).drew (fun w6 S6' O6' => ?_)
    obtain ⟨eb, heb⟩ : ∃ b, w5.heap.size = b := ⟨_, rfl⟩
    rw [heb] at S6' ⊢
    have S6 := Lib.hid S6'
    have O6 := Lib.hid O6'
    have hb6 : w.heap.size ≤ w6.heap.size := S6'.b.size
    clear S6' O6' q0 q1 q2 q3 q4
    clear p0_0 p0_1 p0_2 p0_3 pF0_0 pF0_1 pF0_2 pF0_3 p1_0 p1_1 p1_2 p1_3 pF1_0 pF1_1 pF1_2 pF1_3 p2_0 p2_1 p2_2 p2_3
    clear S5 O5 hbw hz3 heb
    have sT0 := S6.out
    obtain ⟨p0_0, p0_1, p0_2, p0_3, p0_4⟩ := sT0.c5
    have sT1 := sT0.tail
    obtain ⟨p1_0, p1_1, p1_2, p1_3⟩ := sT1.c4
    have pF1_0 := sT1.f 0
    have pF1_1 := sT1.f 1
    have pF1_2 := sT1.f 2
    have pF1_3 := sT1.f 3
    have sT2 := sT1.tail
    obtain ⟨p2_0, p2_1, p2_2, p2_3⟩ := sT2.c4
    have pF2_0 := sT2.f 0
    have pF2_1 := sT2.f 1
    have pF2_2 := sT2.f 2
    have pF2_3 := sT2.f 3
    have sT3 := sT2.tail
    obtain ⟨p3_0, p3_1, p3_2, p3_3⟩ := sT3.c4
    have sT4 := sT3.tail
    clear sT0 sT1 sT2 sT3 sT4
    go_wp2_with (at_builtin; refine append1 40 5 40 27 (.agg #[.int .i64 0, .int .i64 0, .int .i64 0, .int .i64 0, .bool false]) Try.underlying27 infoTlS rfl (by decide) STlb.len STlb.one rfl (.tmp 125) (.tmp 139) rfl w.heap.size (.slice B2 m.tlb.length d2) m.tlb ⟨x.Page, 1, (x.Out + b % 3) % 65536, x.Perm, b7⟩ _ rfl rfl rfl O6.out.tlb (by omega) (by decide) hb6 ?_)
    intro v' wq hoq hg
    have SQ := Lib.hid (st_grown S6.out.tail O6.out.tlb hg (by simp only [List.mem_cons, List.not_mem_nil, or_false, forall_eq_or_imp, forall_eq]; decide))
    have PQ := Lib.hid (OwnM.growT O6.out hg hoq)
    obtain ⟨Aq, cq, e'⟩ := hoq.shape
    subst e'
    clear hoq hg
    clear p0_0 p0_1 p0_2 p0_3 p0_4 p1_0 p1_1 p1_2 p1_3 pF1_0 pF1_1 pF1_2 pF1_3 p2_0 p2_1 p2_2 p2_3 pF2_0 pF2_1 pF2_2 pF2_3 p3_0 p3_1 p3_2 p3_3
    have sT0 := SQ.out
    obtain ⟨p0_0, p0_1, p0_2, p0_3⟩ := sT0.c4
    have pF0_0 := sT0.f 0
    have pF0_1 := sT0.f 1
    have pF0_2 := sT0.f 2
    have pF0_3 := sT0.f 3
    have sT1 := sT0.tail
    obtain ⟨p1_0, p1_1, p1_2, p1_3⟩ := sT1.c4
    have pF1_0 := sT1.f 0
    have pF1_1 := sT1.f 1
    have pF1_2 := sT1.f 2
    have pF1_3 := sT1.f 3
    have sT2 := sT1.tail
    obtain ⟨p2_0, p2_1, p2_2, p2_3⟩ := sT2.c4
    have sT3 := sT2.tail
    clear sT0 sT1 sT2 sT3
    go_upto_region 24 with fail
    refine st_genO (SQ.out.set (l1 := []) 2 _) (PQ.out.set1 SQ.out.head (by decide) 2 _) (fun w7 S7' O7' => ?_)
    have S7 : Hid (St w _ w7) := Lib.hid S7'
    have O7 := Lib.hid O7'
    simp only [List.nil_append, List.setIfInBounds_toArray, List.set_cons_zero, List.set_cons_succ] at S7
    clear S7' O7' SQ PQ
    clear p0_0 p0_1 p0_2 p0_3 pF0_0 pF0_1 pF0_2 pF0_3 p1_0 p1_1 p1_2 p1_3 pF1_0 pF1_1 pF1_2 pF1_3 p2_0 p2_1 p2_2 p2_3
    have sT0 := S7.out
    obtain ⟨p0_0, p0_1, p0_2, p0_3⟩ := sT0.c4
    have pF0_0 := sT0.f 0
    have pF0_1 := sT0.f 1
    have pF0_2 := sT0.f 2
    have pF0_3 := sT0.f 3
    have sT1 := sT0.tail
    obtain ⟨p1_0, p1_1, p1_2, p1_3⟩ := sT1.c4
    have pF1_0 := sT1.f 0
    have pF1_1 := sT1.f 1
    have pF1_2 := sT1.f 2
    have pF1_3 := sT1.f 3
    have sT2 := sT1.tail
    obtain ⟨p2_0, p2_1, p2_2, p2_3⟩ := sT2.c4
    have sT3 := sT2.tail
    clear sT0 sT1 sT2 sT3
    go_wp2
    refine bodyPost_ret (v := .agg #[.slice B0 m.ws.length d0, .slice B1 m.pend.length d1, .slice Aq (m.tlb ++ [(⟨x.Page, 1, (x.Out + b % 3) % 65536, x.Perm, b7⟩ : STlb)]).length cq, .slice B3 m.wc.length d3]) (by simp [results, Try.results10, go_sem, *]) rfl ⟨_, _, _, _, rfl, ?_, (S7.out.s1 _ _ _ _).b⟩
    rw [HE.out]
    exact O7.out.set4 S7.out.tail.head (by decide) _ _ _ _
end Go.Proofs.Ythphfcheencbgaa.Draw
