/- Walk of the program's Step. -/
import Derived.Test.YthphfcheencbgaaImplStep9
import Derived.Test.YthphfcheencbgaaSpecStep6
import Derived.Test.YthphfcheencbgaaStepLaws
namespace Go.Proofs.Ythphfcheencbgaa.Mmu
open Go.RowKit Go.Proofs.Ythphfcheencbgaa.Base Go.Proofs.Ythphfcheencbgaa.Kinds Go.Proofs.Ythphfcheencbgaa.DecMath Go.Proofs.Ythphfcheencbgaa.L1
set_option linter.unusedVariables false
set_option linter.unusedSimpArgs false
theorem machineOKT_b (v0 v1 v2 v3 : Value) (m : SM) (b : Bool) (w : World) (r : RdM w v0 v1 v2 v3 m) (h : decide (Valid m) = b) : Calls Try.prog 23 #[.agg #[v0, v1, v2, v3]] w fun ex w' => ex = .returned (.bool b) ∧ Below w.heap.size w w' := by
  rw [← h]; exact machineOK_any v0 v1 v2 v3 m w r
theorem st_lowT {w0 w w1 : World} {l : List (Nat × Array Value × Nat)} {base : Nat} (h : St w0 l w) (hb : Below base w w1) (hl : ∀ x ∈ l, x.1 < base) (h0 : w0.heap.size ≤ base) : St w0 l w1 :=
  ⟨h.b.trans (hb.mono h0), fun x hx => (hb.block x.1 (hl x hx)).trans (h.blk x hx), h.up, h.ord⟩
set_option maxRecDepth 100000 in
set_option maxHeartbeats 8000000 in
theorem implStep_any (v0 v1 v2 v3 : Value) (m : SM) (o : SOp) (w : World) (r : RdM w v0 v1 v2 v3 m) (hw : WfM m) (ho : o.ok) :
    Calls Try.prog 6 #[.agg #[v0, v1, v2, v3], o.val] w (MIPost w (stepAll m o)) := by
  obtain ⟨A0, c0, A1, c1, A2, c2, A3, c3, rfl, rfl, rfl, rfl, hl0, hk0, hl1, hk1, hl2, hk2, hl3, hk3⟩ := r.shape
  have R := Lib.hid r
  by_cases hv : Valid m
  rotate_left
  · have HV : Hid (decide (Valid m) = false) := Lib.hid (decide_eq_false hv)
    have HR : Hid (stepAll m o = (⟨[], [], [], []⟩, 9)) := Lib.hid (if_neg hv)
    obtain ⟨kd, a, bb, wd⟩ := o
    simp only [SOp.val]
    clear r hv hw ho
    go_enter Try.func6, Try.ntmps6
    go_upto_region 1 with fail
    refine ((St.start w).push3 _ _ _ _ _ _).gen (fun w1 S1' _ => ?_)
    have S1 := Lib.hid S1'
    clear S1'
    have sT0 := S1.out
    obtain ⟨p0_0, p0_1, p0_2, p0_3⟩ := sT0.c4
    have pF0_0 := sT0.f 0
    have pF0_1 := sT0.f 1
    have pF0_2 := sT0.f 2
    have pF0_3 := sT0.f 3
    have sT1 := sT0.tail
    obtain ⟨p1_0, p1_1, p1_2, p1_3⟩ := sT1.c4
    have sT2 := sT1.tail
    obtain ⟨p2_0, p2_1, p2_2, p2_3⟩ := sT2.c4
    have sT3 := sT2.tail
    clear sT0 sT1 sT2 sT3
    go_upto_region 2 with (first | (go_at_call 23; refine (machineOKT_b _ _ _ _ m false _ (R.out.below S1.out.b) HV.out).mono ?_; rintro e w2 ⟨rfl, hb2⟩; have S2 := Lib.hid (S1.out.below hb2); clear hb2))
    clear p0_0 p0_1 p0_2 p0_3 pF0_0 pF0_1 pF0_2 pF0_3 p1_0 p1_1 p1_2 p1_3 p2_0 p2_1 p2_2 p2_3
    have sT0 := S2.out
    obtain ⟨p0_0, p0_1, p0_2, p0_3⟩ := sT0.c4
    have pF0_0 := sT0.f 0
    have pF0_1 := sT0.f 1
    have pF0_2 := sT0.f 2
    have pF0_3 := sT0.f 3
    have sT1 := sT0.tail
    obtain ⟨p1_0, p1_1, p1_2, p1_3⟩ := sT1.c4
    have sT2 := sT1.tail
    obtain ⟨p2_0, p2_1, p2_2, p2_3⟩ := sT2.c4
    have sT3 := sT2.tail
    clear sT0 sT1 sT2 sT3
    go_wp2
    rw [HR.out]
    refine bodyPost_ret (v := .tuple #[.agg #[.slice none 0 0, .slice none 0 0, .slice none 0 0, .slice none 0 0], .int .i64 9]) (by simp [results, Try.results6, go_sem, *]) rfl ⟨_, _, _, _, rfl, nilMT _ _, (S2.out.s0 _ _ _ _).b⟩
  have HV : Hid (decide (Valid m) = true) := Lib.hid (decide_eq_true hv)
  have HR : Hid (stepAll m o = stepS m o) := Lib.hid (if_pos hv)
  obtain ⟨q, hq⟩ : ∃ q, stepS m o = q := ⟨_, rfl⟩
  have HQ := Lib.hid hq
  have HSZ : Hid (q.1.ws.length ≤ 1048576 ∧ q.1.pend.length ≤ 1048576 ∧ q.1.tlb.length ≤ 1048576 ∧ q.1.wc.length ≤ 1048576) := Lib.hid (by rw [← hq]; exact valid_sizes (stepS_valid hv hw ho).1)
  rw [HR.out, hq]
  have V := Lib.hid hv
  have W := Lib.hid hw
  have OK := Lib.hid ho
  clear r hv hw ho hq HR
  obtain ⟨kd, a, bb, wd⟩ := o
  have HO : Hid (SOp.val ⟨kd, a, bb, wd⟩ = .agg #[.int .i64 kd, .int .i64 a, .int .i64 bb, .int .u64 wd]) := Lib.hid rfl
  simp only [SOp.val]
  go_enter Try.func6, Try.ntmps6
  go_upto_region 1 with fail
  refine ((St.start w).push3 _ _ _ _ _ _).gen (fun w1 S1' _ => ?_)
  have S1 := Lib.hid S1'
  clear S1'
  have sT0 := S1.out
  obtain ⟨p0_0, p0_1, p0_2, p0_3⟩ := sT0.c4
  have pF0_0 := sT0.f 0
  have pF0_1 := sT0.f 1
  have pF0_2 := sT0.f 2
  have pF0_3 := sT0.f 3
  have sT1 := sT0.tail
  obtain ⟨p1_0, p1_1, p1_2, p1_3⟩ := sT1.c4
  have sT2 := sT1.tail
  obtain ⟨p2_0, p2_1, p2_2, p2_3⟩ := sT2.c4
  have sT3 := sT2.tail
  clear sT0 sT1 sT2 sT3
  go_upto_region 3 with (first | (go_at_call 23; refine (machineOKT_b _ _ _ _ m true _ (R.out.below S1.out.b) HV.out).mono ?_; rintro e w2 ⟨rfl, hb2⟩; have S2 := Lib.hid (S1.out.below hb2); clear hb2))
  clear p0_0 p0_1 p0_2 p0_3 pF0_0 pF0_1 pF0_2 pF0_3 p1_0 p1_1 p1_2 p1_3 p2_0 p2_1 p2_2 p2_3
  have sT0 := S2.out
  obtain ⟨p0_0, p0_1, p0_2, p0_3⟩ := sT0.c4
  have pF0_0 := sT0.f 0
  have pF0_1 := sT0.f 1
  have pF0_2 := sT0.f 2
  have pF0_3 := sT0.f 3
  have sT1 := sT0.tail
  obtain ⟨p1_0, p1_1, p1_2, p1_3⟩ := sT1.c4
  have sT2 := sT1.tail
  obtain ⟨p2_0, p2_1, p2_2, p2_3⟩ := sT2.c4
  have sT3 := sT2.tail
  clear sT0 sT1 sT2 sT3
  go_wp2_with fail
  refine (machOf_any _ _ _ _ m _ (R.out.below S2.out.b) V.out).mono ?_
  rintro e w3 ⟨pp, x0, x1, x2, x3, x4, rfl, hX, hb3⟩
  have X3 := Lib.hid hX
  have S3 := Lib.hid (S2.out.below hb3)
  have hord := S2.out.lt
  simp only [List.mem_cons, List.not_mem_nil, or_false, forall_eq_or_imp, forall_eq] at hord
  have HORD := Lib.hid hord
  clear hX hb3 hord
  clear p0_0 p0_1 p0_2 p0_3 pF0_0 pF0_1 pF0_2 pF0_3 p1_0 p1_1 p1_2 p1_3 p2_0 p2_1 p2_2 p2_3
  have sT0 := S3.out
  obtain ⟨p0_0, p0_1, p0_2, p0_3⟩ := sT0.c4
  have pF0_0 := sT0.f 0
  have pF0_1 := sT0.f 1
  have pF0_2 := sT0.f 2
  have pF0_3 := sT0.f 3
  have sT1 := sT0.tail
  obtain ⟨p1_0, p1_1, p1_2, p1_3⟩ := sT1.c4
  have sT2 := sT1.tail
  obtain ⟨p2_0, p2_1, p2_2, p2_3⟩ := sT2.c4
  have sT3 := sT2.tail
  clear sT0 sT1 sT2 sT3
  go_wp2_with fail
  refine (mstep_any w2.heap.size pp _ _ _ _ _ m ⟨kd, a, bb, wd⟩ _ X3.out V.out W.out OK.out).mono ?_
  rw [HQ.out]
  rintro e w4 ⟨rfl, y0, y1, y2, y3, y4, hY, hb4, _⟩
  have Y4 := Lib.hid hY
  have S4 := Lib.hid (st_lowT S3.out hb4 (by simp only [List.mem_cons, List.not_mem_nil, or_false, forall_eq_or_imp, forall_eq]; exact HORD.out) S2.out.b.size)
  clear hY hb4 X3 HORD
  clear p0_0 p0_1 p0_2 p0_3 pF0_0 pF0_1 pF0_2 pF0_3 p1_0 p1_1 p1_2 p1_3 p2_0 p2_1 p2_2 p2_3
  go_wp2_with fail
  refine (machine_any pp _ _ _ _ _ q.1 _ (OwnX.rd Y4.out) HSZ.out).mono ?_
  rintro e w5 ⟨u0, u1, u2, u3, rfl, o5, hb5⟩
  obtain ⟨B0, d0, B1, d1, B2, d2, B3, d3, rfl, rfl, rfl, rfl⟩ := o5.shape
  have O5 := Lib.hid (o5.lower S4.out.b.size)
  have S5 := Lib.hid (S4.out.below hb5)
  clear o5 hb5 Y4
  have sT0 := S5.out
  obtain ⟨p0_0, p0_1, p0_2, p0_3⟩ := sT0.c4
  have pF0_0 := sT0.f 0
  have pF0_1 := sT0.f 1
  have pF0_2 := sT0.f 2
  have pF0_3 := sT0.f 3
  have sT1 := sT0.tail
  obtain ⟨p1_0, p1_1, p1_2, p1_3⟩ := sT1.c4
  have sT2 := sT1.tail
  obtain ⟨p2_0, p2_1, p2_2, p2_3⟩ := sT2.c4
  have sT3 := sT2.tail
  clear sT0 sT1 sT2 sT3
  go_wp2
  refine bodyPost_ret (v := .tuple #[.agg #[.slice B0 q.1.ws.length d0, .slice B1 q.1.pend.length d1, .slice B2 q.1.tlb.length d2, .slice B3 q.1.wc.length d3], .int .i64 q.2]) (by simp [results, Try.results6, go_sem, *]) rfl ⟨_, _, _, _, rfl, O5.out.set4 S5.out.head (by decide) _ _ _ _, (S5.out.s0 _ _ _ _).b⟩
/-- The reference's Step. -/
theorem specStep_any (v0 v1 v2 v3 : Value) (m : SM) (o : SOp) (w : World) (r : RdM w v0 v1 v2 v3 m) (hw : WfM m) (ho : o.ok) :
    Calls Try.prog 5 #[.agg #[v0, v1, v2, v3], o.val] w (MIPost w (stepAll m o)) := by
  by_cases hv : Valid m
  rotate_left
  · rw [show stepAll m o = (⟨[], [], [], []⟩, 9) from if_neg hv]; exact specStep_v _ _ _ _ m o w r hv
  rw [show stepAll m o = stepS m o from if_pos hv]
  by_cases hk : opOk m o
  rotate_left
  · rw [show stepS m o = (m, 1) from if_neg hk]; exact specStep_f _ _ _ _ m o w r hv hw hk
  by_cases h1 : o.Kind = 1
  · exact specStep_w _ _ _ _ m o w r hv hw hk h1 ho.1
  by_cases h2 : o.Kind = 2
  · exact specStep_d _ _ _ _ m o w r hv hw hk h2
  by_cases h3 : o.Kind = 3
  · exact specStep_t _ _ _ _ m o w r hv hw hk h3
  exact specStep_u _ _ _ _ m o w r hv hw hk (by unfold opOk at hk; omega)
end Go.Proofs.Ythphfcheencbgaa.Mmu
