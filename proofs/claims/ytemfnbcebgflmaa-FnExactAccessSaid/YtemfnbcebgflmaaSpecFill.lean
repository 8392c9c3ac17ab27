/- Walk of the reference's Fill. -/
import Derived.Test.YtemfnbcebgflmaaSpecWalk
import Derived.Test.YtemfnbcebgflmaaSpecValid
namespace Go.Proofs.Ytemfnbcebgflmaa.Mmu
open Go.RowKit Go.Proofs.Ytemfnbcebgflmaa.Base Go.Proofs.Ytemfnbcebgflmaa.Kinds Go.Proofs.Ytemfnbcebgflmaa.DecMath Go.Proofs.Ytemfnbcebgflmaa.L1
set_option linter.unusedVariables false
set_option linter.unusedSimpArgs false
theorem valid_b (v0 v1 v2 v3 : Value) (m : SM) (b : Bool) (w : World) (r : RdM w v0 v1 v2 v3 m) (h : decide (Valid m) = b) : Calls Try.prog 88 #[.agg #[v0, v1, v2, v3]] w fun ex w' => ex = .returned (.bool b) ∧ Below w.heap.size w w' := by
  rw [← h]; exact valid_any v0 v1 v2 v3 m w r
theorem choiceOk_b (c : Int) (b : Bool) (w : World) (h : decide (0 ≤ c ∧ c ≤ 65535) = b) : Calls Try.prog 112 #[.int .i64 c] w fun e w' => e = .returned (.bool b) ∧ w' = w := by
  rw [← h]; exact choiceOk_any c w
theorem nilM (base : Nat) (w : World) : OwnM base w (.slice none 0 0) (.slice none 0 0) (.slice none 0 0) (.slice none 0 0) ⟨[], [], [], []⟩ := ⟨Own.nil _ _ _ _ _, Own.nil _ _ _ _ _, Own.nil _ _ _ _ _, Own.nil _ _ _ _ _⟩
theorem Valid.le {m : SM} (hv : Valid m) : m.ws.length ≤ 1048576 ∧ m.pend.length ≤ 1048576 ∧ m.tlb.length ≤ 1048576 ∧ m.wc.length ≤ 1048576 := by
  have := hv.frames; have := hv.npend; have := hv.ntlb; have := hv.nwc; omega
/-- The answer is a machine whose lists are the call's own. -/
def MPost (w : World) (m : SM) (e : Ending) (w' : World) : Prop := ∃ u0 u1 u2 u3, e = .returned (.agg #[u0, u1, u2, u3]) ∧ OwnM w.heap.size w' u0 u1 u2 u3 m ∧ Below w.heap.size w w'

set_option maxRecDepth 100000 in
set_option maxHeartbeats 4000000 in
theorem specFill_v (v0 v1 v2 v3 : Value) (m : SM) (page choice : Int) (w : World) (r : RdM w v0 v1 v2 v3 m) (HV : Hid (decide (Valid m) = false)) :
    Calls Try.prog 51 #[.agg #[v0, v1, v2, v3], .int .i64 page, .int .i64 choice] w (MPost w ⟨[], [], [], []⟩) := by
  obtain ⟨A0, c0, A1, c1, A2, c2, A3, c3, rfl, rfl, rfl, rfl, hl0, hk0, hl1, hk1, hl2, hk2, hl3, hk3⟩ := r.shape
  have R := Lib.hid r
  clear r
  go_enter Try.func51, Try.ntmps51
  go_upto_region 1 with fail
  refine ((St.start w).push2 _ _ _ _).gen (fun w1 S1' _ => ?_)
  have S1 := Lib.hid S1'
  clear S1'
  have sT0 := S1.out
  have sT1 := sT0.tail
  obtain ⟨p1_0, p1_1, p1_2, p1_3⟩ := sT1.c4
  have sT2 := sT1.tail
  clear sT0 sT1 sT2
  go_upto_region 2 with (first | (go_at_call 88; refine (valid_b _ _ _ _ m false _ (R.out.below S1.out.b) HV.out).mono ?_; rintro e w2 ⟨rfl, hb2⟩; have S2 := Lib.hid (S1.out.below hb2); clear hb2))
  clear p1_0 p1_1 p1_2 p1_3
  have sT0 := S2.out
  obtain ⟨p0_0, p0_1, p0_2, p0_3⟩ := sT0.c4
  have pF0_0 := sT0.f 0
  have pF0_1 := sT0.f 1
  have pF0_2 := sT0.f 2
  have pF0_3 := sT0.f 3
  have sT1 := sT0.tail
  clear sT0 sT1
  go_wp2
  refine bodyPost_ret (v := .agg #[.slice none 0 0, .slice none 0 0, .slice none 0 0, .slice none 0 0]) (by simp [results, Try.results51, go_sem, *]) rfl ⟨_, _, _, _, rfl, nilM _ _, (S2.out.s0 _ _ _ _).b⟩

set_option maxRecDepth 100000 in
set_option maxHeartbeats 4000000 in
theorem specFill_p (v0 v1 v2 v3 : Value) (m : SM) (page choice : Int) (w : World) (r : RdM w v0 v1 v2 v3 m) (HV : Hid (decide (Valid m) = true)) (HP : Hid (decide (0 ≤ page ∧ page < 4096) = false)) :
    Calls Try.prog 51 #[.agg #[v0, v1, v2, v3], .int .i64 page, .int .i64 choice] w (MPost w ⟨[], [], [], []⟩) := by
  obtain ⟨A0, c0, A1, c1, A2, c2, A3, c3, rfl, rfl, rfl, rfl, hl0, hk0, hl1, hk1, hl2, hk2, hl3, hk3⟩ := r.shape
  have R := Lib.hid r
  clear r
  go_enter Try.func51, Try.ntmps51
  go_upto_region 1 with fail
  refine ((St.start w).push2 _ _ _ _).gen (fun w1 S1' _ => ?_)
  have S1 := Lib.hid S1'
  clear S1'
  have sT0 := S1.out
  have sT1 := sT0.tail
  obtain ⟨p1_0, p1_1, p1_2, p1_3⟩ := sT1.c4
  have sT2 := sT1.tail
  clear sT0 sT1 sT2
  go_upto_region 2 with (first | (go_at_call 88; refine (valid_b _ _ _ _ m true _ (R.out.below S1.out.b) HV.out).mono ?_; rintro e w2 ⟨rfl, hb2⟩; have S2 := Lib.hid (S1.out.below hb2); clear hb2) | (go_at_call 66; refine (pageOk_b _ false HP.out _).mono ?_; rintro e w2 ⟨rfl, rfl⟩))
  clear p1_0 p1_1 p1_2 p1_3
  have sT0 := S2.out
  obtain ⟨p0_0, p0_1, p0_2, p0_3⟩ := sT0.c4
  have pF0_0 := sT0.f 0
  have pF0_1 := sT0.f 1
  have pF0_2 := sT0.f 2
  have pF0_3 := sT0.f 3
  have sT1 := sT0.tail
  clear sT0 sT1
  go_wp2
  refine bodyPost_ret (v := .agg #[.slice none 0 0, .slice none 0 0, .slice none 0 0, .slice none 0 0]) (by simp [results, Try.results51, go_sem, *]) rfl ⟨_, _, _, _, rfl, nilM _ _, (S2.out.s0 _ _ _ _).b⟩

set_option maxRecDepth 100000 in
set_option maxHeartbeats 4000000 in
theorem specFill_c (v0 v1 v2 v3 : Value) (m : SM) (page choice : Int) (w : World) (r : RdM w v0 v1 v2 v3 m) (HV : Hid (decide (Valid m) = true)) (HP : Hid (decide (0 ≤ page ∧ page < 4096) = true)) (HC : Hid (decide (0 ≤ choice ∧ choice ≤ 65535) = false)) :
    Calls Try.prog 51 #[.agg #[v0, v1, v2, v3], .int .i64 page, .int .i64 choice] w (MPost w ⟨[], [], [], []⟩) := by
  obtain ⟨A0, c0, A1, c1, A2, c2, A3, c3, rfl, rfl, rfl, rfl, hl0, hk0, hl1, hk1, hl2, hk2, hl3, hk3⟩ := r.shape
  have R := Lib.hid r
  clear r
  go_enter Try.func51, Try.ntmps51
  go_upto_region 1 with fail
  refine ((St.start w).push2 _ _ _ _).gen (fun w1 S1' _ => ?_)
  have S1 := Lib.hid S1'
  clear S1'
  have sT0 := S1.out
  have sT1 := sT0.tail
  obtain ⟨p1_0, p1_1, p1_2, p1_3⟩ := sT1.c4
  have sT2 := sT1.tail
  clear sT0 sT1 sT2
  go_upto_region 2 with (first | (go_at_call 88; refine (valid_b _ _ _ _ m true _ (R.out.below S1.out.b) HV.out).mono ?_; rintro e w2 ⟨rfl, hb2⟩; have S2 := Lib.hid (S1.out.below hb2); clear hb2) | (go_at_call 66; refine (pageOk_b _ true HP.out _).mono ?_; rintro e w2 ⟨rfl, rfl⟩) | (go_at_call 112; refine (choiceOk_b _ false _ HC.out).mono ?_; rintro e w2 ⟨rfl, rfl⟩))
  clear p1_0 p1_1 p1_2 p1_3
  have sT0 := S2.out
  obtain ⟨p0_0, p0_1, p0_2, p0_3⟩ := sT0.c4
  have pF0_0 := sT0.f 0
  have pF0_1 := sT0.f 1
  have pF0_2 := sT0.f 2
  have pF0_3 := sT0.f 3
  have sT1 := sT0.tail
  clear sT0 sT1
  go_wp2
  refine bodyPost_ret (v := .agg #[.slice none 0 0, .slice none 0 0, .slice none 0 0, .slice none 0 0]) (by simp [results, Try.results51, go_sem, *]) rfl ⟨_, _, _, _, rfl, nilM _ _, (S2.out.s0 _ _ _ _).b⟩

set_option maxRecDepth 100000 in
set_option maxHeartbeats 4000000 in
theorem specFill_good (v0 v1 v2 v3 : Value) (m : SM) (page choice : Int) (w : World) (r : RdM w v0 v1 v2 v3 m) (hwf : WfM m) (HV : Hid (decide (Valid m) = true)) (HP : Hid (decide (0 ≤ page ∧ page < 4096) = true)) (HC : Hid (decide (0 ≤ choice ∧ choice ≤ 65535) = true)) :
    Calls Try.prog 51 #[.agg #[v0, v1, v2, v3], .int .i64 page, .int .i64 choice] w (MPost w (walkP m page choice).1) := by
  obtain ⟨A0, c0, A1, c1, A2, c2, A3, c3, rfl, rfl, rfl, rfl, hl0, hk0, hl1, hk1, hl2, hk2, hl3, hk3⟩ := r.shape
  have R := Lib.hid r
  have WK := Lib.hid (Valid.walkable (of_decide_eq_true HV.out) hwf)
  obtain ⟨g, hg⟩ : ∃ x, walkP m page choice = x := ⟨_, rfl⟩
  have HG := Lib.hid hg
  rw [hg]
  clear r hwf hg
  go_enter Try.func51, Try.ntmps51
  go_upto_region 1 with fail
  refine ((St.start w).push2 _ _ _ _).gen (fun w1 S1' _ => ?_)
  have S1 := Lib.hid S1'
  clear S1'
  have sT0 := S1.out
  have sT1 := sT0.tail
  obtain ⟨p1_0, p1_1, p1_2, p1_3⟩ := sT1.c4
  have sT2 := sT1.tail
  clear sT0 sT1 sT2
  go_upto_region 3 with (first | (go_at_call 88; refine (valid_b _ _ _ _ m true _ (R.out.below S1.out.b) HV.out).mono ?_; rintro e w2 ⟨rfl, hb2⟩; have S2 := Lib.hid (S1.out.below hb2); clear hb2) | (go_at_call 66; refine (pageOk_b _ true HP.out _).mono ?_; rintro e w2 ⟨rfl, rfl⟩) | (go_at_call 112; refine (choiceOk_b _ true _ HC.out).mono ?_; rintro e w2 ⟨rfl, rfl⟩))
  clear p1_0 p1_1 p1_2 p1_3
  have sT0 := S2.out
  have sT1 := sT0.tail
  obtain ⟨p1_0, p1_1, p1_2, p1_3⟩ := sT1.c4
  have sT2 := sT1.tail
  clear sT0 sT1 sT2
  go_wp2_with fail
  refine (specCopy_any _ _ _ _ m _ (R.out.below S2.out.b) (Valid.le (of_decide_eq_true HV.out))).mono ?_
  rintro e w3 ⟨u0, u1, u2, u3, rfl, o3, hb3⟩
  obtain ⟨B0, d0, B1, d1, B2, d2, B3, d3, rfl, rfl, rfl, rfl⟩ := o3.shape
  have O3 := Lib.hid (o3.lower S2.out.b.size)
  have S3 := Lib.hid (S2.out.below hb3)
  clear o3 hb3 S2
  clear p1_0 p1_1 p1_2 p1_3
  go_wp2_with fail
  refine (specWalk_any page choice (of_decide_eq_true HP.out) (of_decide_eq_true HC.out) w.heap.size _ _ _ _ m _ O3.out S3.out.b.size WK.out g HG.out).mono ?_
  rintro e w4 ⟨u0, u1, u2, u3, rfl, o4, hb4⟩
  obtain ⟨C0, f0, C1, f1, C2, f2, C3, f3, rfl, rfl, rfl, rfl⟩ := o4.shape
  have O4 := Lib.hid o4
  have S4 := Lib.hid (S3.out.below hb4)
  clear o4 hb4 S3
  go_upto_region 4 with fail
  refine st_genO (S4.out.push2 _ _ _ _) (O4.out.below (allocB (allocB (Below.refl _ _) _) _)) (fun w5 S5' O5' => ?_)
  have S5 := Lib.hid S5'
  have O5 := Lib.hid O5'
  clear S5' O5' S4 O4
  have sT0 := S5.out
  have sT1 := sT0.tail
  obtain ⟨p1_0, p1_1, p1_2, p1_3⟩ := sT1.c4
  have sT2 := sT1.tail
  obtain ⟨p2_0, p2_1, p2_2, p2_3⟩ := sT2.c4
  have pF2_0 := sT2.f 0
  have pF2_1 := sT2.f 1
  have pF2_2 := sT2.f 2
  have pF2_3 := sT2.f 3
  have sT3 := sT2.tail
  clear sT0 sT1 sT2 sT3
  go_wp2
  refine bodyPost_ret (v := .agg #[.slice C0 g.1.ws.length f0, .slice C1 g.1.pend.length f1, .slice C2 g.1.tlb.length f2, .slice C3 g.1.wc.length f3]) (by simp [results, Try.results51, go_sem, *]) rfl ⟨_, _, _, _, rfl, O5.out.set4 S5.out.tail.tail.head (by decide) _ _ _ _, (S5.out.s2 _ _ _ _).b⟩

theorem specFill_any (v0 v1 v2 v3 : Value) (m : SM) (page choice : Int) (w : World) (r : RdM w v0 v1 v2 v3 m) (hwf : WfM m) :
    Calls Try.prog 51 #[.agg #[v0, v1, v2, v3], .int .i64 page, .int .i64 choice] w (MPost w (fillS m page choice)) := by
  unfold fillS
  by_cases hv : Valid m
  rotate_left
  · rw [if_neg (fun h => hv h.1)]; exact specFill_v v0 v1 v2 v3 m page choice w r (Lib.hid (decide_eq_false hv))
  by_cases hp : 0 ≤ page ∧ page < 4096
  rotate_left
  · rw [if_neg (fun h => hp h.2.1)]; exact specFill_p v0 v1 v2 v3 m page choice w r (Lib.hid (decide_eq_true hv)) (Lib.hid (decide_eq_false hp))
  by_cases hc : 0 ≤ choice ∧ choice ≤ 65535
  rotate_left
  · rw [if_neg (fun h => hc h.2.2)]; exact specFill_c v0 v1 v2 v3 m page choice w r (Lib.hid (decide_eq_true hv)) (Lib.hid (decide_eq_true hp)) (Lib.hid (decide_eq_false hc))
  · rw [if_pos ⟨hv, hp, hc⟩]; exact specFill_good v0 v1 v2 v3 m page choice w r hwf (Lib.hid (decide_eq_true hv)) (Lib.hid (decide_eq_true hp)) (Lib.hid (decide_eq_true hc))
end Go.Proofs.Ytemfnbcebgflmaa.Mmu
