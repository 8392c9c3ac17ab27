/- Walk of the program's Places. -/
import Derived.Test.YtemfnbcebgflmaaImplTree
namespace Go.Proofs.Ytemfnbcebgflmaa.Mmu
open Go.RowKit Go.Maps Go.Proofs.Ytemfnbcebgflmaa.Base Go.Proofs.Ytemfnbcebgflmaa.Kinds Go.Proofs.Ytemfnbcebgflmaa.DecMath Go.Proofs.Ytemfnbcebgflmaa.L1
set_option linter.unusedVariables false
set_option linter.unusedSimpArgs false
set_option maxRecDepth 100000 in
set_option maxHeartbeats 8000000 in
theorem implPlacesF_any (v0 : Value) (ws : List Int) (w : World) (r : Rd wEnc 1 w v0 ws) (hr : ∀ x ∈ ws, 0 ≤ x ∧ x < 18446744073709551616) :
    Calls Try.prog 37 #[.agg #[v0]] w (P2Post w (placesS ws)) := by
  obtain ⟨A0, c0, e0, hc1, hc2⟩ := r.shape
  subst e0
  have R := Lib.hid r
  clear r
  by_cases hok : okLen ws
  rotate_left
  · have HM : Hid (decide (ws.length % 16 = 0 ∧ 16 ≤ ws.length ∧ ws.length ≤ 8192) = false) := Lib.hid (decide_eq_false hok)
    have HS : Hid (placesS ws = ([], false)) := Lib.hid (if_neg hok)
    clear hok hr
    go_enter Try.func37, Try.ntmps37
    go_upto_region 1 with fail
    refine ((St.start w).push _ _).gen (fun w1 S1' _ => ?_)
    have S1 := Lib.hid S1'
    clear S1'
    have sT0 := S1.out
    have p0_0 := sT0.c1
    have sT1 := sT0.tail
    clear sT0 sT1
    go_wp2_with (go_at_call 74; refine (memOK_any A0 ws.length c0 _ hc1 hc2).mono ?_; rw [HM.out]; rintro e w2 ⟨rfl, hb2⟩; have S2 := Lib.hid (S1.out.below hb2); clear hb2)
    go_ret2
    rw [HS.out]
    exact ⟨_, rfl, Own.nil _ _ _ _ _, S2.out.b⟩
  have HM : Hid (decide (ws.length % 16 = 0 ∧ 16 ≤ ws.length ∧ ws.length ≤ 8192) = true) := Lib.hid (decide_eq_true hok)
  have HWF : Hid (WfW ws) := Lib.hid ⟨hr, hok.1, hok.2.1, hok.2.2⟩
  obtain ⟨ps, hps⟩ : ∃ l, placesP ws 2 ⟨0, 1, 0⟩ = l := ⟨_, rfl⟩
  have HPS := Lib.hid hps
  have HS : Hid (placesS ws = (ps, treeP ws ps)) := Lib.hid (by unfold placesS; rw [if_pos hok, hps])
  have HIN : Hid (∀ q ∈ ps, inP ws q) := Lib.hid (by rw [← hps]; exact placesP_in ws 2 _ (by simp) (root_in hok).1 (root_in hok).2)
  have HLN : Hid (ps.length ≤ 1000) := Lib.hid (by rw [← hps]; exact Nat.le_trans (placesP_len ws 2 _) (Nat.le_trans (maxP_le (by omega)) (by omega)))
  clear hps hok hr
  go_enter Try.func37, Try.ntmps37
  go_upto_region 1 with fail
  refine ((St.start w).push _ _).gen (fun w1 S1' _ => ?_)
  have S1 := Lib.hid S1'
  clear S1'
  have sT0 := S1.out
  have p0_0 := sT0.c1
  have sT1 := sT0.tail
  clear sT0 sT1
  go_upto_region 3 with (go_at_call 74; refine (memOK_any A0 ws.length c0 _ hc1 hc2).mono ?_; rw [HM.out]; rintro e w2 ⟨rfl, hb2⟩; have S2 := Lib.hid (S1.out.below hb2); clear hb2)
  clear p0_0
  have sT0 := S2.out
  have p0_0 := sT0.c1
  have sT1 := sT0.tail
  clear sT0 sT1
  go_upto_region 4 with (go_at_call 81; refine (implPlaces_any _ ws _ (R.out.below S2.out.b) HWF.out).mono ?_; rw [HPS.out]; rintro e w3 ⟨v3, rfl, o3, hb3⟩; obtain ⟨A3, c3, hv3⟩ := o3.shape; subst hv3; have S3 := Lib.hid (S2.out.below hb3); have O3 := Lib.hid (o3.lower S2.out.b.size); clear hb3 o3)
  clear p0_0
  have sT0 := S3.out
  have p0_0 := sT0.c1
  have sT1 := sT0.tail
  clear sT0 sT1
  go_wp2_with (go_at_call 82; refine (tree_any _ _ ws ps _ (R.out.below S3.out.b) HWF.out (O3.out.rd SPlace.len) HIN.out HLN.out).mono ?_; rintro e w4 ⟨rfl, hb4⟩; have S4 := Lib.hid (S3.out.below hb4); have O4 := Lib.hid (O3.out.below hb4); clear hb4)
  go_ret2
  rw [HS.out]
  exact ⟨_, rfl, O4.out, S4.out.b⟩
end Go.Proofs.Ytemfnbcebgflmaa.Mmu
