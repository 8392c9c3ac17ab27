/- Walks of the reference's l2WcCovers and of the program's bit and choiceOK. -/
import Derived.Test.YtemfnbcebgflmaaSpecFill1
import Derived.Test.YtemfnbcebgflmaaQuietB
namespace Go.Proofs.Ytemfnbcebgflmaa.Mmu
open Go.RowKit Go.Proofs.Ytemfnbcebgflmaa.Base Go.Proofs.Ytemfnbcebgflmaa.Kinds Go.Proofs.Ytemfnbcebgflmaa.DecMath Go.Proofs.Ytemfnbcebgflmaa.L1
set_option linter.unusedVariables false
set_option linter.unusedSimpArgs false
/-- The table's entry covers the page. -/
def wcovP (e : SWc) (p : Int) : Prop := p - p % cov (e.Level - 1) = e.Page
instance (e : SWc) (p : Int) : Decidable (wcovP e p) := by unfold wcovP; infer_instance
set_option maxRecDepth 100000 in
set_option maxHeartbeats 4000000 in
theorem wcCovers_any (e : SWc) (p : Int) (w : World) (hl : e.Level = 2 ∨ e.Level = 3) (hp : 0 ≤ p) (hp' : p ≤ 100000) : Calls Try.prog 143 #[e.val, .int .i64 p] w fun ex w' => ex = .returned (.bool (decide (wcovP e p))) ∧ Below w.heap.size w w' := by
  obtain ⟨lv, pg, tb, dm⟩ := e
  simp only [SWc.val]
  rcases hl with hs | hs <;> (simp only at hs; subst hs)
  · have hcv : cov 1 = 256 := rfl
    have hok : Hid (wcovP ⟨2, pg, tb, dm⟩ p ↔ p - p % 256 = pg) := Lib.hid Iff.rfl
    go_enter Try.func143, Try.ntmps143
    go_wp2
    go_quiet (first | (go_at_call 127; refine Calls.quiet_of_same (covers_b _ 256 hcv _)))
    go_wp2
    all_goals (go_ret; exact ⟨ret_bool (by rw [Bool.eq_iff_iff, decide_eq_true_iff, hok.out]; simp; try omega), by repeat (first | exact Below.refl _ _ | apply allocB | apply below_drewN)⟩)
  · have hcv : cov 2 = 16 := rfl
    have hok : Hid (wcovP ⟨3, pg, tb, dm⟩ p ↔ p - p % 16 = pg) := Lib.hid Iff.rfl
    go_enter Try.func143, Try.ntmps143
    go_wp2
    go_quiet (first | (go_at_call 127; refine Calls.quiet_of_same (covers_b _ 16 hcv _)))
    go_wp2
    all_goals (go_ret; exact ⟨ret_bool (by rw [Bool.eq_iff_iff, decide_eq_true_iff, hok.out]; simp; try omega), by repeat (first | exact Below.refl _ _ | apply allocB | apply below_drewN)⟩)
end Go.Proofs.Ytemfnbcebgflmaa.Mmu
