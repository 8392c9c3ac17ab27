/- Walk of the program's same. -/
import Derived.Test.YtomomaoncmgfpaaL1
import Derived.Test.YtomomaoncmgfpaaMachG
namespace Go.Proofs.Ytomomaoncmgfpaa.Mmu
open Go.RowKit Go.Proofs.Ytomomaoncmgfpaa.Base Go.Proofs.Ytomomaoncmgfpaa.Kinds Go.Proofs.Ytomomaoncmgfpaa.DecMath Go.Proofs.Ytomomaoncmgfpaa.L1
set_option linter.unusedVariables false
set_option linter.unusedSimpArgs false
def STlb.wval (x : STlb) : Value := .agg #[.int .i64 x.Page, .int .i64 x.Size, .bool x.Doomed, .int .i64 x.Out, .int .i64 x.Perm]
set_option maxRecDepth 100000 in
set_option maxHeartbeats 4000000 in
theorem sameI_any (a b : STlb) (w : World) : Calls Try.prog 59 #[STlb.wval a, STlb.wval b] w fun ex w' => ex = .returned (.bool (decide (sameP a b))) ∧ Below w.heap.size w w' := by
  obtain ⟨pg, sz, out, pm, dm⟩ := a
  obtain ⟨pg', sz', out', pm', dm'⟩ := b
  simp only [STlb.wval]
  go_enter Try.func59, Try.ntmps59
  go_wp2
  all_goals (go_ret; exact ⟨ret_bool (by rw [Bool.eq_iff_iff, decide_eq_true_iff]; simp [sameP] at *; try omega), allocB (allocB (Below.refl _ _) _) _⟩)
end Go.Proofs.Ytomomaoncmgfpaa.Mmu
