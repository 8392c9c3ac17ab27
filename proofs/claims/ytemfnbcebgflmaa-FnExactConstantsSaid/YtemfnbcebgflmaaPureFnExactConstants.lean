import Derived.Test.YtemfnbcebgflmaaPFnExactConstantsx1
namespace Go.Proofs.Ytemfnbcebgflmaa.Pure
open Go.RowKit Go.Proofs.Ytemfnbcebgflmaa.PFnExactConstants Go.Proofs.YtemfnbcebgflmaaW.PrintWords Go.Proofs.YtemfnbcebgflmaaW.PrintLast

/-- YOURS: laws_FnExactConstants.f  = some true
What it reaches (each with k first where it has rounds; `.mono`: more rounds tell the same; `.l0`, ..: its loops, with `.mono_l`): laws_FnExactConstants.f -/
theorem FnExactConstants : laws_FnExactConstants.Pure := by
  rfl

end Go.Proofs.Ytemfnbcebgflmaa.Pure
