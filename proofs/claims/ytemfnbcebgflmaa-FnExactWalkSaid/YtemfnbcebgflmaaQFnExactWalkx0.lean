/- The printed functions of the law FnExactWalk, in a slimmer setting. -/
import Derived.Test.YtemfnbcebgflmaaProg
import Derived.Below
import Derived.Deep.Draws
import Derived.Deep.AppendLies
import Derived.Maps.AppendAt
import Derived.OwnWalk
import Derived.Laws.BytesArg
import Derived.Laws.MakeOwn
import Derived.Laws.OwnMore
import Derived.Deep.OwnRows
import Derived.Tactics
import Derived.Lib.ConvBytes
import Derived.Laws.Slices
import Derived.WalkKit
import Derived.KernelRfl
import Derived.RowKit3
import Derived.Deep.LoopGhost
import Derived.Deep.QuietTactic
import Derived.BigQuiet
import Derived.WideLaws
import Derived.Deep.DeepCutAuto
import Derived.Deep.CutBlock
import Derived.Deep.RegionHeld3
import Derived.Laws.Rows
import Derived.Lib.AppendStr
import Derived.ArgAppend
import Derived.Laws.IdiomCopy
import Derived.OrdersHeld
import Derived.Laws.BitsLemmas
import Derived.RowKit
import Derived.Test.YtemfnbcebgflmaaWWords
import Derived.Test.YtemfnbcebgflmaaWLast
import Derived.Test.YtemfnbcebgflmaaWTab
import Derived.Test.YtemfnbcebgflmaaWFour
import Derived.Test.YtemfnbcebgflmaaWQPut
import Derived.Test.YtemfnbcebgflmaaWApart
import Derived.Test.YtemfnbcebgflmaaWArr
import Derived.Test.YtemfnbcebgflmaaWZeros
import Derived.Test.YtemfnbcebgflmaaWFoot
import Derived.Test.YtemfnbcebgflmaaWKept
import Derived.Test.YtemfnbcebgflmaaWShare
import Derived.Test.YtemfnbcebgflmaaWN
import Derived.Test.YtemfnbcebgflmaaWFootNe
import Derived.Test.YtemfnbcebgflmaaWAt
import Derived.Test.YtemfnbcebgflmaaWEqStruct
import Derived.Test.YtemfnbcebgflmaaWRepsOne
import Derived.Test.YtemfnbcebgflmaaWInv
import Derived.Test.YtemfnbcebgflmaaWInvWords
import Derived.Test.YtemfnbcebgflmaaWGuard
import Derived.Test.YtemfnbcebgflmaaWNEv
import Derived.Test.YtemfnbcebgflmaaWMore
namespace Go.Proofs.Ytemfnbcebgflmaa.PFnExactWalk
open Go.RowKit Go.Proofs.YtemfnbcebgflmaaW.PrintWords Go.Proofs.YtemfnbcebgflmaaW.PrintLast Go.Proofs.YtemfnbcebgflmaaW.PrintMore
attribute [local go_sem] max2_int min2_int max_two min_two max_three min_three max_four min_four   -- for this text's walks alone
set_option linter.unusedVariables false
set_option linter.unusedSimpArgs false



def errW : Option Int → Value
 | none => .nilIface
 | some c => .iface 0 (.int .i64 c)
theorem errW_none : errW none = .nilIface := rfl
theorem errW_some (c : Int) : errW (some c) = .iface 0 (.int .i64 c) := rfl

theorem info23 : (Try.prog.info? 23).map (fun i => (i.zero, i.size, i.bytes)) = some (some (.int .u64 0), 1, 8) := by kernel_rfl
-- the values' own types

end Go.Proofs.Ytemfnbcebgflmaa.PFnExactWalk
