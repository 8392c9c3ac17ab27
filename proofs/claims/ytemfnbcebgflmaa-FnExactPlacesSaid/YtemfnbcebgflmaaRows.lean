/-
  No cell of these rows narrows 'for every input' (looked for: loops, veiled, ifaces, maps, wideKeys, modest, calm, conditions, laid).
  DERIVED. THE GIVEN ROWS OF THIS SEAT. 12 by the template 'for every input the law returns true; each argument reads behind the call as it read before'; 0 by the template 'total and deterministic' (their statements: YtemfnbcebgflmaaTotals.lean).
  GIVEN WITH THE SEED: the statements are not yours to turn. If you find one false, say at which input.
  Laid BY PROGRAM, IN A SANDBOX (cutbox-rows.mjs): the forced cells as the released guide's own fill.sh prints them over the translation 196513ab6adbd693… (all of the seat's roots in one cut). By AI agents, Wed Nov 11 2026. No macro, syntax, notation, axiom, sorry.
-/
import Derived.Test.YtemfnbcebgflmaaChecked
import GoSem.Claim
import GoSem.ClaimJoined
import GoSem.ClaimMapViews
import Derived.JoinedTies
import Derived.KernelRfl
namespace Go.Proofs.Ytemfnbcebgflmaa
/- THE CELL 'sum', in the pinned program and in every row, IS THE sha256 OF THE DUMP (.gsa) THAT YtemfnbcebgflmaaProg.lean LOADS. Nothing in Lean hashes anything: it is a label: what it is worth is what the hold of that sum in a sandbox is worth. -/
noncomputable def Try.pinned : Pinned := { name := "ytemfnbcebgflmaa", sum := "196513ab6adbd693397c4242da04db727c6e73f6096866029a3fd23a210b26b4", checked := Try.checked }
namespace Rows
def none {H : Type} : Left H := { results := [], args := [] }

/-- 'laws.FnExactConstants': WHATEVER THE INPUT: true; the input reads as it did. -/
def fnExactConstantsSpec : ChangeSpec := { name := "fnExactConstants", fn := fun _ => fun
  | [] => { results := [.lit (.bool true)], args := [] }
  | _ => none }
def fnExactConstantsRow : OpenClaim := { program := "ytemfnbcebgflmaa", sum := "196513ab6adbd693397c4242da04db727c6e73f6096866029a3fd23a210b26b4", func := "loop.example/s0047/laws.FnExactConstants", spec := "fnExactConstants", apart := false }
def FnExactConstantsSaid : Prop := fnExactConstantsRow.holds Try.pinned (OpenSpec.ofChange fnExactConstantsSpec)

/-- ITS FALSE NEIGHBOUR: 'it returns false'. Refute it at one input. -/
def fnExactConstantsWrong : ChangeSpec := { name := "fnExactConstants", fn := fun _ => fun
  | [] => { results := [.lit (.bool false)], args := [] }
  | _ => none }
def FnExactConstantsWrongFalsely : Prop := fnExactConstantsRow.holds Try.pinned (OpenSpec.ofChange fnExactConstantsWrong)

/-- 'laws.FnExactDecode': WHATEVER THE INPUT: true; the input reads as it did. -/
def fnExactDecodeSpec : ChangeSpec := { name := "fnExactDecode", fn := fun _ => fun
  | [d1, d2] => { results := [.lit (.bool true)], args := [d1, d2] }
  | _ => none }
def fnExactDecodeRow : OpenClaim := { program := "ytemfnbcebgflmaa", sum := "196513ab6adbd693397c4242da04db727c6e73f6096866029a3fd23a210b26b4", func := "loop.example/s0047/laws.FnExactDecode", spec := "fnExactDecode", apart := false }
def FnExactDecodeSaid : Prop := fnExactDecodeRow.holds Try.pinned (OpenSpec.ofChange fnExactDecodeSpec)

/-- ITS FALSE NEIGHBOUR: 'it returns false'. Refute it at one input. -/
def fnExactDecodeWrong : ChangeSpec := { name := "fnExactDecode", fn := fun _ => fun
  | [d1, d2] => { results := [.lit (.bool false)], args := [d1, d2] }
  | _ => none }
def FnExactDecodeWrongFalsely : Prop := fnExactDecodeRow.holds Try.pinned (OpenSpec.ofChange fnExactDecodeWrong)

/-- 'laws.FnExactValidSpans': WHATEVER THE INPUT: true; the input reads as it did. -/
def fnExactValidSpansSpec : ChangeSpec := { name := "fnExactValidSpans", fn := fun _ => fun
  | [d] => { results := [.lit (.bool true)], args := [d] }
  | _ => none }
def fnExactValidSpansRow : OpenClaim := { program := "ytemfnbcebgflmaa", sum := "196513ab6adbd693397c4242da04db727c6e73f6096866029a3fd23a210b26b4", func := "loop.example/s0047/laws.FnExactValidSpans", spec := "fnExactValidSpans", apart := false }
def FnExactValidSpansSaid : Prop := fnExactValidSpansRow.holds Try.pinned (OpenSpec.ofChange fnExactValidSpansSpec)

/-- ITS FALSE NEIGHBOUR: 'it returns false'. Refute it at one input. -/
def fnExactValidSpansWrong : ChangeSpec := { name := "fnExactValidSpans", fn := fun _ => fun
  | [d] => { results := [.lit (.bool false)], args := [d] }
  | _ => none }
def FnExactValidSpansWrongFalsely : Prop := fnExactValidSpansRow.holds Try.pinned (OpenSpec.ofChange fnExactValidSpansWrong)

/-- 'laws.FnExactEncode': WHATEVER THE INPUT: true; the input reads as it did. -/
def fnExactEncodeSpec : ChangeSpec := { name := "fnExactEncode", fn := fun _ => fun
  | [d1, d2] => { results := [.lit (.bool true)], args := [d1, d2] }
  | _ => none }
def fnExactEncodeRow : OpenClaim := { program := "ytemfnbcebgflmaa", sum := "196513ab6adbd693397c4242da04db727c6e73f6096866029a3fd23a210b26b4", func := "loop.example/s0047/laws.FnExactEncode", spec := "fnExactEncode", apart := false }
def FnExactEncodeSaid : Prop := fnExactEncodeRow.holds Try.pinned (OpenSpec.ofChange fnExactEncodeSpec)

/-- ITS FALSE NEIGHBOUR: 'it returns false'. Refute it at one input. -/
def fnExactEncodeWrong : ChangeSpec := { name := "fnExactEncode", fn := fun _ => fun
  | [d1, d2] => { results := [.lit (.bool false)], args := [d1, d2] }
  | _ => none }
def FnExactEncodeWrongFalsely : Prop := fnExactEncodeRow.holds Try.pinned (OpenSpec.ofChange fnExactEncodeWrong)

/-- 'laws.FnExactAt': WHATEVER THE INPUT: true; the input reads as it did. -/
def fnExactAtSpec : ChangeSpec := { name := "fnExactAt", fn := fun _ => fun
  | [d1, d2] => { results := [.lit (.bool true)], args := [d1, d2] }
  | _ => none }
def fnExactAtRow : OpenClaim := { program := "ytemfnbcebgflmaa", sum := "196513ab6adbd693397c4242da04db727c6e73f6096866029a3fd23a210b26b4", func := "loop.example/s0047/laws.FnExactAt", spec := "fnExactAt", apart := false }
def FnExactAtSaid : Prop := fnExactAtRow.holds Try.pinned (OpenSpec.ofChange fnExactAtSpec)

/-- ITS FALSE NEIGHBOUR: 'it returns false'. Refute it at one input. -/
def fnExactAtWrong : ChangeSpec := { name := "fnExactAt", fn := fun _ => fun
  | [d1, d2] => { results := [.lit (.bool false)], args := [d1, d2] }
  | _ => none }
def FnExactAtWrongFalsely : Prop := fnExactAtRow.holds Try.pinned (OpenSpec.ofChange fnExactAtWrong)

/-- 'laws.FnExactWalk': WHATEVER THE INPUT: true; the input reads as it did. -/
def fnExactWalkSpec : ChangeSpec := { name := "fnExactWalk", fn := fun _ => fun
  | [d1, d2] => { results := [.lit (.bool true)], args := [d1, d2] }
  | _ => none }
def fnExactWalkRow : OpenClaim := { program := "ytemfnbcebgflmaa", sum := "196513ab6adbd693397c4242da04db727c6e73f6096866029a3fd23a210b26b4", func := "loop.example/s0047/laws.FnExactWalk", spec := "fnExactWalk", recurses := true, apart := false }
def FnExactWalkSaid : Prop := fnExactWalkRow.holds Try.pinned (OpenSpec.ofChange fnExactWalkSpec)

/-- ITS FALSE NEIGHBOUR: 'it returns false'. Refute it at one input. -/
def fnExactWalkWrong : ChangeSpec := { name := "fnExactWalk", fn := fun _ => fun
  | [d1, d2] => { results := [.lit (.bool false)], args := [d1, d2] }
  | _ => none }
def FnExactWalkWrongFalsely : Prop := fnExactWalkRow.holds Try.pinned (OpenSpec.ofChange fnExactWalkWrong)

/-- 'laws.FnExactTablesNeeded': WHATEVER THE INPUT: true; the input reads as it did. -/
def fnExactTablesNeededSpec : ChangeSpec := { name := "fnExactTablesNeeded", fn := fun _ => fun
  | [d] => { results := [.lit (.bool true)], args := [d] }
  | _ => none }
def fnExactTablesNeededRow : OpenClaim := { program := "ytemfnbcebgflmaa", sum := "196513ab6adbd693397c4242da04db727c6e73f6096866029a3fd23a210b26b4", func := "loop.example/s0047/laws.FnExactTablesNeeded", spec := "fnExactTablesNeeded", apart := false }
def FnExactTablesNeededSaid : Prop := fnExactTablesNeededRow.holds Try.pinned (OpenSpec.ofChange fnExactTablesNeededSpec)

/-- ITS FALSE NEIGHBOUR: 'it returns false'. Refute it at one input. -/
def fnExactTablesNeededWrong : ChangeSpec := { name := "fnExactTablesNeeded", fn := fun _ => fun
  | [d] => { results := [.lit (.bool false)], args := [d] }
  | _ => none }
def FnExactTablesNeededWrongFalsely : Prop := fnExactTablesNeededRow.holds Try.pinned (OpenSpec.ofChange fnExactTablesNeededWrong)

/-- 'laws.FnExactPlaces': WHATEVER THE INPUT: true; the input reads as it did. -/
def fnExactPlacesSpec : ChangeSpec := { name := "fnExactPlaces", fn := fun _ => fun
  | [d] => { results := [.lit (.bool true)], args := [d] }
  | _ => none }
def fnExactPlacesRow : OpenClaim := { program := "ytemfnbcebgflmaa", sum := "196513ab6adbd693397c4242da04db727c6e73f6096866029a3fd23a210b26b4", func := "loop.example/s0047/laws.FnExactPlaces", spec := "fnExactPlaces", unfollowed := true, recurses := true, apart := false }
def FnExactPlacesSaid : Prop := fnExactPlacesRow.holds Try.pinned (OpenSpec.ofChange fnExactPlacesSpec)

/-- ITS FALSE NEIGHBOUR: 'it returns false'. Refute it at one input. -/
def fnExactPlacesWrong : ChangeSpec := { name := "fnExactPlaces", fn := fun _ => fun
  | [d] => { results := [.lit (.bool false)], args := [d] }
  | _ => none }
def FnExactPlacesWrongFalsely : Prop := fnExactPlacesRow.holds Try.pinned (OpenSpec.ofChange fnExactPlacesWrong)

/-- 'laws.FnExactConflict': WHATEVER THE INPUT: true; the input reads as it did. -/
def fnExactConflictSpec : ChangeSpec := { name := "fnExactConflict", fn := fun _ => fun
  | [d] => { results := [.lit (.bool true)], args := [d] }
  | _ => none }
def fnExactConflictRow : OpenClaim := { program := "ytemfnbcebgflmaa", sum := "196513ab6adbd693397c4242da04db727c6e73f6096866029a3fd23a210b26b4", func := "loop.example/s0047/laws.FnExactConflict", spec := "fnExactConflict", apart := false }
def FnExactConflictSaid : Prop := fnExactConflictRow.holds Try.pinned (OpenSpec.ofChange fnExactConflictSpec)

/-- ITS FALSE NEIGHBOUR: 'it returns false'. Refute it at one input. -/
def fnExactConflictWrong : ChangeSpec := { name := "fnExactConflict", fn := fun _ => fun
  | [d] => { results := [.lit (.bool false)], args := [d] }
  | _ => none }
def FnExactConflictWrongFalsely : Prop := fnExactConflictRow.holds Try.pinned (OpenSpec.ofChange fnExactConflictWrong)

/-- 'laws.FnExactDrop': WHATEVER THE INPUT: true; the input reads as it did. -/
def fnExactDropSpec : ChangeSpec := { name := "fnExactDrop", fn := fun _ => fun
  | [d1, d2, d3] => { results := [.lit (.bool true)], args := [d1, d2, d3] }
  | _ => none }
def fnExactDropRow : OpenClaim := { program := "ytemfnbcebgflmaa", sum := "196513ab6adbd693397c4242da04db727c6e73f6096866029a3fd23a210b26b4", func := "loop.example/s0047/laws.FnExactDrop", spec := "fnExactDrop", apart := false }
def FnExactDropSaid : Prop := fnExactDropRow.holds Try.pinned (OpenSpec.ofChange fnExactDropSpec)

/-- ITS FALSE NEIGHBOUR: 'it returns false'. Refute it at one input. -/
def fnExactDropWrong : ChangeSpec := { name := "fnExactDrop", fn := fun _ => fun
  | [d1, d2, d3] => { results := [.lit (.bool false)], args := [d1, d2, d3] }
  | _ => none }
def FnExactDropWrongFalsely : Prop := fnExactDropRow.holds Try.pinned (OpenSpec.ofChange fnExactDropWrong)

/-- 'laws.FnExactFill': WHATEVER THE INPUT: true; the input reads as it did. -/
def fnExactFillSpec : ChangeSpec := { name := "fnExactFill", fn := fun _ => fun
  | [d1, d2, d3] => { results := [.lit (.bool true)], args := [d1, d2, d3] }
  | _ => none }
def fnExactFillRow : OpenClaim := { program := "ytemfnbcebgflmaa", sum := "196513ab6adbd693397c4242da04db727c6e73f6096866029a3fd23a210b26b4", func := "loop.example/s0047/laws.FnExactFill", spec := "fnExactFill", recurses := true, apart := false }
def FnExactFillSaid : Prop := fnExactFillRow.holds Try.pinned (OpenSpec.ofChange fnExactFillSpec)

/-- ITS FALSE NEIGHBOUR: 'it returns false'. Refute it at one input. -/
def fnExactFillWrong : ChangeSpec := { name := "fnExactFill", fn := fun _ => fun
  | [d1, d2, d3] => { results := [.lit (.bool false)], args := [d1, d2, d3] }
  | _ => none }
def FnExactFillWrongFalsely : Prop := fnExactFillRow.holds Try.pinned (OpenSpec.ofChange fnExactFillWrong)

/-- 'laws.FnExactAccess': WHATEVER THE INPUT: true; the input reads as it did. -/
def fnExactAccessSpec : ChangeSpec := { name := "fnExactAccess", fn := fun _ => fun
  | [d1, d2, d3, d4] => { results := [.lit (.bool true)], args := [d1, d2, d3, d4] }
  | _ => none }
def fnExactAccessRow : OpenClaim := { program := "ytemfnbcebgflmaa", sum := "196513ab6adbd693397c4242da04db727c6e73f6096866029a3fd23a210b26b4", func := "loop.example/s0047/laws.FnExactAccess", spec := "fnExactAccess", recurses := true, apart := false }
def FnExactAccessSaid : Prop := fnExactAccessRow.holds Try.pinned (OpenSpec.ofChange fnExactAccessSpec)

/-- ITS FALSE NEIGHBOUR: 'it returns false'. Refute it at one input. -/
def fnExactAccessWrong : ChangeSpec := { name := "fnExactAccess", fn := fun _ => fun
  | [d1, d2, d3, d4] => { results := [.lit (.bool false)], args := [d1, d2, d3, d4] }
  | _ => none }
def FnExactAccessWrongFalsely : Prop := fnExactAccessRow.holds Try.pinned (OpenSpec.ofChange fnExactAccessWrong)

/- THE SECOND FORM. 'bulk': how many values and letters a reading holds, each counted each time it is reached (what is shared counts as often as it is met; a slice's spare places count too). A statement '..UptoSaid' is the law's where the arguments, and the package variables that the reading takes, are together of bulk at most 1048576: NARROWER than '..Said'. Prove '..Said' where nothing that the law and all that it calls make is longer than what came in: it says more and counts as full. Else prove '..UptoSaid'. A law counts once. -/
mutual
def uptoBulk {H : Type} : DataW H → Nat
  | .lit (.string bytes) => bytes.length + 1
  | .lit _ => 1
  | .nil => 1
  | .ptr d => uptoBulk d + 1
  | .slice elems spare => uptoBulkAll elems + uptoBulkAll spare + 1
  | .agg parts => uptoBulkAll parts + 1
  | .iface _ d => uptoBulk d + 1
  | .map entries => uptoBulkEntries entries + 1
  | .held _ => 1
def uptoBulkAll {H : Type} : List (DataW H) → Nat
  | [] => 0
  | d :: r => uptoBulk d + uptoBulkAll r
def uptoBulkEntries {H : Type} : List (Lit × DataW H) → Nat
  | [] => 0
  | x :: r => uptoBulkEntry x + uptoBulkEntries r
def uptoBulkEntry {H : Type} : Lit × DataW H → Nat
  | (.string bytes, d) => bytes.length + uptoBulk d + 1
  | (_, d) => uptoBulk d + 1
 end
def uptoSmall : (H : Type) → List (DataW H) → Bool := fun _ ds => decide (uptoBulkAll ds ≤ 1048576)
def OpenSpec.upto (s : _root_.Go.ChangeSpec) : _root_.Go.OpenSpec := { _root_.Go.OpenSpec.ofChange s with cond := some uptoSmall }

/-- 'laws.FnExactConstants', WHERE WHAT IT READS IS OF BULK AT MOST 1048576: true; the input reads as it did. -/
def fnExactConstantsUptoRow : OpenClaim := { program := "ytemfnbcebgflmaa", sum := "196513ab6adbd693397c4242da04db727c6e73f6096866029a3fd23a210b26b4", func := "loop.example/s0047/laws.FnExactConstants", spec := "fnExactConstants", apart := false, narrowed := true }
def FnExactConstantsUptoSaid : Prop := fnExactConstantsUptoRow.holds Try.pinned (OpenSpec.upto fnExactConstantsSpec)

/-- 'laws.FnExactDecode', WHERE WHAT IT READS IS OF BULK AT MOST 1048576: true; the input reads as it did. -/
def fnExactDecodeUptoRow : OpenClaim := { program := "ytemfnbcebgflmaa", sum := "196513ab6adbd693397c4242da04db727c6e73f6096866029a3fd23a210b26b4", func := "loop.example/s0047/laws.FnExactDecode", spec := "fnExactDecode", apart := false, narrowed := true }
def FnExactDecodeUptoSaid : Prop := fnExactDecodeUptoRow.holds Try.pinned (OpenSpec.upto fnExactDecodeSpec)

/-- 'laws.FnExactValidSpans', WHERE WHAT IT READS IS OF BULK AT MOST 1048576: true; the input reads as it did. -/
def fnExactValidSpansUptoRow : OpenClaim := { program := "ytemfnbcebgflmaa", sum := "196513ab6adbd693397c4242da04db727c6e73f6096866029a3fd23a210b26b4", func := "loop.example/s0047/laws.FnExactValidSpans", spec := "fnExactValidSpans", apart := false, narrowed := true }
def FnExactValidSpansUptoSaid : Prop := fnExactValidSpansUptoRow.holds Try.pinned (OpenSpec.upto fnExactValidSpansSpec)

/-- 'laws.FnExactEncode', WHERE WHAT IT READS IS OF BULK AT MOST 1048576: true; the input reads as it did. -/
def fnExactEncodeUptoRow : OpenClaim := { program := "ytemfnbcebgflmaa", sum := "196513ab6adbd693397c4242da04db727c6e73f6096866029a3fd23a210b26b4", func := "loop.example/s0047/laws.FnExactEncode", spec := "fnExactEncode", apart := false, narrowed := true }
def FnExactEncodeUptoSaid : Prop := fnExactEncodeUptoRow.holds Try.pinned (OpenSpec.upto fnExactEncodeSpec)

/-- 'laws.FnExactAt', WHERE WHAT IT READS IS OF BULK AT MOST 1048576: true; the input reads as it did. -/
def fnExactAtUptoRow : OpenClaim := { program := "ytemfnbcebgflmaa", sum := "196513ab6adbd693397c4242da04db727c6e73f6096866029a3fd23a210b26b4", func := "loop.example/s0047/laws.FnExactAt", spec := "fnExactAt", apart := false, narrowed := true }
def FnExactAtUptoSaid : Prop := fnExactAtUptoRow.holds Try.pinned (OpenSpec.upto fnExactAtSpec)

/-- 'laws.FnExactWalk', WHERE WHAT IT READS IS OF BULK AT MOST 1048576: true; the input reads as it did. -/
def fnExactWalkUptoRow : OpenClaim := { program := "ytemfnbcebgflmaa", sum := "196513ab6adbd693397c4242da04db727c6e73f6096866029a3fd23a210b26b4", func := "loop.example/s0047/laws.FnExactWalk", spec := "fnExactWalk", recurses := true, apart := false, narrowed := true }
def FnExactWalkUptoSaid : Prop := fnExactWalkUptoRow.holds Try.pinned (OpenSpec.upto fnExactWalkSpec)

/-- 'laws.FnExactTablesNeeded', WHERE WHAT IT READS IS OF BULK AT MOST 1048576: true; the input reads as it did. -/
def fnExactTablesNeededUptoRow : OpenClaim := { program := "ytemfnbcebgflmaa", sum := "196513ab6adbd693397c4242da04db727c6e73f6096866029a3fd23a210b26b4", func := "loop.example/s0047/laws.FnExactTablesNeeded", spec := "fnExactTablesNeeded", apart := false, narrowed := true }
def FnExactTablesNeededUptoSaid : Prop := fnExactTablesNeededUptoRow.holds Try.pinned (OpenSpec.upto fnExactTablesNeededSpec)

/-- 'laws.FnExactPlaces', WHERE WHAT IT READS IS OF BULK AT MOST 1048576: true; the input reads as it did. -/
def fnExactPlacesUptoRow : OpenClaim := { program := "ytemfnbcebgflmaa", sum := "196513ab6adbd693397c4242da04db727c6e73f6096866029a3fd23a210b26b4", func := "loop.example/s0047/laws.FnExactPlaces", spec := "fnExactPlaces", unfollowed := true, recurses := true, apart := false, narrowed := true }
def FnExactPlacesUptoSaid : Prop := fnExactPlacesUptoRow.holds Try.pinned (OpenSpec.upto fnExactPlacesSpec)

/-- 'laws.FnExactConflict', WHERE WHAT IT READS IS OF BULK AT MOST 1048576: true; the input reads as it did. -/
def fnExactConflictUptoRow : OpenClaim := { program := "ytemfnbcebgflmaa", sum := "196513ab6adbd693397c4242da04db727c6e73f6096866029a3fd23a210b26b4", func := "loop.example/s0047/laws.FnExactConflict", spec := "fnExactConflict", apart := false, narrowed := true }
def FnExactConflictUptoSaid : Prop := fnExactConflictUptoRow.holds Try.pinned (OpenSpec.upto fnExactConflictSpec)

/-- 'laws.FnExactDrop', WHERE WHAT IT READS IS OF BULK AT MOST 1048576: true; the input reads as it did. -/
def fnExactDropUptoRow : OpenClaim := { program := "ytemfnbcebgflmaa", sum := "196513ab6adbd693397c4242da04db727c6e73f6096866029a3fd23a210b26b4", func := "loop.example/s0047/laws.FnExactDrop", spec := "fnExactDrop", apart := false, narrowed := true }
def FnExactDropUptoSaid : Prop := fnExactDropUptoRow.holds Try.pinned (OpenSpec.upto fnExactDropSpec)

/-- 'laws.FnExactFill', WHERE WHAT IT READS IS OF BULK AT MOST 1048576: true; the input reads as it did. -/
def fnExactFillUptoRow : OpenClaim := { program := "ytemfnbcebgflmaa", sum := "196513ab6adbd693397c4242da04db727c6e73f6096866029a3fd23a210b26b4", func := "loop.example/s0047/laws.FnExactFill", spec := "fnExactFill", recurses := true, apart := false, narrowed := true }
def FnExactFillUptoSaid : Prop := fnExactFillUptoRow.holds Try.pinned (OpenSpec.upto fnExactFillSpec)

/-- 'laws.FnExactAccess', WHERE WHAT IT READS IS OF BULK AT MOST 1048576: true; the input reads as it did. -/
def fnExactAccessUptoRow : OpenClaim := { program := "ytemfnbcebgflmaa", sum := "196513ab6adbd693397c4242da04db727c6e73f6096866029a3fd23a210b26b4", func := "loop.example/s0047/laws.FnExactAccess", spec := "fnExactAccess", recurses := true, apart := false, narrowed := true }
def FnExactAccessUptoSaid : Prop := fnExactAccessUptoRow.holds Try.pinned (OpenSpec.upto fnExactAccessSpec)

end Rows
end Go.Proofs.Ytemfnbcebgflmaa
