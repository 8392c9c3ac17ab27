/- A region that draws its order, whose operations only read and whose callees read and lay blocks of their own, walked once: the class of worlds is 'what was there is as it was'. -/
import Derived.Test.YtemfnbcebgflmaaBase
import Derived.Deep.QuietTactic
namespace Go.Proofs.Ytemfnbcebgflmaa.Base
open Go.RowKit
set_option linter.unusedVariables false

/-- A world in which all that was there is as it was. -/
structure BW (w : World) where
  x : World
  h : Below w.heap.size w x
instance (w : World) : Inhabited (BW w) := ⟨⟨w, Below.refl _ _⟩⟩

theorem wp_region_below {P : Program} {id : Nat} {Q : Exit → Act → World → Prop} {a : Act} {w : World} {l : List Oper} (hm : P.follows .mixedOrders = true) (hB : Region.lexB .any l.toArray = true)
    (h : wpQuiet P l.toArray (fun w' => ∃ p : BW w, w' = p.x) (fun a' => ∀ w', (∃ p : BW w, w' = p.x) → Q .normal a' w') l a) : (Code.region id l.toArray true).wp P Q a w :=
  wp_region_quiet (C := fun w' => ∃ p : BW w, w' = p.x) hm hB ⟨⟨w.drew, below_drewN (Below.refl _ _) 1⟩, rfl⟩ (by simpa using h)

/-- A cell that was there, in every world of the class. -/
theorem BW.cell {w : World} {a : Addr} {v : Value} (h : w.cell? a = some v) (p : BW w) : p.x.cell? a = some v := (p.h.cell (World.block_lt_of_cell? _ _ h)).trans h
/-- A callee's contract, met in a world of the class. -/
theorem BW.calls {P : Program} {f : FuncId} {args : Array Value} {w : World} {p : BW w} {v : Value} (h : Calls P f args p.x fun e w' => e = .returned v ∧ Below p.x.heap.size p.x w') :
    Calls P f args p.x fun e w' => e = .returned v ∧ ∃ q : BW w, w' = q.x :=
  h.mono fun e w' ⟨he, hb⟩ => ⟨he, ⟨w', thenB p.h hb⟩, rfl⟩
theorem BW.same {P : Program} {f : FuncId} {args : Array Value} {w : World} {p : BW w} {v : Value} (h : Calls P f args p.x fun e w' => e = .returned v ∧ w' = p.x) :
    Calls P f args p.x fun e w' => e = .returned v ∧ ∃ q : BW w, w' = q.x :=
  h.mono fun e w' ⟨he, hb⟩ => ⟨he, p, hb⟩

end Go.Proofs.Ytemfnbcebgflmaa.Base
