/- Plain words of fills: an entry added, a page covered. No program in sight. -/
import Derived.Test.YthphfcheencbgaaMachG
namespace Go.Proofs.Ythphfcheencbgaa.Mmu
open Go.RowKit Go.Proofs.Ythphfcheencbgaa.Base Go.Proofs.Ythphfcheencbgaa.Kinds Go.Proofs.Ythphfcheencbgaa.DecMath
set_option linter.unusedVariables false
set_option linter.unusedSimpArgs false
/-- An entry more, if it is not there and there is room. -/
def addL {α : Type} [DecidableEq α] (l : List α) (e : α) : List α := if e ∈ l ∨ ¬ l.length < 256 then l else l ++ [e]
theorem addL_len {α : Type} [DecidableEq α] (l : List α) (e : α) : (addL l e).length ≤ l.length + 1 := by unfold addL; split <;> simp
/-- The table's entry covers the page. -/
def wcovP (e : SWc) (p : Int) : Prop := p - p % cov (e.Level - 1) = e.Page
instance (e : SWc) (p : Int) : Decidable (wcovP e p) := by unfold wcovP; infer_instance
theorem cov_pos (l : Int) : 1 ≤ cov l ∧ cov l ≤ 256 := by unfold cov; split <;> (try split) <;> omega
end Go.Proofs.Ythphfcheencbgaa.Mmu
