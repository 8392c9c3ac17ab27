/- The call's own map[int]bool: what it holds, the look-up, the store. -/
import Derived.Test.YtemfnbcebgflmaaImplTable
import Derived.Maps.OwnOps
import Derived.Maps.Views
namespace Go.Proofs.Ytemfnbcebgflmaa.Mmu
open Go.RowKit Go.Maps Go.Proofs.Ytemfnbcebgflmaa.Base Go.Proofs.Ytemfnbcebgflmaa.Kinds
set_option linter.unusedVariables false
set_option linter.unusedSimpArgs false
theorem lawI : Keyed Try.prog 3 := int_keyed Try.underlying3
theorem zeroB (w : World) : (zeroValue 4).run Try.prog w = .ok (.bool false) w := by kernel_rfl
/-- A bool that reads as a lit. -/
theorem elem_bool_inv {v : Value} {b : Bool} {ps : List MemPlace} (h : plainElem (H := Unit) Try.prog 4 v = some (.lit (.bool b), ps)) : v = .bool b := by
  unfold plainElem at h
  simp only [Try.underlying4] at h
  cases v <;> simp_all
/-- The block b is the call's own map, and holds the numbers of which fs says so. -/
def Seen (w : World) (b n : Nat) (fs : Int → Bool) : Prop :=
  ∃ D : DataW Unit, w.ownsMap Try.prog 3 (plainElem (H := Unit) Try.prog 4) b n D ∧ IsMap D ∧ ∀ x : Int, D.atKey (.int .i64 x) (.lit (.bool false)) = .lit (.bool (fs x))
theorem seen_made (w : World) : Seen (w.alloc (.map #[] 0)) w.heap.size 0 (fun _ => false) := ⟨.map [], World.ownsMap_made w _ _ _, isMap_empty, fun x => rfl⟩
theorem Seen.kept {w w' : World} {b n : Nat} {fs : Int → Bool} {row : Option Nat} (h : Seen w b n fs) (hg : w.grownBy w' row) (hne : some b ≠ row) : Seen w' b n fs := by
  obtain ⟨D, h1, h2, h3⟩ := h
  exact ⟨D, h1.kept hg hne, h2, h3⟩
theorem Seen.below {w w' : World} {b n : Nat} {fs : Int → Bool} (h : Seen w b n fs) (hb : Below w.heap.size w w') : Seen w' b n fs := h.kept (row := none) ⟨hb.os, hb.tape, hb.output, hb.size, fun k hk _ => hb.block k hk⟩ (by simp)
theorem key_wf {x : Int} (h0 : 0 ≤ x) (h1 : x < 65536) : (Lit.int .i64 x).wf = true := by
  have h2 : IntKind.i64.min = -9223372036854775808 := by decide
  simp [Lit.wf, h2]
  omega
/-- The look-up. -/
theorem Seen.look {w : World} {b n : Nat} {fs : Int → Bool} (h : Seen w b n fs) {x : Int} (hx : (Lit.int .i64 x).wf = true) : (Instr.lookup 171 (.map (some b)) (.int .i64 x) false).run Try.prog w = .ok (.bool (fs x)) w := by
  obtain ⟨D, h1, h2, h3⟩ := h
  obtain ⟨v, ps, hr, hv⟩ := h1.lookup lawI Try.underlying171 (zeroB w) (plainElem_bool Try.underlying4 false) (keyOf_int_mk Try.underlying3 hx)
  rw [h3 x] at hv
  rw [hr, elem_bool_inv hv]
/-- The store. -/
theorem Seen.put {w : World} {b n : Nat} {fs : Int → Bool} (h : Seen w b n fs) {x : Int} (hx : (Lit.int .i64 x).wf = true) (hn : n < maxLen) : ∃ w', (Instr.mapUpdate 171 (.map (some b)) (.int .i64 x) (.bool true)).run Try.prog w = .ok () w' ∧ Seen w' b (n + 1) (fun y => decide (y = x) || fs y) ∧ w.grownBy w' (some b) := by
  obtain ⟨D, h1, h2, h3⟩ := h
  obtain ⟨w', hr, ho, hg⟩ := h1.update lawI Try.underlying171 hn (keyOf_int_mk Try.underlying3 hx) (plainElem_bool Try.underlying4 true)
  refine ⟨w', hr, ⟨_, ho, h2.put _ _, fun y => ?_⟩, hg⟩
  by_cases e : y = x
  · subst e
    rw [atKey_put_same (k := .int .i64 y) h2 (by simp [WideAt.IsKeyLit])]
    simp
  · rw [atKey_put_other (by simp [e])]
    rw [h3 y]
    simp [e]
end Go.Proofs.Ytemfnbcebgflmaa.Mmu
