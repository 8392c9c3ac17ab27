/- The law's guard on a machine's bulk, in two halves; cells kept. -/
import Derived.Test.YtemfnbcebgflmaaLawMach
namespace Go.Proofs.Ytemfnbcebgflmaa.Mmu
open Go.RowKit Go.Proofs.Ytemfnbcebgflmaa.Base Go.Proofs.Ytemfnbcebgflmaa.Kinds Go.Proofs.Ytemfnbcebgflmaa.LawsMach
set_option linter.unusedVariables false
set_option linter.unusedSimpArgs false
theorem sz_bad {v0 v1 v2 v3 : Value} (m : SM) (w : World) (r : RdM w v0 v1 v2 v3 m) (hl : ¬ bulk m ≤ 1048576) :
    Calls Try.prog 42 #[.agg #[v0, v1, v2, v3], .int .i64 1048576] w fun e w' => ∃ x : Int, x < 0 ∧ e = .returned (.int .i64 x) ∧ Below w.heap.size w w' := by
  obtain ⟨A0, c0, A1, c1, A2, c2, A3, c3, rfl, rfl, rfl, rfl, hl0, hk0, hl1, hk1, hl2, hk2, hl3, hk3⟩ := r.shape
  refine (sz_any A0 A1 A2 A3 _ c0 _ c1 _ c2 _ c3 w hl0 hk0 hl1 hk1 hl2 hk2 hl3 hk3).mono ?_
  rintro e w' ⟨rfl, hb⟩
  unfold bulk at hl
  exact ⟨_, by rw [if_neg (by omega)]; omega, rfl, hb⟩
theorem sz_good {v0 v1 v2 v3 : Value} (m : SM) (w : World) (r : RdM w v0 v1 v2 v3 m) (hl : bulk m ≤ 1048576) :
    Calls Try.prog 42 #[.agg #[v0, v1, v2, v3], .int .i64 1048576] w fun e w' => ∃ x : Int, ¬ x < 0 ∧ e = .returned (.int .i64 x) ∧ Below w.heap.size w w' := by
  obtain ⟨A0, c0, A1, c1, A2, c2, A3, c3, rfl, rfl, rfl, rfl, hl0, hk0, hl1, hk1, hl2, hk2, hl3, hk3⟩ := r.shape
  refine (sz_any A0 A1 A2 A3 _ c0 _ c1 _ c2 _ c3 w hl0 hk0 hl1 hk1 hl2 hk2 hl3 hk3).mono ?_
  rintro e w' ⟨rfl, hb⟩
  unfold bulk at hl
  exact ⟨_, by rw [if_pos (by omega)]; omega, rfl, hb⟩
theorem keepR {w wb : World} {a1 : Addr} {u0 u1 u2 u3 x0 x1 x2 x3 : Value} {a2 : Addr}
    (m1 : (w.cell? a1 = some u0 ∧ w.cell? ⟨a1.block, 1, none⟩ = some u1 ∧ w.cell? ⟨a1.block, 2, none⟩ = some u2 ∧ w.cell? ⟨a1.block, 3, none⟩ = some u3) ∧ (w.cell? a2 = some x0 ∧ w.cell? ⟨a2.block, 1, none⟩ = some x1 ∧ w.cell? ⟨a2.block, 2, none⟩ = some x2 ∧ w.cell? ⟨a2.block, 3, none⟩ = some x3)) (hb : Below w.heap.size w wb) :
    (wb.cell? a1 = some u0 ∧ wb.cell? ⟨a1.block, 1, none⟩ = some u1 ∧ wb.cell? ⟨a1.block, 2, none⟩ = some u2 ∧ wb.cell? ⟨a1.block, 3, none⟩ = some u3) ∧ (wb.cell? a2 = some x0 ∧ wb.cell? ⟨a2.block, 1, none⟩ = some x1 ∧ wb.cell? ⟨a2.block, 2, none⟩ = some x2 ∧ wb.cell? ⟨a2.block, 3, none⟩ = some x3) := by
  have k : ∀ {a : Addr} {v : Value}, w.cell? a = some v → wb.cell? a = some v := fun h => (hb.cell (World.block_lt_of_cell? _ _ h)).trans h
  obtain ⟨⟨h0, h1, h2, h3⟩, h4, h5, h6, h7⟩ := m1
  exact ⟨⟨k h0, k h1, k h2, k h3⟩, k h4, k h5, k h6, k h7⟩

end Go.Proofs.Ytemfnbcebgflmaa.Mmu
