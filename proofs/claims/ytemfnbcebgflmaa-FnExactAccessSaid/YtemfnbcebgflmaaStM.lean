/- Boxes beside a machine's lists. Nothing of the program's functions. -/
import Derived.Test.YtemfnbcebgflmaaSt
import Derived.Test.YtemfnbcebgflmaaOwnX
namespace Go.Proofs.Ytemfnbcebgflmaa.Kinds
open Go.RowKit Go.Proofs.Ytemfnbcebgflmaa.Base
set_option linter.unusedVariables false
set_option linter.unusedSimpArgs false
theorem off_box {α : Type} {enc : α → List Value} {sz E b T z : Nat} {w : World} {v : Value} {l : List α} {cs : Array Value} (o : Own enc sz E b w v l) (hz : w.heap[z]? = some (.cells cs T)) (hE : E ≠ T) : some z ≠ v.ownBlock := by
  rcases o.2 with ⟨rfl, _⟩ | ⟨g, cap, cur, rfl, hb, hg, _⟩
  · simp [Value.ownBlock]
  · intro e
    simp only [Value.ownBlock, Option.some.injEq] at e
    rw [← e, hz] at hg
    simp only [Option.some.injEq, Obj.cells.injEq] at hg
    exact hE hg.2.1.symm
/-- A box's type is none of the lists' elements. -/
def offT (T : Nat) : Prop := 23 ≠ T ∧ 173 ≠ T ∧ 124 ≠ T ∧ 147 ≠ T
instance (T : Nat) : Decidable (offT T) := by unfold offT; infer_instance
section
variable {base z T : Nat} {w : World} {v0 v1 v2 v3 : Value} {m : SM} {cs : Array Value}
theorem OwnM.set1 (h : OwnM base w v0 v1 v2 v3 m) (hz : w.heap[z]? = some (.cells cs T)) (hT : offT T) (i : Nat) (u : Value) : OwnM base (w.setCell ⟨z, i, none⟩ u) v0 v1 v2 v3 m :=
  ⟨own_setOff h.ws (a := ⟨z, i, none⟩) (off_box h.ws hz hT.1) u, own_setOff h.pend (a := ⟨z, i, none⟩) (off_box h.pend hz hT.2.1) u, own_setOff h.tlb (a := ⟨z, i, none⟩) (off_box h.tlb hz hT.2.2.1) u, own_setOff h.wc (a := ⟨z, i, none⟩) (off_box h.wc hz hT.2.2.2) u⟩
theorem OwnM.set4 (h : OwnM base w v0 v1 v2 v3 m) (hz : w.heap[z]? = some (.cells cs T)) (hT : offT T) (u0 u1 u2 u3 : Value) : OwnM base ((((w.setCell ⟨z, 0, none⟩ u0).setCell ⟨z, 1, none⟩ u1).setCell ⟨z, 2, none⟩ u2).setCell ⟨z, 3, none⟩ u3) v0 v1 v2 v3 m :=
  (((h.set1 hz hT 0 u0).set1 (st_set hz 0 u0) hT 1 u1).set1 (st_set (st_set hz 0 u0) 1 u1) hT 2 u2).set1 (st_set (st_set (st_set hz 0 u0) 1 u1) 2 u2) hT 3 u3
theorem OwnM.drew (h : OwnM base w v0 v1 v2 v3 m) : OwnM base w.drew v0 v1 v2 v3 m := ⟨h.ws.drew, h.pend.drew, h.tlb.drew, h.wc.drew⟩
/-- Two results of four cells each are written. -/
theorem ret_boxes {w0 : World} {l1 l2 : List (Nat × Array Value × Nat)} {b1 b2 T1 T2 : Nat} {a0 a1 a2 a3 c0 c1 c2 c3 : Value} (S : St w0 (l1 ++ (b2, #[a0, a1, a2, a3], T2) :: (b1, #[c0, c1, c2, c3], T1) :: l2) w) (h : OwnM base w v0 v1 v2 v3 m) (h2 : offT T2) (h1 : offT T1) (x0 x1 x2 x3 y0 y1 y2 y3 : Value) :
    OwnM base ((((((((w.setCell ⟨b1, 0, none⟩ x0).setCell ⟨b1, 1, none⟩ x1).setCell ⟨b1, 2, none⟩ x2).setCell ⟨b1, 3, none⟩ x3).setCell ⟨b2, 0, none⟩ y0).setCell ⟨b2, 1, none⟩ y1).setCell ⟨b2, 2, none⟩ y2).setCell ⟨b2, 3, none⟩ y3) v0 v1 v2 v3 m ∧
    Below w0.heap.size w0 ((((((((w.setCell ⟨b1, 0, none⟩ x0).setCell ⟨b1, 1, none⟩ x1).setCell ⟨b1, 2, none⟩ x2).setCell ⟨b1, 3, none⟩ x3).setCell ⟨b2, 0, none⟩ y0).setCell ⟨b2, 1, none⟩ y1).setCell ⟨b2, 2, none⟩ y2).setCell ⟨b2, 3, none⟩ y3) := by
  have S' : St w0 ((l1 ++ [(b2, #[a0, a1, a2, a3], T2)]) ++ (b1, #[c0, c1, c2, c3], T1) :: l2) w := by simpa using S
  have S1 := S'.set4 x0 x1 x2 x3
  have S1' := S1
  simp only [List.append_assoc, List.cons_append, List.nil_append] at S1'
  have S2 := S1'.set4 y0 y1 y2 y3
  exact ⟨(h.set4 (S.blk (b1, #[c0, c1, c2, c3], T1) (by simp)) h1 x0 x1 x2 x3).set4 (S1'.blk (b2, #[a0, a1, a2, a3], T2) (by simp)) h2 y0 y1 y2 y3, S2.b⟩
/-- The world is left behind; what is known of it and of a machine's lists stays. -/
theorem st_genO {w0 : World} {l : List (Nat × Array Value × Nat)} (S : St w0 l w) (h : OwnM base w v0 v1 v2 v3 m) {G : World → Prop} (k : ∀ w', St w0 l w' → OwnM base w' v0 v1 v2 v3 m → G w') : G w := k w S h
end
end Go.Proofs.Ytemfnbcebgflmaa.Kinds
