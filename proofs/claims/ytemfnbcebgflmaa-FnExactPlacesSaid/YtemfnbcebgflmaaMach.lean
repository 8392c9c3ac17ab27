/- A machine's four lists, read and owned. Nothing of the program's functions. -/
import Derived.Test.YtemfnbcebgflmaaKinds
import Derived.Test.YtemfnbcebgflmaaRowSet
namespace Go.Proofs.Ytemfnbcebgflmaa.Kinds
open Go.RowKit Go.Proofs.Ytemfnbcebgflmaa.Base
set_option linter.unusedVariables false
set_option linter.unusedSimpArgs false

/-- A machine: the words of its memory, what is pending, the two caches. -/
structure SM where
  ws : List Int
  pend : List SWrite
  tlb : List STlb
  wc : List SWc
  deriving DecidableEq

/-- The value of a machine, read. -/
structure RdM (w : World) (v0 v1 v2 v3 : Value) (m : SM) : Prop where
  ws : Rd wEnc 1 w v0 m.ws
  pend : Rd SWrite.enc 2 w v1 m.pend
  tlb : Rd STlb.enc 5 w v2 m.tlb
  wc : Rd SWc.enc 4 w v3 m.wc
/-- The value of a machine, its lists the call's own. -/
structure OwnM (base : Nat) (w : World) (v0 v1 v2 v3 : Value) (m : SM) : Prop where
  ws : Own wEnc 1 23 base w v0 m.ws
  pend : Own SWrite.enc 2 173 base w v1 m.pend
  tlb : Own STlb.enc 5 124 base w v2 m.tlb
  wc : Own SWc.enc 4 147 base w v3 m.wc

section
variable {w w1 : World} {v0 v1 v2 v3 : Value} {m : SM} {base : Nat}
theorem RdM.below (h : RdM w v0 v1 v2 v3 m) (hb : Below w.heap.size w w1) : RdM w1 v0 v1 v2 v3 m := ⟨h.ws.below hb, h.pend.below hb, h.tlb.below hb, h.wc.below hb⟩
theorem OwnM.below (h : OwnM base w v0 v1 v2 v3 m) (hb : Below w.heap.size w w1) : OwnM base w1 v0 v1 v2 v3 m := ⟨h.ws.below hb, h.pend.below hb, h.tlb.below hb, h.wc.below hb⟩
theorem OwnM.rd (h : OwnM base w v0 v1 v2 v3 m) : RdM w v0 v1 v2 v3 m := ⟨h.ws.rd wLen, h.pend.rd SWrite.len, h.tlb.rd STlb.len, h.wc.rd SWc.len⟩
theorem OwnM.lower {base' : Nat} (h : OwnM base w v0 v1 v2 v3 m) (hb : base' ≤ base) : OwnM base' w v0 v1 v2 v3 m := ⟨h.ws.lower hb, h.pend.lower hb, h.tlb.lower hb, h.wc.lower hb⟩
theorem OwnM.setBelow (h : OwnM base w v0 v1 v2 v3 m) {a : Addr} (ha : a.block < base) (u : Value) : OwnM base (w.setCell a u) v0 v1 v2 v3 m := ⟨h.ws.setBelow ha u, h.pend.setBelow ha u, h.tlb.setBelow ha u, h.wc.setBelow ha u⟩
theorem RdM.shape (h : RdM w v0 v1 v2 v3 m) : ∃ A0 c0 A1 c1 A2 c2 A3 c3, v0 = .slice A0 m.ws.length c0 ∧ v1 = .slice A1 m.pend.length c1 ∧ v2 = .slice A2 m.tlb.length c2 ∧ v3 = .slice A3 m.wc.length c3 ∧
    m.ws.length ≤ c0 ∧ c0 ≤ 9223372036854775807 ∧ m.pend.length ≤ c1 ∧ c1 ≤ 9223372036854775807 ∧ m.tlb.length ≤ c2 ∧ c2 ≤ 9223372036854775807 ∧ m.wc.length ≤ c3 ∧ c3 ≤ 9223372036854775807 := by
  obtain ⟨A0, c0, e0, l0, h0⟩ := h.ws.shape
  obtain ⟨A1, c1, e1, l1, h1⟩ := h.pend.shape
  obtain ⟨A2, c2, e2, l2, h2⟩ := h.tlb.shape
  obtain ⟨A3, c3, e3, l3, h3⟩ := h.wc.shape
  exact ⟨A0, c0, A1, c1, A2, c2, A3, c3, e0, e1, e2, e3, l0, h0, l1, h1, l2, h2, l3, h3⟩
theorem OwnM.shape (h : OwnM base w v0 v1 v2 v3 m) : ∃ A0 c0 A1 c1 A2 c2 A3 c3, v0 = .slice A0 m.ws.length c0 ∧ v1 = .slice A1 m.pend.length c1 ∧ v2 = .slice A2 m.tlb.length c2 ∧ v3 = .slice A3 m.wc.length c3 := by
  obtain ⟨A0, c0, e0⟩ := h.ws.shape
  obtain ⟨A1, c1, e1⟩ := h.pend.shape
  obtain ⟨A2, c2, e2⟩ := h.tlb.shape
  obtain ⟨A3, c3, e3⟩ := h.wc.shape
  exact ⟨A0, c0, A1, c1, A2, c2, A3, c3, e0, e1, e2, e3⟩
end

/-- Rows of different element types lie in different blocks. -/
theorem own_apart {α β : Type} {enc : α → List Value} {enc' : β → List Value} {sz sz' E E' base base' : Nat} {w : World} {v v' : Value} {l : List α} {l' : List β} (hne : E ≠ E') (h : Own enc sz E base w v l) (h' : Own enc' sz' E' base' w v' l') :
    v.ownBlock = none ∨ v.ownBlock ≠ v'.ownBlock := by
  rcases h.2 with ⟨rfl, _⟩ | ⟨g, cap, cur, rfl, hb, hg, _⟩
  · exact Or.inl rfl
  · rcases h'.2 with ⟨rfl, _⟩ | ⟨g', cap', cur', rfl, hb', hg', _⟩
    · exact Or.inr (by simp [Value.ownBlock])
    · refine Or.inr fun e => hne ?_
      simp only [Value.ownBlock, Option.some.injEq] at e
      rw [e, hg'] at hg
      simp only [Option.some.injEq, Obj.cells.injEq] at hg
      exact hg.2.1.symm

/-- The four lists lie below block hi. -/
structure InM (hi : Nat) (v0 v1 v2 v3 : Value) : Prop where
  ws : ∀ k, v0.ownBlock = some k → k < hi
  pend : ∀ k, v1.ownBlock = some k → k < hi
  tlb : ∀ k, v2.ownBlock = some k → k < hi
  wc : ∀ k, v3.ownBlock = some k → k < hi
section
variable {w w1 : World} {v0 v1 v2 v3 : Value} {m : SM} {base lo hi : Nat}
theorem OwnM.inM (h : OwnM base w v0 v1 v2 v3 m) : InM w.heap.size v0 v1 v2 v3 := ⟨fun k e => (h.ws.lt k e).2, fun k e => (h.pend.lt k e).2, fun k e => (h.tlb.lt k e).2, fun k e => (h.wc.lt k e).2⟩
/-- A machine made from block hi on is as it was when what was written lies below. -/
theorem OwnM.within_above (h : OwnM base w v0 v1 v2 v3 m) (hw : Within lo hi w w1) (hb : hi ≤ base) : OwnM base w1 v0 v1 v2 v3 m :=
  ⟨h.ws.within hw (fun k e => Or.inr (by have := h.ws.lt k e; omega)), h.pend.within hw (fun k e => Or.inr (by have := h.pend.lt k e; omega)), h.tlb.within hw (fun k e => Or.inr (by have := h.tlb.lt k e; omega)), h.wc.within hw (fun k e => Or.inr (by have := h.wc.lt k e; omega))⟩
/-- A machine made below block lo is as it was when what was written lies above. -/
theorem OwnM.within_under (h : OwnM base w v0 v1 v2 v3 m) (hw : Within lo hi w w1) (hi' : InM lo v0 v1 v2 v3) : OwnM base w1 v0 v1 v2 v3 m :=
  ⟨h.ws.within hw (fun k e => Or.inl (hi'.ws k e)), h.pend.within hw (fun k e => Or.inl (hi'.pend k e)), h.tlb.within hw (fun k e => Or.inl (hi'.tlb k e)), h.wc.within hw (fun k e => Or.inl (hi'.wc k e))⟩
end

end Go.Proofs.Ytemfnbcebgflmaa.Kinds
