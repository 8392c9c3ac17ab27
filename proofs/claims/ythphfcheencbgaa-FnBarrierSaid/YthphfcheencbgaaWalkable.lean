/- What a walk asks of a machine, where it begins. No program in sight. -/
import Derived.Test.YthphfcheencbgaaGoMath
namespace Go.Proofs.Ythphfcheencbgaa.Mmu
open Go.RowKit Go.Proofs.Ythphfcheencbgaa.Base Go.Proofs.Ythphfcheencbgaa.Kinds Go.Proofs.Ythphfcheencbgaa.DecMath
set_option linter.unusedVariables false
set_option linter.unusedSimpArgs false
/-- A cell of another block than the four that were written. -/
theorem far4 {w : World} {b : Nat} {a : Addr} {v : Value} (h : w.cell? a = some v) (hb : ¬ b = a.block) (x0 x1 x2 x3 : Value) : ((((w.setCell ⟨b, 0, none⟩ x0).setCell ⟨b, 1, none⟩ x1).setCell ⟨b, 2, none⟩ x2).setCell ⟨b, 3, none⟩ x3).cell? a = some v := by
  have e : ∀ (w : World) (i : Nat) (u : Value), (w.setCell ⟨b, i, none⟩ u).cell? a = w.cell? a := fun w i u => World.cell?_of_block (w := w) (Below.heap_setCell w _ u _ (fun h => hb h.symm))
  rw [e, e, e, e, h]
/-- What a walk asks of a machine. -/
structure Walkable (m : SM) : Prop where
  adr : ∀ x ∈ m.pend, 0 ≤ x.Adr
  small : m.ws.length ≤ 8192
  mod : m.ws.length % 16 = 0
  big : 16 ≤ m.ws.length
  npend : m.pend.length ≤ 10000
  ntlb : m.tlb.length ≤ 256
  nwc : m.wc.length ≤ 256
  wf : WfM m
  wc : ∀ e ∈ m.wc, okWc ((m.ws.length / 16 : Nat) : Int) e
theorem Valid.walkable {m : SM} (v : Valid m) (wf : WfM m) : Walkable m :=
  ⟨fun x hx => (v.pend x hx).1, v.frames.2.2, v.frames.1, v.frames.2.1, v.npend, v.ntlb, v.nwc, wf, v.wc⟩
theorem find_at {α : Type} {p : α → Bool} {l : List α} {k : Nat} {e : α} (h : l[k]? = some e) (hp : p e = true) (hall : ∀ j, j < k → ∀ x, l[j]? = some x → p x = false) : l.find? p = some e := by
  induction l generalizing k with
  | nil => simp at h
  | cons y l ih =>
    cases k with
    | zero => simp at h; subst h; simp [hp]
    | succ k =>
      have h0 : p y = false := hall 0 (by omega) y rfl
      rw [List.find?_cons, h0]
      exact ih (by simpa using h) (fun j hj x hx => hall (j + 1) (by omega) x (by simpa using hx))
theorem find_none {α : Type} {p : α → Bool} {l : List α} (hall : ∀ (j : Nat) (x : α), l[j]? = some x → p x = false) : l.find? p = none := by
  rw [List.find?_eq_none]
  intro x hx
  obtain ⟨j, hj⟩ := List.getElem?_of_mem hx
  simp [hall j x hj]
/-- No entry of the level covers the page, up to k. -/
def noneB (m : SM) (page L : Int) (k : Nat) : Prop := ∀ j, j < k → ∀ x, m.wc[j]? = some x → ¬ (x.Level = L ∧ wcovP x page)
theorem begin_off {m : SM} {page choice : Int} (h : bitB choice 0 = false) : beginP m page choice = (1, 0, false) := by unfold beginP; rw [if_neg (by simp [h])]
theorem begin_hit {m : SM} {page choice L : Int} {k : Nat} {e : SWc} (h : bitB choice 0 = true) (hL : L = 2 ∨ L = 3) (he : m.wc[k]? = some e) (h1 : e.Level = L) (h2 : wcovP e page) (hk : noneB m page L k) (ha : ∀ L', L < L' → L' ≤ 3 → noneB m page L' m.wc.length) :
    beginP m page choice = (L, e.Table, e.Doomed) := by
  unfold beginP
  rw [if_pos h]
  rcases hL with rfl | rfl
  · rw [find_none (p := fun e => decide (e.Level = 3 ∧ wcovP e page)) (fun j x hx => decide_eq_false (ha 3 (by decide) (by decide) j (List.getElem?_eq_some_iff.1 hx).1 x hx)),
      find_at (p := fun e => decide (e.Level = 2 ∧ wcovP e page)) he (decide_eq_true ⟨h1, h2⟩) (fun j hj x hx => decide_eq_false (hk j hj x hx))]
  · rw [find_at (p := fun e => decide (e.Level = 3 ∧ wcovP e page)) he (decide_eq_true ⟨h1, h2⟩) (fun j hj x hx => decide_eq_false (hk j hj x hx))]
theorem begin_none {m : SM} {page choice : Int} (h : bitB choice 0 = true) (ha : ∀ L', 1 < L' → L' ≤ 3 → noneB m page L' m.wc.length) : beginP m page choice = (1, 0, false) := by
  unfold beginP
  rw [if_pos h, find_none (p := fun e => decide (e.Level = 3 ∧ wcovP e page)) (fun j x hx => decide_eq_false (ha 3 (by decide) (by decide) j (List.getElem?_eq_some_iff.1 hx).1 x hx)),
    find_none (p := fun e => decide (e.Level = 2 ∧ wcovP e page)) (fun j x hx => decide_eq_false (ha 2 (by decide) (by decide) j (List.getElem?_eq_some_iff.1 hx).1 x hx))]
end Go.Proofs.Ythphfcheencbgaa.Mmu
