/- Plain facts on fills: bits of a choice, what a walk reads. No program in sight. -/
import Derived.Test.YtemfnbcebgflmaaOwnX
namespace Go.Proofs.Ytemfnbcebgflmaa.Kinds
open Go.Proofs.Ytemfnbcebgflmaa.DecMath
set_option linter.unusedVariables false
set_option linter.unusedSimpArgs false

/-- Bit b of a choice. -/
def bitB (c : Int) (b : Nat) : Bool := decide (c / 2 ^ b % 2 = 1)
theorem half_step (c : Int) (hc : 0 ≤ c) (k : Nat) : c / 2 ^ k / 2 = c / 2 ^ (k + 1) := by
  rw [Int.ediv_ediv_of_nonneg (Int.pow_nonneg (by decide)), Int.pow_succ]
theorem half_nonneg (c : Int) (hc : 0 ≤ c) (k : Nat) : 0 ≤ c / 2 ^ k := Int.ediv_nonneg hc (Int.pow_nonneg (by decide))
theorem half_le (c : Int) (hc : 0 ≤ c) (k : Nat) : c / 2 ^ k ≤ c := Int.ediv_le_self _ hc

/-- What a walk reads at a word. -/
def readP (m : SM) (a : Int) (late : Bool) : Int := if late = true then (latestOf m).getD a.toNat 0 else m.ws.getD a.toNat 0
theorem writes_append (ws : List Int) (l l' : List SWrite) : writes ws (l ++ l') = writes (writes ws l) l' := by simp [writes, List.foldl_append]
theorem writes_none (ws : List Int) (l : List SWrite) (a : Nat) (h : ∀ e ∈ l, e.Adr.toNat ≠ a) : (writes ws l).getD a 0 = ws.getD a 0 := by
  induction l generalizing ws with
  | nil => rfl
  | cons e l ih =>
    show (writes (ws.set e.Adr.toNat e.Word) l).getD a 0 = _
    rw [ih _ (fun e' he' => h e' (List.mem_cons_of_mem _ he'))]
    have := h e (List.mem_cons_self ..)
    simp only [List.getD_eq_getElem?_getD]
    rw [List.getElem?_set_ne this]
/-- The newest write to the word. -/
theorem latest_hit (m : SM) (j : Nat) (e : SWrite) (hj : m.pend[j]? = some e) (a : Int) (ha : e.Adr = a) (hr : a.toNat < m.ws.length) (h0 : ∀ x ∈ m.pend, 0 ≤ x.Adr) (h : ∀ (j' : Nat) (e' : SWrite), j < j' → m.pend[j']? = some e' → e'.Adr ≠ a) : readP m a true = e.Word := by
  unfold readP
  rw [if_pos rfl]
  unfold latestOf
  have hlt : j < m.pend.length := (List.getElem?_eq_some_iff.1 hj).1
  have e1 : m.pend = m.pend.take j ++ (e :: m.pend.drop (j + 1)) := by
    have hg : m.pend[j] = e := (List.getElem?_eq_some_iff.1 hj).2
    rw [← hg, List.getElem_cons_drop, List.take_append_drop]
  rw [e1, writes_append]
  show (writes ((writes m.ws (m.pend.take j)).set e.Adr.toNat e.Word) (m.pend.drop (j + 1))).getD a.toNat 0 = _
  rw [writes_none]
  · rw [ha, List.getD_eq_getElem?_getD, List.getElem?_set_self (by rw [writes_len]; exact hr)]; rfl
  · intro e' he' hq
    obtain ⟨i, hi⟩ := List.getElem?_of_mem he'
    rw [List.getElem?_drop] at hi
    have h1 := h (j + 1 + i) e' (by omega) hi
    have h2 := h0 e' (List.mem_of_getElem? hi)
    have h3 : 0 ≤ a := by rw [← ha]; exact h0 e (List.mem_of_getElem? hj)
    omega
theorem latest_miss (m : SM) (a : Int) (ha : 0 ≤ a) (h0 : ∀ x ∈ m.pend, 0 ≤ x.Adr) (h : ∀ (j' : Nat) (e' : SWrite), m.pend[j']? = some e' → e'.Adr ≠ a) : readP m a true = m.ws.getD a.toNat 0 := by
  unfold readP
  rw [if_pos rfl]
  unfold latestOf
  refine writes_none _ _ _ fun e he hq => ?_
  obtain ⟨i, hi⟩ := List.getElem?_of_mem he
  have h1 := h i e hi
  have h2 := h0 e he
  omega
/-- Words. -/
def WfM (m : SM) : Prop := (∀ x ∈ m.ws, 0 ≤ x ∧ x < 18446744073709551616) ∧ ∀ e ∈ m.pend, 0 ≤ e.Word ∧ e.Word < 18446744073709551616
theorem writes_range (ws : List Int) (l : List SWrite) (hw : ∀ x ∈ ws, 0 ≤ x ∧ x < 18446744073709551616) (hp : ∀ e ∈ l, 0 ≤ e.Word ∧ e.Word < 18446744073709551616) : ∀ x ∈ writes ws l, 0 ≤ x ∧ x < 18446744073709551616 := by
  induction l generalizing ws with
  | nil => exact hw
  | cons e l ih =>
    refine ih _ (fun x hx => ?_) (fun e' he' => hp e' (List.mem_cons_of_mem _ he'))
    rcases List.mem_or_eq_of_mem_set hx with h | h
    · exact hw x h
    · rw [h]; exact hp e (List.mem_cons_self ..)
theorem getD_range (l : List Int) (j : Nat) (h : ∀ x ∈ l, 0 ≤ x ∧ x < 18446744073709551616) : 0 ≤ l.getD j 0 ∧ l.getD j 0 < 18446744073709551616 := by
  rw [List.getD_eq_getElem?_getD]
  cases e : l[j]? with
  | none => simp
  | some x => exact h x (List.mem_of_getElem? e)
theorem readP_range (m : SM) (a : Int) (late : Bool) (h : WfM m) : 0 ≤ readP m a late ∧ readP m a late < 18446744073709551616 := by
  unfold readP
  split
  · exact getD_range _ _ (writes_range _ _ h.1 h.2)
  · exact getD_range _ _ h.1
end Go.Proofs.Ytemfnbcebgflmaa.Kinds
