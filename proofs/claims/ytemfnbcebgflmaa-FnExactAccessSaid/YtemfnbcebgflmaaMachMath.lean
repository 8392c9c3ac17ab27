/- Plain facts on machines: which are valid, what they say. No program in sight. -/
import Derived.Test.YtemfnbcebgflmaaMach
import Derived.Test.YtemfnbcebgflmaaWalkMath
namespace Go.Proofs.Ytemfnbcebgflmaa.Kinds
open Go.Proofs.Ytemfnbcebgflmaa.DecMath
set_option linter.unusedVariables false
set_option linter.unusedSimpArgs false

def okPend (n : Nat) (e : SWrite) : Prop := 0 ≤ e.Adr ∧ e.Adr < n
instance (n : Nat) (e : SWrite) : Decidable (okPend n e) := by unfold okPend; infer_instance
def okTlb (e : STlb) : Prop := (e.Size = 1 ∨ e.Size = 16) ∧ (0 ≤ e.Page ∧ e.Page < 4096) ∧ e.Page % e.Size = 0 ∧ 1 ≤ e.Perm ∧ e.Perm ≤ 7 ∧ 0 ≤ e.Out ∧ e.Out < 65536 ∧ e.Out % e.Size = 0
instance (e : STlb) : Decidable (okTlb e) := by unfold okTlb; infer_instance
def okWc (f : Int) (e : SWc) : Prop := (e.Level = 2 ∨ e.Level = 3) ∧ (0 ≤ e.Page ∧ e.Page < 4096) ∧ e.Page % cov (e.Level - 1) = 0 ∧ 0 ≤ e.Table ∧ e.Table < f
instance (f : Int) (e : SWc) : Decidable (okWc f e) := by unfold okWc; infer_instance
/-- The machine is valid. -/
structure Valid (m : SM) : Prop where
  frames : m.ws.length % 16 = 0 ∧ 16 ≤ m.ws.length ∧ m.ws.length ≤ 8192
  npend : m.pend.length ≤ 10000
  ntlb : m.tlb.length ≤ 256
  nwc : m.wc.length ≤ 256
  pend : ∀ e ∈ m.pend, okPend m.ws.length e
  tlb : ∀ e ∈ m.tlb, okTlb e
  wc : ∀ e ∈ m.wc, okWc ((m.ws.length / 16 : Nat) : Int) e
theorem valid_iff {m : SM} : Valid m ↔ ((m.ws.length % 16 = 0 ∧ 16 ≤ m.ws.length ∧ m.ws.length ≤ 8192) ∧ m.pend.length ≤ 10000 ∧ m.tlb.length ≤ 256 ∧ m.wc.length ≤ 256 ∧ (∀ e ∈ m.pend, okPend m.ws.length e) ∧ (∀ e ∈ m.tlb, okTlb e) ∧ ∀ e ∈ m.wc, okWc ((m.ws.length / 16 : Nat) : Int) e) :=
  ⟨fun h => ⟨h.frames, h.npend, h.ntlb, h.nwc, h.pend, h.tlb, h.wc⟩, fun ⟨a, b, c, d, e, f, g⟩ => ⟨a, b, c, d, e, f, g⟩⟩
instance (m : SM) : Decidable (Valid m) := decidable_of_iff _ valid_iff.symm

theorem all_take {α : Type} {p : α → Prop} {l : List α} {k : Nat} {x : α} (hx : l[k]? = some x) (h : ∀ e ∈ l.take k, p e) (px : p x) : ∀ e ∈ l.take (k + 1), p e := by
  rw [List.take_add_one, hx]
  intro e he
  rcases List.mem_append.1 he with he | he
  · exact h e he
  · simp at he; subst he; exact px

/-- Same but for Doomed. -/
def sameP (a b : STlb) : Prop := a.Page = b.Page ∧ a.Size = b.Size ∧ a.Out = b.Out ∧ a.Perm = b.Perm
instance (a b : STlb) : Decidable (sameP a b) := by unfold sameP; infer_instance
/-- Some page is covered by both. -/
def meetsP (a b : STlb) : Prop := a.Page < b.Page + b.Size ∧ b.Page < a.Page + a.Size
instance (a b : STlb) : Decidable (meetsP a b) := by unfold meetsP; infer_instance
/-- The entry covers the page. -/
def tcovP (e : STlb) (p : Int) : Prop := p - p % e.Size = e.Page
instance (e : STlb) (p : Int) : Decidable (tcovP e p) := by unfold tcovP; infer_instance
theorem tcov_iff {e : STlb} {p : Int} (h : okTlb e) (hp : 0 ≤ p) : tcovP e p ↔ e.Page ≤ p ∧ p < e.Page + e.Size := by
  unfold tcovP
  obtain ⟨h1, h2, h3, _⟩ := h
  rcases h1 with h1 | h1 <;> rw [h1] at h3 ⊢ <;> omega
theorem meets_iff {a b : STlb} (ha : okTlb a) (hb : okTlb b) : meetsP a b ↔ ∃ k : Nat, (k : Int) < a.Size ∧ tcovP b (a.Page + k) := by
  have ha2 := ha.2.1
  constructor
  · rintro ⟨h1, h2⟩
    by_cases h : a.Page ≤ b.Page
    · refine ⟨(b.Page - a.Page).toNat, by omega, (tcov_iff hb (by omega)).2 ⟨by omega, ?_⟩⟩
      rcases hb.1 with h | h <;> omega
    · refine ⟨0, by rcases ha.1 with h | h <;> omega, (tcov_iff hb (by omega)).2 ⟨by omega, by omega⟩⟩
  · rintro ⟨k, h1, h2⟩
    have := (tcov_iff hb (by omega)).1 h2
    unfold meetsP
    omega
/-- Two entries in conflict, by their indexes. -/
def clash (l : List STlb) (i j : Nat) : Prop := ∃ a b, l[i]? = some a ∧ l[j]? = some b ∧ meetsP a b ∧ ¬ sameP a b
def Clashes (l : List STlb) : Prop := ∃ i, ∃ j, j < i ∧ clash l i j
/-- The answer of Conflict. -/
noncomputable def conflictP (m : SM) : Bool := @decide (Valid m ∧ Clashes m.tlb) (Classical.propDecidable _)
theorem conflict_true {m : SM} (hv : Valid m) {i j : Nat} {a b : STlb} (hj : j < i) (hi : m.tlb[i]? = some a) (hj' : m.tlb[j]? = some b) (hm : meetsP a b) (hs : ¬ sameP a b) : conflictP m = true := by
  unfold conflictP; exact @decide_eq_true _ (Classical.propDecidable _) ⟨hv, i, j, hj, a, b, hi, hj', hm, hs⟩
theorem conflict_false {m : SM} (h : ∀ i, i < m.tlb.length → ∀ j, j < i → ¬ clash m.tlb i j) : conflictP m = false := by
  unfold conflictP
  refine @decide_eq_false _ (Classical.propDecidable _) ?_
  rintro ⟨_, i, j, hj, a, b, hi, hr⟩
  exact h i (List.getElem?_eq_some_iff.1 hi).1 j hj ⟨a, b, hi, hr⟩
theorem conflict_bad {m : SM} (h : ¬ Valid m) : conflictP m = false := by
  unfold conflictP; exact @decide_eq_false _ (Classical.propDecidable _) fun hh => h hh.1
end Go.Proofs.Ytemfnbcebgflmaa.Kinds
