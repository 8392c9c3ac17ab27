/- The tables of a memory, as plain functions. No program in sight. -/
import Derived.Test.YtemfnbcebgflmaaKinds
import Derived.Test.YtemfnbcebgflmaaWalkMath
namespace Go.Proofs.Ytemfnbcebgflmaa.Kinds
open Go.Proofs.Ytemfnbcebgflmaa.DecMath
set_option linter.unusedVariables false
set_option linter.unusedSimpArgs false
/-- Word k of a table. -/
def wordP (ws : List Int) (f k : Int) : Int := ws.getD (f * 16 + k).toNat 0
/-- The word names a table that is there. -/
def tabP (ws : List Int) (l x : Int) : Prop := (dec l x).1 = 1 ∧ (dec l x).2.1 < ((ws.length / 16 : Nat) : Int)
instance (ws : List Int) (l x : Int) : Decidable (tabP ws l x) := by unfold tabP; infer_instance
/-- What lies below entry k of a place. -/
def belowP (ws : List Int) (rec : SPlace → List SPlace) (p : SPlace) (k : Nat) : List SPlace :=
  if tabP ws p.Level (wordP ws p.Frame k) then rec ⟨(dec p.Level (wordP ws p.Frame k)).2.1, p.Level + 1, p.Page + k * cov p.Level⟩ else []
/-- The places from p down (d: the levels that are left). -/
def placesP (ws : List Int) : Nat → SPlace → List SPlace
  | 0, p => [p]
  | d + 1, p => p :: (List.range 16).flatMap (belowP ws (placesP ws d) p)
theorem range_snoc (f : Nat → List SPlace) (k : Nat) : (List.range (k + 1)).flatMap f = (List.range k).flatMap f ++ f k := by rw [List.range_succ, List.flatMap_append]; simp
/-- At most so many places. -/
def maxP : Nat → Nat
  | 0 => 1
  | d + 1 => 1 + 16 * maxP d
theorem flat_le (f : Nat → List SPlace) (b : Nat) (h : ∀ k, (f k).length ≤ b) (n : Nat) : ((List.range n).flatMap f).length ≤ n * b := by
  induction n with
  | zero => simp
  | succ n ih => rw [range_snoc, List.length_append, Nat.add_mul]; have := h n; omega
theorem placesP_len (ws : List Int) (d : Nat) (p : SPlace) : (placesP ws d p).length ≤ maxP d := by
  induction d generalizing p with
  | zero => simp [placesP, maxP]
  | succ d ih =>
    have h := flat_le (belowP ws (placesP ws d) p) (maxP d) (fun k => by unfold belowP; split; exact ih _; simp) 16
    simp only [placesP, List.length_cons, maxP]
    omega
theorem maxP_le {d : Nat} (h : d ≤ 2) : maxP d ≤ 273 := by
  have : d = 0 ∨ d = 1 ∨ d = 2 := by omega
  rcases this with rfl | rfl | rfl <;> decide
/-- The word of a table that is read is in order. -/
def wordOk (ws : List Int) (l x : Int) : Prop := (dec l x).1 ≠ 4 ∧ ((dec l x).1 = 1 → (dec l x).2.1 < ((ws.length / 16 : Nat) : Int))
instance (ws : List Int) (l x : Int) : Decidable (wordOk ws l x) := by unfold wordOk; infer_instance
/-- The place's words are in order, up to k. -/
def wordsOk (ws : List Int) (p : SPlace) (k : Nat) : Prop := ∀ i : Nat, i < k → wordOk ws p.Level (wordP ws p.Frame i)
/-- No earlier place has the frame. -/
def freshP (ps : List SPlace) (i k : Nat) (p : SPlace) : Prop := ∀ j : Nat, j < k → ∀ q, ps[j]? = some q → q.Frame ≠ p.Frame
/-- The places are a tree's, up to n. -/
def treeTo (ws : List Int) (ps : List SPlace) (n : Nat) : Prop := ∀ i : Nat, i < n → ∀ p, ps[i]? = some p → freshP ps i i p ∧ wordsOk ws p 16
noncomputable def treeP (ws : List Int) (ps : List SPlace) : Bool := @decide (treeTo ws ps ps.length) (Classical.propDecidable _)
theorem tree_true {ws : List Int} {ps : List SPlace} (h : treeTo ws ps ps.length) : treeP ws ps = true := @decide_eq_true _ (Classical.propDecidable _) h
theorem tree_false {ws : List Int} {ps : List SPlace} (h : ¬ treeTo ws ps ps.length) : treeP ws ps = false := @decide_eq_false _ (Classical.propDecidable _) h
theorem tree_step {ws : List Int} {ps : List SPlace} {n : Nat} {p : SPlace} (h : treeTo ws ps n) (hp : ps[n]? = some p) (hf : freshP ps n n p) (hw : wordsOk ws p 16) : treeTo ws ps (n + 1) := by
  intro i hi q hq
  by_cases e : i = n
  · subst e
    obtain rfl := Option.some.inj (hp.symm.trans hq)
    exact ⟨hf, hw⟩
  · exact h i (by omega) q hq
theorem words_step {ws : List Int} {p : SPlace} {k : Nat} (h : wordsOk ws p k) (hk : wordOk ws p.Level (wordP ws p.Frame k)) : wordsOk ws p (k + 1) := by
  intro i hi
  by_cases e : i = k
  · subst e; exact hk
  · exact h i (by omega)
theorem tree_not_word {ws : List Int} {ps : List SPlace} {n k : Nat} {p : SPlace} (hp : ps[n]? = some p) (hk : k < 16) (hw : ¬ wordOk ws p.Level (wordP ws p.Frame k)) : treeP ws ps = false :=
  tree_false fun h => hw ((h n (List.getElem?_eq_some_iff.1 hp).1 p hp).2 k hk)
theorem tree_not_fresh {ws : List Int} {ps : List SPlace} {n j : Nat} {p q : SPlace} (hp : ps[n]? = some p) (hj : j < n) (hq : ps[j]? = some q) (he : q.Frame = p.Frame) : treeP ws ps = false :=
  tree_false fun h => (h n (List.getElem?_eq_some_iff.1 hp).1 p hp).1 j hj q hq he
/-- A place whose table is there. -/
def inP (ws : List Int) (p : SPlace) : Prop := (1 ≤ p.Level ∧ p.Level ≤ 3) ∧ (0 ≤ p.Frame ∧ p.Frame < ((ws.length / 16 : Nat) : Int)) ∧ 0 ≤ p.Page ∧ p.Page < 4096
/-- The page of a place at its level is one where a table of the level begins. -/
def alignP (p : SPlace) : Prop := p.Page % (cov p.Level * 16) = 0
theorem child_in {ws : List Int} {p : SPlace} {k : Nat} (h : inP ws p) (ha : alignP p) (hk : k < 16) (hl : p.Level ≤ 2) (ht : tabP ws p.Level (wordP ws p.Frame k)) :
    inP ws ⟨(dec p.Level (wordP ws p.Frame k)).2.1, p.Level + 1, p.Page + k * cov p.Level⟩ ∧ alignP ⟨(dec p.Level (wordP ws p.Frame k)).2.1, p.Level + 1, p.Page + k * cov p.Level⟩ := by
  obtain ⟨h1, h2, h3⟩ := h
  have ho := dec_out p.Level (wordP ws p.Frame k)
  have hlv : p.Level = 1 ∨ p.Level = 2 := by omega
  unfold alignP at ha ⊢
  unfold inP
  simp only
  rcases hlv with e | e <;> rw [e] at ha ht ho ⊢ <;> simp [cov] at ha ⊢ <;> exact ⟨⟨⟨ho.1, ht.2⟩, by omega, by omega⟩, by omega⟩
theorem placesP_in (ws : List Int) (d : Nat) (p : SPlace) (hd : (d : Int) = 3 - p.Level) (h : inP ws p) (ha : alignP p) : ∀ q ∈ placesP ws d p, inP ws q := by
  induction d generalizing p with
  | zero => intro q hq; simp [placesP] at hq; subst hq; exact h
  | succ d ih =>
    intro q hq
    simp only [placesP, List.mem_cons, List.mem_flatMap, List.mem_range] at hq
    rcases hq with rfl | ⟨k, hk, hq⟩
    · exact h
    · unfold belowP at hq
      split at hq
      · rename_i ht
        obtain ⟨h1, h2⟩ := child_in h ha hk (by omega) ht
        exact ih _ (by simp only; omega) h1 h2 q hq
      · simp at hq
end Go.Proofs.Ytemfnbcebgflmaa.Kinds
