/- Spans, in numbers: which lists are valid, what they say of a page, which tables they need. No program in sight. -/
import Derived.Test.YtkdclihnmocepaaGround
namespace Go.Proofs.Ytkdclihnmocepaa.Mmu
open Go.RowKit Go.Proofs.Ytkdclihnmocepaa.Base Go.Proofs.Ytkdclihnmocepaa.Kinds
set_option linter.unusedVariables false
set_option linter.unusedSimpArgs false

/-- One span alone is in order. -/
def okS (s : SSpan) : Prop := 1 ≤ s.Count ∧ 0 ≤ s.Page ∧ s.Page + s.Count ≤ 4096 ∧ 0 ≤ s.Out ∧ s.Out + s.Count ≤ 65536 ∧ 1 ≤ s.Perm ∧ s.Perm ≤ 7
instance (s : SSpan) : Decidable (okS s) := by unfold okS; infer_instance
/-- Two neighbours that are one span. -/
def joinS (a b : SSpan) : Prop := a.Page + a.Count = b.Page ∧ a.Out + a.Count = b.Out ∧ a.Perm = b.Perm ∧ a.Huge = b.Huge
instance (a b : SSpan) : Decidable (joinS a b) := by unfold joinS; infer_instance
def oksTo (l : List SSpan) (k : Nat) : Prop := ∀ i a, i < k → l[i]? = some a → okS a
def goodTo (l : List SSpan) (k : Nat) : Prop := ∀ i a b, i + 1 < k → l[i]? = some a → l[i + 1]? = some b → a.Page + a.Count ≤ b.Page ∧ ¬ joinS a b
/-- The list is valid. -/
def ValidS (l : List SSpan) : Prop := oksTo l l.length ∧ goodTo l l.length
noncomputable instance (l : List SSpan) : Decidable (ValidS l) := Classical.propDecidable _
theorem oksTo_step {l : List SSpan} {k : Nat} {a : SSpan} (h : oksTo l k) (ha : l[k]? = some a) (ho : okS a) : oksTo l (k + 1) := by
  intro i b hi hb
  rcases Nat.lt_or_ge i k with h1 | h1
  · exact h i b h1 hb
  · obtain rfl : i = k := by omega
    rw [ha] at hb; cases hb; exact ho
theorem goodTo_step {l : List SSpan} {k : Nat} {a b : SSpan} (h : goodTo l k) (h0 : 0 < k) (ha : l[k - 1]? = some a) (hb : l[k]? = some b) (ho : a.Page + a.Count ≤ b.Page ∧ ¬ joinS a b) : goodTo l (k + 1) := by
  intro i x y hi hx hy
  rcases Nat.lt_or_ge (i + 1) k with h1 | h1
  · exact h i x y h1 hx hy
  · obtain rfl : k = i + 1 := by omega
    simp only [Nat.add_sub_cancel] at ha
    rw [ha] at hx; rw [hb] at hy; cases hx; cases hy; exact ho
theorem oksTo_zero (l : List SSpan) : oksTo l 0 := fun i a h => by omega
theorem goodTo_one (l : List SSpan) (k : Nat) (h : k ≤ 1) : goodTo l k := fun i a b h => by omega
theorem ValidS.ok {l : List SSpan} (h : ValidS l) {i : Nat} {a : SSpan} (ha : l[i]? = some a) : okS a := h.1 i a (List.getElem?_eq_some_iff.1 ha).1 ha
theorem not_valid_ok {l : List SSpan} {i : Nat} {a : SSpan} (ha : l[i]? = some a) (h : ¬ okS a) : ¬ ValidS l := fun v => h (v.ok ha)
theorem not_valid_good {l : List SSpan} {i : Nat} {a b : SSpan} (h0 : 0 < i) (ha : l[i - 1]? = some a) (hb : l[i]? = some b) (h : ¬ (a.Page + a.Count ≤ b.Page ∧ ¬ joinS a b)) : ¬ ValidS l := fun v => h (v.2 (i - 1) a b (by have := (List.getElem?_eq_some_iff.1 hb).1; omega) ha (by rw [Nat.sub_add_cancel h0]; exact hb))

/-- In a valid list a later span begins behind an earlier one. -/
theorem ValidS.apart {l : List SSpan} (h : ValidS l) : ∀ (d i : Nat) (a b : SSpan), l[i]? = some a → l[i + d + 1]? = some b → a.Page + a.Count ≤ b.Page := by
  intro d
  induction d with
  | zero => intro i a b ha hb; exact (h.2 i a b (List.getElem?_eq_some_iff.1 hb).1 ha hb).1
  | succ d ih =>
    intro i a b ha hb
    have hlt := (List.getElem?_eq_some_iff.1 hb).1
    have hc : l[i + d + 1]? = some l[i + d + 1] := List.getElem?_eq_getElem (by omega)
    have h1 := ih i a _ ha hc
    have h2 := (h.2 (i + d + 1) _ b (by omega) hc hb).1
    have h3 := h.ok hc
    unfold okS at h3
    omega

/-- The span has the page. -/
def hasS (s : SSpan) (p : Int) : Prop := s.Page ≤ p ∧ p < s.Page + s.Count
instance (s : SSpan) (p : Int) : Decidable (hasS s p) := by unfold hasS; infer_instance
/-- The page's group is a big one. -/
def bigS (s : SSpan) (p : Int) : Bool := s.Huge && decide (s.Page ≤ p - p % 16 ∧ p - p % 16 + 16 ≤ s.Page + s.Count ∧ (s.Out + (p - p % 16) - s.Page) % 16 = 0)
/-- What the span says of a page that it has. -/
def hitS (s : SSpan) (p : Int) : SHit := ⟨1, s.Out + p - s.Page, s.Perm, if bigS s p = true then 16 else 1⟩
def noHit : SHit := ⟨0, 0, 0, 0⟩
/-- What the list says of a page. -/
def atS (l : List SSpan) (p : Int) : SHit := match l.find? (fun s => decide (hasS s p)) with | some s => hitS s p | none => noHit
theorem atS_hit {l : List SSpan} (h : ValidS l) {i : Nat} {a : SSpan} {p : Int} (ha : l[i]? = some a) (hp : hasS a p) : atS l p = hitS a p := by
  unfold atS
  cases e : l.find? (fun s => decide (hasS s p)) with
  | none =>
    have := List.find?_eq_none.1 e a (List.mem_of_getElem? ha)
    simp [hp] at this
  | some b =>
    have hb := List.mem_of_find?_eq_some e
    have hb2 : hasS b p := by have := List.find?_some e; simpa using this
    obtain ⟨j, hj⟩ := List.getElem?_of_mem hb
    have hab : a = b := by
      rcases Nat.lt_trichotomy i j with g | g | g
      · have := h.apart (j - i - 1) i a b ha (by rw [show i + (j - i - 1) + 1 = j by omega]; exact hj)
        unfold hasS at *; omega
      · subst g; rw [ha] at hj; exact Option.some.inj hj
      · have := h.apart (i - j - 1) j b a hj (by rw [show j + (i - j - 1) + 1 = i by omega]; exact ha)
        unfold hasS at *; omega
    subst hab; rfl
theorem atS_none {l : List SSpan} {p : Int} (h : ∀ (i : Nat) a, l[i]? = some a → ¬ hasS a p) : atS l p = noHit := by
  unfold atS
  rw [List.find?_eq_none.2 (fun x hx => by obtain ⟨j, hj⟩ := List.getElem?_of_mem hx; simp [h j x hj])]
/-- What the list says of every page. -/
def hitsS (l : List SSpan) : List SHit := (List.range 4096).map (fun (p : Nat) => atS l (p : Int))
theorem hitsS_len (l : List SSpan) : (hitsS l).length = 4096 := by simp [hitsS]
theorem hitsS_get (l : List SSpan) {p : Nat} (h : p < 4096) : (hitsS l)[p]? = some (atS l (p : Int)) := by
  unfold hitsS; rw [List.getElem?_map, List.getElem?_range h]; rfl
end Go.Proofs.Ytkdclihnmocepaa.Mmu
