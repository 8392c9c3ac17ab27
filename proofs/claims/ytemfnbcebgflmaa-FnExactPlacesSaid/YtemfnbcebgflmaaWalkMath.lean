/- A walk of a memory, in numbers. Nothing of the program. -/
import Derived.Test.YtemfnbcebgflmaaDecMath
namespace Go.Proofs.Ytemfnbcebgflmaa.DecMath
set_option linter.unusedVariables false
set_option linter.unusedSimpArgs false

theorem dec_kind (l w : Int) : (dec l w).1 = 0 ∨ (dec l w).1 = 1 ∨ (dec l w).1 = 2 ∨ (dec l w).1 = 3 ∨ (dec l w).1 = 4 := by
  unfold dec
  repeat' split
  all_goals simp

theorem dec_out (l w : Int) : 0 ≤ (dec l w).2.1 ∧ (dec l w).2.1 < 65536 ∧ 0 ≤ (dec l w).2.2 ∧ (dec l w).2.2 < 8 := by
  unfold dec
  repeat' split
  all_goals simp <;> omega

theorem dec_table (l w : Int) (h : (dec l w).1 = 1) : l = 1 ∨ l = 2 := by
  unfold dec at h
  by_cases a : l < 1 ∨ l > 3
  · simp [a] at h
  rw [if_neg a] at h
  by_cases b : w % 2 = 0
  · simp [b] at h
  rw [if_neg b] at h
  by_cases c : (w / 32) % 128 ≠ 0 ∨ (w / 268435456) % 68719476736 ≠ 0
  · rw [if_pos c] at h; simp at h
  rw [if_neg c] at h
  by_cases d : l ≤ 2 ∧ (w / 2) % 2 = 1 ∧ (w / 4) % 8 = 0
  · omega
  rw [if_neg d] at h
  by_cases e : l = 2 ∧ (w / 2) % 2 = 0 ∧ (w / 4) % 8 > 0 ∧ (w / 4096) % 65536 % 16 = 0
  · rw [if_pos e] at h; simp at h
  rw [if_neg e] at h
  by_cases f : l = 3 ∧ (w / 2) % 2 = 1 ∧ (w / 4) % 8 > 0
  · rw [if_pos f] at h; simp at h
  · rw [if_neg f] at h; simp at h

/-- How many pages an entry of a level covers. -/
def cov (l : Int) : Int := if l = 1 then 256 else if l = 2 then 16 else 1
/-- The index of a page's entry in a table of a level. -/
def idx (l p : Int) : Int := p / cov l % 16

theorem idx_lt (l p : Int) (hp : 0 ≤ p) : 0 ≤ idx l p ∧ idx l p < 16 := by
  unfold idx; omega

/-- The walk from a table on, at most d levels. -/
def walkAt (ws : List Int) (n p : Int) : Nat → Int → Int → Int × Int × Int × Int
  | 0, _, _ => (3, 0, 0, 0)
  | d + 1, l, f =>
    if (dec l (ws.getD (f * 16 + idx l p).toNat 0)).1 = 0 then (0, 0, 0, 0)
    else if (dec l (ws.getD (f * 16 + idx l p).toNat 0)).1 = 1 then
      (if (dec l (ws.getD (f * 16 + idx l p).toNat 0)).2.1 < n then walkAt ws n p d (l + 1) (dec l (ws.getD (f * 16 + idx l p).toNat 0)).2.1 else (3, 0, 0, 0))
    else if (dec l (ws.getD (f * 16 + idx l p).toNat 0)).1 = 2 then (1, (dec l (ws.getD (f * 16 + idx l p).toNat 0)).2.1 + p % 16, (dec l (ws.getD (f * 16 + idx l p).toNat 0)).2.2, 16)
    else if (dec l (ws.getD (f * 16 + idx l p).toNat 0)).1 = 3 then (1, (dec l (ws.getD (f * 16 + idx l p).toNat 0)).2.1, (dec l (ws.getD (f * 16 + idx l p).toNat 0)).2.2, 1)
    else (3, 0, 0, 0)

/-- The memory is valid. -/
def memOk (ws : List Int) : Prop := ws.length % 16 = 0 ∧ 16 ≤ ws.length ∧ ws.length ≤ 8192
instance (ws : List Int) : Decidable (memOk ws) := by unfold memOk; infer_instance
/-- Walk, in numbers. -/
def walkP (ws : List Int) (p : Int) : Int × Int × Int × Int :=
  if memOk ws ∧ 0 ≤ p ∧ p < 4096 then walkAt ws (ws.length / 16 : Nat) p 3 1 0 else (0, 0, 0, 0)

/-- All words are words. -/
def Words (ws : List Int) : Prop := ∀ x ∈ ws, 0 ≤ x ∧ x < 18446744073709551616
theorem Words.get {ws : List Int} (h : Words ws) (j : Nat) : 0 ≤ ws.getD j 0 ∧ ws.getD j 0 < 18446744073709551616 := by
  rw [List.getD_eq_getElem?_getD]
  cases e : ws[j]? with
  | none => simp
  | some x => exact h x (List.mem_of_getElem? e)

end Go.Proofs.Ytemfnbcebgflmaa.DecMath
