/- Words as numbers: the fields of a word, and what Go's bit operations on uint64 say of them. Nothing of the program. What a word says at a level, in numbers. Nothing of the program. A walk of a memory, in numbers. Nothing of the program. Words for the walks of this claim: what a slice value reads as, what a call's own slice holds, and how both are carried from world to world. Nothing of the program. The structs of the program as Lean structures, and their cells. Nothing of the program's functions. Stores into a call's own slice of structs, element by element. Nothing of the program. A machine's four lists, read and owned. Nothing of the program's functions. A region that draws its order, whose operations only read and whose callees read and lay blocks of their own, walked once: the class of worlds is 'what was there is as it was'. The boxes of a call's own, each whole, and what was there when the call began: one fact on a world, carried from world to world. Nothing of the program. A region that draws its order and ends in one store that waits for all the rest: a condition S on the world, shown anew behind each operation BUT THE LAST, so that a cell that the last one writes may be named in S. The make is that of the kit's wpAnyH. Nothing of the program. -/
import Derived.Laws.BitsLemmas
import Derived.RowKit
import Derived.WalkKit
import Derived.KernelRfl
import Derived.Below
import Derived.StillTailTactics
import Derived.Outline
import Derived.Lib.Hide
import Derived.OwnWalk
import Derived.Maps.AppendAt
import Derived.Deep.AppendLies
import Derived.Deep.RegionHeld3
import Derived.BigQuiet
import Derived.Deep.QuietTactic
import Derived.Deep.Draws
namespace Go.Proofs.Ythphfcheencbgaa.BitsMath
open Go Go.RowKit

theorem u64_wrap (n : Int) : IntKind.u64.wrap n = n % 18446744073709551616 := by
  simp [IntKind.wrap, IntKind.bits, IntKind.signed]

theorem wraps_u64 (n : Int) (h₀ : 0 ≤ n) (h₁ : n < 2 ^ 64) : IntKind.u64.wrap n = n := by rw [u64_wrap]; omega

theorem and_mask (i : Nat) (hi : i ≤ 64) (x : Int) (h₀ : 0 ≤ x) (h₁ : x < 18446744073709551616) : Go.bits .and .u64 x (2 ^ i - 1) = x % 2 ^ i :=
  bits_mask .u64 64 (by decide) wraps_u64 i hi x h₀ (by omega)

theorem and1 (x : Int) (h₀ : 0 ≤ x) (h₁ : x < 18446744073709551616) : Go.bits .and .u64 x 1 = x % 2 := and_mask 1 (by decide) x h₀ h₁
theorem and7 (x : Int) (h₀ : 0 ≤ x) (h₁ : x < 18446744073709551616) : Go.bits .and .u64 x 7 = x % 8 := and_mask 3 (by decide) x h₀ h₁
theorem and65535 (x : Int) (h₀ : 0 ≤ x) (h₁ : x < 18446744073709551616) : Go.bits .and .u64 x 65535 = x % 65536 := and_mask 16 (by decide) x h₀ h₁

theorem nat_field_zero (w a b : Nat) : (w / 2 ^ a) % 2 ^ b = 0 ↔ ∀ i, i < b → w.testBit (a + i) = false := by
  constructor
  · intro h i hi
    have := congrArg (fun n => n.testBit i) h
    simpa [Nat.testBit_mod_two_pow, Nat.testBit_div_two_pow, hi, Nat.add_comm] using this
  · intro h
    apply Nat.eq_of_testBit_eq
    intro i
    simp only [Nat.testBit_mod_two_pow, Nat.testBit_div_two_pow, Nat.zero_testBit]
    by_cases hi : i < b
    · simp [hi, h i hi, Nat.add_comm]
    · simp [hi]

/-- The bits that must be 0 in a word: 5 to 11 and 28 to 63. -/
theorem rest_zero (w : Int) (h₀ : 0 ≤ w) (h₁ : w < 18446744073709551616) :
    Go.bits .andNot .u64 w 268431391 = 0 ↔ (w / 32) % 128 = 0 ∧ (w / 268435456) % 68719476736 = 0 := by
  obtain ⟨a, rfl⟩ := Int.eq_ofNat_of_zero_le h₀
  have ha : a < 2 ^ 64 := by omega
  have e1 : ((a : Int) / 32) % 128 = 0 ↔ (a / 2 ^ 5) % 2 ^ 7 = 0 := by omega
  have e2 : ((a : Int) / 268435456) % 68719476736 = 0 ↔ (a / 2 ^ 28) % 2 ^ 36 = 0 := by omega
  rw [e1, e2, nat_field_zero, nat_field_zero]
  have hb : Go.bits .andNot .u64 (a : Int) 268431391 = ((BitVec.ofNat 64 a &&& ~~~ BitVec.ofNat 64 268431391).toNat : Int) := by
    unfold Go.bits
    have : BitVec.ofInt IntKind.u64.bits (268431391 : Int) = BitVec.ofNat 64 268431391 := rfl
    rw [this]
    have e : BitVec.ofInt IntKind.u64.bits (a : Int) = BitVec.ofNat 64 a := by simp [IntKind.bits]
    rw [e]
    exact wraps_u64 _ (Int.natCast_nonneg _) (by exact_mod_cast (BitVec.ofNat 64 a &&& ~~~ BitVec.ofNat 64 268431391).isLt)
  rw [hb]
  have hz : ((BitVec.ofNat 64 a &&& ~~~ BitVec.ofNat 64 268431391).toNat : Int) = 0 ↔ ∀ i, i < 64 → (BitVec.ofNat 64 a &&& ~~~ BitVec.ofNat 64 268431391).getLsbD i = false := by
    constructor
    · intro h i _
      have h' : (BitVec.ofNat 64 a &&& ~~~ BitVec.ofNat 64 268431391).toNat = 0 := by omega
      simp only [BitVec.getLsbD, h', Nat.zero_testBit]
    · intro h
      have : BitVec.ofNat 64 a &&& ~~~ BitVec.ofNat 64 268431391 = 0#64 := by
        apply BitVec.eq_of_getLsbD_eq
        intro i hi
        rw [h i hi]; simp
      rw [this]; rfl
  rw [hz]
  have hmask : ∀ i, i < 64 → (BitVec.ofNat 64 268431391).getLsbD i = decide (i < 5 ∨ (12 ≤ i ∧ i < 28)) := by decide
  have hbit : ∀ i, i < 64 → ((BitVec.ofNat 64 a &&& ~~~ BitVec.ofNat 64 268431391).getLsbD i = false ↔ (¬ (i < 5 ∨ (12 ≤ i ∧ i < 28)) → a.testBit i = false)) := by
    intro i hi
    rw [BitVec.getLsbD_and, BitVec.getLsbD_not, hmask i hi, BitVec.getLsbD_ofNat]
    by_cases hm : i < 5 ∨ (12 ≤ i ∧ i < 28)
    · simp [hm]
    · simp [hm, hi]
  constructor
  · intro h
    exact ⟨fun i hi => (hbit (5 + i) (by omega)).mp (h _ (by omega)) (by omega), fun i hi => (hbit (28 + i) (by omega)).mp (h _ (by omega)) (by omega)⟩
  · rintro ⟨h5, h28⟩ i hi
    refine (hbit i hi).mpr fun hn => ?_
    by_cases hlt : i < 12
    · have := h5 (i - 5) (by omega)
      rwa [show 5 + (i - 5) = i by omega] at this
    · have := h28 (i - 28) (by omega)
      rwa [show 28 + (i - 28) = i by omega] at this

theorem or_low (i a b : Nat) (h : b < 2 ^ i) : a * 2 ^ i ||| b = a * 2 ^ i + b := by
  rw [Nat.mul_comm]; exact (Nat.two_pow_add_eq_or_of_lt h a).symm

theorem or_word1 (o p : Nat) (hp : p < 8) : ((1 ||| o * 4096) ||| p * 4) = o * 4096 + p * 4 + 1 := by
  have h1 : ((1 ||| o * 4096) ||| p * 4) = o * 4096 ||| (p * 4 ||| 1) := by rw [Nat.or_comm 1, Nat.or_assoc, Nat.or_comm 1]
  have h2 : p * 4 ||| 1 = p * 4 + 1 := or_low 2 p 1 (by decide)
  have h3 : o * 4096 ||| (p * 4 + 1) = o * 4096 + (p * 4 + 1) := or_low 12 o (p * 4 + 1) (by omega)
  rw [h1, h2, h3]; omega

theorem or_word3 (o p : Nat) (hp : p < 8) : (((1 ||| o * 4096) ||| p * 4) ||| 2) = o * 4096 + p * 4 + 3 := by
  have h1 : ((1 ||| o * 4096) ||| p * 4) = o * 4096 ||| (p * 4 ||| 1) := by rw [Nat.or_comm 1, Nat.or_assoc, Nat.or_comm 1]
  have h2 : (p * 4 ||| 1) ||| 2 = p * 4 + 3 := by rw [Nat.or_assoc]; exact or_low 2 p 3 (by decide)
  have h3 : o * 4096 ||| (p * 4 + 3) = o * 4096 + (p * 4 + 3) := or_low 12 o (p * 4 + 3) (by omega)
  rw [h1, Nat.or_assoc, h2, h3]; omega

theorem bits_or (a b : Nat) (ha : a < 18446744073709551616) (hb : b < 18446744073709551616) : Go.bits .or .u64 (a : Int) (b : Int) = ((a ||| b : Nat) : Int) :=
  (bits_nat .u64 64 (by decide) wraps_u64 a b (by omega) (by omega)).2

/-- The word of a table or page, as the program makes it: bit 0, out, permissions. -/
theorem word1 (o p : Int) (h0 : 0 ≤ o) (h1 : o < 65536) (h2 : 0 ≤ p) (h3 : p < 8) : Go.bits .or .u64 (Go.bits .or .u64 1 (o * 4096)) (p * 4) = 1 + p * 4 + o * 4096 := by
  obtain ⟨a, rfl⟩ := Int.eq_ofNat_of_zero_le h0
  obtain ⟨b, rfl⟩ := Int.eq_ofNat_of_zero_le h2
  have e1 : Go.bits .or .u64 1 ((a : Int) * 4096) = ((1 ||| a * 4096 : Nat) : Int) := by have := bits_or 1 (a * 4096) (by omega) (by omega); simpa using this
  have hlt : (1 ||| a * 4096) < 2 ^ 64 := Nat.or_lt_two_pow (by omega) (by omega)
  rw [e1]
  have e2 := bits_or (1 ||| a * 4096) (b * 4) (by omega) (by omega)
  rw [or_word1 a b (by omega)] at e2
  have e3 : ((b * 4 : Nat) : Int) = (b : Int) * 4 := by omega
  rw [e3] at e2
  rw [e2]; omega

theorem word3 (o p : Int) (h0 : 0 ≤ o) (h1 : o < 65536) (h2 : 0 ≤ p) (h3 : p < 8) : Go.bits .or .u64 (Go.bits .or .u64 (Go.bits .or .u64 1 (o * 4096)) (p * 4)) 2 = 1 + p * 4 + o * 4096 + 2 := by
  obtain ⟨a, rfl⟩ := Int.eq_ofNat_of_zero_le h0
  obtain ⟨b, rfl⟩ := Int.eq_ofNat_of_zero_le h2
  have e1 : Go.bits .or .u64 1 ((a : Int) * 4096) = ((1 ||| a * 4096 : Nat) : Int) := by have := bits_or 1 (a * 4096) (by omega) (by omega); simpa using this
  have hlt : (1 ||| a * 4096) < 2 ^ 64 := Nat.or_lt_two_pow (by omega) (by omega)
  have hlt2 : ((1 ||| a * 4096) ||| b * 4) < 2 ^ 64 := Nat.or_lt_two_pow hlt (by omega)
  rw [e1]
  have e2 := bits_or (1 ||| a * 4096) (b * 4) (by omega) (by omega)
  have e3 : ((b * 4 : Nat) : Int) = (b : Int) * 4 := by omega
  rw [e3] at e2
  have e4 := bits_or ((1 ||| a * 4096) ||| b * 4) 2 (by omega) (by omega)
  rw [e2]
  rw [or_word3 a b (by omega)] at e4
  rw [show ((2 : Nat) : Int) = 2 from rfl] at e4
  rw [e4]; omega

end Go.Proofs.Ythphfcheencbgaa.BitsMath

namespace Go.Proofs.Ythphfcheencbgaa.DecMath

/-- Decode, in numbers: kind, output, permissions. -/
def dec (l w : Int) : Int × Int × Int :=
  if l < 1 ∨ l > 3 then (4, 0, 0)
  else if w % 2 = 0 then (0, 0, 0)
  else if (w / 32) % 128 ≠ 0 ∨ (w / 268435456) % 68719476736 ≠ 0 then (4, 0, 0)
  else if l ≤ 2 ∧ (w / 2) % 2 = 1 ∧ (w / 4) % 8 = 0 then (1, (w / 4096) % 65536, 0)
  else if l = 2 ∧ (w / 2) % 2 = 0 ∧ (w / 4) % 8 > 0 ∧ (w / 4096) % 65536 % 16 = 0 then (2, (w / 4096) % 65536, (w / 4) % 8)
  else if l = 3 ∧ (w / 2) % 2 = 1 ∧ (w / 4) % 8 > 0 then (3, (w / 4096) % 65536, (w / 4) % 8)
  else (4, 0, 0)

/-- Encode, in numbers. -/
def enc (l : Int) (d : Int × Int × Int) : Int :=
  if (d.1 ≠ 1 ∧ d.1 ≠ 2 ∧ d.1 ≠ 3) ∨ d.2.1 < 0 ∨ d.2.1 ≥ 65536 ∨ d.2.2 < 0 ∨ d.2.2 > 7 then 0
  else if dec l (1 + d.2.2 * 4 + d.2.1 * 4096 + (if d.1 = 2 then 0 else 2)) = d then 1 + d.2.2 * 4 + d.2.1 * 4096 + (if d.1 = 2 then 0 else 2) else 0

end Go.Proofs.Ythphfcheencbgaa.DecMath

namespace Go.Proofs.Ythphfcheencbgaa.DecMath
set_option linter.unusedVariables false
set_option linter.unusedSimpArgs false

theorem dec_kind (l w : Int) : (dec l w).1 = 0 ∨ (dec l w).1 = 1 ∨ (dec l w).1 = 2 ∨ (dec l w).1 = 3 ∨ (dec l w).1 = 4 := by
  unfold dec
  repeat' split
  all_goals simp

theorem dec_out (l w : Int) : 0 ≤ (dec l w).2.1 ∧ (dec l w).2.1 < 65536 ∧ 0 ≤ (dec l w).2.2 ∧ (dec l w).2.2 < 8 := by
  unfold dec
  repeat' split
  all_goals simp <;> omega

theorem dec_table (l w : Int) (h : (dec l w).1 = 1) : l = 1 ∨ l = 2 := by
  unfold dec at h
  by_cases a : l < 1 ∨ l > 3
  · simp [a] at h
  rw [if_neg a] at h
  by_cases b : w % 2 = 0
  · simp [b] at h
  rw [if_neg b] at h
  by_cases c : (w / 32) % 128 ≠ 0 ∨ (w / 268435456) % 68719476736 ≠ 0
  · rw [if_pos c] at h; simp at h
  rw [if_neg c] at h
  by_cases d : l ≤ 2 ∧ (w / 2) % 2 = 1 ∧ (w / 4) % 8 = 0
  · omega
  rw [if_neg d] at h
  by_cases e : l = 2 ∧ (w / 2) % 2 = 0 ∧ (w / 4) % 8 > 0 ∧ (w / 4096) % 65536 % 16 = 0
  · rw [if_pos e] at h; simp at h
  rw [if_neg e] at h
  by_cases f : l = 3 ∧ (w / 2) % 2 = 1 ∧ (w / 4) % 8 > 0
  · rw [if_pos f] at h; simp at h
  · rw [if_neg f] at h; simp at h

/-- How many pages an entry of a level covers. -/
def cov (l : Int) : Int := if l = 1 then 256 else if l = 2 then 16 else 1
/-- The index of a page's entry in a table of a level. -/
def idx (l p : Int) : Int := p / cov l % 16

theorem idx_lt (l p : Int) (hp : 0 ≤ p) : 0 ≤ idx l p ∧ idx l p < 16 := by
  unfold idx; omega

/-- The walk from a table on, at most d levels. -/
def walkAt (ws : List Int) (n p : Int) : Nat → Int → Int → Int × Int × Int × Int
  | 0, _, _ => (3, 0, 0, 0)
  | d + 1, l, f =>
    if (dec l (ws.getD (f * 16 + idx l p).toNat 0)).1 = 0 then (0, 0, 0, 0)
    else if (dec l (ws.getD (f * 16 + idx l p).toNat 0)).1 = 1 then
      (if (dec l (ws.getD (f * 16 + idx l p).toNat 0)).2.1 < n then walkAt ws n p d (l + 1) (dec l (ws.getD (f * 16 + idx l p).toNat 0)).2.1 else (3, 0, 0, 0))
    else if (dec l (ws.getD (f * 16 + idx l p).toNat 0)).1 = 2 then (1, (dec l (ws.getD (f * 16 + idx l p).toNat 0)).2.1 + p % 16, (dec l (ws.getD (f * 16 + idx l p).toNat 0)).2.2, 16)
    else if (dec l (ws.getD (f * 16 + idx l p).toNat 0)).1 = 3 then (1, (dec l (ws.getD (f * 16 + idx l p).toNat 0)).2.1, (dec l (ws.getD (f * 16 + idx l p).toNat 0)).2.2, 1)
    else (3, 0, 0, 0)

/-- The memory is valid. -/
def memOk (ws : List Int) : Prop := ws.length % 16 = 0 ∧ 16 ≤ ws.length ∧ ws.length ≤ 8192
instance (ws : List Int) : Decidable (memOk ws) := by unfold memOk; infer_instance
/-- Walk, in numbers. -/
def walkP (ws : List Int) (p : Int) : Int × Int × Int × Int :=
  if memOk ws ∧ 0 ≤ p ∧ p < 4096 then walkAt ws (ws.length / 16 : Nat) p 3 1 0 else (0, 0, 0, 0)

/-- All words are words. -/
def Words (ws : List Int) : Prop := ∀ x ∈ ws, 0 ≤ x ∧ x < 18446744073709551616
theorem Words.get {ws : List Int} (h : Words ws) (j : Nat) : 0 ≤ ws.getD j 0 ∧ ws.getD j 0 < 18446744073709551616 := by
  rw [List.getD_eq_getElem?_getD]
  cases e : ws[j]? with
  | none => simp
  | some x => exact h x (List.mem_of_getElem? e)

end Go.Proofs.Ythphfcheencbgaa.DecMath

namespace Go.Proofs.Ythphfcheencbgaa.Base
open Go.RowKit
set_option linter.unusedVariables false
set_option linter.unusedSimpArgs false

theorem ret_bool {a b : Bool} (h : a = b) : Ending.returned (.bool a) = .returned (.bool b) := by rw [h]
theorem ret_int {k : IntKind} {a b : Int} (h : a = b) : Ending.returned (.int k a) = .returned (.int k b) := by rw [h]
theorem wrapNat (n : Nat) (h : n < 9223372036854775807) : wrap64 ((n : Int) + 1) = ((n + 1 : Nat) : Int) := by unfold wrap64; omega

theorem add_field (ad : Addr) (m j : Nat) (hj : 0 < j) : ad.add (m + j) = ⟨(ad.add m).block, (ad.add m).off + j, none⟩ := by
  unfold Addr.add
  by_cases hm : m = 0
  · subst hm
    rw [if_neg (by omega)]; simp
  · rw [if_neg (by omega), if_neg hm]; simp; omega

theorem take_snoc {α : Type} {l : List α} {k : Nat} {x : α} (h : l[k]? = some x) : l.take (k + 1) = l.take k ++ [x] := by
  rw [List.take_add_one, h]; rfl
theorem take_len {α : Type} {l : List α} {k : Nat} (h : k ≤ l.length) : (l.take k).length = k := by rw [List.length_take]; omega

theorem thenB {w b c : World} (h : Below w.heap.size w b) (k : Below b.heap.size b c) : Below w.heap.size w c := h.trans (k.mono h.size)
theorem allocB {w b : World} (h : Below w.heap.size w b) (o : Obj) : Below w.heap.size w (b.alloc o) := h.alloc h.size o
theorem bcell {W w1 : World} (hb : Below W.heap.size W w1) : (∀ b o, b < W.heap.size → w1.cell? ⟨b, o, none⟩ = W.cell? ⟨b, o, none⟩) ∧ (∀ b o, b < W.heap.size → w1.frozen? ⟨b, o, none⟩ = W.frozen? ⟨b, o, none⟩) :=
  ⟨fun b o h => hb.cell (p := ⟨b, o, none⟩) h, fun b o h => hb.frozen (p := ⟨b, o, none⟩) h⟩
theorem below_drewN {B : Nat} {a w : World} (h : Below B a w) (n : Nat) : Below B a (w.drewN n) := ⟨h.os, h.tape, h.output, h.size, h.block⟩

/-! ### What is read -/
/-- The slice value v reads as the elements of l, each of sz cells. -/
def Rd {α : Type} (enc : α → List Value) (sz : Nat) (w : World) (v : Value) (l : List α) : Prop :=
  ∃ A cap, v = .slice A l.length cap ∧ l.length ≤ cap ∧ cap ≤ maxLen ∧ ∀ (i : Nat) x, l[i]? = some x → ∃ ad, A = some ad ∧ ∀ j u, (enc x)[j]? = some u → w.cell? (ad.add (i * sz + j)) = some u

section
variable {α : Type} {enc : α → List Value} {sz : Nat} {w w1 : World} {v : Value} {l : List α}
theorem Rd.below (h : Rd enc sz w v l) (hb : Below w.heap.size w w1) : Rd enc sz w1 v l := by
  obtain ⟨A, cap, e, hc, hl, hr⟩ := h
  refine ⟨A, cap, e, hc, hl, fun i x hx => ?_⟩
  obtain ⟨ad, ea, hu⟩ := hr i x hx
  exact ⟨ad, ea, fun j u h => (hb.cell (World.block_lt_of_cell? _ _ (hu j u h))).trans (hu j u h)⟩
theorem Rd.shape (h : Rd enc sz w v l) : ∃ A cap, v = .slice A l.length cap ∧ l.length ≤ cap ∧ cap ≤ 9223372036854775807 := by
  obtain ⟨A, cap, e, hc, hl, _⟩ := h
  exact ⟨A, cap, e, hc, by unfold maxLen at hl; omega⟩
theorem Rd.nil (enc : α → List Value) (sz : Nat) (w : World) : Rd enc sz w (.slice none 0 0) [] :=
  ⟨none, 0, rfl, Nat.le_refl _, by unfold maxLen; omega, fun i x h => by simp at h⟩
/-- The element at k: its cells at the address of its first. -/
theorem Rd.get {A : Option Addr} {n cap k : Nat} (h : Rd enc sz w (.slice A n cap) l) (hk : k < l.length) :
    ∃ ad x, A = some ad ∧ l[k]? = some x ∧ ∀ j u, (enc x)[j]? = some u → w.cell? (ad.add (k * sz + j)) = some u := by
  obtain ⟨A', cap', e, hc, hl, hr⟩ := h
  simp only [Value.slice.injEq] at e
  obtain ⟨rfl, rfl, rfl⟩ := e
  obtain ⟨ad, rfl, hu⟩ := hr k _ (List.getElem?_eq_getElem hk)
  exact ⟨ad, _, rfl, List.getElem?_eq_getElem hk, hu⟩
theorem Rd.len {A : Option Addr} {n cap : Nat} (h : Rd enc sz w (.slice A n cap) l) : n = l.length := by
  obtain ⟨A', cap', e, _⟩ := h
  simp only [Value.slice.injEq] at e
  exact e.2.1
end
theorem field0 {w : World} {ad : Addr} {m : Nat} {cs : List Value} {u : Value} (h : ∀ j u, cs[j]? = some u → w.cell? (ad.add (m + j)) = some u) (e : cs[0]? = some u) : w.cell? (ad.add m) = some u := h 0 u e
theorem fieldN {w : World} {ad : Addr} {m : Nat} {cs : List Value} {u : Value} (h : ∀ j u, cs[j]? = some u → w.cell? (ad.add (m + j)) = some u) (j : Nat) (hj : 0 < j) (e : cs[j]? = some u) : w.cell? ⟨(ad.add m).block, (ad.add m).off + j, none⟩ = some u := by
  rw [← add_field _ _ j hj]; exact h j u e

/-! ### What a call's own slice holds -/
/-- The slice value v owns (from block base on, elements of type E) the elements of l. -/
def Own {α : Type} (enc : α → List Value) (sz E : Nat) (base : Nat) (w : World) (v : Value) (l : List α) : Prop :=
  w.ownsRow base E sz v l.length (l.flatMap enc)

theorem flat_get {α : Type} {enc : α → List Value} {sz : Nat} (hlen : ∀ x, (enc x).length = sz) (l : List α) (i : Nat) (x : α) (hi : l[i]? = some x) (j : Nat) (u : Value) (hj : (enc x)[j]? = some u) :
    (l.flatMap enc)[i * sz + j]? = some u := by
  have hjs : j < sz := by rw [← hlen x]; exact (List.getElem?_eq_some_iff.1 hj).1
  induction l generalizing i with
  | nil => simp at hi
  | cons y l ih =>
    rw [List.flatMap_cons]
    cases i with
    | zero =>
      simp at hi; subst hi
      rw [List.getElem?_append_left (by rw [hlen]; omega)]
      simpa using hj
    | succ i =>
      rw [List.getElem?_append_right (by rw [hlen, Nat.add_mul]; omega), hlen]
      have := ih i (by simpa using hi)
      rwa [show (i + 1) * sz + j - sz = i * sz + j by rw [Nat.add_mul]; omega]

theorem flat_len {α : Type} {enc : α → List Value} {sz : Nat} (hlen : ∀ x, (enc x).length = sz) (l : List α) : (l.flatMap enc).length = l.length * sz := by
  induction l with
  | nil => simp
  | cons y l ih => rw [List.flatMap_cons, List.length_append, hlen, ih, List.length_cons, Nat.add_mul]; omega

section
variable {α : Type} {enc : α → List Value} {sz E base : Nat} {w w1 : World} {v : Value} {l : List α}
theorem Own.nil (enc : α → List Value) (sz E base : Nat) (w : World) : Own enc sz E base w (.slice none 0 0) [] := World.ownsRow_nil _ _ _ _
theorem Own.rd (hlen : ∀ x, (enc x).length = sz) (h : Own enc sz E base w v l) : Rd enc sz w v l := by
  rcases h.2 with ⟨rfl, hn⟩ | ⟨g, cap, cur, rfl, hb, hg, hnc, hm, hs, ht⟩
  · obtain rfl : l = [] := List.length_eq_zero_iff.1 hn
    exact Rd.nil _ _ _
  · refine ⟨some ⟨g, 0, none⟩, cap, rfl, hnc, hm, fun i x hx => ⟨_, rfl, fun j u hu => ?_⟩⟩
    exact World.ownsRow.cells h (by rfl) _ _ (flat_get hlen l i x hx j u hu)
theorem Own.shape (h : Own enc sz E base w v l) : ∃ A cap, v = .slice A l.length cap := by
  rcases h.2 with ⟨rfl, hn⟩ | ⟨g, cap, cur, rfl, _⟩
  · exact ⟨none, 0, by rw [hn]⟩
  · exact ⟨_, cap, rfl⟩
theorem Own.made (enc : α → List Value) (sz E : Nat) {base : Nat} (w : World) (hb : base ≤ w.heap.size) : Own enc sz E base (w.alloc (.cells #[] E)) (.slice (some ⟨w.heap.size, 0, none⟩) 0 0) [] :=
  World.ownsRow_made _ _ _ hb (Nat.zero_le _) (by simp)
theorem Own.below (h : Own enc sz E base w v l) (hb : Below w.heap.size w w1) : Own enc sz E base w1 v l := by
  refine ⟨h.1, ?_⟩
  rcases h.2 with h2 | ⟨g, cap, cur, hv, hg, hh, r⟩
  · exact .inl h2
  · exact .inr ⟨g, cap, cur, hv, hg, by rw [hb.block g (Array.getElem?_eq_some_iff.1 hh).1]; exact hh, r⟩
theorem Own.alloc (h : Own enc sz E base w v l) (o : Obj) : Own enc sz E base (w.alloc o) v l := World.ownsRow.alloc h o
theorem Own.drew (h : Own enc sz E base w v l) : Own enc sz E base w.drew v l := h
theorem Own.lower {base' : Nat} (h : Own enc sz E base w v l) (hb : base' ≤ base) : Own enc sz E base' w v l := by
  refine ⟨h.1, ?_⟩
  rcases h.2 with h2 | ⟨g, cap, cur, hv, hg, r⟩
  · exact .inl h2
  · exact .inr ⟨g, cap, cur, hv, Nat.le_trans hb hg, r⟩
theorem Own.lt (h : Own enc sz E base w v l) : ∀ k, v.ownBlock = some k → base ≤ k ∧ k < w.heap.size := World.ownsRow.lt h
theorem Own.setBelow (h : Own enc sz E base w v l) {a : Addr} (ha : a.block < base) (u : Value) : Own enc sz E base (w.setCell a u) v l := ownsRow_setCell_below h ha u
theorem Own.kept {row : Option Nat} (h : Own enc sz E base w v l) (hg : w.grownBy w1 row) (hne : v.ownBlock = none ∨ v.ownBlock ≠ row) : Own enc sz E base w1 v l := World.ownsRow.kept h hg hne
theorem Own.grown {B : Nat} {w0 : World} {e sz' n : Nat} {xs : List Value} (h : w.ownsRow B e sz' v n xs) (hb : Below B w0 w) (hB : B ≤ w.heap.size) (hg : w.grownBy w1 v.ownBlock) : Below B w0 w1 :=
  hb.grown hg hB (fun k hk => (World.ownsRow.lt h k hk).1)
end

/-- What was written lies in the blocks lo .. hi-1, or is new. -/
structure Within (lo hi : Nat) (w w' : World) : Prop where
  os : w'.os = w.os
  tape : w'.tape = w.tape
  output : w'.output = w.output
  size : w.heap.size ≤ w'.heap.size
  block : ∀ k, k < w.heap.size → (k < lo ∨ hi ≤ k) → w'.heap[k]? = w.heap[k]?
theorem Within.refl (lo hi : Nat) (w : World) : Within lo hi w w := ⟨rfl, rfl, rfl, Nat.le_refl _, fun _ _ _ => rfl⟩
theorem Within.trans {lo hi : Nat} {a b c : World} (h : Within lo hi a b) (k : Within lo hi b c) : Within lo hi a c :=
  ⟨k.os.trans h.os, k.tape.trans h.tape, k.output.trans h.output, Nat.le_trans h.size k.size, fun i hi hr => (k.block i (Nat.lt_of_lt_of_le hi h.size) hr).trans (h.block i hi hr)⟩
theorem Within.of_grown {lo hi : Nat} {w w' : World} {row : Option Nat} (hg : w.grownBy w' row) (h : ∀ k, row = some k → lo ≤ k ∧ k < hi) : Within lo hi w w' :=
  ⟨hg.os, hg.tape, hg.output, hg.size, fun k hk hr => hg.block k hk (fun e => by have := h k e.symm; omega)⟩
theorem Within.of_below {lo hi : Nat} {w w' : World} (h : Below w.heap.size w w') : Within lo hi w w' := ⟨h.os, h.tape, h.output, h.size, fun k hk _ => h.block k hk⟩
theorem Within.below {lo hi B : Nat} {w0 w w' : World} (h : Within lo hi w w') (hb : Below B w0 w) (hl : B ≤ lo) (hs : B ≤ w.heap.size) : Below B w0 w' :=
  hb.trans ⟨h.os, h.tape, h.output, h.size, fun k hk => h.block k (by omega) (by omega)⟩
theorem Own.within {α : Type} {enc : α → List Value} {sz E base lo hi : Nat} {w w1 : World} {v : Value} {l : List α} (h : Own enc sz E base w v l) (hw : Within lo hi w w1) (ho : ∀ k, v.ownBlock = some k → k < lo ∨ hi ≤ k) : Own enc sz E base w1 v l := by
  refine ⟨h.1, ?_⟩
  rcases h.2 with h2 | ⟨g, cap, cur, hv, hg, hh, r⟩
  · exact .inl h2
  · exact .inr ⟨g, cap, cur, hv, hg, by rw [hw.block g (Array.getElem?_eq_some_iff.1 hh).1 (ho g (by rw [hv]; rfl))]; exact hh, r⟩
theorem Rd.within {α : Type} {enc : α → List Value} {sz lo hi : Nat} {w w1 : World} {v : Value} {l : List α} (h : Rd enc sz w v l) (hw : Within lo hi w w1) (ho : ∀ k, v.ownBlock = some k → k < lo ∨ hi ≤ k) : Rd enc sz w1 v l := by
  obtain ⟨A, cap, e, hc, hl, hr⟩ := h
  refine ⟨A, cap, e, hc, hl, fun i x hx => ?_⟩
  obtain ⟨ad, ea, hu⟩ := hr i x hx
  refine ⟨ad, ea, fun j u h => ?_⟩
  have h1 := hu j u h
  have hb : (ad.add (i * sz + j)).block = ad.block := by unfold Addr.add; split <;> rfl
  exact (World.cell?_of_block (hw.block _ (World.block_lt_of_cell? _ _ h1) (by rw [hb]; exact ho _ (by rw [e, ea]; rfl)))).trans h1

/-- 'out = append(out, x)': one element behind a call's own. The element has just been laid in a block of its own. -/
theorem append1 {P : Program} {W : World} {ops : Array Oper} {rest : List Oper} {o : Oper} {a : Act} {Q : Exit → Act → World → Prop} {α : Type} {enc : α → List Value}
    (E sz bytes t : Nat) (z : Value) (ht : P.underlying t = some (.slice E)) (hinfo : (P.info? E).map (fun i => (i.zero, i.size, i.bytes)) = some (some z, sz, bytes)) (hz : z.cells.size = sz) (hs0 : 0 < sz)
    (hlen : ∀ x, (enc x).length = sz) (hone : ∀ x, ∀ u ∈ enc x, u.oneCell' = true)
    (hgd : o.guard = none) (s x : Operand) (ho : o.op = .call { callee := .builtin .append, args := #[s, x], argTypes := #[t, t] })
    (base : Nat) (v : Value) (l : List α) (y : α) (cs : Array Value) (hcs : cs = (enc y).toArray) (hs : a.eval s = v) (hx : a.eval x = .slice (some ⟨W.heap.size, 0, none⟩) 1 1)
    (hown : Own enc sz E base W v l) (hbytes : (l.length + 1) * bytes ≤ 140737488355328) (hb0 : 0 < bytes) (hbase : base ≤ W.heap.size)
    (h : ∀ v' w', Own enc sz E base w' v' (l ++ [y]) → W.grownBy w' v.ownBlock → wpList P ops Q rest (a.put o.dst v') w') :
    wpList P ops Q (o :: rest) a (W.alloc (.cells cs E)) := by
  obtain ⟨i0, hi, hz0, hz1, hz2⟩ := info_parts hinfo
  have hl : l.length + 1 ≤ 140737488355328 := Nat.le_trans (Nat.le_mul_of_pos_right _ hb0) hbytes
  subst hcs
  refine wpList_append_own _ hgd s x t ho base E i0 z sz bytes ht hi hz0 hz1 hz2 hz hs0 v l.length (l.flatMap enc) hs (World.ownsRow.alloc hown _) ⟨W.heap.size, 0, none⟩ 1 1 (enc y) hx (by rw [hlen]; omega)
    (by simpa using World.news_of_block (cs := (enc y).toArray) (t := E) (fr := (0, 0)) (heap_alloc_new W (.cells (enc y).toArray E))) (hone y) (by unfold maxLen; omega) hbytes (by simp; omega) ?_
  intro v' w' hown' hg _
  refine h v' w' ?_ (World.grownBy.trans (World.grownBy_alloc W _ _) hg)
  unfold Own
  simpa using hown'

end Go.Proofs.Ythphfcheencbgaa.Base

namespace Go.Proofs.Ythphfcheencbgaa.Kinds
open Go.RowKit Go.Proofs.Ythphfcheencbgaa.Base
set_option linter.unusedVariables false
set_option linter.unusedSimpArgs false

def wEnc (x : Int) : List Value := [.int .u64 x]
theorem wLen (x : Int) : (wEnc x).length = 1 := rfl
theorem wOne (x : Int) : ∀ u ∈ wEnc x, u.oneCell' = true := by intro u hu; simp [wEnc] at hu; subst hu; rfl
theorem word_at {w : World} {A : Option Addr} {n cap k : Nat} {l : List Int} (h : Rd wEnc 1 w (.slice A n cap) l) (hk : k < l.length) : ∃ ad x, A = some ad ∧ l[k]? = some x ∧ w.cell? (ad.add k) = some (.int .u64 x) := by
  obtain ⟨ad, x, e, hx, hu⟩ := h.get hk
  exact ⟨ad, x, e, hx, by simpa using hu 0 _ rfl⟩

structure SWrite where
  Adr : Int
  Word : Int
  deriving DecidableEq
def SWrite.enc (x : SWrite) : List Value := [.int .i64 x.Adr, .int .u64 x.Word]
def SWrite.val (x : SWrite) : Value := .agg #[.int .i64 x.Adr, .int .u64 x.Word]
theorem SWrite.len (x : SWrite) : (SWrite.enc x).length = 2 := rfl
theorem SWrite.one (x : SWrite) : ∀ u ∈ SWrite.enc x, u.oneCell' = true := by
  intro u hu
  simp only [SWrite.enc, List.mem_cons, List.not_mem_nil, or_false] at hu
  rcases hu with rfl | rfl <;> rfl
theorem SWrite.at {w : World} {A : Option Addr} {n cap k : Nat} {l : List SWrite} (h : Rd SWrite.enc 2 w (.slice A n cap) l) (hk : k < l.length) :
    ∃ ad x, A = some ad ∧ l[k]? = some x ∧ w.cell? (ad.add (k * 2)) = some (.int .i64 x.Adr) ∧ w.cell? ⟨(ad.add (k * 2)).block, (ad.add (k * 2)).off + 1, none⟩ = some (.int .u64 x.Word) := by
  obtain ⟨ad, x, e, hx, hu⟩ := h.get hk
  exact ⟨ad, x, e, hx, field0 hu rfl, fieldN hu 1 (by decide) rfl⟩

structure STlb where
  Page : Int
  Size : Int
  Out : Int
  Perm : Int
  Doomed : Bool
  deriving DecidableEq
def STlb.enc (x : STlb) : List Value := [.int .i64 x.Page, .int .i64 x.Size, .int .i64 x.Out, .int .i64 x.Perm, .bool x.Doomed]
def STlb.val (x : STlb) : Value := .agg #[.int .i64 x.Page, .int .i64 x.Size, .int .i64 x.Out, .int .i64 x.Perm, .bool x.Doomed]
theorem STlb.len (x : STlb) : (STlb.enc x).length = 5 := rfl
theorem STlb.one (x : STlb) : ∀ u ∈ STlb.enc x, u.oneCell' = true := by
  intro u hu
  simp only [STlb.enc, List.mem_cons, List.not_mem_nil, or_false] at hu
  rcases hu with rfl | rfl | rfl | rfl | rfl <;> rfl
theorem STlb.at {w : World} {A : Option Addr} {n cap k : Nat} {l : List STlb} (h : Rd STlb.enc 5 w (.slice A n cap) l) (hk : k < l.length) :
    ∃ ad x, A = some ad ∧ l[k]? = some x ∧ w.cell? (ad.add (k * 5)) = some (.int .i64 x.Page) ∧ w.cell? ⟨(ad.add (k * 5)).block, (ad.add (k * 5)).off + 1, none⟩ = some (.int .i64 x.Size) ∧ w.cell? ⟨(ad.add (k * 5)).block, (ad.add (k * 5)).off + 2, none⟩ = some (.int .i64 x.Out) ∧ w.cell? ⟨(ad.add (k * 5)).block, (ad.add (k * 5)).off + 3, none⟩ = some (.int .i64 x.Perm) ∧ w.cell? ⟨(ad.add (k * 5)).block, (ad.add (k * 5)).off + 4, none⟩ = some (.bool x.Doomed) := by
  obtain ⟨ad, x, e, hx, hu⟩ := h.get hk
  exact ⟨ad, x, e, hx, field0 hu rfl, fieldN hu 1 (by decide) rfl, fieldN hu 2 (by decide) rfl, fieldN hu 3 (by decide) rfl, fieldN hu 4 (by decide) rfl⟩

structure SWc where
  Level : Int
  Page : Int
  Table : Int
  Doomed : Bool
  deriving DecidableEq
def SWc.enc (x : SWc) : List Value := [.int .i64 x.Level, .int .i64 x.Page, .int .i64 x.Table, .bool x.Doomed]
def SWc.val (x : SWc) : Value := .agg #[.int .i64 x.Level, .int .i64 x.Page, .int .i64 x.Table, .bool x.Doomed]
theorem SWc.len (x : SWc) : (SWc.enc x).length = 4 := rfl
theorem SWc.one (x : SWc) : ∀ u ∈ SWc.enc x, u.oneCell' = true := by
  intro u hu
  simp only [SWc.enc, List.mem_cons, List.not_mem_nil, or_false] at hu
  rcases hu with rfl | rfl | rfl | rfl <;> rfl
theorem SWc.at {w : World} {A : Option Addr} {n cap k : Nat} {l : List SWc} (h : Rd SWc.enc 4 w (.slice A n cap) l) (hk : k < l.length) :
    ∃ ad x, A = some ad ∧ l[k]? = some x ∧ w.cell? (ad.add (k * 4)) = some (.int .i64 x.Level) ∧ w.cell? ⟨(ad.add (k * 4)).block, (ad.add (k * 4)).off + 1, none⟩ = some (.int .i64 x.Page) ∧ w.cell? ⟨(ad.add (k * 4)).block, (ad.add (k * 4)).off + 2, none⟩ = some (.int .i64 x.Table) ∧ w.cell? ⟨(ad.add (k * 4)).block, (ad.add (k * 4)).off + 3, none⟩ = some (.bool x.Doomed) := by
  obtain ⟨ad, x, e, hx, hu⟩ := h.get hk
  exact ⟨ad, x, e, hx, field0 hu rfl, fieldN hu 1 (by decide) rfl, fieldN hu 2 (by decide) rfl, fieldN hu 3 (by decide) rfl⟩

structure SSpan where
  Page : Int
  Count : Int
  Out : Int
  Perm : Int
  Huge : Bool
  deriving DecidableEq
def SSpan.enc (x : SSpan) : List Value := [.int .i64 x.Page, .int .i64 x.Count, .int .i64 x.Out, .int .i64 x.Perm, .bool x.Huge]
def SSpan.val (x : SSpan) : Value := .agg #[.int .i64 x.Page, .int .i64 x.Count, .int .i64 x.Out, .int .i64 x.Perm, .bool x.Huge]
theorem SSpan.len (x : SSpan) : (SSpan.enc x).length = 5 := rfl
theorem SSpan.one (x : SSpan) : ∀ u ∈ SSpan.enc x, u.oneCell' = true := by
  intro u hu
  simp only [SSpan.enc, List.mem_cons, List.not_mem_nil, or_false] at hu
  rcases hu with rfl | rfl | rfl | rfl | rfl <;> rfl
theorem SSpan.at {w : World} {A : Option Addr} {n cap k : Nat} {l : List SSpan} (h : Rd SSpan.enc 5 w (.slice A n cap) l) (hk : k < l.length) :
    ∃ ad x, A = some ad ∧ l[k]? = some x ∧ w.cell? (ad.add (k * 5)) = some (.int .i64 x.Page) ∧ w.cell? ⟨(ad.add (k * 5)).block, (ad.add (k * 5)).off + 1, none⟩ = some (.int .i64 x.Count) ∧ w.cell? ⟨(ad.add (k * 5)).block, (ad.add (k * 5)).off + 2, none⟩ = some (.int .i64 x.Out) ∧ w.cell? ⟨(ad.add (k * 5)).block, (ad.add (k * 5)).off + 3, none⟩ = some (.int .i64 x.Perm) ∧ w.cell? ⟨(ad.add (k * 5)).block, (ad.add (k * 5)).off + 4, none⟩ = some (.bool x.Huge) := by
  obtain ⟨ad, x, e, hx, hu⟩ := h.get hk
  exact ⟨ad, x, e, hx, field0 hu rfl, fieldN hu 1 (by decide) rfl, fieldN hu 2 (by decide) rfl, fieldN hu 3 (by decide) rfl, fieldN hu 4 (by decide) rfl⟩

structure SPlace where
  Frame : Int
  Level : Int
  Page : Int
  deriving DecidableEq
def SPlace.enc (x : SPlace) : List Value := [.int .i64 x.Frame, .int .i64 x.Level, .int .i64 x.Page]
def SPlace.val (x : SPlace) : Value := .agg #[.int .i64 x.Frame, .int .i64 x.Level, .int .i64 x.Page]
theorem SPlace.len (x : SPlace) : (SPlace.enc x).length = 3 := rfl
theorem SPlace.one (x : SPlace) : ∀ u ∈ SPlace.enc x, u.oneCell' = true := by
  intro u hu
  simp only [SPlace.enc, List.mem_cons, List.not_mem_nil, or_false] at hu
  rcases hu with rfl | rfl | rfl <;> rfl
theorem SPlace.at {w : World} {A : Option Addr} {n cap k : Nat} {l : List SPlace} (h : Rd SPlace.enc 3 w (.slice A n cap) l) (hk : k < l.length) :
    ∃ ad x, A = some ad ∧ l[k]? = some x ∧ w.cell? (ad.add (k * 3)) = some (.int .i64 x.Frame) ∧ w.cell? ⟨(ad.add (k * 3)).block, (ad.add (k * 3)).off + 1, none⟩ = some (.int .i64 x.Level) ∧ w.cell? ⟨(ad.add (k * 3)).block, (ad.add (k * 3)).off + 2, none⟩ = some (.int .i64 x.Page) := by
  obtain ⟨ad, x, e, hx, hu⟩ := h.get hk
  exact ⟨ad, x, e, hx, field0 hu rfl, fieldN hu 1 (by decide) rfl, fieldN hu 2 (by decide) rfl⟩

structure SHit where
  Kind : Int
  Out : Int
  Perm : Int
  Size : Int
  deriving DecidableEq
def SHit.enc (x : SHit) : List Value := [.int .i64 x.Kind, .int .i64 x.Out, .int .i64 x.Perm, .int .i64 x.Size]
def SHit.val (x : SHit) : Value := .agg #[.int .i64 x.Kind, .int .i64 x.Out, .int .i64 x.Perm, .int .i64 x.Size]
theorem SHit.len (x : SHit) : (SHit.enc x).length = 4 := rfl
theorem SHit.one (x : SHit) : ∀ u ∈ SHit.enc x, u.oneCell' = true := by
  intro u hu
  simp only [SHit.enc, List.mem_cons, List.not_mem_nil, or_false] at hu
  rcases hu with rfl | rfl | rfl | rfl <;> rfl
theorem SHit.at {w : World} {A : Option Addr} {n cap k : Nat} {l : List SHit} (h : Rd SHit.enc 4 w (.slice A n cap) l) (hk : k < l.length) :
    ∃ ad x, A = some ad ∧ l[k]? = some x ∧ w.cell? (ad.add (k * 4)) = some (.int .i64 x.Kind) ∧ w.cell? ⟨(ad.add (k * 4)).block, (ad.add (k * 4)).off + 1, none⟩ = some (.int .i64 x.Out) ∧ w.cell? ⟨(ad.add (k * 4)).block, (ad.add (k * 4)).off + 2, none⟩ = some (.int .i64 x.Perm) ∧ w.cell? ⟨(ad.add (k * 4)).block, (ad.add (k * 4)).off + 3, none⟩ = some (.int .i64 x.Size) := by
  obtain ⟨ad, x, e, hx, hu⟩ := h.get hk
  exact ⟨ad, x, e, hx, field0 hu rfl, fieldN hu 1 (by decide) rfl, fieldN hu 2 (by decide) rfl, fieldN hu 3 (by decide) rfl⟩

structure SSeen where
  Page : Int
  Need : Int
  Kind : Int
  Out : Int
  deriving DecidableEq
def SSeen.enc (x : SSeen) : List Value := [.int .i64 x.Page, .int .i64 x.Need, .int .i64 x.Kind, .int .i64 x.Out]
def SSeen.val (x : SSeen) : Value := .agg #[.int .i64 x.Page, .int .i64 x.Need, .int .i64 x.Kind, .int .i64 x.Out]
theorem SSeen.len (x : SSeen) : (SSeen.enc x).length = 4 := rfl
theorem SSeen.one (x : SSeen) : ∀ u ∈ SSeen.enc x, u.oneCell' = true := by
  intro u hu
  simp only [SSeen.enc, List.mem_cons, List.not_mem_nil, or_false] at hu
  rcases hu with rfl | rfl | rfl | rfl <;> rfl
theorem SSeen.at {w : World} {A : Option Addr} {n cap k : Nat} {l : List SSeen} (h : Rd SSeen.enc 4 w (.slice A n cap) l) (hk : k < l.length) :
    ∃ ad x, A = some ad ∧ l[k]? = some x ∧ w.cell? (ad.add (k * 4)) = some (.int .i64 x.Page) ∧ w.cell? ⟨(ad.add (k * 4)).block, (ad.add (k * 4)).off + 1, none⟩ = some (.int .i64 x.Need) ∧ w.cell? ⟨(ad.add (k * 4)).block, (ad.add (k * 4)).off + 2, none⟩ = some (.int .i64 x.Kind) ∧ w.cell? ⟨(ad.add (k * 4)).block, (ad.add (k * 4)).off + 3, none⟩ = some (.int .i64 x.Out) := by
  obtain ⟨ad, x, e, hx, hu⟩ := h.get hk
  exact ⟨ad, x, e, hx, field0 hu rfl, fieldN hu 1 (by decide) rfl, fieldN hu 2 (by decide) rfl, fieldN hu 3 (by decide) rfl⟩

structure SOp where
  Kind : Int
  A : Int
  B : Int
  Word : Int
  deriving DecidableEq
def SOp.enc (x : SOp) : List Value := [.int .i64 x.Kind, .int .i64 x.A, .int .i64 x.B, .int .u64 x.Word]
def SOp.val (x : SOp) : Value := .agg #[.int .i64 x.Kind, .int .i64 x.A, .int .i64 x.B, .int .u64 x.Word]
theorem SOp.len (x : SOp) : (SOp.enc x).length = 4 := rfl
theorem SOp.one (x : SOp) : ∀ u ∈ SOp.enc x, u.oneCell' = true := by
  intro u hu
  simp only [SOp.enc, List.mem_cons, List.not_mem_nil, or_false] at hu
  rcases hu with rfl | rfl | rfl | rfl <;> rfl
theorem SOp.at {w : World} {A : Option Addr} {n cap k : Nat} {l : List SOp} (h : Rd SOp.enc 4 w (.slice A n cap) l) (hk : k < l.length) :
    ∃ ad x, A = some ad ∧ l[k]? = some x ∧ w.cell? (ad.add (k * 4)) = some (.int .i64 x.Kind) ∧ w.cell? ⟨(ad.add (k * 4)).block, (ad.add (k * 4)).off + 1, none⟩ = some (.int .i64 x.A) ∧ w.cell? ⟨(ad.add (k * 4)).block, (ad.add (k * 4)).off + 2, none⟩ = some (.int .i64 x.B) ∧ w.cell? ⟨(ad.add (k * 4)).block, (ad.add (k * 4)).off + 3, none⟩ = some (.int .u64 x.Word) := by
  obtain ⟨ad, x, e, hx, hu⟩ := h.get hk
  exact ⟨ad, x, e, hx, field0 hu rfl, fieldN hu 1 (by decide) rfl, fieldN hu 2 (by decide) rfl, fieldN hu 3 (by decide) rfl⟩

structure SEvent where
  Kind : Int
  Page : Int
  Need : Int
  Choice : Int
  deriving DecidableEq
def SEvent.enc (x : SEvent) : List Value := [.int .i64 x.Kind, .int .i64 x.Page, .int .i64 x.Need, .int .i64 x.Choice]
def SEvent.val (x : SEvent) : Value := .agg #[.int .i64 x.Kind, .int .i64 x.Page, .int .i64 x.Need, .int .i64 x.Choice]
theorem SEvent.len (x : SEvent) : (SEvent.enc x).length = 4 := rfl
theorem SEvent.one (x : SEvent) : ∀ u ∈ SEvent.enc x, u.oneCell' = true := by
  intro u hu
  simp only [SEvent.enc, List.mem_cons, List.not_mem_nil, or_false] at hu
  rcases hu with rfl | rfl | rfl | rfl <;> rfl
theorem SEvent.at {w : World} {A : Option Addr} {n cap k : Nat} {l : List SEvent} (h : Rd SEvent.enc 4 w (.slice A n cap) l) (hk : k < l.length) :
    ∃ ad x, A = some ad ∧ l[k]? = some x ∧ w.cell? (ad.add (k * 4)) = some (.int .i64 x.Kind) ∧ w.cell? ⟨(ad.add (k * 4)).block, (ad.add (k * 4)).off + 1, none⟩ = some (.int .i64 x.Page) ∧ w.cell? ⟨(ad.add (k * 4)).block, (ad.add (k * 4)).off + 2, none⟩ = some (.int .i64 x.Need) ∧ w.cell? ⟨(ad.add (k * 4)).block, (ad.add (k * 4)).off + 3, none⟩ = some (.int .i64 x.Choice) := by
  obtain ⟨ad, x, e, hx, hu⟩ := h.get hk
  exact ⟨ad, x, e, hx, field0 hu rfl, fieldN hu 1 (by decide) rfl, fieldN hu 2 (by decide) rfl, fieldN hu 3 (by decide) rfl⟩

end Go.Proofs.Ythphfcheencbgaa.Kinds

namespace Go.Proofs.Ythphfcheencbgaa.Base
open Go.RowKit Go.Proofs.Ythphfcheencbgaa.Base
set_option linter.unusedVariables false
set_option linter.unusedSimpArgs false

theorem row_set {w : World} {base E sz g n c n' : Nat} {xs : List Value} (h : w.ownsRow base E sz (.slice (some ⟨g, 0, none⟩) n c) n' xs) (m : Nat) (hm : m < xs.length) (u : Value) :
    (w.setCell ⟨g, m, none⟩ u).ownsRow base E sz (.slice (some ⟨g, 0, none⟩) n c) n' (xs.set m u) := by
  obtain ⟨h1, h2⟩ := h
  refine ⟨by rw [List.length_set]; exact h1, ?_⟩
  rcases h2 with ⟨h2, _⟩ | ⟨g', cap, cur, hv, hg, hh, hn, hc, hs, ht⟩
  · cases h2
  · simp only [Value.slice.injEq, Option.some.injEq, Addr.mk.injEq] at hv
    obtain ⟨⟨rfl, _⟩, rfl, rfl⟩ := hv
    refine .inr ⟨g, c, cur.setIfInBounds m u, rfl, hg, ?_, hn, hc, by simpa using hs, ?_⟩
    · simp [World.setCell, Array.getElem?_modify, hh]
    · rw [Array.toList_setIfInBounds, List.take_set, ht]

theorem set_mid {P X S : List Value} {i : Nat} (hi : i < X.length) (u : Value) : (P ++ (X ++ S)).set (P.length + i) u = P ++ (X.set i u ++ S) := by
  rw [List.set_append, if_neg (by omega), Nat.add_sub_cancel_left, List.set_append, if_pos hi]

theorem flat_parts {α : Type} {enc : α → List Value} {sz : Nat} (hlen : ∀ x, (enc x).length = sz) (l : List α) (j : Nat) (x : α) (hx : l[j]? = some x) :
    ∃ P S, P.length = j * sz ∧ l.flatMap enc = P ++ (enc x ++ S) ∧ ∀ y, (l.set j y).flatMap enc = P ++ (enc y ++ S) := by
  have hj : j < l.length := (List.getElem?_eq_some_iff.1 hx).1
  have e : l = l.take j ++ x :: l.drop (j + 1) := by
    have hg : l[j] = x := (List.getElem?_eq_some_iff.1 hx).2
    rw [← hg, List.getElem_cons_drop, List.take_append_drop]
  have hl : (l.take j).length = j := by rw [List.length_take]; omega
  refine ⟨(l.take j).flatMap enc, (l.drop (j + 1)).flatMap enc, by rw [flat_len hlen, hl], ?_, fun y => ?_⟩
  · conv => lhs; rw [e]
    simp
  · conv => lhs; rw [e]
    rw [List.set_append, if_neg (by omega), hl, Nat.sub_self, List.set_cons_zero]
    simp

theorem grown_set {w w1 : World} {g : Nat} (h : w.grownBy w1 (some g)) (m : Nat) (u : Value) : w.grownBy (w1.setCell ⟨g, m, none⟩ u) (some g) :=
  ⟨h.os, h.tape, h.output, by simpa [World.setCell] using h.size, fun k hk hne => by
    rw [Below.heap_setCell _ _ _ _ (by simp only [ne_eq, Option.some.injEq] at hne; simpa using hne)]
    exact h.block k hk hne⟩
theorem grown_refl (w : World) (row : Option Nat) : w.grownBy w row := ⟨rfl, rfl, rfl, Nat.le_refl _, fun _ _ _ => rfl⟩

/-- A call's own slice that is not empty: where it lies; no cell of its block is frozen; its elements' cells. -/
theorem Own.block {α : Type} {enc : α → List Value} {sz E base : Nat} {w : World} {A : Option Addr} {n c : Nat} {l : List α} (hlen : ∀ x, (enc x).length = sz) (h : Own enc sz E base w (.slice A n c) l) (hn : 0 < l.length) :
    ∃ g, A = some ⟨g, 0, none⟩ ∧ base ≤ g ∧ g < w.heap.size ∧ (∀ i, w.frozen? ⟨g, i, none⟩ = false) ∧ ∀ (j : Nat) x, l[j]? = some x → ∀ i u, (enc x)[i]? = some u → w.cell? ⟨g, j * sz + i, none⟩ = some u := by
  rcases h.2 with ⟨_, hz⟩ | ⟨g, cap, cur, hv, hb, hg, hnc, hm, hs, ht⟩
  · omega
  · simp only [Value.slice.injEq] at hv
    obtain ⟨rfl, rfl, rfl⟩ := hv
    refine ⟨g, rfl, hb, (Array.getElem?_eq_some_iff.1 hg).1, fun i => by simp [World.frozen?, hg], fun j x hx i u hu => ?_⟩
    have := World.ownsRow.cells h (by rfl) _ _ (flat_get hlen l j x hx i u hu)
    unfold Addr.add at this
    split at this
    · rename_i h0; rw [h0]; exact this
    · simpa using this

/-- What the marking loop has come to. -/
theorem marks_step {α : Type} (f : Nat → α) (l : List α) (j : Nat) (hj : j < l.length) : ((List.range j).map f ++ l.drop j).set j (f j) = (List.range (j + 1)).map f ++ l.drop (j + 1) := by
  rw [List.set_append, if_neg (by simp), List.length_map, List.length_range, Nat.sub_self, List.range_succ, List.map_append, List.drop_eq_getElem_cons hj, List.set_cons_zero]
  simp
theorem marks_get {α : Type} (f : Nat → α) (l : List α) (j : Nat) (hj : j < l.length) : ((List.range j).map f ++ l.drop j)[j]? = l[j]? := by
  rw [List.getElem?_append_right (by simp), List.length_map, List.length_range, Nat.sub_self, List.getElem?_drop]; simp
theorem made_rep {α : Type} {enc : α → List Value} {sz : Nat} (hlen : ∀ x, (enc x).length = sz) (z : α) {zc : Array Value} (hz : zc = (enc z).toArray) (h0 : 0 < sz) (n : Nat) : (madeCells zc (n * sz)).toList = (List.replicate n z).flatMap enc := by
  subst hz
  apply List.ext_getElem?
  intro i
  by_cases hi : i < n * sz
  · have hd : i / sz < n := Nat.div_lt_of_lt_mul (by rw [Nat.mul_comm]; exact hi)
    have hm : i % sz < sz := Nat.mod_lt _ h0
    have hs : ((enc z).toArray).size = sz := by simp [hlen]
    have e := flat_get hlen (List.replicate n z) (i / sz) z (by rw [List.getElem?_replicate, if_pos hd]) (i % sz) _ (List.getElem?_eq_getElem (by rw [hlen]; exact hm))
    rw [Nat.div_add_mod'] at e
    rw [e]
    simp only [madeCells, Array.toList_map, Array.toList_range, List.getElem?_map, List.getElem?_range hi, Option.map_some, hs]
    simp [hlen, hm]
  · rw [List.getElem?_eq_none (by simp [madeCells]; omega), List.getElem?_eq_none (by rw [flat_len hlen]; simp; omega)]
theorem fill_step {α : Type} {l : List α} {z x : α} {j : Nat} (hx : l[j]? = some x) (hj : j < l.length) : (l.take j ++ List.replicate (l.length - j) z).set j x = l.take (j + 1) ++ List.replicate (l.length - (j + 1)) z := by
  rw [take_snoc hx, List.set_append, if_neg (by simp; omega), List.length_take, Nat.min_eq_left (by omega), Nat.sub_self, show l.length - j = (l.length - (j + 1)) + 1 by omega, List.replicate_succ, List.set_cons_zero]
  simp
theorem marks_len {α : Type} (f : Nat → α) (l : List α) (j : Nat) (hj : j ≤ l.length) : ((List.range j).map f ++ l.drop j).length = l.length := by
  simp; omega

theorem own_set1 {α : Type} {enc : α → List Value} {E base : Nat} {w : World} {g n c : Nat} {l : List α} (hlen : ∀ x, (enc x).length = 1) (h : Own enc 1 E base w (.slice (some ⟨g, 0, none⟩) n c) l) (j : Nat) (hj : j < l.length) (y : α) {u0 : Value} (hy : enc y = [u0]) :
    Own enc 1 E base (w.setCell ⟨g, j, none⟩ u0) (.slice (some ⟨g, 0, none⟩) n c) (l.set j y) := by
  obtain ⟨P, S, hP, hf, hs⟩ := flat_parts hlen l j _ (List.getElem?_eq_getElem hj)
  have hx := hlen l[j]
  generalize enc l[j] = X at hf hx
  obtain ⟨b0, rfl⟩ : ∃ b0, X = [b0] := by
    match X, hx with
    | [b0], _ => exact ⟨b0, rfl⟩
  unfold Own at h ⊢
  rw [hf] at h
  rw [hs y, hy, List.length_set]
  have h0 := row_set h (P.length + 0) (by simp) u0
  rw [set_mid (by simp)] at h0
  rw [hP] at h0
  simpa using h0

theorem own_set2 {α : Type} {enc : α → List Value} {E base : Nat} {w : World} {g n c : Nat} {l : List α} (hlen : ∀ x, (enc x).length = 2) (h : Own enc 2 E base w (.slice (some ⟨g, 0, none⟩) n c) l) (j : Nat) (hj : j < l.length) (y : α) {u0 u1 : Value} (hy : enc y = [u0, u1]) :
    Own enc 2 E base ((w.setCell ⟨g, j * 2, none⟩ u0).setCell ⟨g, j * 2 + 1, none⟩ u1) (.slice (some ⟨g, 0, none⟩) n c) (l.set j y) := by
  obtain ⟨P, S, hP, hf, hs⟩ := flat_parts hlen l j _ (List.getElem?_eq_getElem hj)
  have hx := hlen l[j]
  generalize enc l[j] = X at hf hx
  obtain ⟨b0, b1, rfl⟩ : ∃ b0 b1, X = [b0, b1] := by
    match X, hx with
    | [b0, b1], _ => exact ⟨b0, b1, rfl⟩
  unfold Own at h ⊢
  rw [hf] at h
  rw [hs y, hy, List.length_set]
  have h0 := row_set h (P.length + 0) (by simp) u0
  rw [set_mid (by simp)] at h0
  have h1 := row_set h0 (P.length + 1) (by simp) u1
  rw [set_mid (by simp)] at h1
  rw [hP] at h0 h1
  simpa using h1

theorem own_set3 {α : Type} {enc : α → List Value} {E base : Nat} {w : World} {g n c : Nat} {l : List α} (hlen : ∀ x, (enc x).length = 3) (h : Own enc 3 E base w (.slice (some ⟨g, 0, none⟩) n c) l) (j : Nat) (hj : j < l.length) (y : α) {u0 u1 u2 : Value} (hy : enc y = [u0, u1, u2]) :
    Own enc 3 E base (((w.setCell ⟨g, j * 3, none⟩ u0).setCell ⟨g, j * 3 + 1, none⟩ u1).setCell ⟨g, j * 3 + 2, none⟩ u2) (.slice (some ⟨g, 0, none⟩) n c) (l.set j y) := by
  obtain ⟨P, S, hP, hf, hs⟩ := flat_parts hlen l j _ (List.getElem?_eq_getElem hj)
  have hx := hlen l[j]
  generalize enc l[j] = X at hf hx
  obtain ⟨b0, b1, b2, rfl⟩ : ∃ b0 b1 b2, X = [b0, b1, b2] := by
    match X, hx with
    | [b0, b1, b2], _ => exact ⟨b0, b1, b2, rfl⟩
  unfold Own at h ⊢
  rw [hf] at h
  rw [hs y, hy, List.length_set]
  have h0 := row_set h (P.length + 0) (by simp) u0
  rw [set_mid (by simp)] at h0
  have h1 := row_set h0 (P.length + 1) (by simp) u1
  rw [set_mid (by simp)] at h1
  have h2 := row_set h1 (P.length + 2) (by simp) u2
  rw [set_mid (by simp)] at h2
  rw [hP] at h0 h1 h2
  simpa using h2

theorem own_set4 {α : Type} {enc : α → List Value} {E base : Nat} {w : World} {g n c : Nat} {l : List α} (hlen : ∀ x, (enc x).length = 4) (h : Own enc 4 E base w (.slice (some ⟨g, 0, none⟩) n c) l) (j : Nat) (hj : j < l.length) (y : α) {u0 u1 u2 u3 : Value} (hy : enc y = [u0, u1, u2, u3]) :
    Own enc 4 E base ((((w.setCell ⟨g, j * 4, none⟩ u0).setCell ⟨g, j * 4 + 1, none⟩ u1).setCell ⟨g, j * 4 + 2, none⟩ u2).setCell ⟨g, j * 4 + 3, none⟩ u3) (.slice (some ⟨g, 0, none⟩) n c) (l.set j y) := by
  obtain ⟨P, S, hP, hf, hs⟩ := flat_parts hlen l j _ (List.getElem?_eq_getElem hj)
  have hx := hlen l[j]
  generalize enc l[j] = X at hf hx
  obtain ⟨b0, b1, b2, b3, rfl⟩ : ∃ b0 b1 b2 b3, X = [b0, b1, b2, b3] := by
    match X, hx with
    | [b0, b1, b2, b3], _ => exact ⟨b0, b1, b2, b3, rfl⟩
  unfold Own at h ⊢
  rw [hf] at h
  rw [hs y, hy, List.length_set]
  have h0 := row_set h (P.length + 0) (by simp) u0
  rw [set_mid (by simp)] at h0
  have h1 := row_set h0 (P.length + 1) (by simp) u1
  rw [set_mid (by simp)] at h1
  have h2 := row_set h1 (P.length + 2) (by simp) u2
  rw [set_mid (by simp)] at h2
  have h3 := row_set h2 (P.length + 3) (by simp) u3
  rw [set_mid (by simp)] at h3
  rw [hP] at h0 h1 h2 h3
  simpa using h3

theorem own_set5 {α : Type} {enc : α → List Value} {E base : Nat} {w : World} {g n c : Nat} {l : List α} (hlen : ∀ x, (enc x).length = 5) (h : Own enc 5 E base w (.slice (some ⟨g, 0, none⟩) n c) l) (j : Nat) (hj : j < l.length) (y : α) {u0 u1 u2 u3 u4 : Value} (hy : enc y = [u0, u1, u2, u3, u4]) :
    Own enc 5 E base (((((w.setCell ⟨g, j * 5, none⟩ u0).setCell ⟨g, j * 5 + 1, none⟩ u1).setCell ⟨g, j * 5 + 2, none⟩ u2).setCell ⟨g, j * 5 + 3, none⟩ u3).setCell ⟨g, j * 5 + 4, none⟩ u4) (.slice (some ⟨g, 0, none⟩) n c) (l.set j y) := by
  obtain ⟨P, S, hP, hf, hs⟩ := flat_parts hlen l j _ (List.getElem?_eq_getElem hj)
  have hx := hlen l[j]
  generalize enc l[j] = X at hf hx
  obtain ⟨b0, b1, b2, b3, b4, rfl⟩ : ∃ b0 b1 b2 b3 b4, X = [b0, b1, b2, b3, b4] := by
    match X, hx with
    | [b0, b1, b2, b3, b4], _ => exact ⟨b0, b1, b2, b3, b4, rfl⟩
  unfold Own at h ⊢
  rw [hf] at h
  rw [hs y, hy, List.length_set]
  have h0 := row_set h (P.length + 0) (by simp) u0
  rw [set_mid (by simp)] at h0
  have h1 := row_set h0 (P.length + 1) (by simp) u1
  rw [set_mid (by simp)] at h1
  have h2 := row_set h1 (P.length + 2) (by simp) u2
  rw [set_mid (by simp)] at h2
  have h3 := row_set h2 (P.length + 3) (by simp) u3
  rw [set_mid (by simp)] at h3
  have h4 := row_set h3 (P.length + 4) (by simp) u4
  rw [set_mid (by simp)] at h4
  rw [hP] at h0 h1 h2 h3 h4
  simpa using h4

end Go.Proofs.Ythphfcheencbgaa.Base


namespace Go.Proofs.Ythphfcheencbgaa.Base
open Go.RowKit
set_option linter.unusedVariables false

/-- A world in which all that was there is as it was. -/
structure BW (w : World) where
  x : World
  h : Below w.heap.size w x
instance (w : World) : Inhabited (BW w) := ⟨⟨w, Below.refl _ _⟩⟩

theorem wp_region_below {P : Program} {id : Nat} {Q : Exit → Act → World → Prop} {a : Act} {w : World} {l : List Oper} (hm : P.follows .mixedOrders = true) (hB : Region.lexB .any l.toArray = true)
    (h : wpQuiet P l.toArray (fun w' => ∃ p : BW w, w' = p.x) (fun a' => ∀ w', (∃ p : BW w, w' = p.x) → Q .normal a' w') l a) : (Code.region id l.toArray true).wp P Q a w :=
  wp_region_quiet (C := fun w' => ∃ p : BW w, w' = p.x) hm hB ⟨⟨w.drew, below_drewN (Below.refl _ _) 1⟩, rfl⟩ (by simpa using h)

/-- A cell that was there, in every world of the class. -/
theorem BW.cell {w : World} {a : Addr} {v : Value} (h : w.cell? a = some v) (p : BW w) : p.x.cell? a = some v := (p.h.cell (World.block_lt_of_cell? _ _ h)).trans h
/-- A callee's contract, met in a world of the class. -/
theorem BW.calls {P : Program} {f : FuncId} {args : Array Value} {w : World} {p : BW w} {v : Value} (h : Calls P f args p.x fun e w' => e = .returned v ∧ Below p.x.heap.size p.x w') :
    Calls P f args p.x fun e w' => e = .returned v ∧ ∃ q : BW w, w' = q.x :=
  h.mono fun e w' ⟨he, hb⟩ => ⟨he, ⟨w', thenB p.h hb⟩, rfl⟩
theorem BW.same {P : Program} {f : FuncId} {args : Array Value} {w : World} {p : BW w} {v : Value} (h : Calls P f args p.x fun e w' => e = .returned v ∧ w' = p.x) :
    Calls P f args p.x fun e w' => e = .returned v ∧ ∃ q : BW w, w' = q.x :=
  h.mono fun e w' ⟨he, hb⟩ => ⟨he, p, hb⟩

end Go.Proofs.Ythphfcheencbgaa.Base

namespace Go.Proofs.Ythphfcheencbgaa.Base
open Go.RowKit
set_option linter.unusedVariables false
set_option linter.unusedSimpArgs false

theorem st_set {w : World} {p T : Nat} {cs : Array Value} (h : w.heap[p]? = some (.cells cs T)) (i : Nat) (u : Value) : (w.setCell ⟨p, i, none⟩ u).heap[p]? = some (.cells (cs.setIfInBounds i u) T) := by
  simp [World.setCell, Array.getElem?_modify, h]

/-- What was there at w0 is as it was; the blocks of l, the newest first, are there and hold what l says. -/
structure St (w0 : World) (l : List (Nat × Array Value × Nat)) (w : World) : Prop where
  b : Below w0.heap.size w0 w
  blk : ∀ x ∈ l, w.heap[x.1]? = some (.cells x.2.1 x.2.2)
  up : ∀ x ∈ l, w0.heap.size ≤ x.1
  ord : l.Pairwise (fun x y => y.1 < x.1)
section
variable {w0 w w1 : World} {l : List (Nat × Array Value × Nat)} {b T : Nat} {cs : Array Value}
theorem St.start (w : World) : St w [] w := ⟨Below.refl _ _, by simp, by simp, List.Pairwise.nil⟩
theorem St.below (h : St w0 l w) (hb : Below w.heap.size w w1) : St w0 l w1 :=
  ⟨thenB h.b hb, fun x hx => (hb.block x.1 (Array.getElem?_eq_some_iff.1 (h.blk x hx)).1).trans (h.blk x hx), h.up, h.ord⟩
theorem St.drew (h : St w0 l w) : St w0 l w.drew := ⟨h.b.drew, h.blk, h.up, h.ord⟩
theorem St.lt (h : St w0 l w) : ∀ x ∈ l, x.1 < w.heap.size := fun x hx => (Array.getElem?_eq_some_iff.1 (h.blk x hx)).1
theorem St.push (h : St w0 l w) (cs : Array Value) (T : Nat) : St w0 ((w.heap.size, cs, T) :: l) (w.alloc (.cells cs T)) := by
  have hb : Below w.heap.size w (w.alloc (.cells cs T)) := allocB (Below.refl _ _) _
  have h1 := h.below hb
  refine ⟨h1.b, fun x hx => ?_, fun x hx => ?_, List.Pairwise.cons (fun y hy => h.lt y hy) h.ord⟩
  · rcases List.mem_cons.1 hx with rfl | hx
    · exact heap_alloc_new w _
    · exact h1.blk x hx
  · rcases List.mem_cons.1 hx with rfl | hx
    · exact h.b.size
    · exact h.up x hx
theorem St.push2 (h : St w0 l w) (cs : Array Value) (T : Nat) (cs' : Array Value) (T' : Nat) : St w0 ((w.heap.size + 1, cs', T') :: (w.heap.size, cs, T) :: l) ((w.alloc (.cells cs T)).alloc (.cells cs' T')) := by
  have := (h.push cs T).push cs' T'
  rwa [show (w.alloc (.cells cs T)).heap.size = w.heap.size + 1 by simp] at this
theorem St.push3 (h : St w0 l w) (cs : Array Value) (T : Nat) (cs' : Array Value) (T' : Nat) (cs2 : Array Value) (T2 : Nat) : St w0 ((w.heap.size + 2, cs2, T2) :: (w.heap.size + 1, cs', T') :: (w.heap.size, cs, T) :: l) (((w.alloc (.cells cs T)).alloc (.cells cs' T')).alloc (.cells cs2 T2)) := by
  have := (h.push2 cs T cs' T').push cs2 T2
  rwa [show ((w.alloc (.cells cs T)).alloc (.cells cs' T')).heap.size = w.heap.size + 2 by simp] at this
theorem St.push4 (h : St w0 l w) (cs : Array Value) (T : Nat) (cs' : Array Value) (T' : Nat) (cs2 : Array Value) (T2 : Nat) (cs3 : Array Value) (T3 : Nat) : St w0 ((w.heap.size + 3, cs3, T3) :: (w.heap.size + 2, cs2, T2) :: (w.heap.size + 1, cs', T') :: (w.heap.size, cs, T) :: l) ((((w.alloc (.cells cs T)).alloc (.cells cs' T')).alloc (.cells cs2 T2)).alloc (.cells cs3 T3)) := by
  have := (h.push3 cs T cs' T' cs2 T2).push cs3 T3
  rwa [show (((w.alloc (.cells cs T)).alloc (.cells cs' T')).alloc (.cells cs2 T2)).heap.size = w.heap.size + 3 by simp] at this
/-- A cell of the i-th box is written. -/
theorem St.set {l1 l2 : List (Nat × Array Value × Nat)} (h : St w0 (l1 ++ (b, cs, T) :: l2) w) (o : Nat) (u : Value) : St w0 (l1 ++ (b, cs.setIfInBounds o u, T) :: l2) (w.setCell ⟨b, o, none⟩ u) := by
  have hm : (b, cs, T) ∈ l1 ++ (b, cs, T) :: l2 := by simp
  have hp := List.pairwise_append.1 h.ord
  have hp2 := List.pairwise_cons.1 hp.2.1
  refine ⟨h.b.setCell (h.up _ hm) u, fun x hx => ?_, fun x hx => ?_, ?_⟩
  · rcases List.mem_append.1 hx with hx | hx
    · have : b < x.1 := hp.2.2 x hx _ (List.mem_cons_self ..)
      rw [Below.heap_setCell _ _ _ _ (by simp; omega)]
      exact h.blk x (List.mem_append_left _ hx)
    · rcases List.mem_cons.1 hx with rfl | hx
      · exact st_set (h.blk _ hm) o u
      · have : x.1 < b := hp2.1 x hx
        rw [Below.heap_setCell _ _ _ _ (by simp; omega)]
        exact h.blk x (List.mem_append_right _ (List.mem_cons_of_mem _ hx))
  · rcases List.mem_append.1 hx with hx | hx
    · exact h.up x (List.mem_append_left _ hx)
    · rcases List.mem_cons.1 hx with rfl | hx
      · exact h.up (b, cs, T) hm
      · exact h.up x (List.mem_append_right _ (List.mem_cons_of_mem _ hx))
  · refine List.pairwise_append.2 ⟨hp.1, List.Pairwise.cons (fun y hy => hp2.1 y hy) hp2.2, fun x hx y hy => ?_⟩
    rcases List.mem_cons.1 hy with rfl | hy
    · exact (hp.2.2 x hx (b, cs, T) (List.mem_cons_self ..) :)
    · exact hp.2.2 x hx y (List.mem_cons_of_mem _ hy)
theorem St.tail {x : Nat × Array Value × Nat} (h : St w0 (x :: l) w) : St w0 l w := ⟨h.b, fun y hy => h.blk y (List.mem_cons_of_mem _ hy), fun y hy => h.up y (List.mem_cons_of_mem _ hy), (List.pairwise_cons.1 h.ord).2⟩
theorem St.head (h : St w0 ((b, cs, T) :: l) w) : w.heap[b]? = some (.cells cs T) := h.blk _ (List.mem_cons_self ..)
theorem St.f (h : St w0 ((b, cs, T) :: l) w) (o : Nat) : w.frozen? ⟨b, o, none⟩ = false := by simp [World.frozen?, h.head]
theorem St.c1 {u0 : Value} (h : St w0 ((b, #[u0], T) :: l) w) : w.cell? ⟨b, 0, none⟩ = some u0 := by simp [World.cell?, h.head]
theorem St.c2 {u0 u1 : Value} (h : St w0 ((b, #[u0, u1], T) :: l) w) : w.cell? ⟨b, 0, none⟩ = some u0 ∧ w.cell? ⟨b, 1, none⟩ = some u1 := by simp [World.cell?, h.head]
theorem St.c3 {u0 u1 u2 : Value} (h : St w0 ((b, #[u0, u1, u2], T) :: l) w) : w.cell? ⟨b, 0, none⟩ = some u0 ∧ w.cell? ⟨b, 1, none⟩ = some u1 ∧ w.cell? ⟨b, 2, none⟩ = some u2 := by simp [World.cell?, h.head]
theorem St.c4 {u0 u1 u2 u3 : Value} (h : St w0 ((b, #[u0, u1, u2, u3], T) :: l) w) : w.cell? ⟨b, 0, none⟩ = some u0 ∧ w.cell? ⟨b, 1, none⟩ = some u1 ∧ w.cell? ⟨b, 2, none⟩ = some u2 ∧ w.cell? ⟨b, 3, none⟩ = some u3 := by simp [World.cell?, h.head]
theorem St.c5 {u0 u1 u2 u3 u4 : Value} (h : St w0 ((b, #[u0, u1, u2, u3, u4], T) :: l) w) : w.cell? ⟨b, 0, none⟩ = some u0 ∧ w.cell? ⟨b, 1, none⟩ = some u1 ∧ w.cell? ⟨b, 2, none⟩ = some u2 ∧ w.cell? ⟨b, 3, none⟩ = some u3 ∧ w.cell? ⟨b, 4, none⟩ = some u4 := by simp [World.cell?, h.head]
theorem St.c6 {u0 u1 u2 u3 u4 u5 : Value} (h : St w0 ((b, #[u0, u1, u2, u3, u4, u5], T) :: l) w) : w.cell? ⟨b, 0, none⟩ = some u0 ∧ w.cell? ⟨b, 1, none⟩ = some u1 ∧ w.cell? ⟨b, 2, none⟩ = some u2 ∧ w.cell? ⟨b, 3, none⟩ = some u3 ∧ w.cell? ⟨b, 4, none⟩ = some u4 ∧ w.cell? ⟨b, 5, none⟩ = some u5 := by simp [World.cell?, h.head]
/-- Four cells of the i-th box are written. -/
theorem St.set4 {l1 l2 : List (Nat × Array Value × Nat)} {x0 x1 x2 x3 : Value} (h : St w0 (l1 ++ (b, #[x0, x1, x2, x3], T) :: l2) w) (u0 u1 u2 u3 : Value) : St w0 (l1 ++ (b, #[u0, u1, u2, u3], T) :: l2) ((((w.setCell ⟨b, 0, none⟩ u0).setCell ⟨b, 1, none⟩ u1).setCell ⟨b, 2, none⟩ u2).setCell ⟨b, 3, none⟩ u3) :=
  (((h.set 0 u0).set 1 u1).set 2 u2).set 3 u3
theorem St.s0 {x0 x1 x2 x3 : Value} (h : St w0 ((b, #[x0, x1, x2, x3], T) :: l) w) (u0 u1 u2 u3 : Value) : St w0 ((b, #[u0, u1, u2, u3], T) :: l) ((((w.setCell ⟨b, 0, none⟩ u0).setCell ⟨b, 1, none⟩ u1).setCell ⟨b, 2, none⟩ u2).setCell ⟨b, 3, none⟩ u3) := St.set4 (l1 := []) h u0 u1 u2 u3
theorem St.s1 {y0 : Nat × Array Value × Nat} {x0 x1 x2 x3 : Value} (h : St w0 (y0 :: (b, #[x0, x1, x2, x3], T) :: l) w) (u0 u1 u2 u3 : Value) : St w0 (y0 :: (b, #[u0, u1, u2, u3], T) :: l) ((((w.setCell ⟨b, 0, none⟩ u0).setCell ⟨b, 1, none⟩ u1).setCell ⟨b, 2, none⟩ u2).setCell ⟨b, 3, none⟩ u3) := St.set4 (l1 := [y0]) h u0 u1 u2 u3
theorem St.s2 {y0 y1 : Nat × Array Value × Nat} {x0 x1 x2 x3 : Value} (h : St w0 (y0 :: y1 :: (b, #[x0, x1, x2, x3], T) :: l) w) (u0 u1 u2 u3 : Value) : St w0 (y0 :: y1 :: (b, #[u0, u1, u2, u3], T) :: l) ((((w.setCell ⟨b, 0, none⟩ u0).setCell ⟨b, 1, none⟩ u1).setCell ⟨b, 2, none⟩ u2).setCell ⟨b, 3, none⟩ u3) := St.set4 (l1 := [y0, y1]) h u0 u1 u2 u3
theorem St.s3 {y0 y1 y2 : Nat × Array Value × Nat} {x0 x1 x2 x3 : Value} (h : St w0 (y0 :: y1 :: y2 :: (b, #[x0, x1, x2, x3], T) :: l) w) (u0 u1 u2 u3 : Value) : St w0 (y0 :: y1 :: y2 :: (b, #[u0, u1, u2, u3], T) :: l) ((((w.setCell ⟨b, 0, none⟩ u0).setCell ⟨b, 1, none⟩ u1).setCell ⟨b, 2, none⟩ u2).setCell ⟨b, 3, none⟩ u3) := St.set4 (l1 := [y0, y1, y2]) h u0 u1 u2 u3
theorem St.s4 {y0 y1 y2 y3 : Nat × Array Value × Nat} {x0 x1 x2 x3 : Value} (h : St w0 (y0 :: y1 :: y2 :: y3 :: (b, #[x0, x1, x2, x3], T) :: l) w) (u0 u1 u2 u3 : Value) : St w0 (y0 :: y1 :: y2 :: y3 :: (b, #[u0, u1, u2, u3], T) :: l) ((((w.setCell ⟨b, 0, none⟩ u0).setCell ⟨b, 1, none⟩ u1).setCell ⟨b, 2, none⟩ u2).setCell ⟨b, 3, none⟩ u3) := St.set4 (l1 := [y0, y1, y2, y3]) h u0 u1 u2 u3
/-- The world is left behind; what is known of it stays. -/
theorem St.gen (h : St w0 l w) {G : World → Prop} (k : ∀ w', St w0 l w' → Below w.heap.size w w' → G w') : G w := k w h (Below.refl _ _)
end
theorem bC {w w' : World} {a : Addr} {v : Value} (hb : Below w.heap.size w w') (h : w.cell? a = some v) : w'.cell? a = some v := (hb.cell (World.block_lt_of_cell? _ _ h)).trans h
/-- A world, left behind for a letter, with a fact that was shown of it. -/
theorem world_gen {w : World} (F : World → Prop) (hF : F w) {G : World → Prop} (k : ∀ w', F w' → G w') : G w := k w hF
end Go.Proofs.Ythphfcheencbgaa.Base

namespace Go.Proofs.Ythphfcheencbgaa.Base
open Go.RowKit
set_option linter.unusedVariables false
section
variable {P : Program} {ops : Array Oper} {Q : Exit → Act → World → Prop} {md : Region.Mode} {S : World → Prop} {last : Nat}

def wpAnyF (P : Program) (md : Region.Mode) (ops : Array Oper) (Q : Exit → Act → World → Prop) (S : World → Prop) (last : Nat) : Nat → Array Bool → Act → World → Prop
  | 0, listed, a, w => Region.ready md ops listed = [] ∧ Q .normal a w
  | fuel + 1, listed, a, w =>
    (Region.ready md ops listed = [] → Q .normal a w) ∧
    ∀ i ∈ Region.ready md ops listed, wpOp P ops Q i (fun a' w' => (i ≠ last → S w') ∧ wpAnyF P md ops Q S last fuel (listed.setIfInBounds i true) a' w') a w

theorem wpAny_of_F : ∀ (fuel : Nat) (listed : Array Bool) (a : Act) (w : World), wpAnyF P md ops Q S last fuel listed a w → wpAny P md ops Q fuel listed a w
  | 0, _, _, _, h => h
  | fuel + 1, _, _, _, h => ⟨h.1, fun i hi => wpOp_mono (fun a' w' h' => wpAny_of_F fuel _ a' w' h'.2) (h.2 i hi)⟩

theorem wpAnyF_first {i : Nat} {oi : Oper} {v : Value} (hi : ops[i]? = some oi) (hwait : Region.waitsFor md ops last i = true) (hsel : ∀ (j : Nat) (o : Oper) cs b, ops[j]? = some o → o.op ≠ .select cs b)
    (hQ : ∀ c a w, Q (.panic c) (a.put oi.dst v) w → Q (.panic c) a w) :
    ∀ (fuel : Nat) (listed : Array Bool) (a : Act) (w : World),
      (∀ j oj, ops[j]? = some oj → j ≠ i → listed.getD j true = false → (∀ e ∈ oj.after, Region.binds md e = true → e.on ≠ i) → oi.apart ops oj = true) →
      i ∈ Region.ready md ops listed → YieldsIf P ops S oi v a → S w →
      wpAnyF P md ops Q S last fuel (listed.setIfInBounds i true) (a.put oi.dst v) w → wpAnyF P md ops Q S last (fuel + 1) listed a w := by
  intro fuel
  induction fuel with
  | zero =>
    intro listed a w _ hr hy hS H
    refine ⟨fun h => (by rw [h] at hr; cases hr), fun j hj => ?_⟩
    by_cases hji : j = i
    · subst hji; exact hy.wpOp hi hS ⟨fun _ => hS, H⟩
    · have := ready_mono hj hji
      rw [H.1] at this
      cases this
  | succ fuel ih =>
    intro listed a w hfree hr hy hS H
    refine ⟨fun h => (by rw [h] at hr; cases hr), fun j hj => ?_⟩
    by_cases hji : j = i
    · subst hji; exact hy.wpOp hi hS ⟨fun _ => hS, H⟩
    · have h1 := H.2 j (ready_mono hj hji)
      obtain ⟨hjun, oj, hoj, hall⟩ := mem_ready.1 hj
      have hnot : ∀ e ∈ oj.after, Region.binds md e = true → e.on ≠ i := fun e he hb heq => by
        have h1 := hall e he hb
        have h0 := (mem_ready.1 hr).1
        rw [heq] at h1
        rcases Nat.lt_or_ge i listed.size with h' | h'
        · simp [h'] at h0 h1; rw [h0] at h1; cases h1
        · simp [Array.getElem?_eq_none h'] at h1
      have hjl : j ≠ last := by
        rintro rfl
        obtain ⟨o', ho', e, he, hb, hon⟩ := Region.waitsFor_spec hwait
        obtain rfl : o' = oj := Option.some.inj (ho'.symm.trans hoj)
        exact hnot e he hb hon
      have h2 := wpOp_putIf hoj (hfree j oj hoj hji hjun hnot) (fun cs b => hsel i oi cs b hi) (fun cs b => hsel j oj cs b hoj) hQ hy h1
      have hfree' : ∀ k ok, ops[k]? = some ok → k ≠ i → (listed.setIfInBounds j true).getD k true = false →
          (∀ e ∈ ok.after, Region.binds md e = true → e.on ≠ i) → oi.apart ops ok = true := fun k ok hk hki hun hno => by
        refine hfree k ok hk hki ?_ hno
        by_cases hjk : j = k
        · subst hjk; exact hjun
        · rw [getD_set_ne true hjk] at hun; exact hun
      refine wpOp_mono (fun a' w' h3 => ⟨h3.2.1, ih (listed.setIfInBounds j true) a' w' hfree' (ready_mono hr (Ne.symm hji)) h3.1 (h3.2.1 hjl) ?_⟩) h2
      rw [Array.setIfInBounds_comm _ _ hji]
      exact h3.2.2

theorem wpAnyF_take {i : Nat} {oi : Oper} {v : Value} {fuel : Nat} {listed : Array Bool} {a : Act} {w : World} (d : Nat) (hi : ops[i]? = some oi) (hd : oi.dst = some d)
    (hl : Region.waitsFor md ops last i = true) (hs : Region.noSelect ops = true) (hf : Region.free md ops listed i = true) (hr : (Region.ready md ops listed).contains i = true)
    (hQ : ∀ c a w, Q (.panic c) (a.put (some d) v) w → Q (.panic c) a w) (hy : YieldsIf P ops S oi v a) (hS : S w)
    (h : wpAnyF P md ops Q S last fuel (listed.setIfInBounds i true) (a.put (some d) v) w) : wpAnyF P md ops Q S last (fuel + 1) listed a w :=
  wpAnyF_first hi hl (Region.noSelect_spec hs) (by rw [hd]; exact hQ) fuel listed a w (Region.free_spec hi hf) (by simpa using hr) hy hS (by rw [hd]; exact h)

theorem wpAnyF_one {i : Nat} {o : Oper} {fuel : Nat} {listed : Array Bool} {a : Act} {w : World} (hr : Region.ready md ops listed = [i]) (ho : ops[i]? = some o) (hw : Region.wanted o (yielded ops a.tmps) = true)
    (h : ∀ K : Act → World → Prop, (∀ a w, (i ≠ last → S w) → wpAnyF P md ops Q S last fuel (listed.setIfInBounds i true) a w → K a w) → Oper.wp P o a w K Q) : wpAnyF P md ops Q S last (fuel + 1) listed a w := by
  refine ⟨fun h0 => (by rw [hr] at h0; cases h0), fun j hj => ?_⟩
  rw [hr] at hj
  obtain rfl : j = i := by simpa using hj
  unfold wpOp
  simp only [ho, hw, if_true]
  exact Or.inl (h _ fun a w hS hW => ⟨hS, hW⟩)

theorem wpAnyF_done {listed : Array Bool} {a : Act} {w : World} (hr : Region.ready md ops listed = []) (h : Q .normal a w) :
    ∀ fuel, wpAnyF P md ops Q S last fuel listed a w
  | 0 => ⟨hr, h⟩
  | _ + 1 => ⟨fun _ => h, by rw [hr]; simp⟩

theorem wp_region_F {id : Nat} {a : Act} {w : World} (S : World → Prop) (last : Nat) (hm : P.follows .mixedOrders = true) (hS : S w.drew)
    (h : S w.drew → wpAnyF P .any ops (NoPanic Q) S last ops.size (Array.replicate ops.size false) a w.drew) : (Code.region id ops true).wp P Q a w :=
  wp_region_noPanic (wp_region_any hm (wpAny_of_F _ _ _ _ (h hS)))
end
end Go.Proofs.Ythphfcheencbgaa.Base
