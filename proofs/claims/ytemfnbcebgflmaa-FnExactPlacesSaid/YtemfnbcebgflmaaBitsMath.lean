/- Words as numbers: the fields of a word, and what Go's bit operations on uint64 say of them. Nothing of the program. -/
import Derived.Laws.BitsLemmas
import Derived.RowKit
namespace Go.Proofs.Ytemfnbcebgflmaa.BitsMath
open Go Go.RowKit

theorem u64_wrap (n : Int) : IntKind.u64.wrap n = n % 18446744073709551616 := by
  simp [IntKind.wrap, IntKind.bits, IntKind.signed]

theorem wraps_u64 (n : Int) (h₀ : 0 ≤ n) (h₁ : n < 2 ^ 64) : IntKind.u64.wrap n = n := by rw [u64_wrap]; omega

theorem and_mask (i : Nat) (hi : i ≤ 64) (x : Int) (h₀ : 0 ≤ x) (h₁ : x < 18446744073709551616) : Go.bits .and .u64 x (2 ^ i - 1) = x % 2 ^ i :=
  bits_mask .u64 64 (by decide) wraps_u64 i hi x h₀ (by omega)

theorem and1 (x : Int) (h₀ : 0 ≤ x) (h₁ : x < 18446744073709551616) : Go.bits .and .u64 x 1 = x % 2 := and_mask 1 (by decide) x h₀ h₁
theorem and7 (x : Int) (h₀ : 0 ≤ x) (h₁ : x < 18446744073709551616) : Go.bits .and .u64 x 7 = x % 8 := and_mask 3 (by decide) x h₀ h₁
theorem and65535 (x : Int) (h₀ : 0 ≤ x) (h₁ : x < 18446744073709551616) : Go.bits .and .u64 x 65535 = x % 65536 := and_mask 16 (by decide) x h₀ h₁

theorem nat_field_zero (w a b : Nat) : (w / 2 ^ a) % 2 ^ b = 0 ↔ ∀ i, i < b → w.testBit (a + i) = false := by
  constructor
  · intro h i hi
    have := congrArg (fun n => n.testBit i) h
    simpa [Nat.testBit_mod_two_pow, Nat.testBit_div_two_pow, hi, Nat.add_comm] using this
  · intro h
    apply Nat.eq_of_testBit_eq
    intro i
    simp only [Nat.testBit_mod_two_pow, Nat.testBit_div_two_pow, Nat.zero_testBit]
    by_cases hi : i < b
    · simp [hi, h i hi, Nat.add_comm]
    · simp [hi]

/-- The bits that must be 0 in a word: 5 to 11 and 28 to 63. -/
theorem rest_zero (w : Int) (h₀ : 0 ≤ w) (h₁ : w < 18446744073709551616) :
    Go.bits .andNot .u64 w 268431391 = 0 ↔ (w / 32) % 128 = 0 ∧ (w / 268435456) % 68719476736 = 0 := by
  obtain ⟨a, rfl⟩ := Int.eq_ofNat_of_zero_le h₀
  have ha : a < 2 ^ 64 := by omega
  have e1 : ((a : Int) / 32) % 128 = 0 ↔ (a / 2 ^ 5) % 2 ^ 7 = 0 := by omega
  have e2 : ((a : Int) / 268435456) % 68719476736 = 0 ↔ (a / 2 ^ 28) % 2 ^ 36 = 0 := by omega
  rw [e1, e2, nat_field_zero, nat_field_zero]
  have hb : Go.bits .andNot .u64 (a : Int) 268431391 = ((BitVec.ofNat 64 a &&& ~~~ BitVec.ofNat 64 268431391).toNat : Int) := by
    unfold Go.bits
    have : BitVec.ofInt IntKind.u64.bits (268431391 : Int) = BitVec.ofNat 64 268431391 := rfl
    rw [this]
    have e : BitVec.ofInt IntKind.u64.bits (a : Int) = BitVec.ofNat 64 a := by simp [IntKind.bits]
    rw [e]
    exact wraps_u64 _ (Int.natCast_nonneg _) (by exact_mod_cast (BitVec.ofNat 64 a &&& ~~~ BitVec.ofNat 64 268431391).isLt)
  rw [hb]
  have hz : ((BitVec.ofNat 64 a &&& ~~~ BitVec.ofNat 64 268431391).toNat : Int) = 0 ↔ ∀ i, i < 64 → (BitVec.ofNat 64 a &&& ~~~ BitVec.ofNat 64 268431391).getLsbD i = false := by
    constructor
    · intro h i _
      have h' : (BitVec.ofNat 64 a &&& ~~~ BitVec.ofNat 64 268431391).toNat = 0 := by omega
      simp only [BitVec.getLsbD, h', Nat.zero_testBit]
    · intro h
      have : BitVec.ofNat 64 a &&& ~~~ BitVec.ofNat 64 268431391 = 0#64 := by
        apply BitVec.eq_of_getLsbD_eq
        intro i hi
        rw [h i hi]; simp
      rw [this]; rfl
  rw [hz]
  have hmask : ∀ i, i < 64 → (BitVec.ofNat 64 268431391).getLsbD i = decide (i < 5 ∨ (12 ≤ i ∧ i < 28)) := by decide
  have hbit : ∀ i, i < 64 → ((BitVec.ofNat 64 a &&& ~~~ BitVec.ofNat 64 268431391).getLsbD i = false ↔ (¬ (i < 5 ∨ (12 ≤ i ∧ i < 28)) → a.testBit i = false)) := by
    intro i hi
    rw [BitVec.getLsbD_and, BitVec.getLsbD_not, hmask i hi, BitVec.getLsbD_ofNat]
    by_cases hm : i < 5 ∨ (12 ≤ i ∧ i < 28)
    · simp [hm]
    · simp [hm, hi]
  constructor
  · intro h
    exact ⟨fun i hi => (hbit (5 + i) (by omega)).mp (h _ (by omega)) (by omega), fun i hi => (hbit (28 + i) (by omega)).mp (h _ (by omega)) (by omega)⟩
  · rintro ⟨h5, h28⟩ i hi
    refine (hbit i hi).mpr fun hn => ?_
    by_cases hlt : i < 12
    · have := h5 (i - 5) (by omega)
      rwa [show 5 + (i - 5) = i by omega] at this
    · have := h28 (i - 28) (by omega)
      rwa [show 28 + (i - 28) = i by omega] at this

theorem or_low (i a b : Nat) (h : b < 2 ^ i) : a * 2 ^ i ||| b = a * 2 ^ i + b := by
  rw [Nat.mul_comm]; exact (Nat.two_pow_add_eq_or_of_lt h a).symm

theorem or_word1 (o p : Nat) (hp : p < 8) : ((1 ||| o * 4096) ||| p * 4) = o * 4096 + p * 4 + 1 := by
  have h1 : ((1 ||| o * 4096) ||| p * 4) = o * 4096 ||| (p * 4 ||| 1) := by rw [Nat.or_comm 1, Nat.or_assoc, Nat.or_comm 1]
  have h2 : p * 4 ||| 1 = p * 4 + 1 := or_low 2 p 1 (by decide)
  have h3 : o * 4096 ||| (p * 4 + 1) = o * 4096 + (p * 4 + 1) := or_low 12 o (p * 4 + 1) (by omega)
  rw [h1, h2, h3]; omega

theorem or_word3 (o p : Nat) (hp : p < 8) : (((1 ||| o * 4096) ||| p * 4) ||| 2) = o * 4096 + p * 4 + 3 := by
  have h1 : ((1 ||| o * 4096) ||| p * 4) = o * 4096 ||| (p * 4 ||| 1) := by rw [Nat.or_comm 1, Nat.or_assoc, Nat.or_comm 1]
  have h2 : (p * 4 ||| 1) ||| 2 = p * 4 + 3 := by rw [Nat.or_assoc]; exact or_low 2 p 3 (by decide)
  have h3 : o * 4096 ||| (p * 4 + 3) = o * 4096 + (p * 4 + 3) := or_low 12 o (p * 4 + 3) (by omega)
  rw [h1, Nat.or_assoc, h2, h3]; omega

theorem bits_or (a b : Nat) (ha : a < 18446744073709551616) (hb : b < 18446744073709551616) : Go.bits .or .u64 (a : Int) (b : Int) = ((a ||| b : Nat) : Int) :=
  (bits_nat .u64 64 (by decide) wraps_u64 a b (by omega) (by omega)).2

/-- The word of a table or page, as the program makes it: bit 0, out, permissions. -/
theorem word1 (o p : Int) (h0 : 0 ≤ o) (h1 : o < 65536) (h2 : 0 ≤ p) (h3 : p < 8) : Go.bits .or .u64 (Go.bits .or .u64 1 (o * 4096)) (p * 4) = 1 + p * 4 + o * 4096 := by
  obtain ⟨a, rfl⟩ := Int.eq_ofNat_of_zero_le h0
  obtain ⟨b, rfl⟩ := Int.eq_ofNat_of_zero_le h2
  have e1 : Go.bits .or .u64 1 ((a : Int) * 4096) = ((1 ||| a * 4096 : Nat) : Int) := by have := bits_or 1 (a * 4096) (by omega) (by omega); simpa using this
  have hlt : (1 ||| a * 4096) < 2 ^ 64 := Nat.or_lt_two_pow (by omega) (by omega)
  rw [e1]
  have e2 := bits_or (1 ||| a * 4096) (b * 4) (by omega) (by omega)
  rw [or_word1 a b (by omega)] at e2
  have e3 : ((b * 4 : Nat) : Int) = (b : Int) * 4 := by omega
  rw [e3] at e2
  rw [e2]; omega

theorem word3 (o p : Int) (h0 : 0 ≤ o) (h1 : o < 65536) (h2 : 0 ≤ p) (h3 : p < 8) : Go.bits .or .u64 (Go.bits .or .u64 (Go.bits .or .u64 1 (o * 4096)) (p * 4)) 2 = 1 + p * 4 + o * 4096 + 2 := by
  obtain ⟨a, rfl⟩ := Int.eq_ofNat_of_zero_le h0
  obtain ⟨b, rfl⟩ := Int.eq_ofNat_of_zero_le h2
  have e1 : Go.bits .or .u64 1 ((a : Int) * 4096) = ((1 ||| a * 4096 : Nat) : Int) := by have := bits_or 1 (a * 4096) (by omega) (by omega); simpa using this
  have hlt : (1 ||| a * 4096) < 2 ^ 64 := Nat.or_lt_two_pow (by omega) (by omega)
  have hlt2 : ((1 ||| a * 4096) ||| b * 4) < 2 ^ 64 := Nat.or_lt_two_pow hlt (by omega)
  rw [e1]
  have e2 := bits_or (1 ||| a * 4096) (b * 4) (by omega) (by omega)
  have e3 : ((b * 4 : Nat) : Int) = (b : Int) * 4 := by omega
  rw [e3] at e2
  have e4 := bits_or ((1 ||| a * 4096) ||| b * 4) 2 (by omega) (by omega)
  rw [e2]
  rw [or_word3 a b (by omega)] at e4
  rw [show ((2 : Nat) : Int) = 2 from rfl] at e4
  rw [e4]; omega

end Go.Proofs.Ytemfnbcebgflmaa.BitsMath
