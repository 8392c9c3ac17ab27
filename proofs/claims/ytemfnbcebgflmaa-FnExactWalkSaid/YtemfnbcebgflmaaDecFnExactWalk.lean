/- Decode of the program and Decode of the reference, over the printed functions of the law FnExactWalk: both are 'dec', at every level and every word of 64 bits. -/
import Derived.Test.YtemfnbcebgflmaaQFnExactWalkx6
import Derived.Test.YtemfnbcebgflmaaDecMath
namespace Go.Proofs.Ytemfnbcebgflmaa.PureFnExactWalk
open Go.RowKit Go.Proofs.Ytemfnbcebgflmaa.PFnExactWalk Go.Proofs.YtemfnbcebgflmaaW.PrintWords Go.Proofs.YtemfnbcebgflmaaW.PrintLast Go.Proofs.YtemfnbcebgflmaaW.PrintMore
open Go.Proofs.Ytemfnbcebgflmaa.BitsMath Go.Proofs.Ytemfnbcebgflmaa.DecMath

theorem field_f (w lo hi : Int) (n : Nat) (hn : hi - lo = n) (h0 : 0 ≤ lo) (h1 : n < 64) (h2 : lo < 64) :
    spec_l1Field.f w lo hi = some (Int.tmod (w / 2 ^ lo.toNat) (2 ^ n)) := by
  have e1 : IntKind.u64.wrap lo = lo := by rw [u64_wrap]; omega
  have e2 : wrap64 (hi - lo) = n := by unfold wrap64; omega
  have e3 : IntKind.u64.wrap (n : Int) = n := by rw [u64_wrap]; omega
  have hp : (2 : Int) ^ n < 2 ^ 64 := by exact_mod_cast Nat.pow_lt_pow_right (by decide) h1
  have hq : (0 : Int) < 2 ^ n := by exact_mod_cast Nat.two_pow_pos n
  have e4 : shl .u64 1 (n : Int) = 2 ^ n := by
    unfold shl
    rw [show min (n : Int).toNat IntKind.u64.bits = n by simp [IntKind.bits]; omega, u64_wrap]; omega
  have e5 : shr .u64 w lo = w / 2 ^ lo.toNat := by
    unfold shr
    rw [show min lo.toNat IntKind.u64.bits = lo.toNat by simp [IntKind.bits]; omega]
  unfold spec_l1Field.f
  rw [e1, e2, e3, if_pos h0, if_pos (by omega), e4, if_neg (by omega), e5]

theorem bit_f (w b : Int) (h0 : 0 ≤ b) (h1 : b < 63) (hw : 0 ≤ w) : spec_l1Bit.f w b = some ((w / 2 ^ b.toNat) % 2) := by
  unfold spec_l1Bit.f
  rw [show wrap64 (b + 1) = b + 1 by unfold wrap64; omega, field_f w b (b + 1) 1 (by omega) h0 (by decide) (by omega)]
  simp only [Option.bind_some, Int.pow_one]
  have hd : 0 ≤ w / 2 ^ b.toNat := Int.ediv_nonneg hw (by exact_mod_cast Nat.zero_le _)
  rw [Int.tmod_eq_emod_of_nonneg hd]
  congr 1
  unfold wrap64; omega

theorem spec_dec (l w : Int) (hw : 0 ≤ w) (hw' : w < 18446744073709551616) (k : Nat) : spec_Decode.f (k + 4) l w = some (dec l w) := by
  have b0 : spec_l1Bit.f w 0 = some (w % 2) := by have := bit_f w 0 (by decide) (by decide) hw; simpa using this
  have b1 : spec_l1Bit.f w 1 = some ((w / 2) % 2) := by have := bit_f w 1 (by decide) (by decide) hw; simpa using this
  have f5 : spec_l1Field.f w 5 12 = some ((w / 32) % 128) := by
    rw [field_f w 5 12 7 rfl (by decide) (by decide) (by decide)]; simp only [Int.reduceToNat, Int.reducePow]; rw [Int.tmod_eq_emod_of_nonneg (by omega)]
  have f28 : spec_l1Field.f w 28 64 = some ((w / 268435456) % 68719476736) := by
    rw [field_f w 28 64 36 rfl (by decide) (by decide) (by decide)]; simp only [Int.reduceToNat, Int.reducePow]; rw [Int.tmod_eq_emod_of_nonneg (by omega)]
  have f12 : spec_l1Field.f w 12 28 = some ((w / 4096) % 65536) := by
    rw [field_f w 12 28 16 rfl (by decide) (by decide) (by decide)]; simp only [Int.reduceToNat, Int.reducePow]; rw [Int.tmod_eq_emod_of_nonneg (by omega)]
  have f2 : spec_l1Field.f w 2 5 = some ((w / 4) % 8) := by
    rw [field_f w 2 5 3 rfl (by decide) (by decide) (by decide)]; simp only [Int.reduceToNat, Int.reducePow]; rw [Int.tmod_eq_emod_of_nonneg (by omega)]
  have w1 : wrap64 ((w / 4096) % 65536) = (w / 4096) % 65536 := by unfold wrap64; omega
  have w2 : wrap64 ((w / 4) % 8) = (w / 4) % 8 := by unfold wrap64; omega
  have t1 : Int.tmod ((w / 4096) % 65536) 16 = (w / 4096) % 65536 % 16 := Int.tmod_eq_emod_of_nonneg (by omega)
  have r2 := Int.emod_nonneg (w / 4) (show (8 : Int) ≠ 0 by decide)
  unfold spec_Decode.f dec
  by_cases c1 : l < 1
  · rw [if_pos c1, if_pos (Or.inl c1)]; simp [spec_Decode.j0]
  rw [if_neg c1]
  by_cases c2 : l > 3
  · rw [if_pos (Or.inr c2)]; simp [spec_Decode.j0, c2]
  rw [if_neg (by omega)]
  simp only [spec_Decode.j0, spec_Decode.j1, spec_Decode.j2, spec_Decode.j3, b0, b1, f5, f28, f12, f2, Option.bind_some, w1, w2, t1]
  generalize w % 2 = v0
  generalize (w / 2) % 2 = v1
  generalize (w / 32) % 128 = v5
  generalize (w / 268435456) % 68719476736 = v28
  clear w1 t1
  generalize (w / 4096) % 65536 % 16 = v16
  generalize (w / 4096) % 65536 = v12
  generalize (w / 4) % 8 = v2 at *
  have hl : decide (l > 3) = false := by simpa using c2
  simp only [hl, Bool.false_eq_true, if_false]
  by_cases d0 : v0 = 0
  · simp [d0]
  by_cases d5 : v5 = 0
  · by_cases d28 : v28 = 0
    · have hl' : l = 1 ∨ l = 2 ∨ l = 3 := by omega
      by_cases e2 : v2 = 0
      · rcases hl' with rfl | rfl | rfl <;> by_cases e1 : v1 = 1 <;> by_cases e0 : v1 = 0 <;> by_cases e6 : v16 = 0 <;> simp [*] <;> omega
      · have hv : v2 > 0 := by omega
        rcases hl' with rfl | rfl | rfl <;> by_cases e1 : v1 = 1 <;> by_cases e0 : v1 = 0 <;> by_cases e6 : v16 = 0 <;> simp [*] <;> omega
    · simp [d0, d5, d28]
  · simp [d0, d5]

theorem impl_dec (l w : Int) (hw : 0 ≤ w) (hw' : w < 18446744073709551616) (k : Nat) : impl_Decode.f (k + 3) l w = some (dec l w) := by
  have m7 : Go.bits .and .u64 (w / 4) 7 = (w / 4) % 8 := and7 _ (by omega) (by omega)
  have mo : Go.bits .and .u64 (w / 4096) 65535 = (w / 4096) % 65536 := and65535 _ (by omega) (by omega)
  have m1 : Go.bits .and .u64 (w / 2) 1 = (w / 2) % 2 := and1 _ (by omega) (by omega)
  have m0 : Go.bits .and .u64 w 1 = w % 2 := and1 _ hw hw'
  have mr := rest_zero w hw hw'
  have w1 : wrap64 ((w / 4096) % 65536) = (w / 4096) % 65536 := by unfold wrap64; omega
  have w2 : wrap64 ((w / 4) % 8) = (w / 4) % 8 := by unfold wrap64; omega
  have t1 : Int.tmod ((w / 4096) % 65536) 16 = (w / 4096) % 65536 % 16 := Int.tmod_eq_emod_of_nonneg (by omega)
  have r2 := Int.emod_nonneg (w / 4) (show (8 : Int) ≠ 0 by decide)
  unfold impl_Decode.f impl_kindOf.f dec
  rw [m7, mo, m1, w1, w2]
  by_cases c1 : l < 1
  · rw [if_pos c1, if_pos (Or.inl c1)]; simp [impl_kindOf.j0]
  rw [if_neg c1]
  by_cases c2 : l > 3
  · rw [if_pos (Or.inr c2)]; simp [impl_kindOf.j0, c2]
  rw [if_neg (by omega)]
  have hl : decide (l > 3) = false := by simpa using c2
  simp only [impl_kindOf.j0, impl_kindOf.j1, impl_kindOf.j2, m0, mr, t1, hl, Bool.false_eq_true, if_false]
  generalize w % 2 = v0
  generalize (w / 2) % 2 = v1
  generalize (w / 32) % 128 = v5
  generalize (w / 268435456) % 68719476736 = v28
  clear w1 t1 mo
  generalize (w / 4096) % 65536 % 16 = v16
  generalize (w / 4096) % 65536 = v12
  generalize (w / 4) % 8 = v2 at *
  by_cases d0 : v0 = 0
  · simp [d0]
  by_cases d5 : v5 = 0 ∧ v28 = 0
  · obtain ⟨rfl, rfl⟩ := d5
    by_cases e2 : v2 = 0 <;> by_cases e3 : l = 3 <;> by_cases e4 : l = 2 <;> by_cases e1 : v1 = 1 <;> by_cases e0 : v1 = 0 <;> by_cases e6 : v16 = 0 <;> simp [*] <;> first | done | omega | (repeat' split <;> simp_all <;> omega)
  · have d5' : v5 ≠ 0 ∨ v28 ≠ 0 := by omega
    simp [d0, d5, d5']

end Go.Proofs.Ytemfnbcebgflmaa.PureFnExactWalk
