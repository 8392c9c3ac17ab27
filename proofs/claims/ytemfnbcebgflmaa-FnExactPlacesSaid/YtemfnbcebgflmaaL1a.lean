/- Walks of the reference's and the program's functions on words: fields, Decode, Encode. Each answers as the numbers of DecMath say. -/
import Derived.Test.YtemfnbcebgflmaaProg
import Derived.Test.YtemfnbcebgflmaaBase
import Derived.Test.YtemfnbcebgflmaaWalkMath
import Derived.Laws.ShiftsVar
import Derived.Laws.ShiftsVarLaws
namespace Go.Proofs.Ytemfnbcebgflmaa.L1
open Go.RowKit Go.Proofs.Ytemfnbcebgflmaa.Base Go.Proofs.Ytemfnbcebgflmaa.DecMath Go.Proofs.Ytemfnbcebgflmaa.BitsMath
set_option linter.unusedVariables false
set_option linter.unusedSimpArgs false

theorem pow_pos (n : Nat) : (0 : Int) < 2 ^ n := by exact_mod_cast Nat.two_pow_pos n
theorem wrap_pow (n : Nat) (h : n < 64) : IntKind.u64.wrap (2 ^ n) = 2 ^ n := by
  have hp : (2 : Int) ^ n < 2 ^ 64 := by exact_mod_cast Nat.pow_lt_pow_right (by decide) h
  have := pow_pos n
  rw [u64_wrap]; omega

/-- The number in the bits lo .. hi-1. -/
def fieldV (x lo hi : Int) : Int := x / 2 ^ lo.toNat % 2 ^ (hi - lo).toNat
theorem fieldV_b (x lo hi : Int) : 0 ≤ fieldV x lo hi ∧ fieldV x lo hi < 2 ^ (hi - lo).toNat := by
  have := pow_pos (hi - lo).toNat
  exact ⟨Int.emod_nonneg _ (by omega), Int.emod_lt_of_pos _ this⟩
theorem f0 (x : Int) : fieldV x 0 1 = x % 2 := by simp [fieldV]
theorem f1 (x : Int) : fieldV x 1 2 = x / 2 % 2 := by simp [fieldV]
theorem f5 (x : Int) : fieldV x 5 12 = x / 32 % 128 := by simp [fieldV]
theorem f28 (x : Int) : fieldV x 28 64 = x / 268435456 % 68719476736 := by simp [fieldV]
theorem f12 (x : Int) : fieldV x 12 28 = x / 4096 % 65536 := by simp [fieldV]
theorem f2 (x : Int) : fieldV x 2 5 = x / 4 % 8 := by simp [fieldV]

set_option maxRecDepth 100000 in
set_option maxHeartbeats 1000000 in
theorem l1Field_any (x lo hi : Int) (w : World) (h0 : 0 ≤ lo) (h1 : lo < hi) (h2 : hi ≤ 64) (h3 : hi - lo < 64) (hx : 0 ≤ x) :
    Calls Try.prog 57 #[.int .u64 x, .int .i64 lo, .int .i64 hi] w fun e w' => e = .returned (.int .u64 (fieldV x lo hi)) ∧ w = w' := by
  have hp := pow_pos (hi - lo).toNat
  have HW := Lib.hid (wrap_pow (hi - lo).toNat (by omega))
  go_enter Try.func57, Try.ntmps57
  go_wp2
  · have h : IntKind.u64.wrap (2 ^ (hi - lo).toNat) = 0 := by assumption
    rw [HW.out] at h; omega
  · go_ret
    refine ⟨ret_int ?_, rfl⟩
    rw [HW.out, Int.tmod_eq_emod_of_nonneg (Int.ediv_nonneg hx (Int.le_of_lt (pow_pos _)))]
    rfl

theorem l1Bit_any (x b : Int) (w : World) (h0 : 0 ≤ b) (h1 : b < 64) (hx : 0 ≤ x) :
    Calls Try.prog 56 #[.int .u64 x, .int .i64 b] w fun e w' => e = .returned (.int .i64 (fieldV x b (b + 1))) ∧ w = w' := by
  have hr0 := (fieldV_b x b (b + 1)).1
  have hr1 : fieldV x b (b + 1) < 2 := by have := (fieldV_b x b (b + 1)).2; rw [show b + 1 - b = 1 by omega] at this; simpa using this
  go_enter Try.func56, Try.ntmps56
  go_wp2_with (go_at_call 57; refine (l1Field_any _ _ _ _ h0 (by omega) (by omega) (by omega) hx).mono ?_; rintro e w' ⟨rfl, rfl⟩)
  go_ret
  exact ⟨rfl, rfl⟩

set_option maxRecDepth 100000 in
set_option maxHeartbeats 4000000 in
theorem specDecode_any (l x : Int) (w : World) (hx : 0 ≤ x) (hx' : x < 18446744073709551616) :
    Calls Try.prog 15 #[.int .i64 l, .int .u64 x] w fun e w' => e = .returned (.agg #[.int .i64 (dec l x).1, .int .i64 (dec l x).2.1, .int .i64 (dec l x).2.2]) ∧ Below w.heap.size w w' := by
  have hb1 := fieldV_b x 1 2
  have hb0 := fieldV_b x 0 1
  have h5 := (fieldV_b x 5 12).1
  have h28 := (fieldV_b x 28 64).1
  have h12 := fieldV_b x 12 28
  have h2 := fieldV_b x 2 5
  have HD : Hid (dec l x = if l < 1 ∨ l > 3 then (4, 0, 0) else if fieldV x 0 1 = 0 then (0, 0, 0) else if fieldV x 5 12 ≠ 0 ∨ fieldV x 28 64 ≠ 0 then (4, 0, 0) else if l ≤ 2 ∧ fieldV x 1 2 = 1 ∧ fieldV x 2 5 = 0 then (1, fieldV x 12 28, 0) else if l = 2 ∧ fieldV x 1 2 = 0 ∧ fieldV x 2 5 > 0 ∧ fieldV x 12 28 % 16 = 0 then (2, fieldV x 12 28, fieldV x 2 5) else if l = 3 ∧ fieldV x 1 2 = 1 ∧ fieldV x 2 5 > 0 then (3, fieldV x 12 28, fieldV x 2 5) else (4, 0, 0)) := by
    rw [f0, f1, f5, f28, f12, f2]; rfl
  generalize dec l x = d at HD ⊢
  simp at h12 h2 hb0 hb1
  obtain ⟨h12, h12'⟩ := h12
  obtain ⟨h2, h2'⟩ := h2
  obtain ⟨hb0, hb0'⟩ := hb0
  obtain ⟨hb1, hb1'⟩ := hb1
  go_enter Try.func15, Try.ntmps15
  (go_wp2_with (first | (go_at_call 56; refine (l1Bit_any _ _ _ (by decide) (by decide) hx).mono ?_; rintro e w' ⟨rfl, rfl⟩) | (go_at_call 57; refine (l1Field_any _ _ _ _ (by decide) (by decide) (by decide) (by decide) hx).mono ?_; rintro e w' ⟨rfl, rfl⟩)))
  all_goals
    refine bodyPost_ret (v := .agg #[.int .i64 d.1, .int .i64 d.2.1, .int .i64 d.2.2]) ?_ rfl ⟨rfl, ?_⟩
    · have hd := HD.out
      clear HD
      simp [results, Try.results15, go_sem]
      repeat (first
        | (rw [if_pos (by first | omega | (simp_all; done) | (simp_all; omega))] at hd)
        | (rw [if_neg (by first | omega | (simp_all; done) | (simp_all; omega))] at hd))
      rw [hd]
      simp
    · repeat (first | exact Below.refl _ _ | refine Below.alloc ?_ (by simp) _)
end Go.Proofs.Ytemfnbcebgflmaa.L1
