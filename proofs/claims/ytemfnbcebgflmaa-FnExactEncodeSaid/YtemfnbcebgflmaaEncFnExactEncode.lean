/- Encode of the program and Encode of the reference, over the printed functions of the law FnExactEncode: both are 'enc'. -/
import Derived.Test.YtemfnbcebgflmaaDecFnExactEncode
namespace Go.Proofs.Ytemfnbcebgflmaa.PureFnExactEncode
open Go.RowKit Go.Proofs.Ytemfnbcebgflmaa.PFnExactEncode Go.Proofs.YtemfnbcebgflmaaW.PrintWords Go.Proofs.YtemfnbcebgflmaaW.PrintLast Go.Proofs.YtemfnbcebgflmaaW.PrintMore
open Go.Proofs.Ytemfnbcebgflmaa.BitsMath Go.Proofs.Ytemfnbcebgflmaa.DecMath

theorem spec_enc (l d o p : Int) (k : Nat) : spec_Encode.f (k + 7) l d o p = some (enc l (d, o, p)) := by
  unfold spec_Encode.f enc
  by_cases hd : d ≠ 1 ∧ d ≠ 2 ∧ d ≠ 3
  · rw [if_neg hd.1, if_neg hd.2.1]; simp [spec_Encode.j0, hd]
  have e0 : (if d = 1 then spec_Encode.j0 (k + 7) l false d o p else if d = 2 then spec_Encode.j0 (k + 7) l false d o p else spec_Encode.j0 (k + 7) l (d != 3) d o p) = spec_Encode.j0 (k + 7) l false d o p := by
    split
    · rfl
    · split
      · rfl
      · rw [show (d != 3) = false by simp; omega]
  rw [e0]
  simp only [spec_Encode.j0, Bool.false_eq_true, if_false]
  by_cases h1 : o < 0
  · rw [if_pos h1]; simp [spec_Encode.j1, h1]
  rw [if_neg h1]
  by_cases h2 : o ≥ 65536
  · rw [if_pos h2]; simp [spec_Encode.j1, h2]
  rw [if_neg h2]
  by_cases h3 : p < 0
  · rw [if_pos h3]; simp [spec_Encode.j1, h3]
  rw [if_neg h3]
  by_cases h4 : p > 7
  · simp [spec_Encode.j1, h4]
  have hc : ¬ ((d ≠ 1 ∧ d ≠ 2 ∧ d ≠ 3) ∨ o < 0 ∨ o ≥ 65536 ∨ p < 0 ∨ p > 7) := by omega
  rw [if_neg hc]
  have w1 : IntKind.u64.wrap p = p := by rw [u64_wrap]; omega
  have w2 : IntKind.u64.wrap (p * 4) = p * 4 := by rw [u64_wrap]; omega
  have w3 : IntKind.u64.wrap o = o := by rw [u64_wrap]; omega
  have w4 : IntKind.u64.wrap (o * 4096) = o * 4096 := by rw [u64_wrap]; omega
  have w5 : IntKind.u64.wrap (1 + p * 4) = 1 + p * 4 := by rw [u64_wrap]; omega
  have w6 : IntKind.u64.wrap (1 + p * 4 + o * 4096) = 1 + p * 4 + o * 4096 := by rw [u64_wrap]; omega
  have w7 : IntKind.u64.wrap (1 + p * 4 + o * 4096 + 2) = 1 + p * 4 + o * 4096 + 2 := by rw [u64_wrap]; omega
  simp only [spec_Encode.j1, h4, decide_false, Bool.false_eq_true, if_false, w1, w2, w3, w4, w5, w6, w7]
  by_cases h5 : d = 2
  · simp only [h5, if_true, spec_Encode.j2, Int.add_zero]
    rw [spec_dec l _ (by omega) (by omega) k]
    simp only [Option.bind_some, spec_l1SameDesc.f]
    generalize dec l (1 + p * 4 + o * 4096) = q
    obtain ⟨a, b, c⟩ := q
    by_cases x : a = 2 <;> by_cases y : b = o <;> by_cases z : c = p <;> simp [x, y, z]
  · simp only [h5, if_false, spec_Encode.j2]
    rw [spec_dec l _ (by omega) (by omega) k]
    simp only [Option.bind_some, spec_l1SameDesc.f]
    generalize dec l (1 + p * 4 + o * 4096 + 2) = q
    obtain ⟨a, b, c⟩ := q
    by_cases x : a = d <;> by_cases y : b = o <;> by_cases z : c = p <;> simp [x, y, z]

theorem impl_enc (l d o p : Int) (k : Nat) : impl_Encode.f (k + 4) l d o p = some (enc l (d, o, p)) := by
  have key : ∀ b : Bool, (b = true ↔ ((d ≠ 1 ∧ d ≠ 2 ∧ d ≠ 3) ∨ o < 0 ∨ o ≥ 65536 ∨ p < 0 ∨ p > 7)) → impl_Encode.j0 (k + 4) l b d o p = some (enc l (d, o, p)) := by
    intro b hb
    unfold enc
    by_cases hc : (d ≠ 1 ∧ d ≠ 2 ∧ d ≠ 3) ∨ o < 0 ∨ o ≥ 65536 ∨ p < 0 ∨ p > 7
    · rw [if_pos hc, hb.mpr hc]; simp [impl_Encode.j0]
    have hb' : b = false := by cases b with
      | true => exact absurd (hb.mp rfl) hc
      | false => rfl
    rw [if_neg hc, hb']
    have w1 : IntKind.u64.wrap p = p := by rw [u64_wrap]; omega
    have w2 : IntKind.u64.wrap (p * 4) = p * 4 := by rw [u64_wrap]; omega
    have w3 : IntKind.u64.wrap o = o := by rw [u64_wrap]; omega
    have w4 : IntKind.u64.wrap (o * 4096) = o * 4096 := by rw [u64_wrap]; omega
    simp only [impl_Encode.j0, Bool.false_eq_true, if_false, w1, w2, w3, w4]
    rw [word3 o p (by omega) (by omega) (by omega) (by omega), word1 o p (by omega) (by omega) (by omega) (by omega)]
    by_cases h5 : d = 2
    · simp only [h5, if_true, Int.add_zero]
      rw [impl_dec l _ (by omega) (by omega) k]
      simp only [Option.bind_some]
      generalize dec l (1 + p * 4 + o * 4096) = q
      obtain ⟨a, b, c⟩ := q
      by_cases x : a = 2 <;> by_cases y : b = o <;> by_cases z : c = p <;> simp [x, y, z]
    · simp only [h5, if_false]
      rw [impl_dec l _ (by omega) (by omega) k]
      simp only [Option.bind_some]
      generalize dec l (1 + p * 4 + o * 4096 + 2) = q
      obtain ⟨a, b, c⟩ := q
      by_cases x : a = d <;> by_cases y : b = o <;> by_cases z : c = p <;> simp [x, y, z]
  unfold impl_Encode.f
  repeat' split
  all_goals (refine key _ ?_; simp; omega)

end Go.Proofs.Ytemfnbcebgflmaa.PureFnExactEncode
