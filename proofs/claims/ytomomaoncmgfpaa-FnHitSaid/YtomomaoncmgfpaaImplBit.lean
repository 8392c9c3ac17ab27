/- Walk of the program's bit. -/
import Derived.Test.YtomomaoncmgfpaaL1
import Derived.Test.YtomomaoncmgfpaaMachG
namespace Go.Proofs.Ytomomaoncmgfpaa.Mmu
open Go.RowKit Go.Proofs.Ytomomaoncmgfpaa.Base Go.Proofs.Ytomomaoncmgfpaa.Kinds Go.Proofs.Ytomomaoncmgfpaa.DecMath Go.Proofs.Ytomomaoncmgfpaa.L1
set_option linter.unusedVariables false
set_option linter.unusedSimpArgs false
theorem and1_i64 (x : Int) (h₀ : 0 ≤ x) (h₁ : x < 9223372036854775808) : Go.bits .and .i64 x 1 = x % 2 :=
  bits_mask .i64 63 (by decide) (fun n h0 h1 => by rw [IntKind.wrap_i64]; omega) 1 (by decide) x h₀ (by omega)
set_option maxRecDepth 100000 in
set_option maxHeartbeats 4000000 in
theorem bit_any (c : Int) (b : Nat) (w : World) (hc : 0 ≤ c) (hc' : c ≤ 65535) (hb : b ≤ 50) :
    Calls Try.prog 52 #[.int .i64 c, .int .i64 b] w fun e w' => e = .returned (.bool (bitB c b)) ∧ w' = w := by
  have hb0 : (0 : Int) ≤ (b : Int) := by omega
  have hb1 : ¬ (b : Int) < 0 := by omega
  go_enter Try.func52, Try.ntmps52
  go_wp2
  go_ret
  have h0 := half_nonneg c hc b
  have h1 := half_le c hc b
  refine ⟨ret_bool ?_, rfl⟩
  rw [and1_i64 _ h0 (by omega), Bool.eq_iff_iff]
  simp [bitB]
end Go.Proofs.Ytomomaoncmgfpaa.Mmu
