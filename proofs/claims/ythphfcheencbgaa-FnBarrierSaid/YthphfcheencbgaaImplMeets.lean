/- Walks of the program's header.meets, header.doom and mach.holds. -/
import Derived.Test.YthphfcheencbgaaMachOf
import Derived.Test.YthphfcheencbgaaImplMach
namespace Go.Proofs.Ythphfcheencbgaa.Mmu
open Go.RowKit Go.Proofs.Ythphfcheencbgaa.Base Go.Proofs.Ythphfcheencbgaa.Kinds Go.Proofs.Ythphfcheencbgaa.DecMath Go.Proofs.Ythphfcheencbgaa.L1
set_option linter.unusedVariables false
set_option linter.unusedSimpArgs false

set_option maxRecDepth 100000 in
set_option maxHeartbeats 4000000 in
theorem meets_any (ad : Addr) (hp hc pg ct : Int) (w : World) (q0 : w.cell? ad = some (.int .i64 hp)) (q1 : w.cell? ⟨ad.block, ad.off + 1, none⟩ = some (.int .i64 hc))
    (b0 : 0 ≤ hp ∧ 0 ≤ hc ∧ 0 ≤ pg ∧ 0 ≤ ct) (b1 : hp + hc ≤ 100000) (b2 : pg + ct ≤ 100000) :
    Calls Try.prog 89 #[.pointer (some ad), .int .i64 pg, .int .i64 ct] w fun e w' => e = .returned (.bool (decide (hp < pg + ct ∧ pg < hp + hc))) ∧ Below w.heap.size w w' := by
  have w1 : IntKind.i64.wrap (pg + ct) = pg + ct := by rw [IntKind.wrap_i64]; omega
  have w2 : IntKind.i64.wrap (hp + hc) = hp + hc := by rw [IntKind.wrap_i64]; omega
  rcases Bool.eq_false_or_eq_true (decide (hp < pg + ct)) with h | h
  all_goals
    go_enter Try.func89, Try.ntmps89
    go_wp2
    go_quiet (fail)
    go_wp2
  · go_ret
    refine ⟨ret_bool ?_, below_drewN (Below.refl _ _) _⟩
    have h' : hp < pg + ct := of_decide_eq_true h
    simp [h']
  · go_ret
    refine ⟨ret_bool ?_, below_drewN (Below.refl _ _) _⟩
    have h' : ¬ hp < pg + ct := of_decide_eq_false h
    simp [h']
end Go.Proofs.Ythphfcheencbgaa.Mmu
