/- Walks of the program's header.covers and begin. -/
import Derived.Test.YtomomaoncmgfpaaWalkable
import Derived.Test.YtomomaoncmgfpaaImplBit
import Derived.Test.YtomomaoncmgfpaaMachine
namespace Go.Proofs.Ytomomaoncmgfpaa.Mmu
open Go.RowKit Go.Proofs.Ytomomaoncmgfpaa.Base Go.Proofs.Ytomomaoncmgfpaa.Kinds Go.Proofs.Ytomomaoncmgfpaa.DecMath Go.Proofs.Ytomomaoncmgfpaa.L1
set_option linter.unusedVariables false
set_option linter.unusedSimpArgs false
set_option maxRecDepth 100000 in
set_option maxHeartbeats 4000000 in
theorem hcovers_any (A : Addr) (pg cn page : Int) (w : World) (h0 : w.cell? A = some (.int .i64 pg)) (h1 : w.cell? ⟨A.block, A.off + 1, none⟩ = some (.int .i64 cn)) (hp : 0 ≤ pg ∧ pg < 65536) (hc : 0 ≤ cn ∧ cn ≤ 65536) :
    Calls Try.prog 58 #[.pointer (some A), .int .i64 page] w fun e w' => e = .returned (.bool (decide (pg ≤ page ∧ page < pg + cn))) ∧ Below w.heap.size w w' := by
  obtain ⟨hp0, hp1⟩ := hp
  obtain ⟨hc0, hc1⟩ := hc
  have hw : IntKind.i64.wrap (pg + cn) = pg + cn := by rw [IntKind.wrap_i64]; omega
  have b0 := BW.cell h0
  have b1 := BW.cell h1
  by_cases hge : pg ≤ page
  · have hge' : decide (pg ≤ page) = true := by simpa using hge
    have HGE := Lib.hid hge
    clear hge
    go_enter Try.func58, Try.ntmps58
    go_wp2
    (refine wp_region_below (by kernel_rfl) (by kernel_rfl) ?_; (repeat (first | (go_big_quiet_step (fail)) | ((with_reducible refine wpQuiet_step ?_); intro K hK; go_simp; first | ((with_reducible refine hK _ ?_); clear hK K) | (apply Exists.intro; refine ⟨fun _ => ?_, hK _ ?_⟩; (fail); clear hK K)))); (with_reducible refine wpQuiet_nil ?_); intro wq hw'; obtain ⟨⟨wy, hbq⟩, hw''⟩ := hw'; subst hw'')
    go_wp2
    go_ret
    exact ⟨ret_bool (by have := HGE.out; rw [Bool.eq_iff_iff]; simp; omega), hbq⟩
  · have hge' : decide (pg ≤ page) = false := by simpa using hge
    have HGE := Lib.hid hge
    clear hge
    go_enter Try.func58, Try.ntmps58
    go_wp2
    (refine wp_region_below (by kernel_rfl) (by kernel_rfl) ?_; (repeat (first | (go_big_quiet_step (fail)) | ((with_reducible refine wpQuiet_step ?_); intro K hK; go_simp; first | ((with_reducible refine hK _ ?_); clear hK K) | (apply Exists.intro; refine ⟨fun _ => ?_, hK _ ?_⟩; (fail); clear hK K)))); (with_reducible refine wpQuiet_nil ?_); intro wq hw'; obtain ⟨⟨wy, hbq⟩, hw''⟩ := hw'; subst hw'')
    go_wp2
    go_ret
    exact ⟨ret_bool (by have := HGE.out; rw [Bool.eq_iff_iff]; simp; omega), hbq⟩
end Go.Proofs.Ytomomaoncmgfpaa.Mmu
