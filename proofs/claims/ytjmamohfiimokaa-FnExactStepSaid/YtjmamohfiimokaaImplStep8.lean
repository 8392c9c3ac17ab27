/- Walks of the program's operationOf, mach.step and Step. -/
import Derived.Test.YtjmamohfiimokaaImplStep4
import Derived.Test.YtjmamohfiimokaaImplStep5
import Derived.Test.YtjmamohfiimokaaImplStep7
import Derived.Test.YtjmamohfiimokaaMachine
namespace Go.Proofs.Ytjmamohfiimokaa.Mmu
open Go.RowKit Go.Proofs.Ytjmamohfiimokaa.Base Go.Proofs.Ytjmamohfiimokaa.Kinds Go.Proofs.Ytjmamohfiimokaa.DecMath Go.Proofs.Ytjmamohfiimokaa.L1
set_option linter.unusedVariables false
set_option linter.unusedSimpArgs false
set_option maxRecDepth 100000 in
set_option maxHeartbeats 8000000 in
theorem opOf_w (a bb wd : Int) (w : World) :
    Calls Try.prog 131 #[.agg #[.int .i64 1, .int .i64 a, .int .i64 bb, .int .u64 wd]] w fun e w' => e = .returned (.iface 272 (.agg #[.int .i64 a, .int .u64 wd, .int .i64 bb])) ∧ Below w.heap.size w w' := by
  go_enter Try.func131, Try.ntmps131
  go_upto_region 1 with fail
  refine ((St.start w).push _ _).gen (fun w1 S1' _ => ?_)
  have S1 := Lib.hid S1'
  clear S1'
  have sT0 := S1.out
  obtain ⟨p0_0, p0_1, p0_2, p0_3⟩ := sT0.c4
  have sT1 := sT0.tail
  clear sT0 sT1
  go_wp2
  go_ret
  exact ⟨rfl, S1.out.b⟩
theorem opOf_d (a bb wd : Int) (w : World) :
    Calls Try.prog 131 #[.agg #[.int .i64 2, .int .i64 a, .int .i64 bb, .int .u64 wd]] w fun e w' => e = .returned (.iface 273 (.agg #[.int .i64 2, .int .i64 a, .int .i64 bb, .int .u64 wd])) ∧ Below w.heap.size w w' := by
  go_enter Try.func131, Try.ntmps131
  go_upto_region 1 with fail
  refine ((St.start w).push _ _).gen (fun w1 S1' _ => ?_)
  have S1 := Lib.hid S1'
  clear S1'
  have sT0 := S1.out
  obtain ⟨p0_0, p0_1, p0_2, p0_3⟩ := sT0.c4
  have sT1 := sT0.tail
  clear sT0 sT1
  go_wp2
  go_ret
  exact ⟨rfl, S1.out.b⟩
theorem opOf_t (a bb wd : Int) (w : World) :
    Calls Try.prog 131 #[.agg #[.int .i64 3, .int .i64 a, .int .i64 bb, .int .u64 wd]] w fun e w' => e = .returned (.iface 274 (.agg #[.int .i64 3, .int .i64 a, .int .i64 bb, .int .u64 wd])) ∧ Below w.heap.size w w' := by
  go_enter Try.func131, Try.ntmps131
  go_upto_region 1 with fail
  refine ((St.start w).push _ _).gen (fun w1 S1' _ => ?_)
  have S1 := Lib.hid S1'
  clear S1'
  have sT0 := S1.out
  obtain ⟨p0_0, p0_1, p0_2, p0_3⟩ := sT0.c4
  have sT1 := sT0.tail
  clear sT0 sT1
  go_wp2
  go_ret
  exact ⟨rfl, S1.out.b⟩
theorem opOf_u (a bb wd : Int) (w : World) :
    Calls Try.prog 131 #[.agg #[.int .i64 4, .int .i64 a, .int .i64 bb, .int .u64 wd]] w fun e w' => e = .returned (.iface 210 (.agg #[.int .i64 4, .int .i64 a, .int .i64 bb, .int .u64 wd])) ∧ Below w.heap.size w w' := by
  go_enter Try.func131, Try.ntmps131
  go_upto_region 1 with fail
  refine ((St.start w).push _ _).gen (fun w1 S1' _ => ?_)
  have S1 := Lib.hid S1'
  clear S1'
  have sT0 := S1.out
  obtain ⟨p0_0, p0_1, p0_2, p0_3⟩ := sT0.c4
  have sT1 := sT0.tail
  clear sT0 sT1
  go_wp2
  go_ret
  exact ⟨rfl, S1.out.b⟩
theorem opOf_n (kd a bb wd : Int) (w : World) (h : ¬ (kd = 1 ∨ kd = 2 ∨ kd = 3 ∨ kd = 4)) :
    Calls Try.prog 131 #[.agg #[.int .i64 kd, .int .i64 a, .int .i64 bb, .int .u64 wd]] w fun e w' => e = .returned .nilIface ∧ Below w.heap.size w w' := by
  have k1 : (kd == 1) = false := by simp; omega
  have k2 : (kd == 2) = false := by simp; omega
  have k3 : (kd == 3) = false := by simp; omega
  have k4 : (kd == 4) = false := by simp; omega
  clear h
  go_enter Try.func131, Try.ntmps131
  go_upto_region 1 with fail
  refine ((St.start w).push _ _).gen (fun w1 S1' _ => ?_)
  have S1 := Lib.hid S1'
  clear S1'
  have sT0 := S1.out
  obtain ⟨p0_0, p0_1, p0_2, p0_3⟩ := sT0.c4
  have sT1 := sT0.tail
  clear sT0 sT1
  go_wp2
  go_ret
  exact ⟨rfl, S1.out.b⟩
end Go.Proofs.Ytjmamohfiimokaa.Mmu
