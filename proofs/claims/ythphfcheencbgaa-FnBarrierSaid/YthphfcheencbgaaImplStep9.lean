/- Walks of the program's operationOf, mach.step and Step. Walks of the program's mach.step. -/
import Derived.Test.YthphfcheencbgaaImplStep4
import Derived.Test.YthphfcheencbgaaImplStep5
import Derived.Test.YthphfcheencbgaaImplStep7
import Derived.Test.YthphfcheencbgaaMachine
namespace Go.Proofs.Ythphfcheencbgaa.Mmu
open Go.RowKit Go.Proofs.Ythphfcheencbgaa.Base Go.Proofs.Ythphfcheencbgaa.Kinds Go.Proofs.Ythphfcheencbgaa.DecMath Go.Proofs.Ythphfcheencbgaa.L1
set_option linter.unusedVariables false
set_option linter.unusedSimpArgs false
set_option maxRecDepth 100000 in
set_option maxHeartbeats 8000000 in
theorem opOf_w (a bb wd : Int) (w : World) :
    Calls Try.prog 46 #[.agg #[.int .i64 1, .int .i64 a, .int .i64 bb, .int .u64 wd]] w fun e w' => e = .returned (.iface 120 (.agg #[.int .i64 a, .int .u64 wd, .int .i64 bb])) ∧ Below w.heap.size w w' := by
  go_enter Try.func46, Try.ntmps46
  go_upto_region 1 with fail
  refine ((St.start w).push _ _).gen (fun w1 S1' _ => ?_)
  have S1 := Lib.hid S1'
  clear S1'
  have sT0 := S1.out
  obtain ⟨p0_0, p0_1, p0_2, p0_3⟩ := sT0.c4
  have sT1 := sT0.tail
  clear sT0 sT1
  go_wp2
  go_ret
  exact ⟨rfl, S1.out.b⟩
theorem opOf_d (a bb wd : Int) (w : World) :
    Calls Try.prog 46 #[.agg #[.int .i64 2, .int .i64 a, .int .i64 bb, .int .u64 wd]] w fun e w' => e = .returned (.iface 121 (.agg #[.int .i64 2, .int .i64 a, .int .i64 bb, .int .u64 wd])) ∧ Below w.heap.size w w' := by
  go_enter Try.func46, Try.ntmps46
  go_upto_region 1 with fail
  refine ((St.start w).push _ _).gen (fun w1 S1' _ => ?_)
  have S1 := Lib.hid S1'
  clear S1'
  have sT0 := S1.out
  obtain ⟨p0_0, p0_1, p0_2, p0_3⟩ := sT0.c4
  have sT1 := sT0.tail
  clear sT0 sT1
  go_wp2
  go_ret
  exact ⟨rfl, S1.out.b⟩
theorem opOf_t (a bb wd : Int) (w : World) :
    Calls Try.prog 46 #[.agg #[.int .i64 3, .int .i64 a, .int .i64 bb, .int .u64 wd]] w fun e w' => e = .returned (.iface 122 (.agg #[.int .i64 3, .int .i64 a, .int .i64 bb, .int .u64 wd])) ∧ Below w.heap.size w w' := by
  go_enter Try.func46, Try.ntmps46
  go_upto_region 1 with fail
  refine ((St.start w).push _ _).gen (fun w1 S1' _ => ?_)
  have S1 := Lib.hid S1'
  clear S1'
  have sT0 := S1.out
  obtain ⟨p0_0, p0_1, p0_2, p0_3⟩ := sT0.c4
  have sT1 := sT0.tail
  clear sT0 sT1
  go_wp2
  go_ret
  exact ⟨rfl, S1.out.b⟩
theorem opOf_u (a bb wd : Int) (w : World) :
    Calls Try.prog 46 #[.agg #[.int .i64 4, .int .i64 a, .int .i64 bb, .int .u64 wd]] w fun e w' => e = .returned (.iface 110 (.agg #[.int .i64 4, .int .i64 a, .int .i64 bb, .int .u64 wd])) ∧ Below w.heap.size w w' := by
  go_enter Try.func46, Try.ntmps46
  go_upto_region 1 with fail
  refine ((St.start w).push _ _).gen (fun w1 S1' _ => ?_)
  have S1 := Lib.hid S1'
  clear S1'
  have sT0 := S1.out
  obtain ⟨p0_0, p0_1, p0_2, p0_3⟩ := sT0.c4
  have sT1 := sT0.tail
  clear sT0 sT1
  go_wp2
  go_ret
  exact ⟨rfl, S1.out.b⟩
theorem opOf_n (kd a bb wd : Int) (w : World) (h : ¬ (kd = 1 ∨ kd = 2 ∨ kd = 3 ∨ kd = 4)) :
    Calls Try.prog 46 #[.agg #[.int .i64 kd, .int .i64 a, .int .i64 bb, .int .u64 wd]] w fun e w' => e = .returned .nilIface ∧ Below w.heap.size w w' := by
  have k1 : (kd == 1) = false := by simp; omega
  have k2 : (kd == 2) = false := by simp; omega
  have k3 : (kd == 3) = false := by simp; omega
  have k4 : (kd == 4) = false := by simp; omega
  clear h
  go_enter Try.func46, Try.ntmps46
  go_upto_region 1 with fail
  refine ((St.start w).push _ _).gen (fun w1 S1' _ => ?_)
  have S1 := Lib.hid S1'
  clear S1'
  have sT0 := S1.out
  obtain ⟨p0_0, p0_1, p0_2, p0_3⟩ := sT0.c4
  have sT1 := sT0.tail
  clear sT0 sT1
  go_wp2
  go_ret
  exact ⟨rfl, S1.out.b⟩
end Go.Proofs.Ythphfcheencbgaa.Mmu

namespace Go.Proofs.Ythphfcheencbgaa.Mmu
open Go.RowKit Go.Proofs.Ythphfcheencbgaa.Base Go.Proofs.Ythphfcheencbgaa.Kinds Go.Proofs.Ythphfcheencbgaa.DecMath Go.Proofs.Ythphfcheencbgaa.L1
set_option linter.unusedVariables false
set_option linter.unusedSimpArgs false
/-- One operation on the machine inside: the machine, and the code. -/
def StepPost (base p : Nat) (w : World) (r : SM × Int) (e : Ending) (w' : World) : Prop :=
  e = .returned (.int .i64 r.2) ∧ ∃ v0 v1 v2 v3 v4, OwnX base w' p v0 v1 v2 v3 v4 r.1 (latestOf r.1) ∧ Below base w w' ∧ KeepX w w'
theorem ta_writeOp (v : Value) (w : World) : (Instr.typeAssert (.iface 120 v) 105 110 true).run Try.prog w = .ok (.tuple #[.agg #[.int .i64 0, .int .i64 0, .int .i64 0, .int .u64 0], .bool false]) w := by kernel_rfl
theorem ta_dsbOp (v : Value) (w : World) : (Instr.typeAssert (.iface 121 v) 105 110 true).run Try.prog w = .ok (.tuple #[.agg #[.int .i64 0, .int .i64 0, .int .i64 0, .int .u64 0], .bool false]) w := by kernel_rfl
theorem ta_tlbiOp (v : Value) (w : World) : (Instr.typeAssert (.iface 122 v) 105 110 true).run Try.prog w = .ok (.tuple #[.agg #[.int .i64 0, .int .i64 0, .int .i64 0, .int .u64 0], .bool false]) w := by kernel_rfl
theorem ta_freeOp (v : Value) (w : World) : (Instr.typeAssert (.iface 110 v) 105 110 true).run Try.prog w = .ok (.tuple #[v, .bool true]) w := by kernel_rfl
theorem meth_writeOp_formed (n : Nat) (v : Value) (w : World) : (method (n + 1) 120 v "loop.example/s0047/impl.formed").run Try.prog w = .ok (87, v) w := by kernel_rfl
theorem meth_writeOp_refused (n : Nat) (v : Value) (w : World) : (method (n + 1) 120 v "loop.example/s0047/impl.refused").run Try.prog w = .ok (88, v) w := by kernel_rfl
theorem meth_writeOp_do (n : Nat) (v : Value) (w : World) : (method (n + 1) 120 v "loop.example/s0047/impl.do").run Try.prog w = .ok (86, v) w := by kernel_rfl
theorem meth_dsbOp_formed (n : Nat) (v : Value) (w : World) : (method (n + 1) 121 v "loop.example/s0047/impl.formed").run Try.prog w = .ok (91, v) w := by kernel_rfl
theorem meth_dsbOp_refused (n : Nat) (v : Value) (w : World) : (method (n + 1) 121 v "loop.example/s0047/impl.refused").run Try.prog w = .ok (92, v) w := by kernel_rfl
theorem meth_dsbOp_do (n : Nat) (v : Value) (w : World) : (method (n + 1) 121 v "loop.example/s0047/impl.do").run Try.prog w = .ok (90, v) w := by kernel_rfl
theorem meth_tlbiOp_formed (n : Nat) (v : Value) (w : World) : (method (n + 1) 122 v "loop.example/s0047/impl.formed").run Try.prog w = .ok (94, v) w := by kernel_rfl
theorem meth_tlbiOp_refused (n : Nat) (v : Value) (w : World) : (method (n + 1) 122 v "loop.example/s0047/impl.refused").run Try.prog w = .ok (95, v) w := by kernel_rfl
theorem meth_tlbiOp_do (n : Nat) (v : Value) (w : World) : (method (n + 1) 122 v "loop.example/s0047/impl.do").run Try.prog w = .ok (93, v) w := by kernel_rfl
theorem meth_freeOp_formed (n : Nat) (v : Value) (w : World) : (method (n + 1) 110 v "loop.example/s0047/impl.formed").run Try.prog w = .ok (78, v) w := by kernel_rfl
theorem meth_freeOp_refused (n : Nat) (v : Value) (w : World) : (method (n + 1) 110 v "loop.example/s0047/impl.refused").run Try.prog w = .ok (79, v) w := by kernel_rfl
theorem meth_freeOp_do (n : Nat) (v : Value) (w : World) : (method (n + 1) 110 v "loop.example/s0047/impl.do").run Try.prog w = .ok (77, v) w := by kernel_rfl
set_option maxRecDepth 100000 in
set_option maxHeartbeats 8000000 in
theorem mstep_n (base p : Nat) (v0 v1 v2 v3 v4 : Value) (m : SM) (kd a bb wd : Int) (w : World) (x : OwnX base w p v0 v1 v2 v3 v4 m (latestOf m)) (h : ¬ (kd = 1 ∨ kd = 2 ∨ kd = 3 ∨ kd = 4)) :
    Calls Try.prog 25 #[.pointer (some ⟨p, 0, none⟩), .agg #[.int .i64 kd, .int .i64 a, .int .i64 bb, .int .u64 wd]] w (StepPost base p w (stepS m ⟨kd, a, bb, wd⟩)) := by
  have HR : Hid (stepS m ⟨kd, a, bb, wd⟩ = (m, 1)) := Lib.hid (by unfold stepS; rw [if_neg (by unfold opOk; simp only; omega)])
  have X := Lib.hid x
  have hb0 : base ≤ w.heap.size := by have := x.low; have := x.lt; omega
  have H := Lib.hid h
  clear x h
  go_enter Try.func25, Try.ntmps25
  go_upto_region 1 with fail
  refine ((St.start w).push _ _).gen (fun w1 S1' _ => ?_)
  have S1 := Lib.hid S1'
  clear S1'
  have sT0 := S1.out
  obtain ⟨p0_0, p0_1, p0_2, p0_3⟩ := sT0.c4
  have sT1 := sT0.tail
  clear sT0 sT1
  go_wp2_with (first | (go_at_call 46; refine (opOf_n kd a bb wd _ H.out).mono ?_; rintro e w2 ⟨rfl, hb2⟩; have S2 := Lib.hid (S1.out.below hb2); clear hb2))
  go_ret
  rw [HR.out]
  exact ⟨rfl, _, _, _, _, _, X.out.below S2.out.b, S2.out.b.mono hb0, KeepX.of_below S2.out.b⟩
set_option maxRecDepth 100000 in
set_option maxHeartbeats 8000000 in
theorem mstep_w (base p : Nat) (v0 v1 v2 v3 v4 : Value) (m : SM) (a bb wd : Int) (w : World) (x : OwnX base w p v0 v1 v2 v3 v4 m (latestOf m)) (hv : Valid m) (hw : WfM m) (hwd : 0 ≤ wd ∧ wd < 18446744073709551616) :
    Calls Try.prog 25 #[.pointer (some ⟨p, 0, none⟩), .agg #[.int .i64 1, .int .i64 a, .int .i64 bb, .int .u64 wd]] w (StepPost base p w (stepS m ⟨1, a, bb, wd⟩)) := by
  have X := Lib.hid x
  have V := Lib.hid hv
  have hb0 : base ≤ w.heap.size := by have := x.low; have := x.lt; omega
  have hm1 := meth_writeOp_formed
  have hm2 := meth_writeOp_refused
  have hm3 := meth_writeOp_do
  have hm4 := ta_writeOp
  rcases Bool.eq_false_or_eq_true (decide (0 ≤ a ∧ a < (m.ws.length : Int) ∧ bb = 0 ∧ m.pend.length < 10000)) with hf | hf
  rotate_left
  · have HF := Lib.hid hf
    have HR : Hid (stepS m ⟨1, a, bb, wd⟩ = (m, 1)) := Lib.hid (by unfold stepS; rw [if_neg (by have := of_decide_eq_false hf; unfold opOk; simp only; omega)])
    clear hf
    go_enter Try.func25, Try.ntmps25
    go_upto_region 1 with fail
    refine ((St.start w).push _ _).gen (fun w1 S1' _ => ?_)
    have S1 := Lib.hid S1'
    clear S1'
    have sT0 := S1.out
    obtain ⟨p0_0, p0_1, p0_2, p0_3⟩ := sT0.c4
    have sT1 := sT0.tail
    clear sT0 sT1
    go_wp2_with (first | (go_at_call 46; refine (opOf_w a bb wd _).mono ?_; rintro e w2 ⟨rfl, hb2⟩; have S2 := Lib.hid (S1.out.below hb2); clear hb2) | (go_at_call 87; refine (writeFormed_b base p _ _ _ _ _ m (latestOf m) a wd bb _ (X.out.below S2.out.b) false HF.out).mono ?_; rintro e w3 ⟨rfl, hb3⟩; have S3 := Lib.hid (S2.out.below hb3); clear hb3))
    go_ret
    rw [HR.out]
    exact ⟨rfl, _, _, _, _, _, X.out.below S3.out.b, S3.out.b.mono hb0, KeepX.of_below S3.out.b⟩
  have HF := Lib.hid hf
  have ho : opOk m ⟨1, a, bb, wd⟩ := Or.inl ⟨rfl, of_decide_eq_true hf⟩
  have HO := Lib.hid ho
  have hA := of_decide_eq_true hf
  obtain ⟨cd, hcd⟩ : ∃ c, writeCode m ⟨1, a, bb, wd⟩ = c := ⟨_, rfl⟩
  have HC := Lib.hid hcd
  have HR : Hid (stepS m ⟨1, a, bb, wd⟩ = if cd = 0 then ({ m with pend := m.pend ++ [⟨a, wd⟩] }, 0) else (m, cd)) := Lib.hid (by rw [← hcd]; unfold stepS; rw [if_pos ho]; rfl)
  have HW := Lib.hid hw
  have HWD := Lib.hid hwd
  have HA := Lib.hid hA
  have hll : (latestOf m).length = m.ws.length := writes_len _ _
  have HLL := Lib.hid hll
  clear x hv hw hwd hcd ho hf hA hll
  by_cases hc0 : cd = 0
  rotate_left
  · have hcn : (cd != 0) = true := by simpa using hc0
    rw [HR.out, if_neg hc0]
    go_enter Try.func25, Try.ntmps25
    go_upto_region 1 with fail
    refine ((St.start w).push _ _).gen (fun w1 S1' _ => ?_)
    have S1 := Lib.hid S1'
    clear S1'
    have sT0 := S1.out
    obtain ⟨p0_0, p0_1, p0_2, p0_3⟩ := sT0.c4
    have sT1 := sT0.tail
    clear sT0 sT1
    go_wp2_with (first | (go_at_call 46; refine (opOf_w a bb wd _).mono ?_; rintro e w2 ⟨rfl, hb2⟩; have S2 := Lib.hid (S1.out.below hb2); clear hb2) | (go_at_call 87; refine (writeFormed_b base p _ _ _ _ _ m (latestOf m) a wd bb _ (X.out.below S2.out.b) true HF.out).mono ?_; rintro e w3 ⟨rfl, hb3⟩; have S3 := Lib.hid (S2.out.below hb3); clear hb3) | (go_at_call 88; refine (writeRefused_b base p _ _ _ _ _ m 1 a bb wd bb _ (X.out.below S3.out.b) V.out HW.out HWD.out ⟨HA.out.1, HA.out.2.1⟩ cd HC.out).mono ?_; rintro e w4 ⟨rfl, hb4⟩; have S4 := Lib.hid (S3.out.below hb4); clear hb4))
    go_ret
    exact ⟨rfl, _, _, _, _, _, X.out.below S4.out.b, S4.out.b.mono hb0, KeepX.of_below S4.out.b⟩
  subst hc0
  rw [HR.out, if_pos rfl]
  go_enter Try.func25, Try.ntmps25
  go_upto_region 1 with fail
  refine ((St.start w).push _ _).gen (fun w1 S1' _ => ?_)
  have S1 := Lib.hid S1'
  clear S1'
  have sT0 := S1.out
  obtain ⟨p0_0, p0_1, p0_2, p0_3⟩ := sT0.c4
  have sT1 := sT0.tail
  clear sT0 sT1
  go_wp2_with (first | (go_at_call 46; refine (opOf_w a bb wd _).mono ?_; rintro e w2 ⟨rfl, hb2⟩; have S2 := Lib.hid (S1.out.below hb2); clear hb2) | (go_at_call 87; refine (writeFormed_b base p _ _ _ _ _ m (latestOf m) a wd bb _ (X.out.below S2.out.b) true HF.out).mono ?_; rintro e w3 ⟨rfl, hb3⟩; have S3 := Lib.hid (S2.out.below hb3); clear hb3) | (go_at_call 88; refine (writeRefused_b base p _ _ _ _ _ m 1 a bb wd bb _ (X.out.below S3.out.b) V.out HW.out HWD.out ⟨HA.out.1, HA.out.2.1⟩ 0 HC.out).mono ?_; rintro e w4 ⟨rfl, hb4⟩; have S4 := Lib.hid (S3.out.below hb4); clear hb4) | (go_at_call 86; refine (writeDo_any base p _ _ _ _ _ m (latestOf m) a wd bb _ (X.out.below S4.out.b) HA.out.2.2.2 HA.out.1 (by rw [HLL.out]; exact HA.out.2.1)).mono ?_; rintro e w5 ⟨rfl, d0, d1, d2, d3, d4, xd, hbd, hkd⟩; have XD := Lib.hid xd; have HBD := Lib.hid ((S4.out.b.mono hb0).trans hbd); have HKD := Lib.hid ((KeepX.of_below S4.out.b).trans hkd); clear xd hbd hkd))
  go_ret
  have xd := XD.out
  have e : latestOf { m with pend := m.pend ++ [⟨a, wd⟩] } = (latestOf m).set a.toNat wd := writes_snoc _ _ _
  rw [← e] at xd
  exact ⟨rfl, _, _, _, _, _, xd, HBD.out, HKD.out⟩
set_option maxRecDepth 100000 in
set_option maxHeartbeats 8000000 in
theorem mstep_d (base p : Nat) (v0 v1 v2 v3 v4 : Value) (m : SM) (a bb wd : Int) (w : World) (x : OwnX base w p v0 v1 v2 v3 v4 m (latestOf m)) (hv : Valid m) :
    Calls Try.prog 25 #[.pointer (some ⟨p, 0, none⟩), .agg #[.int .i64 2, .int .i64 a, .int .i64 bb, .int .u64 wd]] w (StepPost base p w (stepS m ⟨2, a, bb, wd⟩)) := by
  have X := Lib.hid x
  have V := Lib.hid hv
  have hb0 : base ≤ w.heap.size := by have := x.low; have := x.lt; omega
  have hm1 := meth_dsbOp_formed
  have hm2 := meth_dsbOp_refused
  have hm3 := meth_dsbOp_do
  have hm4 := ta_dsbOp
  rcases Bool.eq_false_or_eq_true (decide (a = 0 ∧ bb = 0 ∧ wd = 0)) with hf | hf
  rotate_left
  · have HF := Lib.hid hf
    have HR : Hid (stepS m ⟨2, a, bb, wd⟩ = (m, 1)) := Lib.hid (by unfold stepS; rw [if_neg (by have := of_decide_eq_false hf; unfold opOk; simp only; omega)])
    clear hf
    go_enter Try.func25, Try.ntmps25
    go_upto_region 1 with fail
    refine ((St.start w).push _ _).gen (fun w1 S1' _ => ?_)
    have S1 := Lib.hid S1'
    clear S1'
    have sT0 := S1.out
    obtain ⟨p0_0, p0_1, p0_2, p0_3⟩ := sT0.c4
    have sT1 := sT0.tail
    clear sT0 sT1
    go_wp2_with (first | (go_at_call 46; refine (opOf_d a bb wd _).mono ?_; rintro e w2 ⟨rfl, hb2⟩; have S2 := Lib.hid (S1.out.below hb2); clear hb2) | (go_at_call 91; refine (dsbFormed_b a bb wd _ _ false HF.out).mono ?_; rintro e w3 ⟨rfl, hb3⟩; have S3 := Lib.hid (S2.out.below hb3); clear hb3))
    go_ret
    rw [HR.out]
    exact ⟨rfl, _, _, _, _, _, X.out.below S3.out.b, S3.out.b.mono hb0, KeepX.of_below S3.out.b⟩
  have HF := Lib.hid hf
  have ho : opOk m ⟨2, a, bb, wd⟩ := Or.inr (Or.inl ⟨rfl, of_decide_eq_true hf⟩)
  have HO := Lib.hid ho
  have HR : Hid (stepS m ⟨2, a, bb, wd⟩ = (dsbS m, 0)) := Lib.hid (by unfold stepS; rw [if_pos ho]; rfl)
  have hll : (latestOf m).length ≤ 1048576 := by have := hv.frames; have h : (latestOf m).length = m.ws.length := writes_len _ _; omega
  have HLL := Lib.hid hll
  clear x hv ho hf hll
  rw [HR.out]
  go_enter Try.func25, Try.ntmps25
  go_upto_region 1 with fail
  refine ((St.start w).push _ _).gen (fun w1 S1' _ => ?_)
  have S1 := Lib.hid S1'
  clear S1'
  have sT0 := S1.out
  obtain ⟨p0_0, p0_1, p0_2, p0_3⟩ := sT0.c4
  have sT1 := sT0.tail
  clear sT0 sT1
  go_wp2_with (first | (go_at_call 46; refine (opOf_d a bb wd _).mono ?_; rintro e w2 ⟨rfl, hb2⟩; have S2 := Lib.hid (S1.out.below hb2); clear hb2) | (go_at_call 91; refine (dsbFormed_b a bb wd _ _ true HF.out).mono ?_; rintro e w3 ⟨rfl, hb3⟩; have S3 := Lib.hid (S2.out.below hb3); clear hb3) | (go_at_call 92; refine (dsbRefused_b _ _ 2 a bb wd).mono ?_; rintro e w4 ⟨rfl, hb4⟩; have S4 := Lib.hid (S3.out.below hb4); clear hb4) | (go_at_call 90; refine (dsbDo_any base p _ _ _ _ _ _ m (latestOf m) _ (X.out.below S4.out.b) ⟨_, _, _, _, rfl⟩ HLL.out V.out.ntlb V.out.nwc).mono ?_; rintro e w5 ⟨rfl, d0, d1, d2, d3, d4, xd, hbd, hkd⟩; have XD := Lib.hid xd; have HBD := Lib.hid ((S4.out.b.mono hb0).trans hbd); have HKD := Lib.hid ((KeepX.of_below S4.out.b).trans hkd); clear xd hbd hkd))
  go_ret
  exact ⟨rfl, _, _, _, _, _, XD.out, HBD.out, HKD.out⟩
set_option maxRecDepth 100000 in
set_option maxHeartbeats 8000000 in
theorem mstep_t (base p : Nat) (v0 v1 v2 v3 v4 : Value) (m : SM) (a bb wd : Int) (w : World) (x : OwnX base w p v0 v1 v2 v3 v4 m (latestOf m)) (hv : Valid m) :
    Calls Try.prog 25 #[.pointer (some ⟨p, 0, none⟩), .agg #[.int .i64 3, .int .i64 a, .int .i64 bb, .int .u64 wd]] w (StepPost base p w (stepS m ⟨3, a, bb, wd⟩)) := by
  have X := Lib.hid x
  have V := Lib.hid hv
  have hb0 : base ≤ w.heap.size := by have := x.low; have := x.lt; omega
  have hm1 := meth_tlbiOp_formed
  have hm2 := meth_tlbiOp_refused
  have hm3 := meth_tlbiOp_do
  have hm4 := ta_tlbiOp
  rcases Bool.eq_false_or_eq_true (decide (0 ≤ a ∧ a < 4096 ∧ 1 ≤ bb ∧ bb ≤ 4096 - a ∧ wd = 0)) with hf | hf
  rotate_left
  · have HF := Lib.hid hf
    have HR : Hid (stepS m ⟨3, a, bb, wd⟩ = (m, 1)) := Lib.hid (by unfold stepS; rw [if_neg (by have := of_decide_eq_false hf; unfold opOk; simp only; omega)])
    clear hf
    go_enter Try.func25, Try.ntmps25
    go_upto_region 1 with fail
    refine ((St.start w).push _ _).gen (fun w1 S1' _ => ?_)
    have S1 := Lib.hid S1'
    clear S1'
    have sT0 := S1.out
    obtain ⟨p0_0, p0_1, p0_2, p0_3⟩ := sT0.c4
    have sT1 := sT0.tail
    clear sT0 sT1
    go_wp2_with (first | (go_at_call 46; refine (opOf_t a bb wd _).mono ?_; rintro e w2 ⟨rfl, hb2⟩; have S2 := Lib.hid (S1.out.below hb2); clear hb2) | (go_at_call 94; refine (tlbiFormed_b 3 a bb wd _ _ false HF.out).mono ?_; rintro e w3 ⟨rfl, hb3⟩; have S3 := Lib.hid (S2.out.below hb3); clear hb3))
    go_ret
    rw [HR.out]
    exact ⟨rfl, _, _, _, _, _, X.out.below S3.out.b, S3.out.b.mono hb0, KeepX.of_below S3.out.b⟩
  have HF := Lib.hid hf
  have ho : opOk m ⟨3, a, bb, wd⟩ := Or.inr (Or.inr (Or.inl ⟨rfl, of_decide_eq_true hf⟩))
  have HO := Lib.hid ho
  have HR : Hid (stepS m ⟨3, a, bb, wd⟩ = (tlbiS m a bb, 0)) := Lib.hid (by unfold stepS; rw [if_pos ho]; rfl)
  have HA := Lib.hid (of_decide_eq_true hf)
  clear x hv ho hf
  rw [HR.out]
  go_enter Try.func25, Try.ntmps25
  go_upto_region 1 with fail
  refine ((St.start w).push _ _).gen (fun w1 S1' _ => ?_)
  have S1 := Lib.hid S1'
  clear S1'
  have sT0 := S1.out
  obtain ⟨p0_0, p0_1, p0_2, p0_3⟩ := sT0.c4
  have sT1 := sT0.tail
  clear sT0 sT1
  go_wp2_with (first | (go_at_call 46; refine (opOf_t a bb wd _).mono ?_; rintro e w2 ⟨rfl, hb2⟩; have S2 := Lib.hid (S1.out.below hb2); clear hb2) | (go_at_call 94; refine (tlbiFormed_b 3 a bb wd _ _ true HF.out).mono ?_; rintro e w3 ⟨rfl, hb3⟩; have S3 := Lib.hid (S2.out.below hb3); clear hb3) | (go_at_call 95; refine (tlbiRefused_b _ _ 3 a bb wd).mono ?_; rintro e w4 ⟨rfl, hb4⟩; have S4 := Lib.hid (S3.out.below hb4); clear hb4) | (go_at_call 93; refine (tlbiDo_any base p _ _ _ _ _ m (latestOf m) 3 a bb wd _ (X.out.below S4.out.b) V.out (by have := HA.out; omega) (by have := HA.out; omega)).mono ?_; rintro e w5 ⟨rfl, d0, d1, d2, d3, d4, xd, hbd, hkd⟩; have XD := Lib.hid xd; have HBD := Lib.hid ((S4.out.b.mono hb0).trans hbd); have HKD := Lib.hid ((KeepX.of_below S4.out.b).trans hkd); clear xd hbd hkd))
  go_ret
  exact ⟨rfl, _, _, _, _, _, XD.out, HBD.out, HKD.out⟩
set_option maxRecDepth 100000 in
set_option maxHeartbeats 8000000 in
theorem mstep_u (base p : Nat) (v0 v1 v2 v3 v4 : Value) (m : SM) (a bb wd : Int) (w : World) (x : OwnX base w p v0 v1 v2 v3 v4 m (latestOf m)) (hv : Valid m) (hw : WfM m) :
    Calls Try.prog 25 #[.pointer (some ⟨p, 0, none⟩), .agg #[.int .i64 4, .int .i64 a, .int .i64 bb, .int .u64 wd]] w (StepPost base p w (stepS m ⟨4, a, bb, wd⟩)) := by
  have X := Lib.hid x
  have V := Lib.hid hv
  have hb0 : base ≤ w.heap.size := by have := x.low; have := x.lt; omega
  have hm1 := meth_freeOp_formed
  have hm2 := meth_freeOp_refused
  have hm3 := meth_freeOp_do
  have hm4 := ta_freeOp
  rcases Bool.eq_false_or_eq_true (decide (0 ≤ a ∧ a < ((m.ws.length / 16 : Nat) : Int) ∧ bb = 0 ∧ wd = 0)) with hf | hf
  rotate_left
  · have HF := Lib.hid hf
    have HR : Hid (stepS m ⟨4, a, bb, wd⟩ = (m, 1)) := Lib.hid (by unfold stepS; rw [if_neg (by have := of_decide_eq_false hf; unfold opOk; simp only; omega)])
    clear hf
    go_enter Try.func25, Try.ntmps25
    go_upto_region 1 with fail
    refine ((St.start w).push _ _).gen (fun w1 S1' _ => ?_)
    have S1 := Lib.hid S1'
    clear S1'
    have sT0 := S1.out
    obtain ⟨p0_0, p0_1, p0_2, p0_3⟩ := sT0.c4
    have sT1 := sT0.tail
    clear sT0 sT1
    go_wp2_with (first | (go_at_call 46; refine (opOf_u a bb wd _).mono ?_; rintro e w2 ⟨rfl, hb2⟩; have S2 := Lib.hid (S1.out.below hb2); clear hb2) | (go_at_call 78; refine (freeFormed_b base p _ _ _ _ _ m (latestOf m) 4 a bb wd _ (X.out.below S2.out.b) false HF.out).mono ?_; rintro e w3 ⟨rfl, hb3⟩; have S3 := Lib.hid (S2.out.below hb3); clear hb3))
    go_ret
    rw [HR.out]
    exact ⟨rfl, _, _, _, _, _, X.out.below S3.out.b, S3.out.b.mono hb0, KeepX.of_below S3.out.b⟩
  have HF := Lib.hid hf
  have ho : opOk m ⟨4, a, bb, wd⟩ := Or.inr (Or.inr (Or.inr ⟨rfl, of_decide_eq_true hf⟩))
  have HO := Lib.hid ho
  obtain ⟨ub, hub⟩ : ∃ b, usedB m a = b := ⟨_, rfl⟩
  have HU := Lib.hid hub
  have HR : Hid (stepS m ⟨4, a, bb, wd⟩ = (m, if ub = true then 4 else 0)) := Lib.hid (by rw [← hub]; unfold stepS; rw [if_pos ho]; rfl)
  have HW := Lib.hid hw
  clear x hv hw ho hf hub
  rw [HR.out]
  cases ub
  all_goals
    go_enter Try.func25, Try.ntmps25
    go_upto_region 1 with fail
    refine ((St.start w).push _ _).gen (fun w1 S1' _ => ?_)
    have S1 := Lib.hid S1'
    clear S1'
    have sT0 := S1.out
    obtain ⟨p0_0, p0_1, p0_2, p0_3⟩ := sT0.c4
    have sT1 := sT0.tail
    clear sT0 sT1
    go_wp2_with (first | (go_at_call 46; refine (opOf_u a bb wd _).mono ?_; rintro e w2 ⟨rfl, hb2⟩; have S2 := Lib.hid (S1.out.below hb2); clear hb2) | (go_at_call 78; refine (freeFormed_b base p _ _ _ _ _ m (latestOf m) 4 a bb wd _ (X.out.below S2.out.b) true HF.out).mono ?_; rintro e w3 ⟨rfl, hb3⟩; have S3 := Lib.hid (S2.out.below hb3); clear hb3) | (go_at_call 79; refine (freeRefused_b base p _ _ _ _ _ m 4 a bb wd _ (X.out.below S3.out.b) V.out HW.out _ HU.out).mono ?_; rintro e w4 ⟨rfl, hb4⟩; have S4 := Lib.hid (S3.out.below hb4); clear hb4))
    go_ret
    exact ⟨rfl, _, _, _, _, _, X.out.below S4.out.b, S4.out.b.mono hb0, KeepX.of_below S4.out.b⟩
/-- One operation. -/
theorem mstep_any (base p : Nat) (v0 v1 v2 v3 v4 : Value) (m : SM) (o : SOp) (w : World) (x : OwnX base w p v0 v1 v2 v3 v4 m (latestOf m)) (hv : Valid m) (hw : WfM m) (ho : o.ok) :
    Calls Try.prog 25 #[.pointer (some ⟨p, 0, none⟩), o.val] w (StepPost base p w (stepS m o)) := by
  obtain ⟨kd, a, bb, wd⟩ := o
  by_cases h1 : kd = 1
  · subst h1; exact mstep_w base p _ _ _ _ _ m a bb wd w x hv hw ho
  by_cases h2 : kd = 2
  · subst h2; exact mstep_d base p _ _ _ _ _ m a bb wd w x hv
  by_cases h3 : kd = 3
  · subst h3; exact mstep_t base p _ _ _ _ _ m a bb wd w x hv
  by_cases h4 : kd = 4
  · subst h4; exact mstep_u base p _ _ _ _ _ m a bb wd w x hv hw
  exact mstep_n base p _ _ _ _ _ m kd a bb wd w x (by omega)
end Go.Proofs.Ythphfcheencbgaa.Mmu
