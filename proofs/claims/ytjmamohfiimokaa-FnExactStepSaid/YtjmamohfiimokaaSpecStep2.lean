/- Walks of the reference's l3WellFormed, l3WriteCode, l3InUse. -/
import Derived.Test.YtjmamohfiimokaaSpecStep1
namespace Go.Proofs.Ytjmamohfiimokaa.Mmu
open Go.RowKit Go.Proofs.Ytjmamohfiimokaa.Base Go.Proofs.Ytjmamohfiimokaa.Kinds Go.Proofs.Ytjmamohfiimokaa.DecMath Go.Proofs.Ytjmamohfiimokaa.L1
set_option linter.unusedVariables false
set_option linter.unusedSimpArgs false
set_option maxRecDepth 100000 in
set_option maxHeartbeats 8000000 in
theorem wellFormed_b (v0 v1 v2 v3 : Value) (m : SM) (o : SOp) (w : World) (r : RdM w v0 v1 v2 v3 m) (hv : Valid m) (b : Bool) (h : decide (opOk m o) = b) :
    Calls Try.prog 49 #[.agg #[v0, v1, v2, v3], o.val] w fun e w' => e = .returned (.bool b) ∧ Below w.heap.size w w' := by
  obtain ⟨A0, c0, A1, c1, A2, c2, A3, c3, rfl, rfl, rfl, rfl, hl0, hk0, hl1, hk1, hl2, hk2, hl3, hk3⟩ := r.shape
  have R := Lib.hid r
  obtain ⟨kd, a, bb, wd⟩ := o
  have HF : Hid (framesOf m.ws.length = ((m.ws.length / 16 : Nat) : Int)) := Lib.hid (by have := hv.frames; unfold framesOf; rw [if_pos (by omega)])
  have H := Lib.hid h
  clear r h hv
  simp only [SOp.val]
  by_cases k1 : kd = 1
  · subst k1
    go_enter Try.func49, Try.ntmps49
    go_upto_region 1 with fail
    refine ((St.start w).push2 _ _ _ _).gen (fun w1 S1' _ => ?_)
    have S1 := Lib.hid S1'
    clear S1'
    have sT0 := S1.out
    obtain ⟨p0_0, p0_1, p0_2, p0_3⟩ := sT0.c4
    have sT1 := sT0.tail
    obtain ⟨p1_0, p1_1, p1_2, p1_3⟩ := sT1.c4
    have sT2 := sT1.tail
    clear sT0 sT1 sT2
    go_wp2
    all_goals (go_ret; exact ⟨ret_bool (by rw [← H.out]; rw [Bool.eq_iff_iff]; simp [opOk] at *; try omega), S1.out.b⟩)
  by_cases k5 : wd = 0
  rotate_left
  · have k1' : (kd == 1) = false := by simpa using k1
    have k5' : (wd != 0) = true := by simpa using k5
    have HO : Hid (b = false) := Lib.hid (by rw [← H.out]; exact decide_eq_false (by unfold opOk; simp only; omega))
    clear k1 k5
    go_enter Try.func49, Try.ntmps49
    go_upto_region 1 with fail
    refine ((St.start w).push2 _ _ _ _).gen (fun w1 S1' _ => ?_)
    have S1 := Lib.hid S1'
    clear S1'
    have sT0 := S1.out
    obtain ⟨p0_0, p0_1, p0_2, p0_3⟩ := sT0.c4
    have sT1 := sT0.tail
    obtain ⟨p1_0, p1_1, p1_2, p1_3⟩ := sT1.c4
    have sT2 := sT1.tail
    clear sT0 sT1 sT2
    go_wp2
    go_ret
    exact ⟨ret_bool HO.out.symm, S1.out.b⟩
  subst k5
  by_cases k2 : kd = 2
  · subst k2
    go_enter Try.func49, Try.ntmps49
    go_upto_region 1 with fail
    refine ((St.start w).push2 _ _ _ _).gen (fun w1 S1' _ => ?_)
    have S1 := Lib.hid S1'
    clear S1'
    have sT0 := S1.out
    obtain ⟨p0_0, p0_1, p0_2, p0_3⟩ := sT0.c4
    have sT1 := sT0.tail
    obtain ⟨p1_0, p1_1, p1_2, p1_3⟩ := sT1.c4
    have sT2 := sT1.tail
    clear sT0 sT1 sT2
    go_wp2
    all_goals (go_ret; exact ⟨ret_bool (by rw [← H.out]; rw [Bool.eq_iff_iff]; simp [opOk] at *; try omega), S1.out.b⟩)
  by_cases k3 : kd = 3
  · subst k3
    have hwr : ∀ x y : Int, IntKind.i64.wrap (x + y) = (x + y + 9223372036854775808) % 18446744073709551616 - 9223372036854775808 := fun x y => by rw [IntKind.wrap_i64]
    go_enter Try.func49, Try.ntmps49
    go_upto_region 1 with fail
    refine ((St.start w).push2 _ _ _ _).gen (fun w1 S1' _ => ?_)
    have S1 := Lib.hid S1'
    clear S1'
    have sT0 := S1.out
    obtain ⟨p0_0, p0_1, p0_2, p0_3⟩ := sT0.c4
    have sT1 := sT0.tail
    obtain ⟨p1_0, p1_1, p1_2, p1_3⟩ := sT1.c4
    have sT2 := sT1.tail
    clear sT0 sT1 sT2
    go_wp2
    all_goals (go_ret; exact ⟨ret_bool (by rw [← H.out]; rw [Bool.eq_iff_iff]; simp [opOk, hwr] at *; try omega), S1.out.b⟩)
  by_cases k4 : kd = 4
  rotate_left
  · have k1' : (kd == 1) = false := by simpa using k1
    have k2' : (kd == 2) = false := by simpa using k2
    have k3' : (kd == 3) = false := by simpa using k3
    have k4' : (kd == 4) = false := by simpa using k4
    have HO : Hid (b = false) := Lib.hid (by rw [← H.out]; exact decide_eq_false (by unfold opOk; simp only; omega))
    clear k1 k2 k3 k4
    go_enter Try.func49, Try.ntmps49
    go_upto_region 1 with fail
    refine ((St.start w).push2 _ _ _ _).gen (fun w1 S1' _ => ?_)
    have S1 := Lib.hid S1'
    clear S1'
    have sT0 := S1.out
    obtain ⟨p0_0, p0_1, p0_2, p0_3⟩ := sT0.c4
    have sT1 := sT0.tail
    obtain ⟨p1_0, p1_1, p1_2, p1_3⟩ := sT1.c4
    have sT2 := sT1.tail
    clear sT0 sT1 sT2
    go_wp2
    go_ret
    exact ⟨ret_bool HO.out.symm, S1.out.b⟩
  subst k4
  clear k1 k2 k3
  obtain ⟨f, hf⟩ : ∃ f : Int, ((m.ws.length / 16 : Nat) : Int) = f := ⟨_, rfl⟩
  rw [hf] at HF
  have HO : Hid (decide (0 ≤ a ∧ a < f ∧ bb = 0) = b) := Lib.hid (by rw [← H.out, Bool.eq_iff_iff]; simp [opOk]; omega)
  clear H hf
  rcases Bool.eq_false_or_eq_true (decide (0 ≤ a)) with ha | ha
  · rcases Bool.eq_false_or_eq_true (decide (a < f)) with hb | hb
    all_goals
      have HA := Lib.hid (of_decide_eq_true ha)
      go_enter Try.func49, Try.ntmps49
      go_upto_region 1 with fail
      refine ((St.start w).push2 _ _ _ _).gen (fun w1 S1' _ => ?_)
      have S1 := Lib.hid S1'
      clear S1'
      have sT0 := S1.out
      obtain ⟨p0_0, p0_1, p0_2, p0_3⟩ := sT0.c4
      have sT1 := sT0.tail
      obtain ⟨p1_0, p1_1, p1_2, p1_3⟩ := sT1.c4
      have sT2 := sT1.tail
      clear sT0 sT1 sT2
      go_upto_region 10 with fail
      clear p0_0 p0_1 p0_2 p0_3 p1_0 p1_1 p1_2 p1_3
      have sT0 := S1.out
      obtain ⟨p0_0, p0_1, p0_2, p0_3⟩ := sT0.c4
      have sT1 := sT0.tail
      have pB0_0 := BW.cell p0_0
      have pB0_1 := BW.cell p0_1
      have pB0_2 := BW.cell p0_2
      have pB0_3 := BW.cell p0_3
      clear p0_0 p0_1 p0_2 p0_3
      obtain ⟨p1_0, p1_1, p1_2, p1_3⟩ := sT1.c4
      have sT2 := sT1.tail
      have pB1_0 := BW.cell p1_0
      have pB1_1 := BW.cell p1_1
      have pB1_2 := BW.cell p1_2
      have pB1_3 := BW.cell p1_3
      clear p1_0 p1_1 p1_2 p1_3
      clear sT0 sT1 sT2
      (refine wp_region_below (by kernel_rfl) (by kernel_rfl) ?_; (repeat (first | (go_big_quiet_step (first | (go_at_call 74; refine BW.calls (framesP_b A0 m.ws.length c0 f _ hl0 hk0 HF.out)))) | ((with_reducible refine wpQuiet_step ?_); intro K hK; go_simp; first | ((with_reducible refine hK _ ?_); clear hK K) | (apply Exists.intro; refine ⟨fun _ => ?_, hK _ ?_⟩; (first | (go_at_call 74; refine BW.calls (framesP_b A0 m.ws.length c0 f _ hl0 hk0 HF.out))); clear hK K)))); (with_reducible refine wpQuiet_nil ?_); intro wq hw'; obtain ⟨⟨wy, hbq⟩, hw''⟩ := hw'; subst hw'')
      go_wp2
      go_ret
    · have HB := of_decide_eq_true hb
      exact ⟨ret_bool (by rw [← HO.out, Bool.eq_iff_iff]; simp [HA.out, HB]), thenB S1.out.b hbq⟩
    · have HB := of_decide_eq_false hb
      exact ⟨ret_bool (by rw [← HO.out, eq_comm]; exact decide_eq_false (by omega)), thenB S1.out.b hbq⟩
  · have HA := Lib.hid (of_decide_eq_false ha)
    go_enter Try.func49, Try.ntmps49
    go_upto_region 1 with fail
    refine ((St.start w).push2 _ _ _ _).gen (fun w1 S1' _ => ?_)
    have S1 := Lib.hid S1'
    clear S1'
    have sT0 := S1.out
    obtain ⟨p0_0, p0_1, p0_2, p0_3⟩ := sT0.c4
    have sT1 := sT0.tail
    obtain ⟨p1_0, p1_1, p1_2, p1_3⟩ := sT1.c4
    have sT2 := sT1.tail
    clear sT0 sT1 sT2
    go_upto_region 10 with fail
    clear p0_0 p0_1 p0_2 p0_3 p1_0 p1_1 p1_2 p1_3
    have sT0 := S1.out
    obtain ⟨p0_0, p0_1, p0_2, p0_3⟩ := sT0.c4
    have sT1 := sT0.tail
    have pB0_0 := BW.cell p0_0
    have pB0_1 := BW.cell p0_1
    have pB0_2 := BW.cell p0_2
    have pB0_3 := BW.cell p0_3
    clear p0_0 p0_1 p0_2 p0_3
    obtain ⟨p1_0, p1_1, p1_2, p1_3⟩ := sT1.c4
    have sT2 := sT1.tail
    have pB1_0 := BW.cell p1_0
    have pB1_1 := BW.cell p1_1
    have pB1_2 := BW.cell p1_2
    have pB1_3 := BW.cell p1_3
    clear p1_0 p1_1 p1_2 p1_3
    clear sT0 sT1 sT2
    (refine wp_region_below (by kernel_rfl) (by kernel_rfl) ?_; (repeat (first | (go_big_quiet_step (fail)) | ((with_reducible refine wpQuiet_step ?_); intro K hK; go_simp; first | ((with_reducible refine hK _ ?_); clear hK K) | (apply Exists.intro; refine ⟨fun _ => ?_, hK _ ?_⟩; (fail); clear hK K)))); (with_reducible refine wpQuiet_nil ?_); intro wq hw'; obtain ⟨⟨wy, hbq⟩, hw''⟩ := hw'; subst hw'')
    go_wp2
    go_ret
    exact ⟨ret_bool (by rw [← HO.out, eq_comm]; exact decide_eq_false (by have := HA.out; omega)), thenB S1.out.b hbq⟩
end Go.Proofs.Ytjmamohfiimokaa.Mmu
