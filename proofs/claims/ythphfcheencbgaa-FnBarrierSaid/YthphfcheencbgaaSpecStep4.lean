/- Walks of the reference's l3WellFormed, l3WriteCode, l3InUse. Walks of the reference's l3WriteCode, l3InUse. Walk of the reference's l3InUse. -/
import Derived.Test.YthphfcheencbgaaSpecStep1
namespace Go.Proofs.Ythphfcheencbgaa.Mmu
open Go.RowKit Go.Proofs.Ythphfcheencbgaa.Base Go.Proofs.Ythphfcheencbgaa.Kinds Go.Proofs.Ythphfcheencbgaa.DecMath Go.Proofs.Ythphfcheencbgaa.L1
set_option linter.unusedVariables false
set_option linter.unusedSimpArgs false
set_option maxRecDepth 100000 in
set_option maxHeartbeats 8000000 in
theorem wellFormed_b (v0 v1 v2 v3 : Value) (m : SM) (o : SOp) (w : World) (r : RdM w v0 v1 v2 v3 m) (hv : Valid m) (b : Bool) (h : decide (opOk m o) = b) :
    Calls Try.prog 17 #[.agg #[v0, v1, v2, v3], o.val] w fun e w' => e = .returned (.bool b) ∧ Below w.heap.size w w' := by
  obtain ⟨A0, c0, A1, c1, A2, c2, A3, c3, rfl, rfl, rfl, rfl, hl0, hk0, hl1, hk1, hl2, hk2, hl3, hk3⟩ := r.shape
  have R := Lib.hid r
  obtain ⟨kd, a, bb, wd⟩ := o
  have HF : Hid (framesOf m.ws.length = ((m.ws.length / 16 : Nat) : Int)) := Lib.hid (by have := hv.frames; unfold framesOf; rw [if_pos (by omega)])
  have H := Lib.hid h
  clear r h hv
  simp only [SOp.val]
  by_cases k1 : kd = 1
  · subst k1
    go_enter Try.func17, Try.ntmps17
    go_upto_region 1 with fail
    refine ((St.start w).push2 _ _ _ _).gen (fun w1 S1' _ => ?_)
    have S1 := Lib.hid S1'
    clear S1'
    have sT0 := S1.out
    obtain ⟨p0_0, p0_1, p0_2, p0_3⟩ := sT0.c4
    have sT1 := sT0.tail
    obtain ⟨p1_0, p1_1, p1_2, p1_3⟩ := sT1.c4
    have sT2 := sT1.tail
    clear sT0 sT1 sT2
    go_wp2
    all_goals (go_ret; exact ⟨ret_bool (by rw [← H.out]; rw [Bool.eq_iff_iff]; simp [opOk] at *; try omega), S1.out.b⟩)
  by_cases k5 : wd = 0
  rotate_left
  · have k1' : (kd == 1) = false := by simpa using k1
    have k5' : (wd != 0) = true := by simpa using k5
    have HO : Hid (b = false) := Lib.hid (by rw [← H.out]; exact decide_eq_false (by unfold opOk; simp only; omega))
    clear k1 k5
    go_enter Try.func17, Try.ntmps17
    go_upto_region 1 with fail
    refine ((St.start w).push2 _ _ _ _).gen (fun w1 S1' _ => ?_)
    have S1 := Lib.hid S1'
    clear S1'
    have sT0 := S1.out
    obtain ⟨p0_0, p0_1, p0_2, p0_3⟩ := sT0.c4
    have sT1 := sT0.tail
    obtain ⟨p1_0, p1_1, p1_2, p1_3⟩ := sT1.c4
    have sT2 := sT1.tail
    clear sT0 sT1 sT2
    go_wp2
    go_ret
    exact ⟨ret_bool HO.out.symm, S1.out.b⟩
  subst k5
  by_cases k2 : kd = 2
  · subst k2
    go_enter Try.func17, Try.ntmps17
    go_upto_region 1 with fail
    refine ((St.start w).push2 _ _ _ _).gen (fun w1 S1' _ => ?_)
    have S1 := Lib.hid S1'
    clear S1'
    have sT0 := S1.out
    obtain ⟨p0_0, p0_1, p0_2, p0_3⟩ := sT0.c4
    have sT1 := sT0.tail
    obtain ⟨p1_0, p1_1, p1_2, p1_3⟩ := sT1.c4
    have sT2 := sT1.tail
    clear sT0 sT1 sT2
    go_wp2
    all_goals (go_ret; exact ⟨ret_bool (by rw [← H.out]; rw [Bool.eq_iff_iff]; simp [opOk] at *; try omega), S1.out.b⟩)
  by_cases k3 : kd = 3
  · subst k3
    have hwr : ∀ x y : Int, IntKind.i64.wrap (x + y) = (x + y + 9223372036854775808) % 18446744073709551616 - 9223372036854775808 := fun x y => by rw [IntKind.wrap_i64]
    go_enter Try.func17, Try.ntmps17
    go_upto_region 1 with fail
    refine ((St.start w).push2 _ _ _ _).gen (fun w1 S1' _ => ?_)
    have S1 := Lib.hid S1'
    clear S1'
    have sT0 := S1.out
    obtain ⟨p0_0, p0_1, p0_2, p0_3⟩ := sT0.c4
    have sT1 := sT0.tail
    obtain ⟨p1_0, p1_1, p1_2, p1_3⟩ := sT1.c4
    have sT2 := sT1.tail
    clear sT0 sT1 sT2
    go_wp2
    all_goals (go_ret; exact ⟨ret_bool (by rw [← H.out]; rw [Bool.eq_iff_iff]; simp [opOk, hwr] at *; try omega), S1.out.b⟩)
  by_cases k4 : kd = 4
  rotate_left
  · have k1' : (kd == 1) = false := by simpa using k1
    have k2' : (kd == 2) = false := by simpa using k2
    have k3' : (kd == 3) = false := by simpa using k3
    have k4' : (kd == 4) = false := by simpa using k4
    have HO : Hid (b = false) := Lib.hid (by rw [← H.out]; exact decide_eq_false (by unfold opOk; simp only; omega))
    clear k1 k2 k3 k4
    go_enter Try.func17, Try.ntmps17
    go_upto_region 1 with fail
    refine ((St.start w).push2 _ _ _ _).gen (fun w1 S1' _ => ?_)
    have S1 := Lib.hid S1'
    clear S1'
    have sT0 := S1.out
    obtain ⟨p0_0, p0_1, p0_2, p0_3⟩ := sT0.c4
    have sT1 := sT0.tail
    obtain ⟨p1_0, p1_1, p1_2, p1_3⟩ := sT1.c4
    have sT2 := sT1.tail
    clear sT0 sT1 sT2
    go_wp2
    go_ret
    exact ⟨ret_bool HO.out.symm, S1.out.b⟩
  subst k4
  clear k1 k2 k3
  obtain ⟨f, hf⟩ : ∃ f : Int, ((m.ws.length / 16 : Nat) : Int) = f := ⟨_, rfl⟩
  rw [hf] at HF
  have HO : Hid (decide (0 ≤ a ∧ a < f ∧ bb = 0) = b) := Lib.hid (by rw [← H.out, Bool.eq_iff_iff]; simp [opOk]; omega)
  clear H hf
  rcases Bool.eq_false_or_eq_true (decide (0 ≤ a)) with ha | ha
  · rcases Bool.eq_false_or_eq_true (decide (a < f)) with hb | hb
    all_goals
      have HA := Lib.hid (of_decide_eq_true ha)
      go_enter Try.func17, Try.ntmps17
      go_upto_region 1 with fail
      refine ((St.start w).push2 _ _ _ _).gen (fun w1 S1' _ => ?_)
      have S1 := Lib.hid S1'
      clear S1'
      have sT0 := S1.out
      obtain ⟨p0_0, p0_1, p0_2, p0_3⟩ := sT0.c4
      have sT1 := sT0.tail
      obtain ⟨p1_0, p1_1, p1_2, p1_3⟩ := sT1.c4
      have sT2 := sT1.tail
      clear sT0 sT1 sT2
      go_upto_region 10 with fail
      clear p0_0 p0_1 p0_2 p0_3 p1_0 p1_1 p1_2 p1_3
      have sT0 := S1.out
      obtain ⟨p0_0, p0_1, p0_2, p0_3⟩ := sT0.c4
      have sT1 := sT0.tail
      have pB0_0 := BW.cell p0_0
      have pB0_1 := BW.cell p0_1
      have pB0_2 := BW.cell p0_2
      have pB0_3 := BW.cell p0_3
      clear p0_0 p0_1 p0_2 p0_3
      obtain ⟨p1_0, p1_1, p1_2, p1_3⟩ := sT1.c4
      have sT2 := sT1.tail
      have pB1_0 := BW.cell p1_0
      have pB1_1 := BW.cell p1_1
      have pB1_2 := BW.cell p1_2
      have pB1_3 := BW.cell p1_3
      clear p1_0 p1_1 p1_2 p1_3
      clear sT0 sT1 sT2
      (refine wp_region_below (by kernel_rfl) (by kernel_rfl) ?_; (repeat (first | (go_big_quiet_step (first | (go_at_call 11; refine BW.calls (framesP_b A0 m.ws.length c0 f _ hl0 hk0 HF.out)))) | ((with_reducible refine wpQuiet_step ?_); intro K hK; go_simp; first | ((with_reducible refine hK _ ?_); clear hK K) | (apply Exists.intro; refine ⟨fun _ => ?_, hK _ ?_⟩; (first | (go_at_call 11; refine BW.calls (framesP_b A0 m.ws.length c0 f _ hl0 hk0 HF.out))); clear hK K)))); (with_reducible refine wpQuiet_nil ?_); intro wq hw'; obtain ⟨⟨wy, hbq⟩, hw''⟩ := hw'; subst hw'')
      go_wp2
      go_ret
    · have HB := of_decide_eq_true hb
      exact ⟨ret_bool (by rw [← HO.out, Bool.eq_iff_iff]; simp [HA.out, HB]), thenB S1.out.b hbq⟩
    · have HB := of_decide_eq_false hb
      exact ⟨ret_bool (by rw [← HO.out, eq_comm]; exact decide_eq_false (by omega)), thenB S1.out.b hbq⟩
  · have HA := Lib.hid (of_decide_eq_false ha)
    go_enter Try.func17, Try.ntmps17
    go_upto_region 1 with fail
    refine ((St.start w).push2 _ _ _ _).gen (fun w1 S1' _ => ?_)
    have S1 := Lib.hid S1'
    clear S1'
    have sT0 := S1.out
    obtain ⟨p0_0, p0_1, p0_2, p0_3⟩ := sT0.c4
    have sT1 := sT0.tail
    obtain ⟨p1_0, p1_1, p1_2, p1_3⟩ := sT1.c4
    have sT2 := sT1.tail
    clear sT0 sT1 sT2
    go_upto_region 10 with fail
    clear p0_0 p0_1 p0_2 p0_3 p1_0 p1_1 p1_2 p1_3
    have sT0 := S1.out
    obtain ⟨p0_0, p0_1, p0_2, p0_3⟩ := sT0.c4
    have sT1 := sT0.tail
    have pB0_0 := BW.cell p0_0
    have pB0_1 := BW.cell p0_1
    have pB0_2 := BW.cell p0_2
    have pB0_3 := BW.cell p0_3
    clear p0_0 p0_1 p0_2 p0_3
    obtain ⟨p1_0, p1_1, p1_2, p1_3⟩ := sT1.c4
    have sT2 := sT1.tail
    have pB1_0 := BW.cell p1_0
    have pB1_1 := BW.cell p1_1
    have pB1_2 := BW.cell p1_2
    have pB1_3 := BW.cell p1_3
    clear p1_0 p1_1 p1_2 p1_3
    clear sT0 sT1 sT2
    (refine wp_region_below (by kernel_rfl) (by kernel_rfl) ?_; (repeat (first | (go_big_quiet_step (fail)) | ((with_reducible refine wpQuiet_step ?_); intro K hK; go_simp; first | ((with_reducible refine hK _ ?_); clear hK K) | (apply Exists.intro; refine ⟨fun _ => ?_, hK _ ?_⟩; (fail); clear hK K)))); (with_reducible refine wpQuiet_nil ?_); intro wq hw'; obtain ⟨⟨wy, hbq⟩, hw''⟩ := hw'; subst hw'')
    go_wp2
    go_ret
    exact ⟨ret_bool (by rw [← HO.out, eq_comm]; exact decide_eq_false (by have := HA.out; omega)), thenB S1.out.b hbq⟩
end Go.Proofs.Ythphfcheencbgaa.Mmu

namespace Go.Proofs.Ythphfcheencbgaa.Mmu
open Go.RowKit Go.Proofs.Ythphfcheencbgaa.Base Go.Proofs.Ythphfcheencbgaa.Kinds Go.Proofs.Ythphfcheencbgaa.DecMath Go.Proofs.Ythphfcheencbgaa.L1
set_option linter.unusedVariables false
set_option linter.unusedSimpArgs false

theorem bit0_b (x c : Int) (h : x % 2 = c) (hx : 0 ≤ x) (w : World) : Calls Try.prog 38 #[.int .u64 x, .int .i64 0] w fun e w' => e = .returned (.int .i64 c) ∧ w' = w :=
  (l1Bit_any x 0 w (by omega) (by omega) hx).mono (by rintro e w' ⟨rfl, rfl⟩; exact ⟨by rw [show (0 : Int) + 1 = 1 from rfl, f0, h], rfl⟩)
theorem latest_wf {m : SM} (hv : Valid m) (hw : WfM m) : (∀ x ∈ latestOf m, 0 ≤ x ∧ x < 18446744073709551616) ∧ okLen (latestOf m) := by
  refine ⟨writes_range _ _ hw.1 hw.2, ?_⟩
  have := hv.frames
  unfold okLen latestOf
  rw [writes_len]
  exact this
set_option maxRecDepth 100000 in
set_option maxHeartbeats 8000000 in
theorem writeCode_b (v0 v1 v2 v3 : Value) (m : SM) (o : SOp) (w : World) (r : RdM w v0 v1 v2 v3 m) (hv : Valid m) (hw : WfM m) (ho : 0 ≤ o.Word) (ha : 0 ≤ o.A ∧ o.A < (m.ws.length : Int)) (c : Int) (h : writeCode m o = c) :
    Calls Try.prog 18 #[.agg #[v0, v1, v2, v3], o.val] w fun e w' => e = .returned (.int .i64 c) ∧ Below w.heap.size w w' := by
  obtain ⟨A0, c0, A1, c1, A2, c2, A3, c3, rfl, rfl, rfl, rfl, hl0, hk0, hl1, hk1, hl2, hk2, hl3, hk3⟩ := r.shape
  have R := Lib.hid r
  have V := Lib.hid hv
  have LW := Lib.hid (latest_wf hv hw)
  obtain ⟨kd, a, bb, wd⟩ := o
  simp only at ho ha
  obtain ⟨ha0, ha1⟩ := ha
  have hfr := hv.frames.2.2
  have hal : a < 8192 := by omega
  clear r hv hw
  simp only [SOp.val]
  by_cases k0 : wd % 2 = 0
  · have HC : Hid (c = 0) := Lib.hid (by rw [← h]; exact if_pos k0)
    have K0 := Lib.hid k0
    clear h k0
    go_enter Try.func18, Try.ntmps18
    go_upto_region 1 with fail
    refine ((St.start w).push2 _ _ _ _).gen (fun w1 S1' _ => ?_)
    have S1 := Lib.hid S1'
    clear S1'
    have sT0 := S1.out
    obtain ⟨p0_0, p0_1, p0_2, p0_3⟩ := sT0.c4
    have sT1 := sT0.tail
    obtain ⟨p1_0, p1_1, p1_2, p1_3⟩ := sT1.c4
    have sT2 := sT1.tail
    clear sT0 sT1 sT2
    go_wp2_with (first | (go_at_call 38; refine (bit0_b wd 0 K0.out ho _).mono ?_; rintro e w2 ⟨rfl, rfl⟩))
    go_ret
    exact ⟨by rw [HC.out]; rfl, S1.out.b⟩
  have K0 : Hid (wd % 2 = 1) := Lib.hid (by omega)
  obtain ⟨ps, hps⟩ : ∃ l, placesP (latestOf m) 2 ⟨0, 1, 0⟩ = l := ⟨_, rfl⟩
  obtain ⟨old, hold⟩ : ∃ x, (latestOf m).getD a.toNat 0 = x := ⟨_, rfl⟩
  have HC : Hid (codeB m ⟨kd, a, bb, wd⟩ old ps false = c) := Lib.hid (by rw [← h, ← hps, ← hold]; exact (if_neg k0).symm)
  have HS : Hid ((placesS (latestOf m)).1 = ps) := Lib.hid (by unfold placesS; rw [if_pos LW.out.2]; exact hps)
  have HIN : Hid (∀ q ∈ ps, inP (latestOf m) q) := Lib.hid (by rw [← hps]; exact placesP_in _ 2 _ (by simp) (root_in LW.out.2).1 (root_in LW.out.2).2)
  have hpl : ps.length ≤ 273 := by rw [← hps]; exact Nat.le_trans (placesP_len _ _ _) (maxP_le (by omega))
  have hln : (latestOf m).length = m.ws.length := writes_len _ _
  have HOL : Hid ((latestOf m)[a.toNat]? = some old ∧ 0 ≤ old) := Lib.hid (by
    have hlt : a.toNat < (latestOf m).length := by omega
    rw [List.getD_eq_getElem?_getD, List.getElem?_eq_getElem hlt] at hold
    simp only [Option.getD_some] at hold
    rw [List.getElem?_eq_getElem hlt, hold]
    exact ⟨rfl, by rw [← hold]; exact (LW.out.1 _ (List.getElem_mem _)).1⟩)
  obtain ⟨ls, hls⟩ : ∃ l, latestOf m = l := ⟨_, rfl⟩
  rw [hls] at HOL HS hln HIN LW
  have hal2 : a < (ls.length : Int) := by omega
  have HLN := Lib.hid hln
  have HLS := Lib.hid hls
  clear h hps hold k0 hls hln ha1
  go_enter Try.func18, Try.ntmps18
  go_upto_region 1 with fail
  refine ((St.start w).push2 _ _ _ _).gen (fun w1 S1' _ => ?_)
  have S1 := Lib.hid S1'
  clear S1'
  have sT0 := S1.out
  obtain ⟨p0_0, p0_1, p0_2, p0_3⟩ := sT0.c4
  have sT1 := sT0.tail
  obtain ⟨p1_0, p1_1, p1_2, p1_3⟩ := sT1.c4
  have sT2 := sT1.tail
  clear sT0 sT1 sT2
  go_wp2_with (first | (go_at_call 38; refine (bit0_b wd 1 K0.out ho _).mono ?_; rintro e w2 ⟨rfl, rfl⟩))
  refine (latest_any _ _ _ _ m _ (R.out.below S1.out.b) V.out).mono ?_
  rw [HLS.out]
  rintro e w2 ⟨v, rfl, o2, hb2⟩
  have S2 := Lib.hid (S1.out.below hb2)
  have O2 := Lib.hid (o2.lower S1.out.b.size)
  obtain ⟨Av, cv, hvv⟩ := o2.shape
  subst hvv
  clear o2 hb2
  clear p0_0 p0_1 p0_2 p0_3 p1_0 p1_1 p1_2 p1_3
  go_upto_region 4 with fail
  refine st_own (S2.out.push _ _) (O2.out.below (allocB (Below.refl _ _) _)) (fun w3 S3' O3' => ?_)
  have S3 := Lib.hid S3'
  have O3 := Lib.hid O3'
  clear S3' O3' S2 O2
  have sT0 := S3.out
  have p0_0 := sT0.c1
  have sT1 := sT0.tail
  obtain ⟨p1_0, p1_1, p1_2, p1_3⟩ := sT1.c4
  have sT2 := sT1.tail
  obtain ⟨p2_0, p2_1, p2_2, p2_3⟩ := sT2.c4
  have sT3 := sT2.tail
  clear sT0 sT1 sT2 sT3
  go_wp2_with fail
  refine (specPlaces_any (.slice Av ls.length cv) ls _ (O3.out.rd wLen) LW.out.1).mono ?_
  rintro e w4 ⟨vp, rfl, op, hb4⟩
  rw [HS.out] at op
  obtain ⟨Ap, cp, hvp⟩ := op.shape
  subst hvp
  have OP := Lib.hid (op.rd SPlace.len)
  have S4 := Lib.hid (S3.out.below hb4)
  have O4 := Lib.hid (O3.out.below hb4)
  clear op hb4 S3 O3
  clear p0_0 p1_0 p1_1 p1_2 p1_3 p2_0 p2_1 p2_2 p2_3
  go_wp2
  go_loopw [8, 9] (fun v i wr => ∃ (k : Nat) (cc : Bool) (cx : Int), k ≤ ps.length ∧ v = .int .i64 cx ∧ cx = (if cc = true then 3 else 0) ∧ i = .int .i64 k ∧ codeB m ⟨kd, a, bb, wd⟩ old (ps.drop k) cc = c ∧ Below w4.heap.size w4 wr) (fun _ i _ => ps.length - (intOf i).toNat)
  case atStart => exact ⟨0, false, 0, Nat.zero_le _, rfl, rfl, rfl, HC.out, Below.refl _ _⟩
  case round =>
    obtain ⟨k, cc, cx, hk, rfl, hcx, rfl, hco, hb⟩ := hrel
    have HCX := Lib.hid hcx
    have HCO := Lib.hid hco
    have HB := Lib.hid hb
    have S5 := Lib.hid (S4.out.below hb)
    clear hcx hco hb
    by_cases hlt : k < ps.length
    rotate_left
    · have hlt' : ¬ (k : Int) < (ps.length : Int) := by omega
      go_wp2
      go_ret
      refine ⟨ret_int ?_, S5.out.b⟩
      rw [HCX.out, ← HCO.out, List.drop_eq_nil_of_le (by omega)]
      rfl
    have hlt' : (k : Int) < (ps.length : Int) := by omega
    obtain ⟨a0, e0, ea, g0, u0, u1, u2⟩ := SPlace.at (OP.out.below HB.out) hlt
    cases ea
    have G0 := Lib.hid g0
    have HI := HIN.out e0 (List.mem_of_getElem? g0)
    obtain ⟨fr, lv, pg⟩ := e0
    simp only at u0 u1 u2
    obtain ⟨⟨hl1', hl2'⟩, ⟨hf0, hf1⟩, hg0, hg1⟩ := HI
    simp only at hl1' hl2' hf0 hf1 hg0 hg1
    obtain ⟨n, hn⟩ : ∃ n, cov lv = n := ⟨_, rfl⟩
    have hnn : 1 ≤ n ∧ n ≤ 256 := by rw [← hn]; unfold cov; split <;> (try split) <;> omega
    obtain ⟨hn0, hn1⟩ := hnn
    have HN := Lib.hid hn
    have htd : a.tdiv 16 = a / 16 := Int.tdiv_eq_ediv_of_nonneg ha0
    have htm : a.tmod 16 = a % 16 := Int.tmod_eq_emod_of_nonneg ha0
    have hm0 : 0 ≤ a % 16 * n := Int.mul_nonneg (by omega) (by omega)
    have hm1 : a % 16 * n ≤ 15 * 256 := Int.mul_le_mul (by omega) hn1 (by omega) (by omega)
    have hw1 : IntKind.i64.wrap (a % 16 * n) = a % 16 * n := by rw [IntKind.wrap_i64]; omega
    have hw2 : IntKind.i64.wrap (pg + a % 16 * n) = pg + a % 16 * n := by rw [IntKind.wrap_i64]; omega
    have HW := Lib.hid ho
    clear g0 hn
    obtain ⟨aw, hOa, hOx, hO2⟩ : ∃ ad, Av = some ad ∧ wr.cell? (ad.add a.toNat) = some (.int .u64 old) ∧ True := by
      obtain ⟨ad, x, ea, hx, hc⟩ := word_at ((O4.out.below HB.out).rd wLen) (k := a.toNat) (by omega)
      obtain rfl := Option.some.inj (HOL.out.1.symm.trans hx)
      exact ⟨ad, ea, hc, trivial⟩
    subst hOa
    have hob := HOL.out.2
    have sT0 := S5.out
    have p0_0 := sT0.c1
    have sT1 := sT0.tail
    obtain ⟨p1_0, p1_1, p1_2, p1_3⟩ := sT1.c4
    have sT2 := sT1.tail
    obtain ⟨p2_0, p2_1, p2_2, p2_3⟩ := sT2.c4
    have sT3 := sT2.tail
    clear sT0 sT1 sT2 sT3
    go_upto_region 9 with fail
    have b0 := BW.cell p1_1
    have x0 := BW.cell u0
    rcases Bool.eq_false_or_eq_true (fr == a / 16) with g1 | g1
    rotate_left
    · have HE : Hid (codeB m ⟨kd, a, bb, wd⟩ old (ps.drop (k + 1)) cc = c) := Lib.hid (by
        rw [← HCO.out, drop_at G0.out]
        simp only [codeB]
        rw [if_neg (by simpa using g1)])
      (refine wp_region_below (by kernel_rfl) (by kernel_rfl) ?_; (repeat (first | (go_big_quiet_step (fail)) | ((with_reducible refine wpQuiet_step ?_); intro K hK; go_simp; first | ((with_reducible refine hK _ ?_); clear hK K) | (apply Exists.intro; refine ⟨fun _ => ?_, hK _ ?_⟩; (fail); clear hK K)))); (with_reducible refine wpQuiet_nil ?_); intro wq hw'; obtain ⟨⟨wy, hbq⟩, hw''⟩ := hw'; subst hw'')
      go_wp2
      go_roundw
      case rel => exact ⟨k + 1, cc, cx, by omega, rfl, HCX.out, by go_num, HE.out, thenB HB.out hbq⟩
      case measure => simp [intOf]; omega
    (refine wp_region_below (by kernel_rfl) (by kernel_rfl) ?_; (repeat (first | (go_big_quiet_step (fail)) | ((with_reducible refine wpQuiet_step ?_); intro K hK; go_simp; first | ((with_reducible refine hK _ ?_); clear hK K) | (apply Exists.intro; refine ⟨fun _ => ?_, hK _ ?_⟩; (fail); clear hK K)))); (with_reducible refine wpQuiet_nil ?_); intro wq hw'; obtain ⟨⟨wy, hbq⟩, hw''⟩ := hw'; subst hw'')
    have S6 := Lib.hid (S5.out.below hbq)
    have HB6 := Lib.hid (thenB HB.out hbq)
    have y0 := bC hbq u0
    have y1 := bC hbq u1
    have y2 := bC hbq u2
    have z0 := bC hbq hOx
    clear hbq u0 u1 u2 hOx b0 x0
    clear p0_0 p1_0 p1_1 p1_2 p1_3 p2_0 p2_1 p2_2 p2_3
    have sT0 := S6.out
    have p0_0 := sT0.c1
    have sT1 := sT0.tail
    obtain ⟨p1_0, p1_1, p1_2, p1_3⟩ := sT1.c4
    have sT2 := sT1.tail
    obtain ⟨p2_0, p2_1, p2_2, p2_3⟩ := sT2.c4
    have sT3 := sT2.tail
    clear sT0 sT1 sT2 sT3
    go_upto_region 12 with (first | (go_at_call 22; refine (coversP_b _ n HN.out _).mono ?_; rintro e w7 ⟨rfl, rfl⟩))
    have b0 := BW.cell p1_1
    have x0 := BW.cell y2
    (refine wp_region_below (by kernel_rfl) (by kernel_rfl) ?_; (repeat (first | (go_big_quiet_step (fail)) | ((with_reducible refine wpQuiet_step ?_); intro K hK; go_simp; first | ((with_reducible refine hK _ ?_); clear hK K) | (apply Exists.intro; refine ⟨fun _ => ?_, hK _ ?_⟩; (fail); clear hK K)))); (with_reducible refine wpQuiet_nil ?_); intro wq hw'; obtain ⟨⟨wy, hbq⟩, hw''⟩ := hw'; subst hw'')
    have S7 := Lib.hid (S6.out.below hbq)
    have HB7 := Lib.hid (thenB HB6.out hbq)
    have t1 := bC hbq y1
    clear hbq y0 y1 y2 z0 b0 x0
    clear p0_0 p1_0 p1_1 p1_2 p1_3 p2_0 p2_1 p2_2 p2_3
    rename_i wq7
    have sT0 := S7.out
    have p0_0 := sT0.c1
    have sT1 := sT0.tail
    obtain ⟨p1_0, p1_1, p1_2, p1_3⟩ := sT1.c4
    have sT2 := sT1.tail
    obtain ⟨p2_0, p2_1, p2_2, p2_3⟩ := sT2.c4
    have sT3 := sT2.tail
    clear sT0 sT1 sT2 sT3
    by_cases ho1 : old % 2 = 1
    · have HO1 := Lib.hid ho1
      clear ho1
      rcases Bool.eq_false_or_eq_true (old != wd) with g2 | g2
      · have HE : Hid (c = 2) := Lib.hid (by
          rw [← HCO.out, drop_at G0.out]
          simp only [codeB]
          rw [if_pos (by simpa using g1), if_pos HO1.out, if_neg (by simpa using g2)])
        go_wp2_with (first | (go_at_call 38; refine (bit0_b old 1 HO1.out hob _).mono ?_; rintro e w8 ⟨rfl, rfl⟩))
        go_ret
        exact ⟨by rw [HE.out]; rfl, S7.out.b⟩
      · have HE : Hid (codeB m ⟨kd, a, bb, wd⟩ old (ps.drop (k + 1)) cc = c) := Lib.hid (by
          rw [← HCO.out, drop_at G0.out]
          simp only [codeB]
          rw [if_pos (by simpa using g1), if_pos HO1.out, if_pos (by simpa using g2)])
        go_upto_region 15 with (first | (go_at_call 38; refine (bit0_b old 1 HO1.out hob _).mono ?_; rintro e w8 ⟨rfl, rfl⟩))
        clear p0_0 p1_0 p1_1 p1_2 p1_3 p2_0 p2_1 p2_2 p2_3
        have sT0 := S7.out
        have p0_0 := sT0.c1
        have sT1 := sT0.tail
        have pB0_0 := BW.cell p0_0
        clear p0_0
        obtain ⟨p1_0, p1_1, p1_2, p1_3⟩ := sT1.c4
        have sT2 := sT1.tail
        have pB1_0 := BW.cell p1_0
        have pB1_1 := BW.cell p1_1
        have pB1_2 := BW.cell p1_2
        have pB1_3 := BW.cell p1_3
        clear p1_0 p1_1 p1_2 p1_3
        obtain ⟨p2_0, p2_1, p2_2, p2_3⟩ := sT2.c4
        have sT3 := sT2.tail
        have pB2_0 := BW.cell p2_0
        have pB2_1 := BW.cell p2_1
        have pB2_2 := BW.cell p2_2
        have pB2_3 := BW.cell p2_3
        clear p2_0 p2_1 p2_2 p2_3
        clear sT0 sT1 sT2 sT3
        (refine wp_region_below (by kernel_rfl) (by kernel_rfl) ?_; (repeat (first | (go_big_quiet_step (first | (go_at_call 38; refine BW.same (bit0_b old 1 HO1.out hob _)))) | ((with_reducible refine wpQuiet_step ?_); intro K hK; go_simp; first | ((with_reducible refine hK _ ?_); clear hK K) | (apply Exists.intro; refine ⟨fun _ => ?_, hK _ ?_⟩; (first | (go_at_call 38; refine BW.same (bit0_b old 1 HO1.out hob _))); clear hK K)))); (with_reducible refine wpQuiet_nil ?_); intro wq hw'; obtain ⟨⟨wy, hbq⟩, hw''⟩ := hw'; subst hw'')
        go_wp2
        go_roundw
        case rel => exact ⟨k + 1, cc, cx, by omega, rfl, HCX.out, by go_num, HE.out, thenB HB7.out hbq⟩
        case measure => simp [intOf]; omega
    · have HO0 : Hid (old % 2 = 0) := Lib.hid (by omega)
      clear ho1
      obtain ⟨cb, hcb⟩ : ∃ b, cachedB m lv (pg + a % 16 * n) n = b := ⟨_, rfl⟩
      have HCB := Lib.hid hcb
      have HE : Hid (codeB m ⟨kd, a, bb, wd⟩ old (ps.drop (k + 1)) (cc || cb) = c) := Lib.hid (by
        rw [← HCO.out, drop_at G0.out]
        simp only [codeB]
        rw [if_pos (by simpa using g1), if_neg (by have := HO0.out; omega), HN.out, hcb])
      clear hcb
      cases cb
      all_goals
        go_upto_region 15 with (first | (go_at_call 38; refine (bit0_b old 0 HO0.out hob _).mono ?_; rintro e w8 ⟨rfl, rfl⟩))
        clear p0_0 p1_0 p1_1 p1_2 p1_3 p2_0 p2_1 p2_2 p2_3
        have sT0 := S7.out
        have p0_0 := sT0.c1
        have sT1 := sT0.tail
        have pB0_0 := BW.cell p0_0
        clear p0_0
        obtain ⟨p1_0, p1_1, p1_2, p1_3⟩ := sT1.c4
        have sT2 := sT1.tail
        have pB1_0 := BW.cell p1_0
        have pB1_1 := BW.cell p1_1
        have pB1_2 := BW.cell p1_2
        have pB1_3 := BW.cell p1_3
        clear p1_0 p1_1 p1_2 p1_3
        obtain ⟨p2_0, p2_1, p2_2, p2_3⟩ := sT2.c4
        have sT3 := sT2.tail
        have pB2_0 := BW.cell p2_0
        have pB2_1 := BW.cell p2_1
        have pB2_2 := BW.cell p2_2
        have pB2_3 := BW.cell p2_3
        clear p2_0 p2_1 p2_2 p2_3
        clear sT0 sT1 sT2 sT3
        have x1 := BW.cell t1
        clear t1
        (refine wp_region_below (by kernel_rfl) (by kernel_rfl) ?_; (repeat (first | (go_big_quiet_step (first | (go_at_call 38; refine BW.same (bit0_b old 0 HO0.out hob _)) | (go_at_call 40; refine BW.calls (cached_b _ _ _ _ m lv (pg + a % 16 * n) n _ (R.out.below (thenB S7.out.b (BW.h _))) V.out (by omega) (by omega) _ HCB.out)))) | ((with_reducible refine wpQuiet_step ?_); intro K hK; go_simp; first | ((with_reducible refine hK _ ?_); clear hK K) | (apply Exists.intro; refine ⟨fun _ => ?_, hK _ ?_⟩; (first | (go_at_call 38; refine BW.same (bit0_b old 0 HO0.out hob _)) | (go_at_call 40; refine BW.calls (cached_b _ _ _ _ m lv (pg + a % 16 * n) n _ (R.out.below (thenB S7.out.b (BW.h _))) V.out (by omega) (by omega) _ HCB.out))); clear hK K)))); (with_reducible refine wpQuiet_nil ?_); intro wq hw'; obtain ⟨⟨wy, hbq⟩, hw''⟩ := hw'; subst hw'')
        go_wp2
      · rw [Bool.or_false] at HE
        go_roundw
        case rel => exact ⟨k + 1, cc, cx, by omega, rfl, HCX.out, by go_num, HE.out, thenB HB7.out hbq⟩
        case measure => simp [intOf]; omega
      · rw [Bool.or_true] at HE
        go_roundw
        case rel => exact ⟨k + 1, true, 3, by omega, rfl, rfl, by go_num, HE.out, thenB HB7.out hbq⟩
        case measure => simp [intOf]; omega
end Go.Proofs.Ythphfcheencbgaa.Mmu

namespace Go.Proofs.Ythphfcheencbgaa.Mmu
open Go.RowKit Go.Proofs.Ythphfcheencbgaa.Base Go.Proofs.Ythphfcheencbgaa.Kinds Go.Proofs.Ythphfcheencbgaa.DecMath Go.Proofs.Ythphfcheencbgaa.L1
set_option linter.unusedVariables false
set_option linter.unusedSimpArgs false
set_option maxRecDepth 100000 in
set_option maxHeartbeats 8000000 in
theorem inUse_b (v0 v1 v2 v3 : Value) (m : SM) (f : Int) (w : World) (r : RdM w v0 v1 v2 v3 m) (hv : Valid m) (hw : WfM m) (b : Bool) (h : usedB m f = b) :
    Calls Try.prog 19 #[.agg #[v0, v1, v2, v3], .int .i64 f] w fun e w' => e = .returned (.bool b) ∧ Below w.heap.size w w' := by
  obtain ⟨A0, c0, A1, c1, A2, c2, A3, c3, rfl, rfl, rfl, rfl, hl0, hk0, hl1, hk1, hl2, hk2, hl3, hk3⟩ := r.shape
  have R := Lib.hid r
  have V := Lib.hid hv
  have hnw : m.wc.length ≤ 256 := hv.nwc
  have LW : Hid ((∀ x ∈ latestOf m, 0 ≤ x ∧ x < 18446744073709551616) ∧ okLen (latestOf m)) := Lib.hid ⟨writes_range _ _ hw.1 hw.2, by have := hv.frames; unfold okLen latestOf; rw [writes_len]; exact this⟩
  have WW : Hid ((∀ x ∈ m.ws, 0 ≤ x ∧ x < 18446744073709551616) ∧ okLen m.ws) := Lib.hid ⟨hw.1, hv.frames⟩
  obtain ⟨p1, hp1⟩ : ∃ l, placesP m.ws 2 ⟨0, 1, 0⟩ = l := ⟨_, rfl⟩
  obtain ⟨p2, hp2⟩ : ∃ l, placesP (latestOf m) 2 ⟨0, 1, 0⟩ = l := ⟨_, rfl⟩
  have HS1 : Hid ((placesS m.ws).1 = p1) := Lib.hid (by unfold placesS; rw [if_pos WW.out.2]; exact hp1)
  have HS2 : Hid ((placesS (latestOf m)).1 = p2) := Lib.hid (by unfold placesS; rw [if_pos LW.out.2]; exact hp2)
  obtain ⟨b1, hb1⟩ : ∃ b, p1.any (frameB f) = b := ⟨_, rfl⟩
  obtain ⟨b2, hb2⟩ : ∃ b, p2.any (frameB f) = b := ⟨_, rfl⟩
  have H : Hid ((decide (f = 0) || (b1 || (b2 || m.wc.any (tableB f)))) = b) := Lib.hid (by rw [← h, ← hb1, ← hb2, ← hp1, ← hp2]; rfl)
  have H1 := Lib.hid hb1
  have H2 := Lib.hid hb2
  obtain ⟨ls, hls⟩ : ∃ l, latestOf m = l := ⟨_, rfl⟩
  rw [hls] at HS2 LW
  have HLS := Lib.hid hls
  clear r hv hw h hp1 hp2 hb1 hb2 hls
  go_enter Try.func19, Try.ntmps19
  go_upto_region 1 with fail
  refine ((St.start w).push _ _).gen (fun w1 S1' _ => ?_)
  have S1 := Lib.hid S1'
  clear S1'
  have sT0 := S1.out
  obtain ⟨p0_0, p0_1, p0_2, p0_3⟩ := sT0.c4
  have sT1 := sT0.tail
  clear sT0 sT1
  go_wp2_with fail
  refine (specPlaces_any _ m.ws _ (R.out.ws.below S1.out.b) WW.out.1).mono ?_
  rintro e w2 ⟨vp, rfl, op, hb⟩
  rw [HS1.out] at op
  obtain ⟨Ap, cp, hvp⟩ := op.shape
  subst hvp
  have P1 := Lib.hid (op.rd SPlace.len)
  have S2 := Lib.hid (S1.out.below hb)
  clear op hb S1
  clear p0_0 p0_1 p0_2 p0_3
  go_upto_region 2 with fail
  have sT0 := S2.out
  obtain ⟨p0_0, p0_1, p0_2, p0_3⟩ := sT0.c4
  have sT1 := sT0.tail
  clear sT0 sT1
  go_wp2_with fail
  refine (latest_any _ _ _ _ m _ (R.out.below S2.out.b) V.out).mono ?_
  rw [HLS.out]
  rintro e w3 ⟨v, rfl, o3, hb⟩
  obtain ⟨Av, cv, hvv⟩ := o3.shape
  subst hvv
  have O3 := Lib.hid o3
  have S3 := Lib.hid (S2.out.below hb)
  have P13 := Lib.hid (P1.out.below hb)
  clear o3 hb S2 P1
  clear p0_0 p0_1 p0_2 p0_3
  go_wp2_with fail
  refine (specPlaces_any _ ls _ (O3.out.rd wLen) LW.out.1).mono ?_
  rintro e w4 ⟨vp, rfl, op, hb⟩
  rw [HS2.out] at op
  obtain ⟨Aq, cq, hvp⟩ := op.shape
  subst hvp
  have P2 := Lib.hid (op.rd SPlace.len)
  have S4 := Lib.hid (S3.out.below hb)
  have P14 := Lib.hid (P13.out.below hb)
  clear op hb S3 P13 O3
  rcases Bool.eq_false_or_eq_true (f == 0) with g0 | g0
  · have HT : Hid (b = true) := Lib.hid (by rw [← H.out, decide_eq_true (by simpa using g0)]; rfl)
    go_wp2
    go_ret
    exact ⟨ret_bool HT.out.symm, S4.out.b⟩
  have G0 : Hid (decide (f = 0) = false) := Lib.hid (decide_eq_false (by simpa using g0))
  cases b1
  rotate_left
  · have HT : Hid (b = true) := Lib.hid (by rw [← H.out, G0.out]; rfl)
    go_wp2_with (first | (go_at_call 41; refine (hasFrame_b _ p1 f _ P14.out true H1.out).mono ?_; rintro e w5 ⟨rfl, hb5⟩; have S5 := Lib.hid (S4.out.below hb5); clear hb5))
    go_ret
    exact ⟨ret_bool HT.out.symm, S5.out.b⟩
  go_upto_region 3 with fail
  cases b2
  rotate_left
  · have HT : Hid (b = true) := Lib.hid (by rw [← H.out, G0.out]; rfl)
    go_wp2_with (first | (go_at_call 41; first | (refine (hasFrame_b _ p1 f _ P14.out false H1.out).mono ?_; rintro e w5 ⟨rfl, hb5⟩; have S5 := Lib.hid (S4.out.below hb5); have P25 := Lib.hid (P2.out.below hb5); clear hb5 P14) | (refine (hasFrame_b _ p2 f _ P25.out true H2.out).mono ?_; rintro e w6 ⟨rfl, hb6⟩; have S6 := Lib.hid (S5.out.below hb6); clear hb6)))
    go_ret
    exact ⟨ret_bool HT.out.symm, S6.out.b⟩
  have HT : Hid (m.wc.any (tableB f) = b) := Lib.hid (by rw [← H.out, G0.out]; rfl)
  go_wp2_with (first | (go_at_call 41; first | (refine (hasFrame_b _ p1 f _ P14.out false H1.out).mono ?_; rintro e w5 ⟨rfl, hb5⟩; have S5 := Lib.hid (S4.out.below hb5); have P25 := Lib.hid (P2.out.below hb5); clear hb5 P14) | (refine (hasFrame_b _ p2 f _ P25.out false H2.out).mono ?_; rintro e w6 ⟨rfl, hb6⟩; have S6 := Lib.hid (S5.out.below hb6); clear hb6)))
  go_loopw [9] (fun i wr => ∃ k : Nat, k ≤ m.wc.length ∧ i = .int .i64 k ∧ (m.wc.take k).any (tableB f) = false ∧ Below w6.heap.size w6 wr) (fun i _ => m.wc.length - (intOf i).toNat)
  case atStart => exact ⟨0, Nat.zero_le _, rfl, by simp, Below.refl _ _⟩
  case round =>
    obtain ⟨k, hk, rfl, ha, hb⟩ := hrel
    have HA := Lib.hid ha
    have HB := Lib.hid hb
    have S7 := Lib.hid (S6.out.below hb)
    clear ha hb
    have sT0 := S7.out
    obtain ⟨p0_0, p0_1, p0_2, p0_3⟩ := sT0.c4
    have sT1 := sT0.tail
    clear sT0 sT1
    by_cases hlt : k < m.wc.length
    rotate_left
    · have hlt' : ¬ (k : Int) < (m.wc.length : Int) := by omega
      go_wp2
      go_ret
      exact ⟨ret_bool ((any_all HA.out (by omega)).symm.trans HT.out), S7.out.b⟩
    have hlt' : (k : Int) < (m.wc.length : Int) := by omega
    obtain ⟨a0, e0, ea, q0, u0, u1, u2, u3⟩ := SWc.at (R.out.wc.below S7.out.b) hlt
    cases ea
    have Q0 := Lib.hid q0
    clear q0
    rcases Bool.eq_false_or_eq_true (e0.Table == f) with hc0 | hc0
    · have HU : Hid (tableB f e0 = true) := Lib.hid (decide_eq_true (by simpa using hc0))
      go_wp2
      go_ret
      exact ⟨ret_bool ((any_true Q0.out HU.out).symm.trans HT.out), S7.out.b⟩
    · have HU : Hid (tableB f e0 = false) := Lib.hid (decide_eq_false (by simpa using hc0))
      go_wp2
      go_roundw
      case rel => exact ⟨k + 1, by omega, by go_num, any_take Q0.out HA.out HU.out, HB.out⟩
      case measure => simp [intOf]; omega
end Go.Proofs.Ythphfcheencbgaa.Mmu
