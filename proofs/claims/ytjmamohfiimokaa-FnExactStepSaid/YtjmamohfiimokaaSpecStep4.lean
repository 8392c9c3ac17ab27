/- Walk of the reference's l3InUse. -/
import Derived.Test.YtjmamohfiimokaaSpecStep1
namespace Go.Proofs.Ytjmamohfiimokaa.Mmu
open Go.RowKit Go.Proofs.Ytjmamohfiimokaa.Base Go.Proofs.Ytjmamohfiimokaa.Kinds Go.Proofs.Ytjmamohfiimokaa.DecMath Go.Proofs.Ytjmamohfiimokaa.L1
set_option linter.unusedVariables false
set_option linter.unusedSimpArgs false
set_option maxRecDepth 100000 in
set_option maxHeartbeats 8000000 in
theorem inUse_b (v0 v1 v2 v3 : Value) (m : SM) (f : Int) (w : World) (r : RdM w v0 v1 v2 v3 m) (hv : Valid m) (hw : WfM m) (b : Bool) (h : usedB m f = b) :
    Calls Try.prog 51 #[.agg #[v0, v1, v2, v3], .int .i64 f] w fun e w' => e = .returned (.bool b) ∧ Below w.heap.size w w' := by
  obtain ⟨A0, c0, A1, c1, A2, c2, A3, c3, rfl, rfl, rfl, rfl, hl0, hk0, hl1, hk1, hl2, hk2, hl3, hk3⟩ := r.shape
  have R := Lib.hid r
  have V := Lib.hid hv
  have hnw : m.wc.length ≤ 256 := hv.nwc
  have LW : Hid ((∀ x ∈ latestOf m, 0 ≤ x ∧ x < 18446744073709551616) ∧ okLen (latestOf m)) := Lib.hid ⟨writes_range _ _ hw.1 hw.2, by have := hv.frames; unfold okLen latestOf; rw [writes_len]; exact this⟩
  have WW : Hid ((∀ x ∈ m.ws, 0 ≤ x ∧ x < 18446744073709551616) ∧ okLen m.ws) := Lib.hid ⟨hw.1, hv.frames⟩
  obtain ⟨p1, hp1⟩ : ∃ l, placesP m.ws 2 ⟨0, 1, 0⟩ = l := ⟨_, rfl⟩
  obtain ⟨p2, hp2⟩ : ∃ l, placesP (latestOf m) 2 ⟨0, 1, 0⟩ = l := ⟨_, rfl⟩
  have HS1 : Hid ((placesS m.ws).1 = p1) := Lib.hid (by unfold placesS; rw [if_pos WW.out.2]; exact hp1)
  have HS2 : Hid ((placesS (latestOf m)).1 = p2) := Lib.hid (by unfold placesS; rw [if_pos LW.out.2]; exact hp2)
  obtain ⟨b1, hb1⟩ : ∃ b, p1.any (frameB f) = b := ⟨_, rfl⟩
  obtain ⟨b2, hb2⟩ : ∃ b, p2.any (frameB f) = b := ⟨_, rfl⟩
  have H : Hid ((decide (f = 0) || (b1 || (b2 || m.wc.any (tableB f)))) = b) := Lib.hid (by rw [← h, ← hb1, ← hb2, ← hp1, ← hp2]; rfl)
  have H1 := Lib.hid hb1
  have H2 := Lib.hid hb2
  obtain ⟨ls, hls⟩ : ∃ l, latestOf m = l := ⟨_, rfl⟩
  rw [hls] at HS2 LW
  have HLS := Lib.hid hls
  clear r hv hw h hp1 hp2 hb1 hb2 hls
  go_enter Try.func51, Try.ntmps51
  go_upto_region 1 with fail
  refine ((St.start w).push _ _).gen (fun w1 S1' _ => ?_)
  have S1 := Lib.hid S1'
  clear S1'
  have sT0 := S1.out
  obtain ⟨p0_0, p0_1, p0_2, p0_3⟩ := sT0.c4
  have sT1 := sT0.tail
  clear sT0 sT1
  go_wp2_with fail
  refine (specPlaces_any _ m.ws _ (R.out.ws.below S1.out.b) WW.out.1).mono ?_
  rintro e w2 ⟨vp, rfl, op, hb⟩
  rw [HS1.out] at op
  obtain ⟨Ap, cp, hvp⟩ := op.shape
  subst hvp
  have P1 := Lib.hid (op.rd SPlace.len)
  have S2 := Lib.hid (S1.out.below hb)
  clear op hb S1
  clear p0_0 p0_1 p0_2 p0_3
  go_upto_region 2 with fail
  have sT0 := S2.out
  obtain ⟨p0_0, p0_1, p0_2, p0_3⟩ := sT0.c4
  have sT1 := sT0.tail
  clear sT0 sT1
  go_wp2_with fail
  refine (latest_any _ _ _ _ m _ (R.out.below S2.out.b) V.out).mono ?_
  rw [HLS.out]
  rintro e w3 ⟨v, rfl, o3, hb⟩
  obtain ⟨Av, cv, hvv⟩ := o3.shape
  subst hvv
  have O3 := Lib.hid o3
  have S3 := Lib.hid (S2.out.below hb)
  have P13 := Lib.hid (P1.out.below hb)
  clear o3 hb S2 P1
  clear p0_0 p0_1 p0_2 p0_3
  go_wp2_with fail
  refine (specPlaces_any _ ls _ (O3.out.rd wLen) LW.out.1).mono ?_
  rintro e w4 ⟨vp, rfl, op, hb⟩
  rw [HS2.out] at op
  obtain ⟨Aq, cq, hvp⟩ := op.shape
  subst hvp
  have P2 := Lib.hid (op.rd SPlace.len)
  have S4 := Lib.hid (S3.out.below hb)
  have P14 := Lib.hid (P13.out.below hb)
  clear op hb S3 P13 O3
  rcases Bool.eq_false_or_eq_true (f == 0) with g0 | g0
  · have HT : Hid (b = true) := Lib.hid (by rw [← H.out, decide_eq_true (by simpa using g0)]; rfl)
    go_wp2
    go_ret
    exact ⟨ret_bool HT.out.symm, S4.out.b⟩
  have G0 : Hid (decide (f = 0) = false) := Lib.hid (decide_eq_false (by simpa using g0))
  cases b1
  rotate_left
  · have HT : Hid (b = true) := Lib.hid (by rw [← H.out, G0.out]; rfl)
    go_wp2_with (first | (go_at_call 123; refine (hasFrame_b _ p1 f _ P14.out true H1.out).mono ?_; rintro e w5 ⟨rfl, hb5⟩; have S5 := Lib.hid (S4.out.below hb5); clear hb5))
    go_ret
    exact ⟨ret_bool HT.out.symm, S5.out.b⟩
  go_upto_region 3 with fail
  cases b2
  rotate_left
  · have HT : Hid (b = true) := Lib.hid (by rw [← H.out, G0.out]; rfl)
    go_wp2_with (first | (go_at_call 123; first | (refine (hasFrame_b _ p1 f _ P14.out false H1.out).mono ?_; rintro e w5 ⟨rfl, hb5⟩; have S5 := Lib.hid (S4.out.below hb5); have P25 := Lib.hid (P2.out.below hb5); clear hb5 P14) | (refine (hasFrame_b _ p2 f _ P25.out true H2.out).mono ?_; rintro e w6 ⟨rfl, hb6⟩; have S6 := Lib.hid (S5.out.below hb6); clear hb6)))
    go_ret
    exact ⟨ret_bool HT.out.symm, S6.out.b⟩
  have HT : Hid (m.wc.any (tableB f) = b) := Lib.hid (by rw [← H.out, G0.out]; rfl)
  go_wp2_with (first | (go_at_call 123; first | (refine (hasFrame_b _ p1 f _ P14.out false H1.out).mono ?_; rintro e w5 ⟨rfl, hb5⟩; have S5 := Lib.hid (S4.out.below hb5); have P25 := Lib.hid (P2.out.below hb5); clear hb5 P14) | (refine (hasFrame_b _ p2 f _ P25.out false H2.out).mono ?_; rintro e w6 ⟨rfl, hb6⟩; have S6 := Lib.hid (S5.out.below hb6); clear hb6)))
  go_loopw [9] (fun i wr => ∃ k : Nat, k ≤ m.wc.length ∧ i = .int .i64 k ∧ (m.wc.take k).any (tableB f) = false ∧ Below w6.heap.size w6 wr) (fun i _ => m.wc.length - (intOf i).toNat)
  case atStart => exact ⟨0, Nat.zero_le _, rfl, by simp, Below.refl _ _⟩
  case round =>
    obtain ⟨k, hk, rfl, ha, hb⟩ := hrel
    have HA := Lib.hid ha
    have HB := Lib.hid hb
    have S7 := Lib.hid (S6.out.below hb)
    clear ha hb
    have sT0 := S7.out
    obtain ⟨p0_0, p0_1, p0_2, p0_3⟩ := sT0.c4
    have sT1 := sT0.tail
    clear sT0 sT1
    by_cases hlt : k < m.wc.length
    rotate_left
    · have hlt' : ¬ (k : Int) < (m.wc.length : Int) := by omega
      go_wp2
      go_ret
      exact ⟨ret_bool ((any_all HA.out (by omega)).symm.trans HT.out), S7.out.b⟩
    have hlt' : (k : Int) < (m.wc.length : Int) := by omega
    obtain ⟨a0, e0, ea, q0, u0, u1, u2, u3⟩ := SWc.at (R.out.wc.below S7.out.b) hlt
    cases ea
    have Q0 := Lib.hid q0
    clear q0
    rcases Bool.eq_false_or_eq_true (e0.Table == f) with hc0 | hc0
    · have HU : Hid (tableB f e0 = true) := Lib.hid (decide_eq_true (by simpa using hc0))
      go_wp2
      go_ret
      exact ⟨ret_bool ((any_true Q0.out HU.out).symm.trans HT.out), S7.out.b⟩
    · have HU : Hid (tableB f e0 = false) := Lib.hid (decide_eq_false (by simpa using hc0))
      go_wp2
      go_roundw
      case rel => exact ⟨k + 1, by omega, by go_num, any_take Q0.out HA.out HU.out, HB.out⟩
      case measure => simp [intOf]; omega
end Go.Proofs.Ytjmamohfiimokaa.Mmu
