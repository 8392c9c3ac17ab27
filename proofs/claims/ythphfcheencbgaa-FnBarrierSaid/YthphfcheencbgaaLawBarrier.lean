/- The law FnBarrier. -/
import Derived.Test.YthphfcheencbgaaLawBar0
import Derived.Test.YthphfcheencbgaaSameM
import Derived.Test.YthphfcheencbgaaOpenBytes
namespace Go.Proofs.Ythphfcheencbgaa.Draw
open Go.RowKit Go.Proofs.Ythphfcheencbgaa.Base Go.Proofs.Ythphfcheencbgaa.Kinds Go.Proofs.Ythphfcheencbgaa.DecMath Go.Proofs.Ythphfcheencbgaa.L1 Go.Proofs.Ythphfcheencbgaa.Mmu
set_option linter.unusedVariables false
set_option linter.unusedSimpArgs false

set_option maxRecDepth 100000 in
set_option maxHeartbeats 16000000 in
theorem lawBarrier (v : Value) (c : List Int) (w : World) (r : Rd bEnc 1 w v c) (hb : Bytes c) :
    Calls Try.prog 3 #[v] w fun e w' => e = .returned (.bool true) ∧ Below w.heap.size w w' := by
  obtain ⟨A, cp, rfl, hc1, hc2⟩ := r.shape
  have R := Lib.hid r
  have HB := Lib.hid hb
  clear r hb
  by_cases hL : 1048576 < c.length
  · have hL' : decide ((1048576 : Int) < (c.length : Int)) = true := by simp; omega
    have hL2 : (1048576 : Int) < (c.length : Int) := by omega
    go_enter Try.func3, Try.ntmps3
    go_wp2
    go_ret
    exact ⟨rfl, Below.refl _ _⟩
  have hL' : decide ((1048576 : Int) < (c.length : Int)) = false := by simp; omega
  have hL'' : ¬ (1048576 : Int) < (c.length : Int) := by omega
  have hL2 : c.length ≤ 1048576 := by omega
  clear hL
  have hso := stepD_ok HB.out
  obtain ⟨⟨m, o⟩, hs⟩ : ∃ s, stepD c = s := ⟨_, rfl⟩
  rw [hs] at hso
  obtain ⟨hwf, hok⟩ := hso
  simp only at hwf hok
  have HS := Lib.hid hs
  have HWF := Lib.hid hwf
  obtain ⟨⟨n, want⟩, hn⟩ : ∃ s, stepAll m o = s := ⟨_, rfl⟩
  have h9 : want = 9 → n = ⟨[], [], [], []⟩ := fun h => by have := step_nine (m := m) (o := o) (by rw [hn]; exact h); rw [hn] at this; exact this
  have hrf : want ≠ 9 → want ≠ 0 → n = m := fun a b => by have := step_refused (m := m) (o := o) (by rw [hn]; exact a) (by rw [hn]; exact b); rw [hn] at this; exact this
  have haf : want = 0 → AfterB o (dsbS n) ∧ Valid n ∧ WfM n ∧ Valid (dsbS n) ∧ WfM (dsbS n) := fun h => by
    have h0 : (stepAll m o).2 = 0 := by rw [hn]; exact h
    have a := afterB hwf hok h0
    have k := stepAll_keep (step_valid h0) hwf hok
    rw [hn] at a k
    exact ⟨a, k.1, k.2, (dsb_valid k.1 k.2).1, (dsb_valid k.1 k.2).2⟩
  obtain ⟨kd, oa, ob, wd⟩ := o
  have HN := Lib.hid hn
  have HOK := Lib.hid hok
  have H9 := Lib.hid h9
  have HRF := Lib.hid hrf
  have HAF := Lib.hid haf
  clear hs hwf hok hn h9 hrf haf
  go_enter Try.func3, Try.ntmps3
  have S0 := Lib.hid (St.start w)
  go_upto_region 3 with fail
  go_upto_region 4 with (go_at_call 4; refine (drawStep_any _ c _ (R.out.below S0.out.b) HB.out hL2).mono ?_; rw [HS.out]; rintro e w1 ⟨u0, u1, u2, u3, rfl, o1, hb⟩; obtain ⟨A0, a0, A1, a1, A2, a2, A3, a3, rfl, rfl, rfl, rfl⟩ := o1.shape; have Sw1 := Lib.hid (S0.out.below hb); have MAw1 := Lib.hid o1.rd; clear o1 hb)
  clear S0
  refine world_gen (fun w' => St w [(w1.heap.size + 1, #[.int .i64 kd, .int .i64 oa, .int .i64 ob, .int .u64 wd], 33), (w1.heap.size, #[.slice A0 m.ws.length a0, .slice A1 m.pend.length a1, .slice A2 m.tlb.length a2, .slice A3 m.wc.length a3], 30)] w' ∧ RdM w' (.slice A0 m.ws.length a0) (.slice A1 m.pend.length a1) (.slice A2 m.tlb.length a2) (.slice A3 m.wc.length a3) m) ⟨Sw1.out.push2 _ _ _ _, MAw1.out.below (allocB (allocB (Below.refl _ _) _) _)⟩ (fun w2 h => ?_)
  obtain ⟨bq3, hbl⟩ : ∃ b, w1.heap.size = b := ⟨_, rfl⟩
  rw [hbl] at h ⊢
  have Sw2 := Lib.hid h.1
  have MAw2 := Lib.hid h.2
  clear h hbl Sw1 MAw1
  go_upto_region 5 with (go_at_call 4; refine (drawStep_any _ c _ (R.out.below Sw2.out.b) HB.out hL2).mono ?_; rw [HS.out]; rintro e w3 ⟨u0, u1, u2, u3, rfl, o1, hb⟩; obtain ⟨B0, b0, B1, b1, B2, b2, B3, b3, rfl, rfl, rfl, rfl⟩ := o1.shape; have Sw3 := Lib.hid (Sw2.out.below hb); have MAw3 := Lib.hid (MAw2.out.below hb); have MBw3 := Lib.hid o1.rd; clear o1 hb)
  clear Sw2 MAw2
  refine world_gen (fun w' => St w [(w3.heap.size + 1, #[.int .i64 kd, .int .i64 oa, .int .i64 ob, .int .u64 wd], 33), (w3.heap.size, #[.slice B0 m.ws.length b0, .slice B1 m.pend.length b1, .slice B2 m.tlb.length b2, .slice B3 m.wc.length b3], 30), (bq3 + 1, #[.int .i64 kd, .int .i64 oa, .int .i64 ob, .int .u64 wd], 33), (bq3, #[.slice A0 m.ws.length a0, .slice A1 m.pend.length a1, .slice A2 m.tlb.length a2, .slice A3 m.wc.length a3], 30)] w' ∧ RdM w' (.slice A0 m.ws.length a0) (.slice A1 m.pend.length a1) (.slice A2 m.tlb.length a2) (.slice A3 m.wc.length a3) m ∧ RdM w' (.slice B0 m.ws.length b0) (.slice B1 m.pend.length b1) (.slice B2 m.tlb.length b2) (.slice B3 m.wc.length b3) m) ⟨Sw3.out.push2 _ _ _ _, MAw3.out.below (allocB (allocB (Below.refl _ _) _) _), MBw3.out.below (allocB (allocB (Below.refl _ _) _) _)⟩ (fun w4 h => ?_)
  obtain ⟨bq5, hbl⟩ : ∃ b, w3.heap.size = b := ⟨_, rfl⟩
  rw [hbl] at h ⊢
  have Sw4 := Lib.hid h.1
  have MAw4 := Lib.hid h.2.1
  have MBw4 := Lib.hid h.2.2
  clear h hbl Sw3 MAw3 MBw3
  have sT0 := Sw4.out
  have sT1 := sT0.tail
  obtain ⟨z1_0, z1_1, z1_2, z1_3⟩ := sT1.c4
  have sT2 := sT1.tail
  obtain ⟨z2_0, z2_1, z2_2, z2_3⟩ := sT2.c4
  have sT3 := sT2.tail
  clear sT0 sT1 sT2 sT3
  go_upto_region 6 with (go_at_call 5; refine (specStep_any _ _ _ _ m ⟨kd, oa, ob, wd⟩ _ MBw4.out HWF.out HOK.out).mono ?_; rw [HN.out]; rintro e w5 ⟨u0, u1, u2, u3, rfl, o1, hb⟩; obtain ⟨C0, c0, C1, c1, C2, c2, C3, c3, rfl, rfl, rfl, rfl⟩ := o1.shape; have Sw5 := Lib.hid (Sw4.out.below hb); have MAw5 := Lib.hid (MAw4.out.below hb); have MBw5 := Lib.hid (MBw4.out.below hb); have MCw5 := Lib.hid o1.rd; clear o1 hb)
  clear z1_0 z1_1 z1_2 z1_3 z2_0 z2_1 z2_2 z2_3
  clear Sw4 MAw4 MBw4
  refine world_gen (fun w' => St w [(w5.heap.size, #[.slice C0 n.ws.length c0, .slice C1 n.pend.length c1, .slice C2 n.tlb.length c2, .slice C3 n.wc.length c3], 30), (bq5 + 1, #[.int .i64 kd, .int .i64 oa, .int .i64 ob, .int .u64 wd], 33), (bq5, #[.slice B0 m.ws.length b0, .slice B1 m.pend.length b1, .slice B2 m.tlb.length b2, .slice B3 m.wc.length b3], 30), (bq3 + 1, #[.int .i64 kd, .int .i64 oa, .int .i64 ob, .int .u64 wd], 33), (bq3, #[.slice A0 m.ws.length a0, .slice A1 m.pend.length a1, .slice A2 m.tlb.length a2, .slice A3 m.wc.length a3], 30)] w' ∧ RdM w' (.slice A0 m.ws.length a0) (.slice A1 m.pend.length a1) (.slice A2 m.tlb.length a2) (.slice A3 m.wc.length a3) m ∧ RdM w' (.slice B0 m.ws.length b0) (.slice B1 m.pend.length b1) (.slice B2 m.tlb.length b2) (.slice B3 m.wc.length b3) m ∧ RdM w' (.slice C0 n.ws.length c0) (.slice C1 n.pend.length c1) (.slice C2 n.tlb.length c2) (.slice C3 n.wc.length c3) n) ⟨Sw5.out.push _ _, MAw5.out.below (allocB (Below.refl _ _) _), MBw5.out.below (allocB (Below.refl _ _) _), MCw5.out.below (allocB (Below.refl _ _) _)⟩ (fun w6 h => ?_)
  obtain ⟨bq7, hbl⟩ : ∃ b, w5.heap.size = b := ⟨_, rfl⟩
  rw [hbl] at h ⊢
  have Sw6 := Lib.hid h.1
  have MAw6 := Lib.hid h.2.1
  have MBw6 := Lib.hid h.2.2.1
  have MCw6 := Lib.hid h.2.2.2
  clear h hbl Sw5 MAw5 MBw5 MCw5
  have sT0 := Sw6.out
  have sT1 := sT0.tail
  have sT2 := sT1.tail
  have sT3 := sT2.tail
  obtain ⟨z3_0, z3_1, z3_2, z3_3⟩ := sT3.c4
  have sT4 := sT3.tail
  obtain ⟨z4_0, z4_1, z4_2, z4_3⟩ := sT4.c4
  have sT5 := sT4.tail
  clear sT0 sT1 sT2 sT3 sT4 sT5
  go_upto_region 7 with (go_at_call 6; refine (implStep_any _ _ _ _ m ⟨kd, oa, ob, wd⟩ _ MAw6.out HWF.out HOK.out).mono ?_; rw [HN.out]; rintro e w7 ⟨u0, u1, u2, u3, rfl, o1, hb⟩; obtain ⟨D0, d0, D1, d1, D2, d2, D3, d3, rfl, rfl, rfl, rfl⟩ := o1.shape; have Sw7 := Lib.hid (Sw6.out.below hb); have MAw7 := Lib.hid (MAw6.out.below hb); have MBw7 := Lib.hid (MBw6.out.below hb); have MCw7 := Lib.hid (MCw6.out.below hb); have MDw7 := Lib.hid o1.rd; clear o1 hb)
  clear z3_0 z3_1 z3_2 z3_3 z4_0 z4_1 z4_2 z4_3
  clear Sw6 MAw6 MBw6 MCw6
  refine world_gen (fun w' => St w [(w7.heap.size, #[.slice D0 n.ws.length d0, .slice D1 n.pend.length d1, .slice D2 n.tlb.length d2, .slice D3 n.wc.length d3], 30), (bq7, #[.slice C0 n.ws.length c0, .slice C1 n.pend.length c1, .slice C2 n.tlb.length c2, .slice C3 n.wc.length c3], 30), (bq5 + 1, #[.int .i64 kd, .int .i64 oa, .int .i64 ob, .int .u64 wd], 33), (bq5, #[.slice B0 m.ws.length b0, .slice B1 m.pend.length b1, .slice B2 m.tlb.length b2, .slice B3 m.wc.length b3], 30), (bq3 + 1, #[.int .i64 kd, .int .i64 oa, .int .i64 ob, .int .u64 wd], 33), (bq3, #[.slice A0 m.ws.length a0, .slice A1 m.pend.length a1, .slice A2 m.tlb.length a2, .slice A3 m.wc.length a3], 30)] w' ∧ RdM w' (.slice A0 m.ws.length a0) (.slice A1 m.pend.length a1) (.slice A2 m.tlb.length a2) (.slice A3 m.wc.length a3) m ∧ RdM w' (.slice B0 m.ws.length b0) (.slice B1 m.pend.length b1) (.slice B2 m.tlb.length b2) (.slice B3 m.wc.length b3) m ∧ RdM w' (.slice C0 n.ws.length c0) (.slice C1 n.pend.length c1) (.slice C2 n.tlb.length c2) (.slice C3 n.wc.length c3) n ∧ RdM w' (.slice D0 n.ws.length d0) (.slice D1 n.pend.length d1) (.slice D2 n.tlb.length d2) (.slice D3 n.wc.length d3) n) ⟨Sw7.out.push _ _, MAw7.out.below (allocB (Below.refl _ _) _), MBw7.out.below (allocB (Below.refl _ _) _), MCw7.out.below (allocB (Below.refl _ _) _), MDw7.out.below (allocB (Below.refl _ _) _)⟩ (fun w8 h => ?_)
  obtain ⟨bq9, hbl⟩ : ∃ b, w7.heap.size = b := ⟨_, rfl⟩
  rw [hbl] at h ⊢
  have Sw8 := Lib.hid h.1
  have MAw8 := Lib.hid h.2.1
  have MBw8 := Lib.hid h.2.2.1
  have MCw8 := Lib.hid h.2.2.2.1
  have MDw8 := Lib.hid h.2.2.2.2
  clear h hbl Sw7 MAw7 MBw7 MCw7 MDw7
  by_cases e9 : want = 9
  · have HE := H9.out e9
    subst e9
    subst HE
    have sT0 := Sw8.out
    obtain ⟨z0_0, z0_1, z0_2, z0_3⟩ := sT0.c4
    have sT1 := sT0.tail
    clear sT0 sT1
    go_wp2
    go_ret
    exact ⟨rfl, Sw8.out.b⟩
  have e9' : (want == 9) = false := by simpa using e9
  by_cases e0 : want = 0
  rotate_left
  · have e0' : (want != 0) = true := by simpa using e0
    have HE := HRF.out e9 e0
    subst HE
    have E9 := Lib.hid e9
    have E0 := Lib.hid e0
    clear e9 e0
    have sT0 := Sw8.out
    obtain ⟨z0_0, z0_1, z0_2, z0_3⟩ := sT0.c4
    have sT1 := sT0.tail
    have sT2 := sT1.tail
    have sT3 := sT2.tail
    obtain ⟨z3_0, z3_1, z3_2, z3_3⟩ := sT3.c4
    have sT4 := sT3.tail
    clear sT0 sT1 sT2 sT3 sT4
    go_wp2_with (go_at_call 7; refine (sameM_any _ _ _ _ _ _ _ _ _ _ MDw8.out MBw8.out).mono ?_; rintro e w9 ⟨rfl, hb⟩; have HB9 := Lib.hid hb; clear hb)
    go_ret
    exact ⟨rfl, thenB Sw8.out.b HB9.out⟩
  subst e0
  obtain ⟨haf, hvn, hwn, hvd, hwd⟩ := HAF.out rfl
  have HA := Lib.hid haf
  have HWN := Lib.hid hwn
  have HWD := Lib.hid hwd
  have hdn : stepAll n ⟨2, 0, 0, 0⟩ = (dsbS n, 0) := dsb_step hvn
  have hdd : stepAll (dsbS n) ⟨2, 0, 0, 0⟩ = (dsbS n, 0) := by rw [dsb_step hvd, dsb_twice]
  have okD : (⟨2, 0, 0, 0⟩ : SOp).ok := ⟨by simp, by simp⟩
  have HOD := Lib.hid okD
  obtain ⟨d, hd⟩ : ∃ d, dsbS n = d := ⟨_, rfl⟩
  have hnt : (dsbS n).tlb.length ≤ 256 := hvd.ntlb
  have hnc : (dsbS n).wc.length ≤ 256 := hvd.nwc
  rw [hd] at hdn hdd HA HWD hnt hnc
  have HDN := Lib.hid hdn
  have HDD := Lib.hid hdd
  clear haf hvn hwn hvd hwd hdn hdd okD hd e9 HN H9 HRF HAF
  go_upto_region 14 with fail
  refine world_gen (fun w' => St w [(w8.heap.size, #[.int .i64 2, .int .i64 0, .int .i64 0, .int .u64 0], 33), (bq9, #[.slice D0 n.ws.length d0, .slice D1 n.pend.length d1, .slice D2 n.tlb.length d2, .slice D3 n.wc.length d3], 30), (bq7, #[.slice C0 n.ws.length c0, .slice C1 n.pend.length c1, .slice C2 n.tlb.length c2, .slice C3 n.wc.length c3], 30), (bq5 + 1, #[.int .i64 kd, .int .i64 oa, .int .i64 ob, .int .u64 wd], 33), (bq5, #[.slice B0 m.ws.length b0, .slice B1 m.pend.length b1, .slice B2 m.tlb.length b2, .slice B3 m.wc.length b3], 30), (bq3 + 1, #[.int .i64 kd, .int .i64 oa, .int .i64 ob, .int .u64 wd], 33), (bq3, #[.slice A0 m.ws.length a0, .slice A1 m.pend.length a1, .slice A2 m.tlb.length a2, .slice A3 m.wc.length a3], 30)] w' ∧ RdM w' (.slice A0 m.ws.length a0) (.slice A1 m.pend.length a1) (.slice A2 m.tlb.length a2) (.slice A3 m.wc.length a3) m ∧ RdM w' (.slice B0 m.ws.length b0) (.slice B1 m.pend.length b1) (.slice B2 m.tlb.length b2) (.slice B3 m.wc.length b3) m ∧ RdM w' (.slice C0 n.ws.length c0) (.slice C1 n.pend.length c1) (.slice C2 n.tlb.length c2) (.slice C3 n.wc.length c3) n ∧ RdM w' (.slice D0 n.ws.length d0) (.slice D1 n.pend.length d1) (.slice D2 n.tlb.length d2) (.slice D3 n.wc.length d3) n) ⟨Sw8.out.push _ _, MAw8.out.below (allocB (Below.refl _ _) _), MBw8.out.below (allocB (Below.refl _ _) _), MCw8.out.below (allocB (Below.refl _ _) _), MDw8.out.below (allocB (Below.refl _ _) _)⟩ (fun w10 h => ?_)
  obtain ⟨bq11, hbl⟩ : ∃ b, w8.heap.size = b := ⟨_, rfl⟩
  rw [hbl] at h ⊢
  have Sw10 := Lib.hid h.1
  have MAw10 := Lib.hid h.2.1
  have MBw10 := Lib.hid h.2.2.1
  have MCw10 := Lib.hid h.2.2.2.1
  have MDw10 := Lib.hid h.2.2.2.2
  clear h hbl Sw8 MAw8 MBw8 MCw8 MDw8
  have sT0 := Sw10.out
  obtain ⟨z0_0, z0_1, z0_2, z0_3⟩ := sT0.c4
  have sT1 := sT0.tail
  have sT2 := sT1.tail
  obtain ⟨z2_0, z2_1, z2_2, z2_3⟩ := sT2.c4
  have sT3 := sT2.tail
  clear sT0 sT1 sT2 sT3
  go_upto_region 15 with (go_at_call 5; refine (specStep_any _ _ _ _ n ⟨2, 0, 0, 0⟩ _ MCw10.out HWN.out HOD.out).mono ?_; rw [HDN.out]; rintro e w11 ⟨u0, u1, u2, u3, rfl, o1, hb⟩; obtain ⟨E0, e0, E1, e1, E2, e2, E3, e3, rfl, rfl, rfl, rfl⟩ := o1.shape; have Sw11 := Lib.hid (Sw10.out.below hb); have MAw11 := Lib.hid (MAw10.out.below hb); have MBw11 := Lib.hid (MBw10.out.below hb); have MCw11 := Lib.hid (MCw10.out.below hb); have MDw11 := Lib.hid (MDw10.out.below hb); have MEw11 := Lib.hid o1.rd; clear o1 hb)
  clear z0_0 z0_1 z0_2 z0_3 z2_0 z2_1 z2_2 z2_3
  clear Sw10 MAw10 MBw10 MCw10 MDw10
  refine world_gen (fun w' => St w [(w11.heap.size, #[.slice E0 d.ws.length e0, .slice E1 d.pend.length e1, .slice E2 d.tlb.length e2, .slice E3 d.wc.length e3], 30), (bq11, #[.int .i64 2, .int .i64 0, .int .i64 0, .int .u64 0], 33), (bq9, #[.slice D0 n.ws.length d0, .slice D1 n.pend.length d1, .slice D2 n.tlb.length d2, .slice D3 n.wc.length d3], 30), (bq7, #[.slice C0 n.ws.length c0, .slice C1 n.pend.length c1, .slice C2 n.tlb.length c2, .slice C3 n.wc.length c3], 30), (bq5 + 1, #[.int .i64 kd, .int .i64 oa, .int .i64 ob, .int .u64 wd], 33), (bq5, #[.slice B0 m.ws.length b0, .slice B1 m.pend.length b1, .slice B2 m.tlb.length b2, .slice B3 m.wc.length b3], 30), (bq3 + 1, #[.int .i64 kd, .int .i64 oa, .int .i64 ob, .int .u64 wd], 33), (bq3, #[.slice A0 m.ws.length a0, .slice A1 m.pend.length a1, .slice A2 m.tlb.length a2, .slice A3 m.wc.length a3], 30)] w' ∧ RdM w' (.slice A0 m.ws.length a0) (.slice A1 m.pend.length a1) (.slice A2 m.tlb.length a2) (.slice A3 m.wc.length a3) m ∧ RdM w' (.slice B0 m.ws.length b0) (.slice B1 m.pend.length b1) (.slice B2 m.tlb.length b2) (.slice B3 m.wc.length b3) m ∧ RdM w' (.slice C0 n.ws.length c0) (.slice C1 n.pend.length c1) (.slice C2 n.tlb.length c2) (.slice C3 n.wc.length c3) n ∧ RdM w' (.slice D0 n.ws.length d0) (.slice D1 n.pend.length d1) (.slice D2 n.tlb.length d2) (.slice D3 n.wc.length d3) n ∧ RdM w' (.slice E0 d.ws.length e0) (.slice E1 d.pend.length e1) (.slice E2 d.tlb.length e2) (.slice E3 d.wc.length e3) d) ⟨Sw11.out.push _ _, MAw11.out.below (allocB (Below.refl _ _) _), MBw11.out.below (allocB (Below.refl _ _) _), MCw11.out.below (allocB (Below.refl _ _) _), MDw11.out.below (allocB (Below.refl _ _) _), MEw11.out.below (allocB (Below.refl _ _) _)⟩ (fun w12 h => ?_)
  obtain ⟨bq12, hbl⟩ : ∃ b, w11.heap.size = b := ⟨_, rfl⟩
  rw [hbl] at h ⊢
  have Sw12 := Lib.hid h.1
  have MAw12 := Lib.hid h.2.1
  have MBw12 := Lib.hid h.2.2.1
  have MCw12 := Lib.hid h.2.2.2.1
  have MDw12 := Lib.hid h.2.2.2.2.1
  have MEw12 := Lib.hid h.2.2.2.2.2
  clear h hbl Sw11 MAw11 MBw11 MCw11 MDw11 MEw11
  have sT0 := Sw12.out
  have sT1 := sT0.tail
  obtain ⟨z1_0, z1_1, z1_2, z1_3⟩ := sT1.c4
  have sT2 := sT1.tail
  obtain ⟨z2_0, z2_1, z2_2, z2_3⟩ := sT2.c4
  have sT3 := sT2.tail
  clear sT0 sT1 sT2 sT3
  go_upto_region 16 with (go_at_call 6; refine (implStep_any _ _ _ _ n ⟨2, 0, 0, 0⟩ _ MDw12.out HWN.out HOD.out).mono ?_; rw [HDN.out]; rintro e w13 ⟨u0, u1, u2, u3, rfl, o1, hb⟩; obtain ⟨F0, f0, F1, f1, F2, f2, F3, f3, rfl, rfl, rfl, rfl⟩ := o1.shape; have Sw13 := Lib.hid (Sw12.out.below hb); have MAw13 := Lib.hid (MAw12.out.below hb); have MBw13 := Lib.hid (MBw12.out.below hb); have MCw13 := Lib.hid (MCw12.out.below hb); have MDw13 := Lib.hid (MDw12.out.below hb); have MEw13 := Lib.hid (MEw12.out.below hb); have MFw13 := Lib.hid o1.rd; clear o1 hb)
  clear z1_0 z1_1 z1_2 z1_3 z2_0 z2_1 z2_2 z2_3
  clear Sw12 MAw12 MBw12 MCw12 MDw12 MEw12
  refine world_gen (fun w' => St w [(w13.heap.size, #[.slice F0 d.ws.length f0, .slice F1 d.pend.length f1, .slice F2 d.tlb.length f2, .slice F3 d.wc.length f3], 30), (bq12, #[.slice E0 d.ws.length e0, .slice E1 d.pend.length e1, .slice E2 d.tlb.length e2, .slice E3 d.wc.length e3], 30), (bq11, #[.int .i64 2, .int .i64 0, .int .i64 0, .int .u64 0], 33), (bq9, #[.slice D0 n.ws.length d0, .slice D1 n.pend.length d1, .slice D2 n.tlb.length d2, .slice D3 n.wc.length d3], 30), (bq7, #[.slice C0 n.ws.length c0, .slice C1 n.pend.length c1, .slice C2 n.tlb.length c2, .slice C3 n.wc.length c3], 30), (bq5 + 1, #[.int .i64 kd, .int .i64 oa, .int .i64 ob, .int .u64 wd], 33), (bq5, #[.slice B0 m.ws.length b0, .slice B1 m.pend.length b1, .slice B2 m.tlb.length b2, .slice B3 m.wc.length b3], 30), (bq3 + 1, #[.int .i64 kd, .int .i64 oa, .int .i64 ob, .int .u64 wd], 33), (bq3, #[.slice A0 m.ws.length a0, .slice A1 m.pend.length a1, .slice A2 m.tlb.length a2, .slice A3 m.wc.length a3], 30)] w' ∧ RdM w' (.slice A0 m.ws.length a0) (.slice A1 m.pend.length a1) (.slice A2 m.tlb.length a2) (.slice A3 m.wc.length a3) m ∧ RdM w' (.slice B0 m.ws.length b0) (.slice B1 m.pend.length b1) (.slice B2 m.tlb.length b2) (.slice B3 m.wc.length b3) m ∧ RdM w' (.slice C0 n.ws.length c0) (.slice C1 n.pend.length c1) (.slice C2 n.tlb.length c2) (.slice C3 n.wc.length c3) n ∧ RdM w' (.slice D0 n.ws.length d0) (.slice D1 n.pend.length d1) (.slice D2 n.tlb.length d2) (.slice D3 n.wc.length d3) n ∧ RdM w' (.slice E0 d.ws.length e0) (.slice E1 d.pend.length e1) (.slice E2 d.tlb.length e2) (.slice E3 d.wc.length e3) d ∧ RdM w' (.slice F0 d.ws.length f0) (.slice F1 d.pend.length f1) (.slice F2 d.tlb.length f2) (.slice F3 d.wc.length f3) d) ⟨Sw13.out.push _ _, MAw13.out.below (allocB (Below.refl _ _) _), MBw13.out.below (allocB (Below.refl _ _) _), MCw13.out.below (allocB (Below.refl _ _) _), MDw13.out.below (allocB (Below.refl _ _) _), MEw13.out.below (allocB (Below.refl _ _) _), MFw13.out.below (allocB (Below.refl _ _) _)⟩ (fun w14 h => ?_)
  obtain ⟨bq14, hbl⟩ : ∃ b, w13.heap.size = b := ⟨_, rfl⟩
  rw [hbl] at h ⊢
  have Sw14 := Lib.hid h.1
  have MAw14 := Lib.hid h.2.1
  have MBw14 := Lib.hid h.2.2.1
  have MCw14 := Lib.hid h.2.2.2.1
  have MDw14 := Lib.hid h.2.2.2.2.1
  have MEw14 := Lib.hid h.2.2.2.2.2.1
  have MFw14 := Lib.hid h.2.2.2.2.2.2
  clear h hbl Sw13 MAw13 MBw13 MCw13 MDw13 MEw13 MFw13
  have hpz : d.pend = [] := HA.out.pend
  have hpl : d.pend.length = 0 := by rw [hpz]; rfl
  have HPL := Lib.hid hpl
  have hpd : ((d.pend.length : Int) != 0) = false := by rw [hpl]; rfl
  have hpd2 : (d.pend.length != 0) = false := by rw [hpl]; rfl
  have hpd3 : d.pend.length = 0 := hpl
  have HPZ := Lib.hid hpz
  clear hpz hpl hpd3
  have sT0 := Sw14.out
  obtain ⟨z0_0, z0_1, z0_2, z0_3⟩ := sT0.c4
  have sT1 := sT0.tail
  obtain ⟨z1_0, z1_1, z1_2, z1_3⟩ := sT1.c4
  have sT2 := sT1.tail
  clear sT0 sT1 sT2
  go_upto_region 18 with (go_at_call 7; refine (sameM_any _ _ _ _ _ _ _ _ _ _ MFw14.out MEw14.out).mono ?_; rintro e w15 ⟨rfl, hb⟩; have Sw15 := Lib.hid (Sw14.out.below hb); have MEw15 := Lib.hid (MEw14.out.below hb); have MFw15 := Lib.hid (MFw14.out.below hb); clear hb; have sT0 := Sw15.out; obtain ⟨y0_0, y0_1, y0_2, y0_3⟩ := sT0.c4; have sT1 := sT0.tail; obtain ⟨y1_0, y1_1, y1_2, y1_3⟩ := sT1.c4; have sT2 := sT1.tail; clear sT0 sT1 sT2)
  clear z0_0 z0_1 z0_2 z0_3 z1_0 z1_1 z1_2 z1_3
  clear Sw14 MAw14 MBw14 MCw14 MDw14 MEw14 MFw14
  go_wp2
  go_loopw [16] (fun vj wr => ∃ j : Nat, j ≤ d.tlb.length ∧ vj = .int .i64 (j : Int) ∧ Hid (St w [(bq14, #[.slice F0 d.ws.length f0, .slice F1 d.pend.length f1, .slice F2 d.tlb.length f2, .slice F3 d.wc.length f3], 30), (bq12, #[.slice E0 d.ws.length e0, .slice E1 d.pend.length e1, .slice E2 d.tlb.length e2, .slice E3 d.wc.length e3], 30), (bq11, #[.int .i64 2, .int .i64 0, .int .i64 0, .int .u64 0], 33), (bq9, #[.slice D0 n.ws.length d0, .slice D1 n.pend.length d1, .slice D2 n.tlb.length d2, .slice D3 n.wc.length d3], 30), (bq7, #[.slice C0 n.ws.length c0, .slice C1 n.pend.length c1, .slice C2 n.tlb.length c2, .slice C3 n.wc.length c3], 30), (bq5 + 1, #[.int .i64 kd, .int .i64 oa, .int .i64 ob, .int .u64 wd], 33), (bq5, #[.slice B0 m.ws.length b0, .slice B1 m.pend.length b1, .slice B2 m.tlb.length b2, .slice B3 m.wc.length b3], 30), (bq3 + 1, #[.int .i64 kd, .int .i64 oa, .int .i64 ob, .int .u64 wd], 33), (bq3, #[.slice A0 m.ws.length a0, .slice A1 m.pend.length a1, .slice A2 m.tlb.length a2, .slice A3 m.wc.length a3], 30)] wr) ∧ Hid (RdM wr (.slice E0 d.ws.length e0) (.slice E1 d.pend.length e1) (.slice E2 d.tlb.length e2) (.slice E3 d.wc.length e3) d) ∧ Hid (RdM wr (.slice F0 d.ws.length f0) (.slice F1 d.pend.length f1) (.slice F2 d.tlb.length f2) (.slice F3 d.wc.length f3) d)) (fun j _ => d.tlb.length - (intOf j).toNat)
  case atStart => exact ⟨0, Nat.zero_le _, rfl, Sw15, MEw15, MFw15⟩
  case round =>
    obtain ⟨j, hj, rfl, HSr, HEr, HFr⟩ := hrel
    by_cases hlt : j < d.tlb.length
    · have hlt' : (j : Int) < (d.tlb.length : Int) := by omega
      obtain ⟨ad, x, eA, hx, q0, q1, q2, q3, q4⟩ := STlb.at HFr.out.tlb hlt
      cases eA
      obtain ⟨hdo, ⟨hp0, hp1, hs0, hs1⟩, hno⟩ := HA.out.tlb x (List.mem_of_getElem? hx)
      rw [hdo] at q4
      have HNO := Lib.hid hno
      clear hx hdo hno
      have sT0 := HSr.out
      obtain ⟨z0_0, z0_1, z0_2, z0_3⟩ := sT0.c4
      have sT1 := sT0.tail
      clear sT0 sT1
      go_upto_region 22 with fail
      clear z0_0 z0_1 z0_2 z0_3
      refine (HSr.out.push _ _).gen (fun w16 S16' hb16 => ?_)
      have S16 := Lib.hid S16'
      have HE16 := Lib.hid ((HEr.out.below (allocB (Below.refl _ _) _)).below hb16)
      have HF16 := Lib.hid ((HFr.out.below (allocB (Below.refl _ _) _)).below hb16)
      obtain ⟨eb, heb⟩ : ∃ b, wr.heap.size = b := ⟨_, rfl⟩
      rw [heb] at S16 ⊢
      clear S16' hb16 heb q0 q1 q2 q3 q4 HSr HEr HFr
      have sT0 := S16.out
      obtain ⟨z0_0, z0_1, z0_2, z0_3, z0_4⟩ := sT0.c5
      have sT1 := sT0.tail
      have sT2 := sT1.tail
      have sT3 := sT2.tail
      have sT4 := sT3.tail
      have sT5 := sT4.tail
      have sT6 := sT5.tail
      have sT7 := sT6.tail
      have sT8 := sT7.tail
      obtain ⟨z8_0, z8_1, z8_2, z8_3⟩ := sT8.c4
      have sT9 := sT8.tail
      clear sT0 sT1 sT2 sT3 sT4 sT5 sT6 sT7 sT8 sT9
      obtain ⟨kb, hkb⟩ : ∃ b, (kd == 3) = b := ⟨_, rfl⟩
      cases kb
      · go_wp2
        go_roundw
        case rel => exact ⟨j + 1, by omega, by first | rfl | go_num, Lib.hid S16.out.tail, HE16, HF16⟩
        case measure => simp [intOf]; omega
      · have hk3 : kd = 3 := by simpa using hkb
        have hsm := HA.out.small hk3
        simp only at hsm
        have hn := HNO.out hk3
        simp only at hn
        clear hk3
        have ew1 : IntKind.i64.wrap (oa + ob) = oa + ob := by rw [IntKind.wrap_i64]; omega
        have ew2 : IntKind.i64.wrap (x.Page + x.Size) = x.Page + x.Size := by rw [IntKind.wrap_i64]; omega
        by_cases p1 : x.Page < oa + ob
        · have p1' : decide (x.Page < oa + ob) = true := decide_eq_true p1
          have p2 : ¬ oa < x.Page + x.Size := fun h => hn ⟨p1, h⟩
          have p2' : decide (oa < x.Page + x.Size) = false := decide_eq_false p2
          go_wp2
          go_roundw
          case rel => exact ⟨j + 1, by omega, by first | rfl | go_num, Lib.hid S16.out.tail, HE16, HF16⟩
          case measure => simp [intOf]; omega
        · have p1' : decide (x.Page < oa + ob) = false := decide_eq_false p1
          go_wp2
          go_roundw
          case rel => exact ⟨j + 1, by omega, by first | rfl | go_num, Lib.hid S16.out.tail, HE16, HF16⟩
          case measure => simp [intOf]; omega
    obtain rfl : j = d.tlb.length := by omega
    have sT0 := HSr.out
    obtain ⟨z0_0, z0_1, z0_2, z0_3⟩ := sT0.c4
    have sT1 := sT0.tail
    clear sT0 sT1
    go_wp2
    clear z0_0 z0_1 z0_2 z0_3
    go_loopw [18] (fun vj wr => ∃ j : Nat, j ≤ d.wc.length ∧ vj = .int .i64 (j : Int) ∧ Hid (St w [(bq14, #[.slice F0 d.ws.length f0, .slice F1 d.pend.length f1, .slice F2 d.tlb.length f2, .slice F3 d.wc.length f3], 30), (bq12, #[.slice E0 d.ws.length e0, .slice E1 d.pend.length e1, .slice E2 d.tlb.length e2, .slice E3 d.wc.length e3], 30), (bq11, #[.int .i64 2, .int .i64 0, .int .i64 0, .int .u64 0], 33), (bq9, #[.slice D0 n.ws.length d0, .slice D1 n.pend.length d1, .slice D2 n.tlb.length d2, .slice D3 n.wc.length d3], 30), (bq7, #[.slice C0 n.ws.length c0, .slice C1 n.pend.length c1, .slice C2 n.tlb.length c2, .slice C3 n.wc.length c3], 30), (bq5 + 1, #[.int .i64 kd, .int .i64 oa, .int .i64 ob, .int .u64 wd], 33), (bq5, #[.slice B0 m.ws.length b0, .slice B1 m.pend.length b1, .slice B2 m.tlb.length b2, .slice B3 m.wc.length b3], 30), (bq3 + 1, #[.int .i64 kd, .int .i64 oa, .int .i64 ob, .int .u64 wd], 33), (bq3, #[.slice A0 m.ws.length a0, .slice A1 m.pend.length a1, .slice A2 m.tlb.length a2, .slice A3 m.wc.length a3], 30)] wr) ∧ Hid (RdM wr (.slice E0 d.ws.length e0) (.slice E1 d.pend.length e1) (.slice E2 d.tlb.length e2) (.slice E3 d.wc.length e3) d) ∧ Hid (RdM wr (.slice F0 d.ws.length f0) (.slice F1 d.pend.length f1) (.slice F2 d.tlb.length f2) (.slice F3 d.wc.length f3) d)) (fun j _ => d.wc.length - (intOf j).toNat)
    case atStart => exact ⟨0, Nat.zero_le _, rfl, HSr, HEr, HFr⟩
    case round =>
      obtain ⟨j, hj, rfl, HSr, HEr, HFr⟩ := hrel
      by_cases hlt : j < d.wc.length
      · have hlt' : (j : Int) < (d.wc.length : Int) := by omega
        obtain ⟨ad, x, eA, hx, q0, q1, q2, q3⟩ := SWc.at HFr.out.wc hlt
        cases eA
        obtain ⟨hdo, ⟨hp0, hp1⟩, hlv, hno⟩ := HA.out.wc x (List.mem_of_getElem? hx)
        rw [hdo] at q3
        have HNO := Lib.hid hno
        clear hx hdo hno
        have sT0 := HSr.out
        obtain ⟨z0_0, z0_1, z0_2, z0_3⟩ := sT0.c4
        have sT1 := sT0.tail
        clear sT0 sT1
        go_upto_region 28 with fail
        clear z0_0 z0_1 z0_2 z0_3
        refine (HSr.out.push _ _).gen (fun w16 S16' hb16 => ?_)
        have S16 := Lib.hid S16'
        have HE16 := Lib.hid ((HEr.out.below (allocB (Below.refl _ _) _)).below hb16)
        have HF16 := Lib.hid ((HFr.out.below (allocB (Below.refl _ _) _)).below hb16)
        obtain ⟨eb, heb⟩ : ∃ b, wr.heap.size = b := ⟨_, rfl⟩
        rw [heb] at S16 ⊢
        clear S16' hb16 heb q0 q1 q2 q3 HSr HEr HFr
        have sT0 := S16.out
        obtain ⟨z0_0, z0_1, z0_2, z0_3⟩ := sT0.c4
        have sT1 := sT0.tail
        have sT2 := sT1.tail
        have sT3 := sT2.tail
        have sT4 := sT3.tail
        have sT5 := sT4.tail
        have sT6 := sT5.tail
        have sT7 := sT6.tail
        have sT8 := sT7.tail
        obtain ⟨z8_0, z8_1, z8_2, z8_3⟩ := sT8.c4
        have sT9 := sT8.tail
        clear sT0 sT1 sT2 sT3 sT4 sT5 sT6 sT7 sT8 sT9
        obtain ⟨sz, hsz⟩ : ∃ s : Int, (if x.Level = 2 then (256 : Int) else 16) = s := ⟨_, rfl⟩
        have hszb : 0 ≤ sz ∧ sz ≤ 256 := by rw [← hsz]; split <;> omega
        obtain ⟨hs0, hs1⟩ := hszb
        have HNO2 : Hid (kd = 3 → ¬ (x.Page < oa + ob ∧ oa < x.Page + sz)) := Lib.hid (by have h := HNO.out; rw [hsz] at h; exact h)
        obtain ⟨kb, hkb⟩ : ∃ b, (kd == 3) = b := ⟨_, rfl⟩
        have hl2 : ((x.Level == 2) = true ∧ sz = 256) ∨ ((x.Level == 2) = false ∧ sz = 16) := by
          rcases hlv with e | e
          · exact Or.inl ⟨by simpa using e, by rw [← hsz, if_pos e]⟩
          · exact Or.inr ⟨by simp; omega, by rw [← hsz, if_neg (by omega)]⟩
        clear hlv hsz HNO
        have small : kb = true → (0 ≤ oa ∧ oa ≤ 4096 ∧ 0 ≤ ob ∧ ob ≤ 4096) ∧ ¬ (x.Page < oa + ob ∧ oa < x.Page + sz) := fun hk => by
          have hk3 : kd = 3 := by rw [hk] at hkb; simpa using hkb
          exact ⟨HA.out.small hk3, HNO2.out hk3⟩
        rcases hl2 with ⟨gl, rfl⟩ | ⟨gl, rfl⟩
        all_goals
          cases kb
          · clear small
            go_wp2
            go_roundw
            case rel => exact ⟨j + 1, by omega, by first | rfl | go_num, Lib.hid S16.out.tail, HE16, HF16⟩
            case measure => simp [intOf]; omega
          · obtain ⟨⟨s0, s1, s2, s3⟩, hn⟩ := small rfl
            clear small
            have ew1 : IntKind.i64.wrap (oa + ob) = oa + ob := by rw [IntKind.wrap_i64]; omega
            by_cases p1 : x.Page < oa + ob
            · have p1' : decide (x.Page < oa + ob) = true := decide_eq_true p1
              have ew2 : IntKind.i64.wrap (x.Page + 256) = x.Page + 256 := by rw [IntKind.wrap_i64]; omega
              have ew3 : IntKind.i64.wrap (x.Page + 16) = x.Page + 16 := by rw [IntKind.wrap_i64]; omega
              first
                | (have p2' : decide (oa < x.Page + 256) = false := decide_eq_false (fun h => hn ⟨p1, h⟩))
                | (have p2' : decide (oa < x.Page + 16) = false := decide_eq_false (fun h => hn ⟨p1, h⟩))
              go_wp2
              go_roundw
              case rel => exact ⟨j + 1, by omega, by first | rfl | go_num, Lib.hid S16.out.tail, HE16, HF16⟩
              case measure => simp [intOf]; omega
            · have p1' : decide (x.Page < oa + ob) = false := decide_eq_false p1
              go_wp2
              go_roundw
              case rel => exact ⟨j + 1, by omega, by first | rfl | go_num, Lib.hid S16.out.tail, HE16, HF16⟩
              case measure => simp [intOf]; omega
      obtain rfl : j = d.wc.length := by omega
      have sT0 := HSr.out
      obtain ⟨z0_0, z0_1, z0_2, z0_3⟩ := sT0.c4
      have sT1 := sT0.tail
      clear sT0 sT1
      go_upto_region 33 with fail
      clear z0_0 z0_1 z0_2 z0_3
      have sT0 := HSr.out
      obtain ⟨z0_0, z0_1, z0_2, z0_3⟩ := sT0.c4
      have sT1 := sT0.tail
      have sT2 := sT1.tail
      obtain ⟨z2_0, z2_1, z2_2, z2_3⟩ := sT2.c4
      have sT3 := sT2.tail
      clear sT0 sT1 sT2 sT3
      go_upto_region 34 with (go_at_call 6; refine (implStep_any _ _ _ _ d ⟨2, 0, 0, 0⟩ _ HFr.out HWD.out HOD.out).mono ?_; rw [HDD.out]; rintro e w21 ⟨u0, u1, u2, u3, rfl, o1, hb⟩; obtain ⟨H0, h0, H1, h1, H2, h2, H3, h3, rfl, rfl, rfl, rfl⟩ := o1.shape; have Sw21 := Lib.hid (HSr.out.below hb); have MEw21 := Lib.hid (HEr.out.below hb); have MFw21 := Lib.hid (HFr.out.below hb); have MHw21 := Lib.hid o1.rd; clear o1 hb)
      clear z0_0 z0_1 z0_2 z0_3 z2_0 z2_1 z2_2 z2_3
      clear HSr HEr HFr
      refine world_gen (fun w' => St w [(w21.heap.size, #[.slice H0 d.ws.length h0, .slice H1 d.pend.length h1, .slice H2 d.tlb.length h2, .slice H3 d.wc.length h3], 30), (bq14, #[.slice F0 d.ws.length f0, .slice F1 d.pend.length f1, .slice F2 d.tlb.length f2, .slice F3 d.wc.length f3], 30), (bq12, #[.slice E0 d.ws.length e0, .slice E1 d.pend.length e1, .slice E2 d.tlb.length e2, .slice E3 d.wc.length e3], 30), (bq11, #[.int .i64 2, .int .i64 0, .int .i64 0, .int .u64 0], 33), (bq9, #[.slice D0 n.ws.length d0, .slice D1 n.pend.length d1, .slice D2 n.tlb.length d2, .slice D3 n.wc.length d3], 30), (bq7, #[.slice C0 n.ws.length c0, .slice C1 n.pend.length c1, .slice C2 n.tlb.length c2, .slice C3 n.wc.length c3], 30), (bq5 + 1, #[.int .i64 kd, .int .i64 oa, .int .i64 ob, .int .u64 wd], 33), (bq5, #[.slice B0 m.ws.length b0, .slice B1 m.pend.length b1, .slice B2 m.tlb.length b2, .slice B3 m.wc.length b3], 30), (bq3 + 1, #[.int .i64 kd, .int .i64 oa, .int .i64 ob, .int .u64 wd], 33), (bq3, #[.slice A0 m.ws.length a0, .slice A1 m.pend.length a1, .slice A2 m.tlb.length a2, .slice A3 m.wc.length a3], 30)] w' ∧ RdM w' (.slice E0 d.ws.length e0) (.slice E1 d.pend.length e1) (.slice E2 d.tlb.length e2) (.slice E3 d.wc.length e3) d ∧ RdM w' (.slice F0 d.ws.length f0) (.slice F1 d.pend.length f1) (.slice F2 d.tlb.length f2) (.slice F3 d.wc.length f3) d ∧ RdM w' (.slice H0 d.ws.length h0) (.slice H1 d.pend.length h1) (.slice H2 d.tlb.length h2) (.slice H3 d.wc.length h3) d) ⟨Sw21.out.push _ _, MEw21.out.below (allocB (Below.refl _ _) _), MFw21.out.below (allocB (Below.refl _ _) _), MHw21.out.below (allocB (Below.refl _ _) _)⟩ (fun w22 h => ?_)
      obtain ⟨bq21, hbl⟩ : ∃ b, w21.heap.size = b := ⟨_, rfl⟩
      rw [hbl] at h ⊢
      have Sw22 := Lib.hid h.1
      have MEw22 := Lib.hid h.2.1
      have MFw22 := Lib.hid h.2.2.1
      have MHw22 := Lib.hid h.2.2.2
      clear h hbl Sw21 MEw21 MFw21 MHw21
      have sT0 := Sw22.out
      obtain ⟨z0_0, z0_1, z0_2, z0_3⟩ := sT0.c4
      have sT1 := sT0.tail
      have sT2 := sT1.tail
      obtain ⟨z2_0, z2_1, z2_2, z2_3⟩ := sT2.c4
      have sT3 := sT2.tail
      clear sT0 sT1 sT2 sT3
      go_wp2_with (go_at_call 7; refine (sameM_any _ _ _ _ _ _ _ _ _ _ MHw22.out MEw22.out).mono ?_; rintro e w23 ⟨rfl, hb⟩; have HB23 := Lib.hid hb; clear hb)
      go_ret
      exact ⟨rfl, thenB Sw22.out.b HB23.out⟩
end Go.Proofs.Ythphfcheencbgaa.Draw
