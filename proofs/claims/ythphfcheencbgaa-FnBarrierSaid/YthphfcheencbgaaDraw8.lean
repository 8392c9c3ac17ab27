/- Walk of the reference's l3DrawOp. -/
import Derived.Test.YthphfcheencbgaaDraw6
namespace Go.Proofs.Ythphfcheencbgaa.Draw
open Go.RowKit Go.Proofs.Ythphfcheencbgaa.Base Go.Proofs.Ythphfcheencbgaa.Kinds Go.Proofs.Ythphfcheencbgaa.DecMath Go.Proofs.Ythphfcheencbgaa.L1 Go.Proofs.Ythphfcheencbgaa.Mmu
set_option linter.unusedVariables false
set_option linter.unusedSimpArgs false

/-- The answer: an operation and the place behind it. -/
def OPPost (w : World) (o : SOp) (p : Nat) (e : Ending) (w' : World) : Prop := e = .returned (.tuple #[.agg #[.int .i64 o.Kind, .int .i64 o.A, .int .i64 o.B, .int .u64 o.Word], .int .i64 ((p : Nat) : Int)]) ∧ Below w.heap.size w w'
theorem latest_lenB (m : SM) : (latestOf m).length = m.ws.length := writes_len _ _
theorem frames_okB {ws : List Int} (h : okLen ws) : framesOf ws.length = ((ws.length / 16 : Nat) : Int) := by unfold framesOf; exact if_pos h
theorem dec_tf (p : Prop) [Decidable p] : decide p = true ∨ decide p = false := by cases decide p <;> simp
theorem framesQ_b (A : Option Addr) (n c : Nat) (f : Int) (h : framesOf n = f) (w : World) (hn : n ≤ c) (hc : c ≤ 9223372036854775807) :
    Calls Try.prog 11 #[.agg #[.slice A n c]] w fun e w' => e = .returned (.int .i64 f) ∧ Below w.heap.size w w' := by
  rw [← h]; exact l1Frames_any A n c w hn hc

set_option maxRecDepth 100000 in
set_option maxHeartbeats 16000000 in
theorem drawOp_any (v : Value) (c : List Int) (p : Nat) (v0 v1 v2 v3 : Value) (m : SM) (w : World) (r : Rd bEnc 1 w v c) (hb : Bytes c) (hL : c.length ≤ 1048576) (hp : p ≤ 80000) (rm : RdM w v0 v1 v2 v3 m) (hok : okLen m.ws) (hwf : WfM m) :
    Calls Try.prog 12 #[v, .int .i64 p, .agg #[v0, v1, v2, v3]] w (OPPost w (opD c p m) (p + 4)) := by
  obtain ⟨A0, c0, A1, c1, A2, c2, A3, c3, rfl, rfl, rfl, rfl, hl0, hk0, hl1, hk1, hl2, hk2, hl3, hk3⟩ := rm.shape
  have R := Lib.hid r
  have RM := Lib.hid rm
  have HB := Lib.hid hb
  have HWM := Lib.hid hwf
  have HWW : Hid (WfW m.ws) := Lib.hid ⟨hwf.1, hok⟩
  have HOK := Lib.hid hok
  obtain ⟨L, hLe⟩ : ∃ L, m.ws.length = L := ⟨_, rfl⟩
  have hok2 := hok
  unfold okLen at hok2
  rw [hLe] at hok2
  obtain ⟨n, hn⟩ : ∃ n, L / 16 = n := ⟨_, rfl⟩
  have hnb : 1 ≤ n ∧ n ≤ 512 ∧ L = 16 * n := by omega
  obtain ⟨hnb0, hnb1, hLn⟩ := hnb
  have hL16 : 16 ≤ L := hok2.2.1
  have hL8 : L ≤ 8192 := hok2.2.2
  have HF : Hid (framesOf m.ws.length = (n : Int)) := Lib.hid (by rw [frames_okB hok, hLe, hn])
  have HLE : Hid (m.ws.length = L) := Lib.hid hLe
  have HN : Hid (m.ws.length / 16 = n) := Lib.hid (by rw [hLe]; exact hn)
  have h16 := takeP_lt hb p 16 (by omega)
  have h64 := takeP_lt hb (p + 1) 64 (by omega)
  have hpgr := pageP_range hb (p + 2) m.ws
  obtain ⟨k, hk⟩ : ∃ a, takeP c p 16 = a := ⟨_, rfl⟩
  obtain ⟨a, ha⟩ : ∃ a, takeP c (p + 1) 64 = a := ⟨_, rfl⟩
  obtain ⟨pg, hpg⟩ : ∃ a, pageP c (p + 2) m.ws = a := ⟨_, rfl⟩
  rw [hk] at h16
  rw [ha] at h64
  rw [hpg] at hpgr
  obtain ⟨hk00, hk16⟩ := h16
  obtain ⟨ha0, ha64⟩ := h64
  obtain ⟨hpg0, hpg1⟩ := hpgr
  obtain ⟨O, hO⟩ : ∃ O, opD c p m = O := ⟨_, rfl⟩
  have HO : Hid (O = if k < 3 then ⟨2, 0, 0, 0⟩ else if k < 6 then ⟨3, (if a % 3 = 0 then pg - pg % 16 else pg), if 4096 < (if a % 3 = 0 then pg - pg % 16 else pg) + (if a % 3 = 0 then 16 * (a % 5 + 1) else 1) then 1 else (if a % 3 = 0 then 16 * (a % 5 + 1) else 1), 0⟩ else if k < 8 then ⟨4, a % ((n : Int) + 1), 0, 0⟩ else if k = 15 then ⟨a % 6, pg * 2 - 8, a % 3 - 1, a % 2⟩ else ⟨1, opAt c p m, 0, opWord c p m⟩) := Lib.hid (by
    rw [← hO]; unfold opD; simp only [hk, ha, hpg]; rw [HN.out])
  have HAT : Hid (opAt c p m = if k = 8 then pg / 256 else if k = 9 then ((if Valid m then addrP (latestOf m) pg else addrP m.ws pg) + a) % (L : Int) else if Valid m then addrP (latestOf m) pg else addrP m.ws pg) := Lib.hid (by
    unfold opAt; rw [hk, ha, hpg, HLE.out])
  have HWD : Hid (opWord c p m = if a % 8 = 2 then enc 2 (1, a % (n : Int), 0) else if a % 4 = 1 then m.ws.getD (opAt c p m).toNat 0 else if a % 4 = 0 ∨ a % 4 = 3 then enc 3 (3, a * 7, a % 7 + 1) else 0) := Lib.hid (by
    unfold opWord; simp only [ha]; rw [HN.out])
  rw [hO]
  have HK := Lib.hid hk
  have HA := Lib.hid ha
  have HPG := Lib.hid hpg
  have e3 : Int.tmod a 3 = a % 3 := Int.tmod_eq_emod_of_nonneg ha0
  have e4 : Int.tmod a 4 = a % 4 := Int.tmod_eq_emod_of_nonneg ha0
  have e5 : Int.tmod a 5 = a % 5 := Int.tmod_eq_emod_of_nonneg ha0
  have e6 : Int.tmod a 6 = a % 6 := Int.tmod_eq_emod_of_nonneg ha0
  have e7 : Int.tmod a 7 = a % 7 := Int.tmod_eq_emod_of_nonneg ha0
  have e8 : Int.tmod a 8 = a % 8 := Int.tmod_eq_emod_of_nonneg ha0
  have e2 : Int.tmod a 2 = a % 2 := Int.tmod_eq_emod_of_nonneg ha0
  clear r rm hb hwf hok hok2 hLe hn hk ha hpg hO hLn
  go_enter Try.func12, Try.ntmps12
  go_upto_region 1 with fail
  refine ((St.start w).push2 _ _ _ _).gen (fun w1 S1' _ => ?_)
  have S1 := Lib.hid S1'
  clear S1'
  go_upto_region 3 with (go_at_call 8; refine (take_any v c p 16 _ (R.out.below S1.out.b) HB.out hL (by omega) (by omega)).mono ?_; rw [HK.out]; rintro e w2 ⟨rfl, hb2⟩; have S2 := Lib.hid (S1.out.below hb2); clear hb2)
  go_upto_region 4 with (go_at_call 8; refine (take_any v c (p + 1) 64 _ (R.out.below S2.out.b) HB.out hL (by omega) (by omega)).mono ?_; rw [HA.out]; rintro e w3 ⟨rfl, hb3⟩; have S3 := Lib.hid (S2.out.below hb3); clear hb3)
  clear S1 S2
  have sT0 := S3.out
  have sT1 := sT0.tail
  obtain ⟨z1_0, z1_1, z1_2, z1_3⟩ := sT1.c4
  have sT2 := sT1.tail
  clear sT0 sT1 sT2
  go_upto_region 5 with (go_at_call 30; refine (drawPage_any v c (p + 2) (.slice A0 m.ws.length c0) m.ws _ (R.out.below S3.out.b) HB.out hL (by omega) (RM.out.below S3.out.b).ws HWW.out).mono ?_; rw [HPG.out]; rintro e w4 ⟨rfl, hb4⟩; have S4 := Lib.hid (S3.out.below hb4); clear hb4)
  clear z1_0 z1_1 z1_2 z1_3
  have sT0 := S4.out
  have sT1 := sT0.tail
  obtain ⟨z1_0, z1_1, z1_2, z1_3⟩ := sT1.c4
  have sT2 := sT1.tail
  clear sT0 sT1 sT2
  go_upto_region 6 with (go_at_call 11; refine (framesQ_b A0 m.ws.length c0 (n : Int) HF.out _ hl0 hk0).mono ?_; rintro e w5 ⟨rfl, hb5⟩; have S5 := Lib.hid (S4.out.below hb5); clear hb5)
  clear z1_0 z1_1 z1_2 z1_3
  clear S3 S4
  have sT0 := S5.out
  obtain ⟨z0_0, z0_1, z0_2, z0_3⟩ := sT0.c4
  have zF0_0 := sT0.f 0
  have zF0_1 := sT0.f 1
  have zF0_2 := sT0.f 2
  have zF0_3 := sT0.f 3
  have sT1 := sT0.tail
  obtain ⟨z1_0, z1_1, z1_2, z1_3⟩ := sT1.c4
  have sT2 := sT1.tail
  clear sT0 sT1 sT2
  by_cases hk3 : k < 3
  · have g3 : decide (k < 3) = true := decide_eq_true hk3
    have HE : Hid (O = ⟨2, 0, 0, 0⟩) := Lib.hid (by rw [HO.out, if_pos hk3])
    go_wp2
    exact bodyPost_ret (v := .tuple #[.agg #[.int .i64 (2), .int .i64 (0), .int .i64 (0), .int .u64 (0)], .int .i64 ((p + 4 : Nat) : Int)]) (by simp [results, Try.results12, go_sem, *] <;> omega) rfl ⟨by (rw [HE.out]; try rfl), (S5.out.s0 _ _ _ _).b⟩
  have g3 : decide (k < 3) = false := decide_eq_false hk3
  by_cases hk6 : k < 6
  · have g6 : decide (k < 6) = true := decide_eq_true hk6
    have em : Int.tmod pg 16 = pg % 16 := Int.tmod_eq_emod_of_nonneg hpg0
    have ew1 : IntKind.i64.wrap (pg - pg % 16) = pg - pg % 16 := by rw [IntKind.wrap_i64]; omega
    have ew2 : IntKind.i64.wrap (a % 5 + 1) = a % 5 + 1 := by rw [IntKind.wrap_i64]; omega
    have ew3 : IntKind.i64.wrap (16 * (a % 5 + 1)) = 16 * (a % 5 + 1) := by rw [IntKind.wrap_i64]; omega
    have ew4 : IntKind.i64.wrap (pg + 1) = pg + 1 := by rw [IntKind.wrap_i64]; omega
    have ew5 : IntKind.i64.wrap (pg - pg % 16 + 16 * (a % 5 + 1)) = pg - pg % 16 + 16 * (a % 5 + 1) := by rw [IntKind.wrap_i64]; omega
    by_cases ha3 : a % 3 = 0
    · have ga : (a % 3 == 0) = true := by simpa using ha3
      have hk3' := Lib.hid ha3
      by_cases hq : 4096 < pg - pg % 16 + 16 * (a % 5 + 1)
      · have gq : decide (4096 < pg - pg % 16 + 16 * (a % 5 + 1)) = true := decide_eq_true hq
        have HE : Hid (O = ⟨3, pg - pg % 16, 1, 0⟩) := Lib.hid (by rw [HO.out, if_neg hk3, if_pos hk6, if_pos ha3, if_pos ha3, if_pos hq])
        clear ha3
        go_wp2
        exact bodyPost_ret (v := .tuple #[.agg #[.int .i64 (3), .int .i64 (pg - pg % 16), .int .i64 (1), .int .u64 (0)], .int .i64 ((p + 4 : Nat) : Int)]) (by simp [results, Try.results12, go_sem, *] <;> omega) rfl ⟨by (rw [HE.out]; try rfl), (S5.out.s0 _ _ _ _).b⟩
      · have gq : decide (4096 < pg - pg % 16 + 16 * (a % 5 + 1)) = false := decide_eq_false hq
        have HE : Hid (O = ⟨3, pg - pg % 16, 16 * (a % 5 + 1), 0⟩) := Lib.hid (by rw [HO.out, if_neg hk3, if_pos hk6, if_pos ha3, if_pos ha3, if_neg hq])
        clear ha3
        go_wp2
        exact bodyPost_ret (v := .tuple #[.agg #[.int .i64 (3), .int .i64 (pg - pg % 16), .int .i64 (16 * (a % 5 + 1)), .int .u64 (0)], .int .i64 ((p + 4 : Nat) : Int)]) (by simp [results, Try.results12, go_sem, *] <;> omega) rfl ⟨by (rw [HE.out]; try rfl), (S5.out.s0 _ _ _ _).b⟩
    · have ga : (a % 3 == 0) = false := by simpa using ha3
      have hq : ¬ 4096 < pg + 1 := by omega
      have gq : decide (4096 < pg + 1) = false := decide_eq_false hq
      have HE : Hid (O = ⟨3, pg, 1, 0⟩) := Lib.hid (by rw [HO.out, if_neg hk3, if_pos hk6, if_neg ha3, if_neg ha3]; simp)
      clear ha3
      go_wp2
      exact bodyPost_ret (v := .tuple #[.agg #[.int .i64 (3), .int .i64 (pg), .int .i64 (1), .int .u64 (0)], .int .i64 ((p + 4 : Nat) : Int)]) (by simp [results, Try.results12, go_sem, *] <;> omega) rfl ⟨by (rw [HE.out]; try rfl), (S5.out.s0 _ _ _ _).b⟩
  have g6 : decide (k < 6) = false := decide_eq_false hk6
  by_cases hk8 : k < 8
  · have g8 : decide (k < 8) = true := decide_eq_true hk8
    have ew1 : IntKind.i64.wrap ((n : Int) + 1) = (n : Int) + 1 := by rw [IntKind.wrap_i64]; omega
    have hd1 : ¬ (n : Int) + 1 = 0 := by omega
    have hd2 : ((n : Int) + 1 == 0) = false := by rw [beq_eq_false_iff_ne]; exact hd1
    have em : Int.tmod a ((n : Int) + 1) = a % ((n : Int) + 1) := Int.tmod_eq_emod_of_nonneg ha0
    have HE : Hid (O = ⟨4, a % ((n : Int) + 1), 0, 0⟩) := Lib.hid (by rw [HO.out, if_neg hk3, if_neg hk6, if_pos hk8])
    go_wp2
    exact bodyPost_ret (v := .tuple #[.agg #[.int .i64 (4), .int .i64 (a % ((n : Int) + 1)), .int .i64 (0), .int .u64 (0)], .int .i64 ((p + 4 : Nat) : Int)]) (by simp [results, Try.results12, go_sem, *] <;> omega) rfl ⟨by (rw [HE.out]; try rfl), (S5.out.s0 _ _ _ _).b⟩
  have g8 : decide (k < 8) = false := decide_eq_false hk8
  by_cases hk15 : k = 15
  · have g15 : (k == 15) = true := by simpa using hk15
    have HE : Hid (O = ⟨a % 6, pg * 2 - 8, a % 3 - 1, a % 2⟩) := Lib.hid (by rw [HO.out, if_neg hk3, if_neg hk6, if_neg hk8, if_pos hk15])
    have HK15 := Lib.hid hk15
    clear hk15
    have ew1 : IntKind.i64.wrap (pg * 2) = pg * 2 := by rw [IntKind.wrap_i64]; omega
    have ew2 : IntKind.i64.wrap (pg * 2 - 8) = pg * 2 - 8 := by rw [IntKind.wrap_i64]; omega
    have ew3 : IntKind.i64.wrap (a % 3 - 1) = a % 3 - 1 := by rw [IntKind.wrap_i64]; omega
    have ew4 : IntKind.u64.wrap (a % 2) = a % 2 := by rw [BitsMath.u64_wrap]; omega
    go_wp2
    exact bodyPost_ret (v := .tuple #[.agg #[.int .i64 (a % 6), .int .i64 (pg * 2 - 8), .int .i64 (a % 3 - 1), .int .u64 (a % 2)], .int .i64 ((p + 4 : Nat) : Int)]) (by simp [results, Try.results12, go_sem, *] <;> omega) rfl ⟨by (rw [HE.out]; try rfl), (S5.out.s0 _ _ _ _).b⟩
  have g15 : (k == 15) = false := by simpa using hk15
  have HE0 : Hid (O = ⟨1, opAt c p m, 0, opWord c p m⟩) := Lib.hid (by rw [HO.out, if_neg hk3, if_neg hk6, if_neg hk8, if_neg hk15])
  have hnz : ((n : Int) == 0) = false := by rw [beq_eq_false_iff_ne]; omega
  have hnz2 : (n == 0) = false := by rw [beq_eq_false_iff_ne]; omega
  have HK15 := Lib.hid hk15
  clear hk15 HO
  obtain ⟨ad, had⟩ : ∃ x, (if Valid m then addrP (latestOf m) pg else addrP m.ws pg) = x := ⟨_, rfl⟩
  have hadr : 0 ≤ ad ∧ ad < (L : Int) := by
    rw [← had]
    split
    · rename_i hv
      have := addrP_range (latest_wf hv HWM.out).2 pg hpg0
      rw [latest_lenB, HLE.out] at this; exact this
    · have := addrP_range HOK.out pg hpg0
      rw [HLE.out] at this; exact this
  rw [had] at HAT
  have HAD := Lib.hid had
  clear had
  obtain ⟨had0, had1⟩ := hadr
  obtain ⟨ad0, had0'⟩ : ∃ x, addrP m.ws pg = x := ⟨_, rfl⟩
  have HAD0 := Lib.hid had0'
  clear had0'
  go_upto_region 23 with (go_at_call 13; refine (addr_any (.slice A0 m.ws.length c0) m.ws pg _ (RM.out.below S5.out.b).ws HWW.out ⟨hpg0, hpg1⟩ ad0 HAD0.out).mono ?_; rintro e w6 ⟨rfl, hb6⟩; have S6 := Lib.hid (S5.out.below hb6); clear hb6)
  clear z0_0 z0_1 z0_2 z0_3 zF0_0 zF0_1 zF0_2 zF0_3 z1_0 z1_1 z1_2 z1_3
  clear S5
  have sT0 := S6.out
  have sT1 := sT0.tail
  obtain ⟨z1_0, z1_1, z1_2, z1_3⟩ := sT1.c4
  have sT2 := sT1.tail
  clear sT0 sT1 sT2
  obtain ⟨vb, hvb⟩ : ∃ b, decide (Valid m) = b := ⟨_, rfl⟩
  have HVB := Lib.hid hvb
  clear hvb
  go_upto_if 95 with (go_at_call 15; refine (validT_b _ _ _ _ m vb _ (RM.out.below S6.out.b) HVB.out).mono ?_; rintro e w7 ⟨rfl, hb7⟩; have S7 := Lib.hid (S6.out.below hb7); clear hb7)
  clear z1_0 z1_1 z1_2 z1_3
  clear S6
  have sT0 := S7.out
  have sT1 := sT0.tail
  obtain ⟨z1_0, z1_1, z1_2, z1_3⟩ := sT1.c4
  have sT2 := sT1.tail
  clear sT0 sT1 sT2
  go_cut [13] from 96 to 99 (fun x wx => x = .int .i64 ad ∧ Below w7.heap.size w7 wx)
  case first =>
    cases vb
    · have HE1 : Hid (ad0 = ad) := Lib.hid (by rw [← HAD.out, if_neg (of_decide_eq_false HVB.out), HAD0.out])
      go_wp2
      go_meet
      case rel => exact ⟨by rw [HE1.out], Below.refl _ _⟩
    · have HV := Lib.hid (of_decide_eq_true HVB.out)
      obtain ⟨lt, hlt⟩ : ∃ l, latestOf m = l := ⟨_, rfl⟩
      have HLW : Hid (WfW lt) := Lib.hid (by rw [← hlt]; exact latest_wf HV.out HWM.out)
      have HE1 : Hid (addrP lt pg = ad) := Lib.hid (by rw [← HAD.out, if_pos HV.out, hlt])
      have HLT := Lib.hid hlt
      clear hlt
      go_wp2_with (first
        | (go_at_call 20; refine (latest_any _ _ _ _ m _ (RM.out.below S7.out.b) HV.out).mono ?_; rw [HLT.out]; rintro e w8 ⟨vl, rfl, o8, hb8⟩; obtain ⟨Al, cl, hvl⟩ := o8.shape; subst hvl; have HO8 := Lib.hid o8; have HB8 := Lib.hid hb8; clear hb8 o8)
        | (go_at_call 13; refine (addr_any _ lt pg _ (HO8.out.rd wLen) HLW.out ⟨hpg0, hpg1⟩ ad HE1.out).mono ?_; rintro e w9 ⟨rfl, hb9⟩; have HB9 := Lib.hid (thenB HB8.out hb9); clear hb9))
      go_meet
      case rel => exact ⟨rfl, HB9.out⟩
  case rest =>
    obtain ⟨rfl, hcb⟩ := hcut
    have S8 := Lib.hid (S7.out.below hcb)
    clear hcb S7
    clear z1_0 z1_1 z1_2 z1_3
    have hmz : ¬ m.ws = [] := fun h => by have := HLE.out; rw [h] at this; simp at this; omega
    have hmz1 : ¬ (m.ws.length : Int) = 0 := by have := HLE.out; omega
    have hmz2 : ((m.ws.length : Int) == 0) = false := by rw [beq_eq_false_iff_ne]; exact hmz1
    have hmz3 : (m.ws.length == 0) = false := by rw [beq_eq_false_iff_ne]; have := HLE.out; omega
    obtain ⟨t1, ht1e⟩ : ∃ t, (if k = 8 then pg / 256 else ad) = t := ⟨_, rfl⟩
    have ht1r : 0 ≤ t1 ∧ t1 < (L : Int) := by rw [← ht1e]; split <;> omega
    obtain ⟨ht10, ht11⟩ := ht1r
    have HT1 := Lib.hid ht1e
    clear ht1e
    obtain ⟨t, hte⟩ : ∃ t, (if k = 9 then (t1 + a) % (L : Int) else t1) = t := ⟨_, rfl⟩
    have htr : 0 ≤ t ∧ t < (L : Int) := by rw [← hte]; split; exact ⟨Int.emod_nonneg _ (by omega), Int.emod_lt_of_pos _ (by omega)⟩; omega
    obtain ⟨ht0, ht1⟩ := htr
    have HT : Hid (opAt c p m = t) := Lib.hid (by
      rw [HAT.out, ← hte, ← HT1.out]
      by_cases k8 : k = 8
      · rw [if_pos k8, if_neg (by omega), if_pos k8]
      · rw [if_neg k8]
        by_cases k9 : k = 9
        · rw [if_pos k9, if_pos k9, if_neg k8]
        · rw [if_neg k9, if_neg k9, if_neg k8])
    have HT2 := Lib.hid hte
    clear hte
    go_upto_if 101 with fail
    go_cut [13] from 102 to 103 (fun x wx => x = .int .i64 t1 ∧ wx = wc)
    case first =>
      by_cases k8 : k = 8
      · have ed : Int.tdiv pg 256 = t1 := by rw [← HT1.out, if_pos k8]; exact Int.tdiv_eq_ediv_of_nonneg hpg0
        have ew1 : IntKind.i64.wrap t1 = t1 := by rw [IntKind.wrap_i64]; omega
        have gk8 : (k == 8) = true := by simpa using k8
        have K8 := Lib.hid k8
        clear k8
        go_wp2
        go_meet
        case rel => exact ⟨rfl, rfl⟩
      · have gk8 : (k == 8) = false := by simpa using k8
        have HQ : Hid (ad = t1) := Lib.hid (by rw [← HT1.out, if_neg k8])
        clear k8
        go_wp2
        go_meet
        case rel => exact ⟨by rw [HQ.out], rfl⟩
    case rest =>
    obtain ⟨rfl, rfl⟩ := hcut
    have sT0 := S8.out
    have sT1 := sT0.tail
    obtain ⟨z1_0, z1_1, z1_2, z1_3⟩ := sT1.c4
    have sT2 := sT1.tail
    clear sT0 sT1 sT2
    go_upto_if 105 with fail
    go_cut [13] from 106 to 113 (fun x wx => x = .int .i64 t ∧ wx = wc)
    case first =>
      by_cases k9 : k = 9
      · have ew1 : IntKind.i64.wrap (t1 + a) = t1 + a := by rw [IntKind.wrap_i64]; omega
        have em : Int.tmod (t1 + a) (m.ws.length : Int) = t := by rw [HLE.out, Int.tmod_eq_emod_of_nonneg (by omega), ← HT2.out, if_pos k9]
        have gk9 : (k == 9) = true := by simpa using k9
        have K9 := Lib.hid k9
        clear k9
        go_wp2
        go_meet
        case rel => exact ⟨rfl, rfl⟩
      · have gk9 : (k == 9) = false := by simpa using k9
        have HQ : Hid (t1 = t) := Lib.hid (by rw [← HT2.out, if_neg k9])
        clear k9
        go_wp2
        go_meet
        case rel => exact ⟨by rw [HQ.out], rfl⟩
    case rest =>
    obtain ⟨rfl, rfl⟩ := hcut
    clear z1_0 z1_1 z1_2 z1_3
    have hw : a % 8 = 2 ∨ (¬ a % 8 = 2 ∧ a % 4 = 1) ∨ (¬ a % 8 = 2 ∧ ¬ a % 4 = 1 ∧ a % 4 = 0) ∨ (¬ a % 8 = 2 ∧ ¬ a % 4 = 1 ∧ a % 4 = 3) ∨ (¬ a % 8 = 2 ∧ ¬ a % 4 = 1 ∧ ¬ (a % 4 = 0 ∨ a % 4 = 3)) := by omega
    rcases hw with hw | ⟨hv, hw⟩ | ⟨hv, hv2, hw⟩ | ⟨hv, hv2, hw⟩ | ⟨hv, hv2, hw⟩
    · have q40 : (a % 4 == 0) = false := by simp; omega
      have q43 : (a % 4 == 3) = false := by simp; omega
      have q41 : (a % 4 == 1) = false := by simp; omega
      have q82 : (a % 8 == 2) = true := by simp; omega
      have hn0 : ¬ (n : Int) = 0 := by omega
      have hn1 : ¬ n = 0 := by omega
      have en : Int.tmod a (n : Int) = a % (n : Int) := Int.tmod_eq_emod_of_nonneg ha0
      have HE : Hid (O = ⟨1, t, 0, enc 2 (1, a % (n : Int), 0)⟩) := Lib.hid (by rw [HE0.out, HT.out, HWD.out, if_pos hw])
      clear hw
      have sT0 := S8.out
      obtain ⟨z0_0, z0_1, z0_2, z0_3⟩ := sT0.c4
      have zF0_0 := sT0.f 0
      have zF0_1 := sT0.f 1
      have zF0_2 := sT0.f 2
      have zF0_3 := sT0.f 3
      have sT1 := sT0.tail
      obtain ⟨z1_0, z1_1, z1_2, z1_3⟩ := sT1.c4
      have sT2 := sT1.tail
      clear sT0 sT1 sT2
      go_wp2_with (go_at_call 14; refine (specEncode_any 2 1 (a % (n : Int)) 0 _).mono ?_; rintro e w9 ⟨rfl, hb9⟩; have S9 := Lib.hid (S8.out.below hb9); clear hb9; have sT0 := S9.out; obtain ⟨y0_0, y0_1, y0_2, y0_3⟩ := sT0.c4; have yF0_0 := sT0.f 0; have yF0_1 := sT0.f 1; have yF0_2 := sT0.f 2; have yF0_3 := sT0.f 3; have sT1 := sT0.tail; clear sT0 sT1)
      exact bodyPost_ret (v := .tuple #[.agg #[.int .i64 1, .int .i64 (t), .int .i64 0, .int .u64 (enc 2 (1, a % (n : Int), 0))], .int .i64 ((p + 4 : Nat) : Int)]) (by simp [results, Try.results12, go_sem, *] <;> omega) rfl ⟨by (rw [HE.out]; try rfl), (S9.out.s0 _ _ _ _).b⟩
    · have q40 : (a % 4 == 0) = false := by simp; omega
      have q43 : (a % 4 == 3) = false := by simp; omega
      have q41 : (a % 4 == 1) = true := by simp; omega
      have q82 : (a % 8 == 2) = false := by simp; omega
      have HE : Hid (O = ⟨1, t, 0, m.ws.getD (t).toNat 0⟩) := Lib.hid (by rw [HE0.out, HT.out, HWD.out, if_neg hv, if_pos hw, HT.out])
      obtain ⟨tn, htn⟩ : ∃ x : Nat, t = (x : Int) := ⟨(t).toNat, by omega⟩
      obtain ⟨ad', hae, hcl⟩ := wordD_at (RM.out.below S8.out.b).ws (k := tn) (by have := HLE.out; omega)
      subst hae
      have hil : (tn : Int) < ((m.ws.length : Nat) : Int) := by have := HLE.out; omega
      obtain ⟨y, hy⟩ : ∃ y, m.ws.getD tn 0 = y := ⟨_, rfl⟩
      rw [hy] at hcl
      have HE2 : Hid (O = ⟨1, (tn : Int), 0, y⟩) := Lib.hid (by rw [HE.out, htn, Int.toNat_natCast, hy])
      clear hy
      subst htn
      clear hv hw
      have sT0 := S8.out
      obtain ⟨z0_0, z0_1, z0_2, z0_3⟩ := sT0.c4
      have zF0_0 := sT0.f 0
      have zF0_1 := sT0.f 1
      have zF0_2 := sT0.f 2
      have zF0_3 := sT0.f 3
      have sT1 := sT0.tail
      obtain ⟨z1_0, z1_1, z1_2, z1_3⟩ := sT1.c4
      have sT2 := sT1.tail
      clear sT0 sT1 sT2
      go_wp2
      exact bodyPost_ret (v := .tuple #[.agg #[.int .i64 1, .int .i64 ((tn : Int)), .int .i64 0, .int .u64 (y)], .int .i64 ((p + 4 : Nat) : Int)]) (by simp [results, Try.results12, go_sem, *] <;> omega) rfl ⟨by (rw [HE2.out]; try rfl), (S8.out.s0 _ _ _ _).b⟩
    · have q40 : (a % 4 == 0) = true := by simp; omega
      have q41 : (a % 4 == 1) = false := by simp; omega
      have q82 : (a % 8 == 2) = false := by simp; omega
      have ew7 : IntKind.i64.wrap (a * 7) = a * 7 := by rw [IntKind.wrap_i64]; omega
      have ew8 : IntKind.i64.wrap (a % 7 + 1) = a % 7 + 1 := by rw [IntKind.wrap_i64]; omega
      have HE : Hid (O = ⟨1, t, 0, enc 3 (3, a * 7, a % 7 + 1)⟩) := Lib.hid (by rw [HE0.out, HT.out, HWD.out, if_neg hv, if_neg hv2, if_pos (Or.inl hw)])
      clear hv hv2 hw
      have sT0 := S8.out
      obtain ⟨z0_0, z0_1, z0_2, z0_3⟩ := sT0.c4
      have zF0_0 := sT0.f 0
      have zF0_1 := sT0.f 1
      have zF0_2 := sT0.f 2
      have zF0_3 := sT0.f 3
      have sT1 := sT0.tail
      obtain ⟨z1_0, z1_1, z1_2, z1_3⟩ := sT1.c4
      have sT2 := sT1.tail
      clear sT0 sT1 sT2
      go_wp2_with (go_at_call 14; refine (specEncode_any 3 3 (a * 7) (a % 7 + 1) _).mono ?_; rintro e w9 ⟨rfl, hb9⟩; have S9 := Lib.hid (S8.out.below hb9); clear hb9; have sT0 := S9.out; obtain ⟨y0_0, y0_1, y0_2, y0_3⟩ := sT0.c4; have yF0_0 := sT0.f 0; have yF0_1 := sT0.f 1; have yF0_2 := sT0.f 2; have yF0_3 := sT0.f 3; have sT1 := sT0.tail; clear sT0 sT1)
      exact bodyPost_ret (v := .tuple #[.agg #[.int .i64 1, .int .i64 (t), .int .i64 0, .int .u64 (enc 3 (3, a * 7, a % 7 + 1))], .int .i64 ((p + 4 : Nat) : Int)]) (by simp [results, Try.results12, go_sem, *] <;> omega) rfl ⟨by (rw [HE.out]; try rfl), (S9.out.s0 _ _ _ _).b⟩
    · have q40 : (a % 4 == 0) = false := by simp; omega
      have q43 : (a % 4 == 3) = true := by simp; omega
      have q41 : (a % 4 == 1) = false := by simp; omega
      have q82 : (a % 8 == 2) = false := by simp; omega
      have ew7 : IntKind.i64.wrap (a * 7) = a * 7 := by rw [IntKind.wrap_i64]; omega
      have ew8 : IntKind.i64.wrap (a % 7 + 1) = a % 7 + 1 := by rw [IntKind.wrap_i64]; omega
      have HE : Hid (O = ⟨1, t, 0, enc 3 (3, a * 7, a % 7 + 1)⟩) := Lib.hid (by rw [HE0.out, HT.out, HWD.out, if_neg hv, if_neg hv2, if_pos (Or.inr hw)])
      clear hv hv2 hw
      have sT0 := S8.out
      obtain ⟨z0_0, z0_1, z0_2, z0_3⟩ := sT0.c4
      have zF0_0 := sT0.f 0
      have zF0_1 := sT0.f 1
      have zF0_2 := sT0.f 2
      have zF0_3 := sT0.f 3
      have sT1 := sT0.tail
      obtain ⟨z1_0, z1_1, z1_2, z1_3⟩ := sT1.c4
      have sT2 := sT1.tail
      clear sT0 sT1 sT2
      go_wp2_with (go_at_call 14; refine (specEncode_any 3 3 (a * 7) (a % 7 + 1) _).mono ?_; rintro e w9 ⟨rfl, hb9⟩; have S9 := Lib.hid (S8.out.below hb9); clear hb9; have sT0 := S9.out; obtain ⟨y0_0, y0_1, y0_2, y0_3⟩ := sT0.c4; have yF0_0 := sT0.f 0; have yF0_1 := sT0.f 1; have yF0_2 := sT0.f 2; have yF0_3 := sT0.f 3; have sT1 := sT0.tail; clear sT0 sT1)
      exact bodyPost_ret (v := .tuple #[.agg #[.int .i64 1, .int .i64 (t), .int .i64 0, .int .u64 (enc 3 (3, a * 7, a % 7 + 1))], .int .i64 ((p + 4 : Nat) : Int)]) (by simp [results, Try.results12, go_sem, *] <;> omega) rfl ⟨by (rw [HE.out]; try rfl), (S9.out.s0 _ _ _ _).b⟩
    · have q40 : (a % 4 == 0) = false := by simp; omega
      have q43 : (a % 4 == 3) = false := by simp; omega
      have q41 : (a % 4 == 1) = false := by simp; omega
      have q82 : (a % 8 == 2) = false := by simp; omega
      have HE : Hid (O = ⟨1, t, 0, 0⟩) := Lib.hid (by rw [HE0.out, HT.out, HWD.out, if_neg hv, if_neg hv2, if_neg hw])
      clear hv hv2 hw
      have sT0 := S8.out
      obtain ⟨z0_0, z0_1, z0_2, z0_3⟩ := sT0.c4
      have zF0_0 := sT0.f 0
      have zF0_1 := sT0.f 1
      have zF0_2 := sT0.f 2
      have zF0_3 := sT0.f 3
      have sT1 := sT0.tail
      obtain ⟨z1_0, z1_1, z1_2, z1_3⟩ := sT1.c4
      have sT2 := sT1.tail
      clear sT0 sT1 sT2
      go_wp2
      exact bodyPost_ret (v := .tuple #[.agg #[.int .i64 1, .int .i64 (t), .int .i64 0, .int .u64 (0)], .int .i64 ((p + 4 : Nat) : Int)]) (by simp [results, Try.results12, go_sem, *] <;> omega) rfl ⟨by (rw [HE.out]; try rfl), (S8.out.s0 _ _ _ _).b⟩
end Go.Proofs.Ythphfcheencbgaa.Draw
