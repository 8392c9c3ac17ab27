/- Walk of the reference's l2From and Walk. -/
import Derived.Test.YthphfcheencbgaaSpecPlaces
namespace Go.Proofs.Ythphfcheencbgaa.Mmu
open Go.RowKit Go.Proofs.Ythphfcheencbgaa.Base Go.Proofs.Ythphfcheencbgaa.Kinds Go.Proofs.Ythphfcheencbgaa.DecMath Go.Proofs.Ythphfcheencbgaa.L1
set_option linter.unusedVariables false
set_option linter.unusedSimpArgs false

theorem sindex_b (l p i : Int) (h : idx l p = i) (w : World) (hl : l = 1 ∨ l = 2 ∨ l = 3) (hp : 0 ≤ p) (hp' : p < 4096) : Calls Try.prog 33 #[.int .i64 p, .int .i64 l] w fun e w' => e = .returned (.int .i64 i) ∧ w = w' := by
  rw [← h]; exact l2Index_any l p w hl hp hp'
theorem sDecode_d (l x a b c : Int) (hd : dec l x = (a, b, c)) (w : World) (hx : 0 ≤ x) (hx' : x < 18446744073709551616) :
    Calls Try.prog 32 #[.int .i64 l, .int .u64 x] w fun e w' => e = .returned (.agg #[.int .i64 a, .int .i64 b, .int .i64 c]) ∧ Below w.heap.size w w' := by
  have := specDecode_any l x w hx hx'
  rw [hd] at this; exact this
theorem sframes_n (A : Option Addr) (n c : Nat) (f : Int) (hok : n % 16 = 0 ∧ 16 ≤ n ∧ n ≤ 8192) (h : ((n / 16 : Nat) : Int) = f) (w : World) (hn : n ≤ c) (hc : c ≤ 9223372036854775807) :
    Calls Try.prog 11 #[.agg #[.slice A n c]] w fun e w' => e = .returned (.int .i64 f) ∧ Below w.heap.size w w' := by
  have := l1Frames_any A n c w hn hc
  have e : framesOf n = f := by rw [← h]; unfold framesOf; split <;> first | rfl | omega
  rw [e] at this; exact this

set_option maxRecDepth 100000 in
set_option maxHeartbeats 8000000 in
theorem from_step (ws : List Int) (pg : Int) (hw : WfW ws) (hp : 0 ≤ pg ∧ pg < 4096) (n : Nat) (hn : ws.length / 16 = n) (lv : Nat) (hl1 : 1 ≤ lv) (hl3 : lv ≤ 3)
    (IH : lv ≤ 2 → ∀ (v0 : Value) (f : Int) (w : World) (q : Int × Int × Int × Int), Rd wEnc 1 w v0 ws → 0 ≤ f → f < (n : Int) → walkAt ws (n : Int) pg (3 - lv) ((lv + 1 : Nat) : Int) f = q →
      Calls Try.prog 56 #[.agg #[v0], .int .i64 pg, .int .i64 ((lv + 1 : Nat) : Int), .int .i64 f] w fun e w' => e = .returned (hitV q) ∧ Below w.heap.size w w')
    (v0 : Value) (f : Int) (w : World) (q : Int × Int × Int × Int) (r : Rd wEnc 1 w v0 ws) (hf0 : 0 ≤ f) (hf1 : f < (n : Int)) (hq : walkAt ws (n : Int) pg (4 - lv) (lv : Int) f = q) :
    Calls Try.prog 56 #[.agg #[v0], .int .i64 pg, .int .i64 (lv : Int), .int .i64 f] w fun e w' => e = .returned (hitV q) ∧ Below w.heap.size w w' := by
  obtain ⟨A0, c0, rfl, hc1, hc2⟩ := r.shape
  have R := Lib.hid r
  have HW := Lib.hid hw
  have hlen := hw.2
  obtain ⟨hp0, hp1⟩ := hp
  have HN := Lib.hid hn
  have hnb : 1 ≤ n ∧ n ≤ 512 := by omega
  obtain ⟨hnb0, hnb1⟩ := hnb
  have HLN := Lib.hid hlen
  have HR := Lib.hid hq
  have IHH := Lib.hid IH
  have hlc : (lv : Int) = 1 ∨ (lv : Int) = 2 ∨ (lv : Int) = 3 := by omega
  obtain ⟨ix, hix⟩ : ∃ ix : Nat, idx (lv : Int) pg = (ix : Int) := ⟨(idx (lv : Int) pg).toNat, by have := idx_lt (lv : Int) pg hp0; omega⟩
  have hixb := idx_lt (lv : Int) pg hp0
  rw [hix] at hixb
  obtain ⟨ad, cc, hv, _, _, hcell, hx0, hx1, hlt⟩ := wordP_at R.out HW.out f (ix : Int) ⟨hf0, by rw [HN.out]; exact hf1⟩ ⟨hixb.1, hixb.2⟩
  simp only [Value.slice.injEq] at hv
  obtain ⟨rfl, _, rfl⟩ := hv
  obtain ⟨x, hx⟩ : ∃ x, wordP ws f (ix : Int) = x := ⟨_, rfl⟩
  rw [hx] at hcell hx0 hx1
  obtain ⟨dk, dout, dpm, hdd⟩ : ∃ a b c, dec (lv : Int) x = (a, b, c) := ⟨_, _, _, rfl⟩
  have hkind := dec_kind (lv : Int) x
  have hout := dec_out (lv : Int) x
  have htab := dec_table (lv : Int) x
  rw [hdd] at hkind hout htab
  simp only at hkind hout htab
  have HSTEP : Hid (q = if dk = 0 then (0, 0, 0, 0) else if dk = 1 then (if dout < (n : Int) then walkAt ws (n : Int) pg (3 - lv) ((lv + 1 : Nat) : Int) dout else (3, 0, 0, 0)) else if dk = 2 then (1, dout + pg % 16, dpm, 16) else if dk = 3 then (1, dout, dpm, 1) else (3, 0, 0, 0)) := Lib.hid (by
    rw [← HR.out, show 4 - lv = (3 - lv) + 1 by omega, walkAt, hix]
    have hx' : ws.getD (f * 16 + (ix : Int)).toNat 0 = x := hx
    rw [hx', hdd, show ((lv + 1 : Nat) : Int) = (lv : Int) + 1 by omega])
  have HD := Lib.hid hdd
  have HIX := Lib.hid hix
  obtain ⟨t, ht⟩ : ∃ t : Nat, f * 16 + (ix : Int) = (t : Int) := ⟨(f * 16 + (ix : Int)).toNat, by omega⟩
  have htl : (t : Int) < (ws.length : Int) := by omega
  rw [ht] at hcell
  simp only [Int.toNat_natCast] at hcell
  have ef : IntKind.i64.wrap (f * 16) = f * 16 := by rw [IntKind.wrap_i64]; omega
  have ef2 : IntKind.i64.wrap (f * 16 + (ix : Int)) = (t : Int) := by rw [IntKind.wrap_i64]; omega
  have eo : IntKind.i64.wrap (dout + pg % 16) = dout + pg % 16 := by rw [IntKind.wrap_i64]; omega
  have em : Int.tmod pg 16 = pg % 16 := Int.tmod_eq_emod_of_nonneg hp0
  have el : IntKind.i64.wrap ((lv : Int) + 1) = ((lv + 1 : Nat) : Int) := by rw [IntKind.wrap_i64]; omega
  clear r hw hn hq hlen IH hx hdd hix ht
  go_enter Try.func56, Try.ntmps56
  go_upto_region 1 with fail
  refine ((St.start w).push2 _ _ _ _).gen (fun w1 S1 _ => ?_)
  have HS := Lib.hid S1
  clear S1
  have hcell2 := bC HS.out.b hcell
  have hz1 := World.block_lt_of_cell? _ _ hcell
  have hz1' := World.block_lt_of_cell? _ _ hcell2
  have hz3 : w.heap.size + 1 < w1.heap.size := HS.out.lt _ (List.mem_cons_self ..)
  have n1 : ¬ (w1.heap.size = w.heap.size) := by omega
  have n1' : ¬ (w1.heap.size = w.heap.size + 1) := by omega
  have n2 : ¬ (w1.heap.size = (ad.add t).block) := by omega
  clear hcell hz1 hz1' hz3
  have sT0 := HS.out
  have sT1 := sT0.tail
  have p1_0 := sT1.c1
  have sT2 := sT1.tail
  clear sT0 sT1 sT2
  go_wp2
  go_region_held3 (fun w' => w'.cell? ⟨w.heap.size, 0, none⟩ = some (.slice (some ad) ws.length c0) ∧ w'.cell? (ad.add t) = some (.int .u64 x))
    (first | go_keep | (with_reducible exact ⟨z0, z1⟩))
    (first
      | (go_at_call 33; refine (sindex_b (lv : Int) pg (ix : Int) HIX.out _ hlc hp0 hp1).mono ?_; rintro e w5 ⟨rfl, rfl⟩)
      | (go_at_call 32; refine (sDecode_d (lv : Int) x dk dout dpm HD.out _ hx0 hx1).mono ?_; rintro e w6 ⟨rfl, hb6⟩; first
        | (have S6 := Lib.hid ((HS.out.push _ _).drew.below hb6); have HB6 : Hid (Below w1.heap.size w1 w6) := Lib.hid (thenB (allocB (Below.refl _ _) _).drew hb6); clear hb6; have sT0 := S6.out; obtain ⟨y0_0, y0_1, y0_2⟩ := sT0.c3; have yF0_0 := sT0.f 0; have yF0_1 := sT0.f 1; have yF0_2 := sT0.f 2; have sT1 := sT0.tail; have sT2 := sT1.tail; have y2_0 := sT2.c1; have sT3 := sT2.tail; clear sT0 sT1 sT2 sT3; have z0 := y2_0; have z1 := bC HB6.out hcell2)
        | (have S6 := Lib.hid (HS.out.drew.below hb6); have HB6 : Hid (Below w1.heap.size w1 w6) := Lib.hid (thenB (below_drewN (Below.refl _ _) 1) hb6); clear hb6; have sT0 := S6.out; have sT1 := sT0.tail; have y1_0 := sT1.c1; have sT2 := sT1.tail; clear sT0 sT1 sT2; have z0 := y1_0; have z1 := bC HB6.out hcell2)))
  all_goals
    first
      | (refine st_genB (S6.out.push _ _) (allocB HB6.out _) (fun w7 S7' b7' => ?_); obtain ⟨bd, hbd⟩ : ∃ b, w6.heap.size = b := ⟨_, rfl⟩; rw [hbd] at S7' ⊢; have S7 := Lib.hid S7'; clear S7' b7' S6 HB6 hbd z0 z1 n1 n1' n2 hcell2)
      | (refine st_genB (st_set3 S6.out _ _ _) (((HB6.out.setCell (p := ⟨w1.heap.size, 0, none⟩) (Nat.le_refl _) _).setCell (p := ⟨w1.heap.size, 1, none⟩) (Nat.le_refl _) _).setCell (p := ⟨w1.heap.size, 2, none⟩) (Nat.le_refl _) _) (fun w7 S7' b7' => ?_); obtain ⟨bd, hbd⟩ : ∃ b, w1.heap.size = b := ⟨_, rfl⟩; rw [hbd] at S7' ⊢; have S7 := Lib.hid S7'; clear S7' b7' S6 HB6 hbd z0 z1 n1 n1' n2 hcell2)
  all_goals
    have sT0 := S7.out
    obtain ⟨p0_0, p0_1, p0_2⟩ := sT0.c3
    have sT1 := sT0.tail
    obtain ⟨p1_0, p1_1, p1_2, p1_3⟩ := sT1.c4
    have pF1_0 := sT1.f 0
    have pF1_1 := sT1.f 1
    have pF1_2 := sT1.f 2
    have pF1_3 := sT1.f 3
    have sT2 := sT1.tail
    have p2_0 := sT2.c1
    have sT3 := sT2.tail
    clear sT0 sT1 sT2 sT3
    by_cases k0 : dk = 0
    · have kb : (dk == 0) = true := by simpa using k0
      have HK := Lib.hid k0
      clear k0
      go_wp2
      exact bodyPost_ret (v := hitV (0, 0, 0, 0)) (by simp [results, Try.results56, go_sem, hitV, *]) rfl ⟨by rw [HSTEP.out, if_pos HK.out], (S7.out.s1 _ _ _ _).b⟩
    have kb0 : (dk == 0) = false := by simpa using k0
    by_cases k1 : dk = 1
    rotate_left
    · have kb1 : (dk == 1) = false := by simpa using k1
      have HK0 := Lib.hid k0
      have HK1 := Lib.hid k1
      clear k0 k1
      go_upto_region 4 with fail
      have hbc := S7.out
      clear p0_0 p0_1 p0_2 p1_0 p1_1 p1_2 p1_3 pF1_0 pF1_1 pF1_2 pF1_3 p2_0
      have sT0 := hbc
      obtain ⟨p0_0, p0_1, p0_2⟩ := sT0.c3
      have sT1 := sT0.tail
      have pB0_0 := BW.cell p0_0
      have pB0_1 := BW.cell p0_1
      have pB0_2 := BW.cell p0_2
      clear p0_0 p0_1 p0_2
      have sT2 := sT1.tail
      have p2_0 := sT2.c1
      have sT3 := sT2.tail
      have pB2_0 := BW.cell p2_0
      clear p2_0
      clear sT0 sT1 sT2 sT3
      clear hbc
      (refine wp_region_below (by kernel_rfl) (by kernel_rfl) ?_; (repeat (first | (go_big_quiet_step (fail)) | ((with_reducible refine wpQuiet_step ?_); intro K hK; go_simp; first | ((with_reducible refine hK _ ?_); clear hK K) | (apply Exists.intro; refine ⟨fun _ => ?_, hK _ ?_⟩; (fail); clear hK K)))); (with_reducible refine wpQuiet_nil ?_); intro wq hw'; obtain ⟨⟨wy, hbq⟩, hw''⟩ := hw'; subst hw'')
      have S8 := Lib.hid (S7.out.below hbq)
      clear hbq
      have sT0 := S8.out
      obtain ⟨p0_0, p0_1, p0_2⟩ := sT0.c3
      have sT1 := sT0.tail
      obtain ⟨p1_0, p1_1, p1_2, p1_3⟩ := sT1.c4
      have pF1_0 := sT1.f 0
      have pF1_1 := sT1.f 1
      have pF1_2 := sT1.f 2
      have pF1_3 := sT1.f 3
      have sT2 := sT1.tail
      have p2_0 := sT2.c1
      have sT3 := sT2.tail
      clear sT0 sT1 sT2 sT3
      by_cases k2 : dk = 2
      · have kb2 : (dk == 2) = true := by simpa using k2
        have HK := Lib.hid k2
        clear k2
        go_wp2
        exact bodyPost_ret (v := hitV (1, dout + pg % 16, dpm, 16)) (by simp [results, Try.results56, go_sem, hitV, *]) rfl ⟨by rw [HSTEP.out, if_neg HK0.out, if_neg HK1.out, if_pos HK.out], (S8.out.s1 _ _ _ _).b⟩
      have kb2 : (dk == 2) = false := by simpa using k2
      have HK2 := Lib.hid k2
      clear k2
      by_cases k3 : dk = 3
      · have kb3 : (dk == 3) = true := by simpa using k3
        have HK := Lib.hid k3
        clear k3
        go_wp2
        exact bodyPost_ret (v := hitV (1, dout, dpm, 1)) (by simp [results, Try.results56, go_sem, hitV, *]) rfl ⟨by rw [HSTEP.out, if_neg HK0.out, if_neg HK1.out, if_neg HK2.out, if_pos HK.out], (S8.out.s1 _ _ _ _).b⟩
      · have kb3 : (dk == 3) = false := by simpa using k3
        have HK3 := Lib.hid k3
        clear k3
        go_wp2
        exact bodyPost_ret (v := hitV (3, 0, 0, 0)) (by simp [results, Try.results56, go_sem, hitV, *]) rfl ⟨by rw [HSTEP.out, if_neg HK0.out, if_neg HK1.out, if_neg HK2.out, if_neg HK3.out], (S8.out.s1 _ _ _ _).b⟩
    · subst k1
      have hl2 : lv ≤ 2 := by have := htab rfl; omega
      have hl2' : (lv : Int) < 3 := by omega
      have hl2d : decide ((lv : Int) < 3) = true := decide_eq_true hl2'
      have HL2 := Lib.hid hl2
      clear k0
      by_cases kd : dout < (n : Int)
      · have kd' : decide (dout < (n : Int)) = true := decide_eq_true kd
        have HKD := Lib.hid kd
        go_upto_region 4 with fail
        have hbc := S7.out
        clear p0_0 p0_1 p0_2 p1_0 p1_1 p1_2 p1_3 pF1_0 pF1_1 pF1_2 pF1_3 p2_0
        have sT0 := hbc
        obtain ⟨p0_0, p0_1, p0_2⟩ := sT0.c3
        have sT1 := sT0.tail
        have pB0_0 := BW.cell p0_0
        have pB0_1 := BW.cell p0_1
        have pB0_2 := BW.cell p0_2
        clear p0_0 p0_1 p0_2
        have sT2 := sT1.tail
        have p2_0 := sT2.c1
        have sT3 := sT2.tail
        have pB2_0 := BW.cell p2_0
        clear p2_0
        clear sT0 sT1 sT2 sT3
        clear hbc
        (refine wp_region_below (by kernel_rfl) (by kernel_rfl) ?_; (repeat (first | (go_big_quiet_step (first | (go_at_call 11; exact BW.calls (sframes_n (some ad) ws.length c0 (n : Int) HLN.out (by rw [HN.out]) _ hc1 hc2)))) | ((with_reducible refine wpQuiet_step ?_); intro K hK; go_simp; first | ((with_reducible refine hK _ ?_); clear hK K) | (apply Exists.intro; refine ⟨fun _ => ?_, hK _ ?_⟩; (first | (go_at_call 11; exact BW.calls (sframes_n (some ad) ws.length c0 (n : Int) HLN.out (by rw [HN.out]) _ hc1 hc2))); clear hK K)))); (with_reducible refine wpQuiet_nil ?_); intro wq hw'; obtain ⟨⟨wy, hbq⟩, hw''⟩ := hw'; subst hw'')
        have S8 := Lib.hid (S7.out.below hbq)
        clear hbq
        have sT0 := S8.out
        obtain ⟨p0_0, p0_1, p0_2⟩ := sT0.c3
        have sT1 := sT0.tail
        obtain ⟨p1_0, p1_1, p1_2, p1_3⟩ := sT1.c4
        have pF1_0 := sT1.f 0
        have pF1_1 := sT1.f 1
        have pF1_2 := sT1.f 2
        have pF1_3 := sT1.f 3
        have sT2 := sT1.tail
        have p2_0 := sT2.c1
        have sT3 := sT2.tail
        clear sT0 sT1 sT2 sT3
        go_wp2_with (go_at_call 56; refine (IHH.out HL2.out (.slice (some ad) ws.length c0) dout _ q (R.out.below S8.out.b) hout.1 HKD.out (by rw [HSTEP.out, if_neg (by decide), if_pos rfl, if_pos HKD.out])).mono ?_; rintro e w9 ⟨rfl, hb9⟩; have S9 := Lib.hid (S8.out.below hb9); clear hb9; unfold hitV; have sT0 := S9.out; obtain ⟨y0_0, y0_1, y0_2⟩ := sT0.c3; have sT1 := sT0.tail; obtain ⟨y1_0, y1_1, y1_2, y1_3⟩ := sT1.c4; have yF1_0 := sT1.f 0; have yF1_1 := sT1.f 1; have yF1_2 := sT1.f 2; have yF1_3 := sT1.f 3; have sT2 := sT1.tail; have y2_0 := sT2.c1; have sT3 := sT2.tail; clear sT0 sT1 sT2 sT3)
        exact bodyPost_ret (v := hitV q) (by simp [results, Try.results56, go_sem, hitV, *]) rfl ⟨rfl, (S9.out.s1 _ _ _ _).b⟩
      · have kd' : decide (dout < (n : Int)) = false := decide_eq_false kd
        have HBAD : Hid (q = (3, 0, 0, 0)) := Lib.hid (by rw [HSTEP.out, if_neg (by decide), if_pos rfl, if_neg kd])
        have HKD := Lib.hid kd
        have k2f : ((1 : Int) == 2) = false := rfl
        have k3f : ((1 : Int) == 3) = false := rfl
        go_upto_region 4 with fail
        have hbc := S7.out
        clear p0_0 p0_1 p0_2 p1_0 p1_1 p1_2 p1_3 pF1_0 pF1_1 pF1_2 pF1_3 p2_0
        have sT0 := hbc
        obtain ⟨p0_0, p0_1, p0_2⟩ := sT0.c3
        have sT1 := sT0.tail
        have pB0_0 := BW.cell p0_0
        have pB0_1 := BW.cell p0_1
        have pB0_2 := BW.cell p0_2
        clear p0_0 p0_1 p0_2
        have sT2 := sT1.tail
        have p2_0 := sT2.c1
        have sT3 := sT2.tail
        have pB2_0 := BW.cell p2_0
        clear p2_0
        clear sT0 sT1 sT2 sT3
        clear hbc
        (refine wp_region_below (by kernel_rfl) (by kernel_rfl) ?_; (repeat (first | (go_big_quiet_step (first | (go_at_call 11; exact BW.calls (sframes_n (some ad) ws.length c0 (n : Int) HLN.out (by rw [HN.out]) _ hc1 hc2)))) | ((with_reducible refine wpQuiet_step ?_); intro K hK; go_simp; first | ((with_reducible refine hK _ ?_); clear hK K) | (apply Exists.intro; refine ⟨fun _ => ?_, hK _ ?_⟩; (first | (go_at_call 11; exact BW.calls (sframes_n (some ad) ws.length c0 (n : Int) HLN.out (by rw [HN.out]) _ hc1 hc2))); clear hK K)))); (with_reducible refine wpQuiet_nil ?_); intro wq hw'; obtain ⟨⟨wy, hbq⟩, hw''⟩ := hw'; subst hw'')
        have S8 := Lib.hid (S7.out.below hbq)
        clear hbq
        have sT0 := S8.out
        obtain ⟨p0_0, p0_1, p0_2⟩ := sT0.c3
        have sT1 := sT0.tail
        obtain ⟨p1_0, p1_1, p1_2, p1_3⟩ := sT1.c4
        have pF1_0 := sT1.f 0
        have pF1_1 := sT1.f 1
        have pF1_2 := sT1.f 2
        have pF1_3 := sT1.f 3
        have sT2 := sT1.tail
        have p2_0 := sT2.c1
        have sT3 := sT2.tail
        clear sT0 sT1 sT2 sT3
        go_wp2
        exact bodyPost_ret (v := hitV (3, 0, 0, 0)) (by simp [results, Try.results56, go_sem, hitV, *]) rfl ⟨by rw [HBAD.out], (S8.out.s1 _ _ _ _).b⟩
theorem from_any (ws : List Int) (pg : Int) (hw : WfW ws) (hp : 0 ≤ pg ∧ pg < 4096) (v0 : Value) (w : World) (r : Rd wEnc 1 w v0 ws) (q : Int × Int × Int × Int) (hq : walkAt ws ((ws.length / 16 : Nat) : Int) pg 3 1 0 = q) :
    Calls Try.prog 56 #[.agg #[v0], .int .i64 pg, .int .i64 1, .int .i64 0] w fun e w' => e = .returned (hitV q) ∧ Below w.heap.size w w' := by
  have hl := hw.2
  refine from_step ws pg hw hp (ws.length / 16) rfl 1 (by omega) (by omega) (fun _ v1 f1 w1 q1 r1 a1 b1 e1 => ?_) v0 0 w q r (by omega) (by omega) hq
  refine from_step ws pg hw hp (ws.length / 16) rfl 2 (by omega) (by omega) (fun _ v2 f2 w2 q2 r2 a2 b2 e2 => ?_) v1 f1 w1 q1 r1 a1 b1 e1
  exact from_step ws pg hw hp (ws.length / 16) rfl 3 (by omega) (by omega) (fun h => absurd h (by omega)) v2 f2 w2 q2 r2 a2 b2 e2

set_option maxRecDepth 100000 in
set_option maxHeartbeats 8000000 in
/-- The reference's Walk of a valid memory at a page. -/
theorem specWalk1_any (v0 : Value) (ws : List Int) (pg : Int) (w : World) (r : Rd wEnc 1 w v0 ws) (hw : WfW ws) (hp : 0 ≤ pg ∧ pg < 4096) (q : Int × Int × Int × Int) (hq : walkAt ws ((ws.length / 16 : Nat) : Int) pg 3 1 0 = q) :
    Calls Try.prog 49 #[.agg #[v0], .int .i64 pg] w fun e w' => e = .returned (hitV q) ∧ Below w.heap.size w w' := by
  obtain ⟨A0, c0, rfl, hc1, hc2⟩ := r.shape
  have R := Lib.hid r
  have HW := Lib.hid hw
  have HP := Lib.hid hp
  have HPB : Hid (decide (0 ≤ pg ∧ pg < 4096) = true) := Lib.hid (decide_eq_true hp)
  have HQ := Lib.hid hq
  obtain ⟨n, hn⟩ : ∃ n, ws.length / 16 = n := ⟨_, rfl⟩
  have hnz : ((n : Int) == 0) = false := by have := hw.2; simp; omega
  have hnz' : (n == 0) = false := by have := hw.2; simp; omega
  have HN := Lib.hid hn
  clear r hw hp hq hn
  go_enter Try.func49, Try.ntmps49
  go_upto_region 1 with fail
  refine ((St.start w).push2 _ _ _ _).gen (fun w1 S1 _ => ?_)
  have HS1 := Lib.hid S1
  clear S1
  have sT0 := HS1.out
  have sT1 := sT0.tail
  have z1_0 := sT1.c1
  have sT2 := sT1.tail
  clear sT0 sT1 sT2
  go_upto_region 3 with (first
    | (go_at_call 11; refine (sframes_n A0 ws.length c0 (n : Int) HW.out.2 (by rw [HN.out]) _ hc1 hc2).mono ?_; rintro e w2 ⟨rfl, hb2⟩; have HS2 := Lib.hid (HS1.out.below hb2); clear hb2)
    | (go_at_call 54; refine (pageOk_b pg true HPB.out _).mono ?_; rintro e w' ⟨rfl, rfl⟩))
  clear z1_0
  have sT0 := HS2.out
  have sT1 := sT0.tail
  have z1_0 := sT1.c1
  have sT2 := sT1.tail
  clear sT0 sT1 sT2
  go_wp2_with (go_at_call 56; refine (from_any ws pg HW.out HP.out (.slice A0 ws.length c0) _ (R.out.below HS2.out.b) q HQ.out).mono ?_; rintro e w3 ⟨rfl, hb3⟩; unfold hitV; have HS3 := Lib.hid (HS2.out.below hb3); clear hb3; have sT0 := HS3.out; obtain ⟨y0_0, y0_1, y0_2, y0_3⟩ := sT0.c4; have yF0_0 := sT0.f 0; have yF0_1 := sT0.f 1; have yF0_2 := sT0.f 2; have yF0_3 := sT0.f 3; have sT1 := sT0.tail; clear sT0 sT1)
  exact bodyPost_ret (v := hitV q) (by simp [results, Try.results49, go_sem, hitV, *]) rfl ⟨rfl, (HS3.out.s0 _ _ _ _).b⟩
end Go.Proofs.Ythphfcheencbgaa.Mmu
