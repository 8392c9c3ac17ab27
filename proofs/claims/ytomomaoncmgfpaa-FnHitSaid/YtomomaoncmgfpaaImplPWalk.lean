/- Walk of the program's (Mem).walk and Walk. -/
import Derived.Test.YtomomaoncmgfpaaSpecPlaces
namespace Go.Proofs.Ytomomaoncmgfpaa.Mmu
open Go.RowKit Go.Proofs.Ytomomaoncmgfpaa.Base Go.Proofs.Ytomomaoncmgfpaa.Kinds Go.Proofs.Ytomomaoncmgfpaa.DecMath Go.Proofs.Ytomomaoncmgfpaa.L1
set_option linter.unusedVariables false
set_option linter.unusedSimpArgs false

theorem index_b (l p i : Int) (h : idx l p = i) (w : World) (hl : l = 1 ∨ l = 2 ∨ l = 3) (hp : 0 ≤ p) (hp' : p < 4096) : Calls Try.prog 47 #[.int .i64 l, .int .i64 p] w fun e w' => e = .returned (.int .i64 i) ∧ w = w' := by
  rw [← h]; exact index_any l p w hl hp hp'
theorem implDecode_d (l x a b c : Int) (hd : dec l x = (a, b, c)) (w : World) (hx : 0 ≤ x) (hx' : x < 18446744073709551616) :
    Calls Try.prog 46 #[.int .i64 l, .int .u64 x] w fun e w' => e = .returned (.agg #[.int .i64 a, .int .i64 b, .int .i64 c]) ∧ Below w.heap.size w w' := by
  have := implDecode_any l x w hx hx'
  rw [hd] at this; exact this
theorem frames_n (A : Option Addr) (n c : Nat) (f : Int) (h : ((n / 16 : Nat) : Int) = f) (w : World) (hn : n ≤ c) (hc : c ≤ 9223372036854775807) :
    Calls Try.prog 48 #[.agg #[.slice A n c]] w fun e w' => e = .returned (.int .i64 f) ∧ Below w.heap.size w w' := by
  rw [← h]; exact frames_any A n c w hn hc
def hitV (r : Int × Int × Int × Int) : Value := .agg #[.int .i64 r.1, .int .i64 r.2.1, .int .i64 r.2.2.1, .int .i64 r.2.2.2]

set_option maxRecDepth 100000 in
set_option maxHeartbeats 8000000 in
theorem memWalk_any (v0 : Value) (ws : List Int) (pg : Int) (w : World) (r : Rd wEnc 1 w v0 ws) (hw : WfW ws) (hp : 0 ≤ pg ∧ pg < 4096) :
    Calls Try.prog 24 #[.agg #[v0], .int .i64 pg] w fun e w' => e = .returned (hitV (walkAt ws ((ws.length / 16 : Nat) : Int) pg 3 1 0)) ∧ Below w.heap.size w w' := by
  obtain ⟨A0, c0, rfl, hc1, hc2⟩ := r.shape
  have R := Lib.hid r
  have HW := Lib.hid hw
  have hlen := hw.2
  obtain ⟨hp0, hp1⟩ := hp
  obtain ⟨q, hq⟩ : ∃ q, walkAt ws ((ws.length / 16 : Nat) : Int) pg 3 1 0 = q := ⟨_, rfl⟩
  rw [hq]
  obtain ⟨n, hn⟩ : ∃ n, ws.length / 16 = n := ⟨_, rfl⟩
  rw [hn] at hq
  have HN := Lib.hid hn
  have HQ := Lib.hid hq
  have hnb : 1 ≤ n ∧ n ≤ 512 := by omega
  obtain ⟨hnb0, hnb1⟩ := hnb
  have HLN := Lib.hid hlen
  clear r hw hn hq hlen
  go_enter Try.func24, Try.ntmps24
  go_upto_region 1 with fail
  refine ((St.start w).push2 _ _ _ _).gen (fun w1 S1 _ => ?_)
  have HS1 := Lib.hid S1
  clear S1
  go_wp2
  go_loopw [5, 6] (fun vf vl wr => ∃ (lv : Nat) (f : Int), vl = .int .i64 (lv : Int) ∧ vf = .int .i64 f ∧ 1 ≤ lv ∧ lv ≤ 3 ∧ 0 ≤ f ∧ f < (n : Int) ∧ Hid (walkAt ws (n : Int) pg (4 - lv) (lv : Int) f = q) ∧ Hid (St w [(w.heap.size + 1, #[.int .i64 0, .int .i64 0, .int .i64 0, .int .i64 0], 32), (w.heap.size, #[.slice A0 ws.length c0], 25)] wr)) (fun _ l _ => 4 - (intOf l).toNat)
  case atStart => exact ⟨1, 0, rfl, rfl, by omega, by omega, by omega, by omega, HQ, HS1⟩
  case round =>
    obtain ⟨lv, f, rfl, rfl, hl1, hl3, hf0, hf1, HR, HS⟩ := hrel
    have hlc : (lv : Int) = 1 ∨ (lv : Int) = 2 ∨ (lv : Int) = 3 := by omega
    obtain ⟨ix, hix⟩ : ∃ ix : Nat, idx (lv : Int) pg = (ix : Int) := ⟨(idx (lv : Int) pg).toNat, by have := idx_lt (lv : Int) pg hp0; omega⟩
    have hixb := idx_lt (lv : Int) pg hp0
    rw [hix] at hixb
    obtain ⟨ad, cc, hv, _, _, hcell, hx0, hx1, hlt⟩ := wordP_at R.out HW.out f (ix : Int) ⟨hf0, by rw [HN.out]; exact hf1⟩ ⟨hixb.1, hixb.2⟩
    simp only [Value.slice.injEq] at hv
    obtain ⟨rfl, _, rfl⟩ := hv
    obtain ⟨x, hx⟩ : ∃ x, wordP ws f (ix : Int) = x := ⟨_, rfl⟩
    rw [hx] at hcell hx0 hx1
    obtain ⟨dk, dout, dpm, hdd⟩ : ∃ a b c, dec (lv : Int) x = (a, b, c) := ⟨_, _, _, rfl⟩
    have hkind := dec_kind (lv : Int) x
    have hout := dec_out (lv : Int) x
    have htab := dec_table (lv : Int) x
    rw [hdd] at hkind hout htab
    simp only at hkind hout htab
    have HSTEP : Hid (q = if dk = 0 then (0, 0, 0, 0) else if dk = 1 then (if dout < (n : Int) then walkAt ws (n : Int) pg (3 - lv) ((lv + 1 : Nat) : Int) dout else (3, 0, 0, 0)) else if dk = 2 then (1, dout + pg % 16, dpm, 16) else if dk = 3 then (1, dout, dpm, 1) else (3, 0, 0, 0)) := Lib.hid (by
      rw [← HR.out, show 4 - lv = (3 - lv) + 1 by omega, walkAt, hix]
      have hx' : ws.getD (f * 16 + (ix : Int)).toNat 0 = x := hx
      rw [hx', hdd, show ((lv + 1 : Nat) : Int) = (lv : Int) + 1 by omega])
    have HD := Lib.hid hdd
    have HIX := Lib.hid hix
    obtain ⟨t, ht⟩ : ∃ t : Nat, f * 16 + (ix : Int) = (t : Int) := ⟨(f * 16 + (ix : Int)).toNat, by omega⟩
    have htl : (t : Int) < (ws.length : Int) := by omega
    rw [ht] at hcell
    simp only [Int.toNat_natCast] at hcell
    have ef : IntKind.i64.wrap (f * 16) = f * 16 := by rw [IntKind.wrap_i64]; omega
    have ef2 : IntKind.i64.wrap (f * 16 + (ix : Int)) = (t : Int) := by rw [IntKind.wrap_i64]; omega
    have eo : IntKind.i64.wrap (dout + pg % 16) = dout + pg % 16 := by rw [IntKind.wrap_i64]; omega
    have em : Int.tmod pg 16 = pg % 16 := Int.tmod_eq_emod_of_nonneg hp0
    have hcell2 := bC HS.out.b hcell
    have hz1 := World.block_lt_of_cell? _ _ hcell
    have hz3 : w.heap.size + 1 < wr.heap.size := HS.out.lt _ (List.mem_cons_self ..)
    have n1 : ¬ (wr.heap.size = w.heap.size) := by omega
    have n1' : ¬ (wr.heap.size = w.heap.size + 1) := by omega
    have n2 : ¬ (wr.heap.size = (ad.add t).block) := by omega
    clear hx hdd hix ht hcell hz1 hz3
    have sT0 := HS.out
    have sT1 := sT0.tail
    have p1_0 := sT1.c1
    have sT2 := sT1.tail
    clear sT0 sT1 sT2
    go_wp2
    go_region_held3 (fun w' => w'.cell? ⟨w.heap.size, 0, none⟩ = some (.slice (some ad) ws.length c0) ∧ w'.cell? (ad.add t) = some (.int .u64 x))
      (first | go_keep | (with_reducible exact ⟨z0, z1⟩))
      (first
        | (go_at_call 47; refine (index_b (lv : Int) pg (ix : Int) HIX.out _ hlc hp0 hp1).mono ?_; rintro e w5 ⟨rfl, rfl⟩)
        | (go_at_call 46; refine (implDecode_d (lv : Int) x dk dout dpm HD.out _ hx0 hx1).mono ?_; rintro e w6 ⟨rfl, hb6⟩; first
          | (have S6 := Lib.hid ((HS.out.push _ _).drew.below hb6); have HB6 : Hid (Below wr.heap.size wr w6) := Lib.hid (thenB (allocB (Below.refl _ _) _).drew hb6); clear hb6; have sT0 := S6.out; obtain ⟨y0_0, y0_1, y0_2⟩ := sT0.c3; have yF0_0 := sT0.f 0; have yF0_1 := sT0.f 1; have yF0_2 := sT0.f 2; have sT1 := sT0.tail; have sT2 := sT1.tail; have y2_0 := sT2.c1; have sT3 := sT2.tail; clear sT0 sT1 sT2 sT3; have z0 := y2_0; have z1 := bC HB6.out hcell2)
          | (have S6 := Lib.hid (HS.out.drew.below hb6); have HB6 : Hid (Below wr.heap.size wr w6) := Lib.hid (thenB (below_drewN (Below.refl _ _) 1) hb6); clear hb6; have sT0 := S6.out; have sT1 := sT0.tail; have y1_0 := sT1.c1; have sT2 := sT1.tail; clear sT0 sT1 sT2; have z0 := y1_0; have z1 := bC HB6.out hcell2)))
    all_goals
      first
        | (refine st_genB (S6.out.push _ _) (allocB HB6.out _) (fun w7 S7' b7' => ?_); obtain ⟨bd, hbd⟩ : ∃ b, w6.heap.size = b := ⟨_, rfl⟩; rw [hbd] at S7' ⊢; have S7 := Lib.hid S7'; clear S7' b7' S6 HB6 hbd z0 z1 n1 n1' n2 hcell2)
        | (refine st_genB (st_set3 S6.out _ _ _) (((HB6.out.setCell (p := ⟨wr.heap.size, 0, none⟩) (Nat.le_refl _) _).setCell (p := ⟨wr.heap.size, 1, none⟩) (Nat.le_refl _) _).setCell (p := ⟨wr.heap.size, 2, none⟩) (Nat.le_refl _) _) (fun w7 S7' b7' => ?_); obtain ⟨bd, hbd⟩ : ∃ b, wr.heap.size = b := ⟨_, rfl⟩; rw [hbd] at S7' ⊢; have S7 := Lib.hid S7'; clear S7' b7' S6 HB6 hbd z0 z1 n1 n1' n2 hcell2)
    all_goals
      have sT0 := S7.out
      obtain ⟨p0_0, p0_1, p0_2⟩ := sT0.c3
      have sT1 := sT0.tail
      obtain ⟨p1_0, p1_1, p1_2, p1_3⟩ := sT1.c4
      have pF1_0 := sT1.f 0
      have pF1_1 := sT1.f 1
      have pF1_2 := sT1.f 2
      have pF1_3 := sT1.f 3
      have sT2 := sT1.tail
      have p2_0 := sT2.c1
      have sT3 := sT2.tail
      clear sT0 sT1 sT2 sT3
      by_cases k0 : dk = 0
      · have kb : (dk == 0) = true := by simpa using k0
        have HK := Lib.hid k0
        clear k0
        go_wp2
        exact bodyPost_ret (v := hitV (0, 0, 0, 0)) (by simp [results, Try.results24, go_sem, hitV, *]) rfl ⟨by rw [HSTEP.out, if_pos HK.out], (S7.out.s1 _ _ _ _).b⟩
      have kb0 : (dk == 0) = false := by simpa using k0
      by_cases k2 : dk = 2
      · have kb : (dk == 2) = true := by simpa using k2
        have HK := Lib.hid k2
        have HK0 : Hid (¬ dk = 0) := Lib.hid (by omega)
        have HK1 : Hid (¬ dk = 1) := Lib.hid (by omega)
        clear k2 k0
        go_wp2
        exact bodyPost_ret (v := hitV (1, dout + pg % 16, dpm, 16)) (by simp [results, Try.results24, go_sem, hitV, *]) rfl ⟨by rw [HSTEP.out, if_neg HK0.out, if_neg HK1.out, if_pos HK.out], (S7.out.s1 _ _ _ _).b⟩
      have kb2 : (dk == 2) = false := by simpa using k2
      by_cases k3 : dk = 3
      · have kb : (dk == 3) = true := by simpa using k3
        have HK := Lib.hid k3
        have HK0 : Hid (¬ dk = 0) := Lib.hid (by omega)
        have HK1 : Hid (¬ dk = 1) := Lib.hid (by omega)
        have HK2 : Hid (¬ dk = 2) := Lib.hid (by omega)
        clear k3 k2 k0
        go_wp2
        exact bodyPost_ret (v := hitV (1, dout, dpm, 1)) (by simp [results, Try.results24, go_sem, hitV, *]) rfl ⟨by rw [HSTEP.out, if_neg HK0.out, if_neg HK1.out, if_neg HK2.out, if_pos HK.out], (S7.out.s1 _ _ _ _).b⟩
      have kb3 : (dk == 3) = false := by simpa using k3
      by_cases k1 : dk = 1 ∧ dout < (n : Int)
      · obtain ⟨k1, kd⟩ := k1
        subst k1
        have HK2 : Hid (dout < (n : Int)) := Lib.hid kd
        have kb4 : ((1 : Int) == 4) = false := rfl
        have kd' : decide ((n : Int) ≤ dout) = false := by simp; omega
        have kd2 : ¬ (n : Int) ≤ dout := by omega
        go_upto_region 12 with fail
        have hbc := S7.out
        clear p0_0 p0_1 p0_2 p1_0 p1_1 p1_2 p1_3 pF1_0 pF1_1 pF1_2 pF1_3 p2_0
        have sT0 := hbc
        obtain ⟨p0_0, p0_1, p0_2⟩ := sT0.c3
        have sT1 := sT0.tail
        have pB0_0 := BW.cell p0_0
        have pB0_1 := BW.cell p0_1
        have pB0_2 := BW.cell p0_2
        clear p0_0 p0_1 p0_2
        have sT2 := sT1.tail
        have p2_0 := sT2.c1
        have sT3 := sT2.tail
        have pB2_0 := BW.cell p2_0
        clear p2_0
        clear sT0 sT1 sT2 sT3
        clear hbc
        (refine wp_region_below (by kernel_rfl) (by kernel_rfl) ?_; (repeat (first | (go_big_quiet_step (first | (go_at_call 48; exact BW.calls (frames_n (some ad) ws.length c0 (n : Int) (by rw [HN.out]) _ hc1 hc2)))) | ((with_reducible refine wpQuiet_step ?_); intro K hK; go_simp; first | ((with_reducible refine hK _ ?_); clear hK K) | (apply Exists.intro; refine ⟨fun _ => ?_, hK _ ?_⟩; (first | (go_at_call 48; exact BW.calls (frames_n (some ad) ws.length c0 (n : Int) (by rw [HN.out]) _ hc1 hc2))); clear hK K)))); (with_reducible refine wpQuiet_nil ?_); intro wq hw'; obtain ⟨⟨wy, hbq⟩, hw''⟩ := hw'; subst hw'')
        have S8 := Lib.hid (S7.out.below hbq)
        have sT0 := S8.out
        obtain ⟨p0_0, p0_1, p0_2⟩ := sT0.c3
        have sT1 := sT0.tail
        have sT2 := sT1.tail
        have sT3 := sT2.tail
        clear sT0 sT1 sT2 sT3
        go_wp2
        go_roundw
        case rel => exact ⟨lv + 1, dout, by go_num, rfl, by omega, by have := htab rfl; omega, by omega, HK2.out, Lib.hid (by rw [HSTEP.out, if_neg (by decide), if_pos rfl, if_pos HK2.out, show 4 - (lv + 1) = 3 - lv by omega]), Lib.hid S8.out.tail⟩
        case measure => simp [intOf]; omega
      · have hbad : Hid (q = (3, 0, 0, 0)) := Lib.hid (by
          rw [HSTEP.out, if_neg k0]
          by_cases e : dk = 1
          · rw [if_pos e, if_neg (fun h => k1 ⟨e, h⟩)]
          · rw [if_neg e, if_neg k2, if_neg k3])
        have hcase : dk = 4 ∨ (dk = 1 ∧ ¬ dout < (n : Int)) := by
          by_cases e : dk = 1
          · exact Or.inr ⟨e, fun h => k1 ⟨e, h⟩⟩
          · exact Or.inl (by omega)
        clear k1 HSTEP
        rcases hcase with k4 | ⟨k4, kd⟩
        · subst k4
          go_upto_region 12 with fail
          have hbc := S7.out
          clear p0_0 p0_1 p0_2 p1_0 p1_1 p1_2 p1_3 pF1_0 pF1_1 pF1_2 pF1_3 p2_0
          have sT0 := hbc
          obtain ⟨p0_0, p0_1, p0_2⟩ := sT0.c3
          have sT1 := sT0.tail
          have pB0_0 := BW.cell p0_0
          have pB0_1 := BW.cell p0_1
          have pB0_2 := BW.cell p0_2
          clear p0_0 p0_1 p0_2
          have sT2 := sT1.tail
          have p2_0 := sT2.c1
          have sT3 := sT2.tail
          have pB2_0 := BW.cell p2_0
          clear p2_0
          clear sT0 sT1 sT2 sT3
          clear hbc
          (refine wp_region_below (by kernel_rfl) (by kernel_rfl) ?_; (repeat (first | (go_big_quiet_step (fail)) | ((with_reducible refine wpQuiet_step ?_); intro K hK; go_simp; first | ((with_reducible refine hK _ ?_); clear hK K) | (apply Exists.intro; refine ⟨fun _ => ?_, hK _ ?_⟩; (fail); clear hK K)))); (with_reducible refine wpQuiet_nil ?_); intro wq hw'; obtain ⟨⟨wy, hbq⟩, hw''⟩ := hw'; subst hw'')
          have S8 := Lib.hid (S7.out.below hbq)
          have sT0 := S8.out
          obtain ⟨p0_0, p0_1, p0_2⟩ := sT0.c3
          have sT1 := sT0.tail
          obtain ⟨p1_0, p1_1, p1_2, p1_3⟩ := sT1.c4
          have pF1_0 := sT1.f 0
          have pF1_1 := sT1.f 1
          have pF1_2 := sT1.f 2
          have pF1_3 := sT1.f 3
          have sT2 := sT1.tail
          have sT3 := sT2.tail
          clear sT0 sT1 sT2 sT3
          go_wp2
          exact bodyPost_ret (v := hitV (3, 0, 0, 0)) (by simp [results, Try.results24, go_sem, hitV, *]) rfl ⟨by rw [hbad.out], (S8.out.s1 _ _ _ _).b⟩
        · subst k4
          have kb4 : ((1 : Int) == 4) = false := rfl
          have kd' : decide ((n : Int) ≤ dout) = true := by simp; omega
          have kd2 : (n : Int) ≤ dout := by omega
          go_upto_region 12 with fail
          have hbc := S7.out
          clear p0_0 p0_1 p0_2 p1_0 p1_1 p1_2 p1_3 pF1_0 pF1_1 pF1_2 pF1_3 p2_0
          have sT0 := hbc
          obtain ⟨p0_0, p0_1, p0_2⟩ := sT0.c3
          have sT1 := sT0.tail
          have pB0_0 := BW.cell p0_0
          have pB0_1 := BW.cell p0_1
          have pB0_2 := BW.cell p0_2
          clear p0_0 p0_1 p0_2
          have sT2 := sT1.tail
          have p2_0 := sT2.c1
          have sT3 := sT2.tail
          have pB2_0 := BW.cell p2_0
          clear p2_0
          clear sT0 sT1 sT2 sT3
          clear hbc
          (refine wp_region_below (by kernel_rfl) (by kernel_rfl) ?_; (repeat (first | (go_big_quiet_step (first | (go_at_call 48; exact BW.calls (frames_n (some ad) ws.length c0 (n : Int) (by rw [HN.out]) _ hc1 hc2)))) | ((with_reducible refine wpQuiet_step ?_); intro K hK; go_simp; first | ((with_reducible refine hK _ ?_); clear hK K) | (apply Exists.intro; refine ⟨fun _ => ?_, hK _ ?_⟩; (first | (go_at_call 48; exact BW.calls (frames_n (some ad) ws.length c0 (n : Int) (by rw [HN.out]) _ hc1 hc2))); clear hK K)))); (with_reducible refine wpQuiet_nil ?_); intro wq hw'; obtain ⟨⟨wy, hbq⟩, hw''⟩ := hw'; subst hw'')
          have S8 := Lib.hid (S7.out.below hbq)
          have sT0 := S8.out
          obtain ⟨p0_0, p0_1, p0_2⟩ := sT0.c3
          have sT1 := sT0.tail
          obtain ⟨p1_0, p1_1, p1_2, p1_3⟩ := sT1.c4
          have pF1_0 := sT1.f 0
          have pF1_1 := sT1.f 1
          have pF1_2 := sT1.f 2
          have pF1_3 := sT1.f 3
          have sT2 := sT1.tail
          have sT3 := sT2.tail
          clear sT0 sT1 sT2 sT3
          go_wp2
          exact bodyPost_ret (v := hitV (3, 0, 0, 0)) (by simp [results, Try.results24, go_sem, hitV, *]) rfl ⟨by rw [hbad.out], (S8.out.s1 _ _ _ _).b⟩

theorem memOK_n (A : Option Addr) (n c : Nat) (b : Bool) (h : decide (n % 16 = 0 ∧ 16 ≤ n ∧ n ≤ 8192) = b) (w : World) (hn : n ≤ c) (hc : c ≤ 9223372036854775807) :
    Calls Try.prog 20 #[.agg #[.slice A n c]] w fun e w' => e = .returned (.bool b) ∧ Below w.heap.size w w' := by
  rw [← h]; exact memOK_any A n c w hn hc
theorem pageOK_n (p : Int) (b : Bool) (h : decide (0 ≤ p ∧ p < 4096) = b) (w : World) : Calls Try.prog 23 #[.int .i64 p] w fun e w' => e = .returned (.bool b) ∧ w' = w :=
  (pageOK_any p w).mono (by rintro e w' ⟨rfl, rfl⟩; exact ⟨by rw [h], rfl⟩)

set_option maxRecDepth 100000 in
set_option maxHeartbeats 8000000 in
/-- Walk of a valid memory at a page. -/
theorem implWalk1_any (v0 : Value) (ws : List Int) (pg : Int) (w : World) (r : Rd wEnc 1 w v0 ws) (hw : WfW ws) (hp : 0 ≤ pg ∧ pg < 4096) :
    Calls Try.prog 9 #[.agg #[v0], .int .i64 pg] w fun e w' => e = .returned (hitV (walkAt ws ((ws.length / 16 : Nat) : Int) pg 3 1 0)) ∧ Below w.heap.size w w' := by
  obtain ⟨A0, c0, rfl, hc1, hc2⟩ := r.shape
  have R := Lib.hid r
  have HW := Lib.hid hw
  have HP := Lib.hid hp
  have HB : Hid (decide (ws.length % 16 = 0 ∧ 16 ≤ ws.length ∧ ws.length ≤ 8192) = true) := Lib.hid (decide_eq_true hw.2)
  have HPB : Hid (decide (0 ≤ pg ∧ pg < 4096) = true) := Lib.hid (decide_eq_true hp)
  obtain ⟨q, hq⟩ : ∃ q, walkAt ws ((ws.length / 16 : Nat) : Int) pg 3 1 0 = q := ⟨_, rfl⟩
  rw [hq]
  have HQ := Lib.hid hq
  clear r hw hp hq
  go_enter Try.func9, Try.ntmps9
  go_upto_region 1 with fail
  refine ((St.start w).push2 _ _ _ _).gen (fun w1 S1 _ => ?_)
  have HS1 := Lib.hid S1
  clear S1
  have sT0 := HS1.out
  have sT1 := sT0.tail
  have z1_0 := sT1.c1
  have sT2 := sT1.tail
  clear sT0 sT1 sT2
  go_upto_region 3 with (first
    | (go_at_call 20; refine (memOK_n A0 ws.length c0 true HB.out _ hc1 hc2).mono ?_; rintro e w2 ⟨rfl, hb2⟩; have HS2 := Lib.hid (HS1.out.below hb2); clear hb2)
    | (go_at_call 23; refine (pageOK_n pg true HPB.out _).mono ?_; rintro e w' ⟨rfl, rfl⟩))
  clear z1_0
  have sT0 := HS2.out
  have sT1 := sT0.tail
  have z1_0 := sT1.c1
  have sT2 := sT1.tail
  clear sT0 sT1 sT2
  go_wp2_with (go_at_call 24; refine (memWalk_any (.slice A0 ws.length c0) ws pg _ (R.out.below HS2.out.b) HW.out HP.out).mono ?_; rw [HQ.out]; rintro e w3 ⟨rfl, hb3⟩; unfold hitV; have HS3 := Lib.hid (HS2.out.below hb3); clear hb3; have sT0 := HS3.out; obtain ⟨y0_0, y0_1, y0_2, y0_3⟩ := sT0.c4; have yF0_0 := sT0.f 0; have yF0_1 := sT0.f 1; have yF0_2 := sT0.f 2; have yF0_3 := sT0.f 3; have sT1 := sT0.tail; clear sT0 sT1)
  exact bodyPost_ret (v := hitV q) (by simp [results, Try.results9, go_sem, hitV, *]) rfl ⟨rfl, (HS3.out.s0 _ _ _ _).b⟩
end Go.Proofs.Ytomomaoncmgfpaa.Mmu
