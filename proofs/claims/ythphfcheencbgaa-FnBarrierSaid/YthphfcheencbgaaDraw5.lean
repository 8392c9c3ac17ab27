/- Walks of the reference's l2DrawPage and l2Addr. -/
import Derived.Test.YthphfcheencbgaaBarMath
import Derived.Test.YthphfcheencbgaaSpecPWalk
import Derived.Test.YthphfcheencbgaaBig
namespace Go.Proofs.Ythphfcheencbgaa.Draw
open Go.RowKit Go.Proofs.Ythphfcheencbgaa.Base Go.Proofs.Ythphfcheencbgaa.Kinds Go.Proofs.Ythphfcheencbgaa.DecMath Go.Proofs.Ythphfcheencbgaa.L1 Go.Proofs.Ythphfcheencbgaa.Mmu
set_option linter.unusedVariables false
set_option linter.unusedSimpArgs false

theorem fieldW {P : Program} {ops : Array Oper} {rest : List Oper} {o : Oper} {a : Act} {w : World} {Q : Exit → Act → World → Prop} (hgd : o.guard = none) (t : TypeId) (x : Operand) (i : Nat) (ho : o.op = .field t x i) (u v : Value) (hu : a.eval x = u) (h : ∀ w, (Instr.field t u i).run P w = .ok v w)
    (k : wpList P ops Q rest (a.put o.dst v) w) : wpList P ops Q (o :: rest) a w := by
  refine wpList_val hgd v ?_ k
  unfold execOp
  simp only [ho, hu, Sem.run_bind, Sem.run_pure, h w, Result.andThen_ok]
theorem hitKindW (a b c d : Int) (w : World) : (Instr.field 75 (.agg #[.int .i64 a, .int .i64 b, .int .i64 c, .int .i64 d]) 0).run Try.prog w = .ok (.int .i64 a) w := by kernel_rfl

set_option maxRecDepth 100000 in
set_option maxHeartbeats 8000000 in
theorem drawPage_any (v : Value) (c : List Int) (p : Nat) (v0 : Value) (ws : List Int) (w : World) (r : Rd bEnc 1 w v c) (hb : Bytes c) (hL : c.length ≤ 1048576) (hp : p ≤ 90000) (r0 : Rd wEnc 1 w v0 ws) (hw : WfW ws) :
    Calls Try.prog 30 #[v, .int .i64 p, .agg #[v0]] w fun e w' => e = .returned (.tuple #[.int .i64 (pageP c p ws), .int .i64 ((p + 2 : Nat) : Int)]) ∧ Below w.heap.size w w' := by
  obtain ⟨A0, c0, rfl, hc01, hc02⟩ := r0.shape
  have R := Lib.hid r
  have R0 := Lib.hid r0
  have HB := Lib.hid hb
  have HW := Lib.hid hw
  have h8 := takeP_lt hb p 8 (by omega)
  have h4 := takeP_lt hb (p + 1) 4096 (by omega)
  obtain ⟨a, ha⟩ : ∃ a, takeP c p 8 = a := ⟨_, rfl⟩
  obtain ⟨b, hbb⟩ : ∃ b, takeP c (p + 1) 4096 = b := ⟨_, rfl⟩
  obtain ⟨t, ht⟩ : ∃ t, pageP c p ws = t := ⟨_, rfl⟩
  rw [ha] at h8
  rw [hbb] at h4
  obtain ⟨h40, h41⟩ := h4
  rw [ht]
  have HA := Lib.hid ha
  have HBB := Lib.hid hbb
  have HT := Lib.hid ht
  clear r r0 hb hw ha hbb ht
  go_enter Try.func30, Try.ntmps30
  go_upto_region 1 with fail
  refine ((St.start w).push _ _).gen (fun w1 S1 _ => ?_)
  have HS1 := Lib.hid S1
  clear S1
  go_upto_region 3 with (go_at_call 8; refine (take_any v c p 8 _ (R.out.below HS1.out.b) HB.out hL (by omega) (by omega)).mono ?_; rw [HA.out]; rintro e w2 ⟨rfl, hb2⟩; have HS2 := Lib.hid (HS1.out.below hb2); clear hb2)
  go_upto_region 4 with (go_at_call 8; refine (take_any v c (p + 1) 4096 _ (R.out.below HS2.out.b) HB.out hL (by omega) (by omega)).mono ?_; rw [HBB.out]; rintro e w3 ⟨rfl, hb3⟩; have HS3 := Lib.hid (HS2.out.below hb3); clear hb3)
  by_cases h6 : a < 6
  rotate_left
  · have h6' : decide (a < 6) = false := decide_eq_false h6
    have HT2 : Hid (t = b) := Lib.hid (by rw [← HT.out, pageP_high (by rw [HA.out]; exact h6), HBB.out])
    go_wp2
    exact bodyPost_ret (v := .tuple #[.int .i64 t, .int .i64 ((p + 2 : Nat) : Int)]) (by simp [results, Try.results30, go_sem, HT2.out] <;> omega) rfl ⟨rfl, HS3.out.b⟩
  have h6' : decide (a < 6) = true := decide_eq_true h6
  go_wp2
  go_loopw [10] (fun vi wr => ∃ k : Nat, k ≤ 4096 ∧ vi = .int .i64 (k : Int) ∧ Hid (∀ j : Nat, j < k → hitB ws ((b + (j : Int)) % 4096) = false) ∧ Hid (St w [(w.heap.size, #[.slice A0 ws.length c0], 25)] wr)) (fun i _ => 4096 - (intOf i).toNat)
  case atStart => exact ⟨0, by omega, rfl, Lib.hid (fun j hj => by omega), HS3⟩
  case round =>
    obtain ⟨k, hk, rfl, HN, HS⟩ := hrel
    by_cases hlt : k < 4096
    rotate_left
    · obtain rfl : k = 4096 := by omega
      have HT2 : Hid (t = b) := Lib.hid (by rw [← HT.out]; exact pageP_none HBB.out HN.out)
      go_wp2
      exact bodyPost_ret (v := .tuple #[.int .i64 t, .int .i64 ((p + 2 : Nat) : Int)]) (by simp [results, Try.results30, go_sem, HT2.out] <;> omega) rfl ⟨rfl, HS.out.b⟩
    have hlt' : (k : Int) < 4096 := by omega
    obtain ⟨pk, hpk⟩ : ∃ x, (b + (k : Int)) % 4096 = x := ⟨_, rfl⟩
    have e1 : IntKind.i64.wrap (b + (k : Int)) = b + (k : Int) := by rw [IntKind.wrap_i64]; omega
    have e2 : Int.tmod (b + (k : Int)) 4096 = pk := by rw [Int.tmod_eq_emod_of_nonneg (by omega)]; exact hpk
    have hpk0 : 0 ≤ pk := by omega
    have hpk1 : pk < 4096 := by omega
    obtain ⟨⟨q1, q2, q3, q4⟩, hq⟩ : ∃ q, walkAt ws ((ws.length / 16 : Nat) : Int) pk 3 1 0 = q := ⟨_, rfl⟩
    have HQ := Lib.hid hq
    have HPK := Lib.hid hpk
    have HH : Hid (hitB ws pk = decide (q1 = 1)) := Lib.hid (by unfold hitB; rw [HQ.out])
    clear hq hpk
    have sT0 := HS.out
    have z0_0 := sT0.c1
    have sT1 := sT0.tail
    clear sT0 sT1
    obtain ⟨ba, hba⟩ : ∃ x, (q1 == 1) = x := ⟨_, rfl⟩
    cases ba
    · have HF : Hid (hitB ws pk = false) := Lib.hid (by rw [HH.out]; exact decide_eq_false (by simpa using hba))
      go_wp2_with (first
        | (refine fieldW rfl 75 _ 0 rfl (.agg #[.int .i64 q1, .int .i64 q2, .int .i64 q3, .int .i64 q4]) (.int .i64 q1) (by simp [Act.eval]) (hitKindW q1 q2 q3 q4) ?_; (try simp only [Act.put, List.setIfInBounds_toArray, List.set_cons_zero, List.set_cons_succ]))
        | (go_at_call 49; refine (specWalk1_any (.slice A0 ws.length c0) ws pk _ (R0.out.below HS.out.b) HW.out ⟨hpk0, hpk1⟩ (q1, q2, q3, q4) HQ.out).mono ?_; unfold hitV; rintro e w9 ⟨rfl, hb9⟩; have HSq := Lib.hid (HS.out.below hb9); clear hb9))
      go_roundw
      case rel => exact ⟨k + 1, by omega, by first | rfl | go_num, Lib.hid (fun j hj => by
        by_cases e : j = k
        · rw [e, HPK.out]; exact HF.out
        · exact HN.out j (by omega)), HSq⟩
      case measure => simp [intOf]; omega
    · have HF : Hid (hitB ws ((b + (k : Int)) % 4096) = true) := Lib.hid (by rw [HPK.out, HH.out]; exact decide_eq_true (by simpa using hba))
      by_cases h5 : a = 5
      · have h5' : (a == 5) = true := by simpa using h5
        have HT2 : Hid (t = (pk + 1) % 4096) := Lib.hid (by rw [← HT.out, pageP_five (by rw [HA.out]; exact h5) HBB.out hlt HF.out HN.out, HPK.out])
        have HK := Lib.hid h5
        clear h5
        have e3 : IntKind.i64.wrap (pk + 1) = pk + 1 := by rw [IntKind.wrap_i64]; omega
        have e4 : Int.tmod (pk + 1) 4096 = (pk + 1) % 4096 := Int.tmod_eq_emod_of_nonneg (by omega)
        go_wp2_with (first
          | (refine fieldW rfl 75 _ 0 rfl (.agg #[.int .i64 q1, .int .i64 q2, .int .i64 q3, .int .i64 q4]) (.int .i64 q1) (by simp [Act.eval]) (hitKindW q1 q2 q3 q4) ?_; (try simp only [Act.put, List.setIfInBounds_toArray, List.set_cons_zero, List.set_cons_succ]))
          | (go_at_call 49; refine (specWalk1_any (.slice A0 ws.length c0) ws pk _ (R0.out.below HS.out.b) HW.out ⟨hpk0, hpk1⟩ (q1, q2, q3, q4) HQ.out).mono ?_; unfold hitV; rintro e w9 ⟨rfl, hb9⟩; have HSq := Lib.hid (HS.out.below hb9); clear hb9))
        exact bodyPost_ret (v := .tuple #[.int .i64 t, .int .i64 ((p + 2 : Nat) : Int)]) (by simp [results, Try.results30, go_sem, HT2.out] <;> omega) rfl ⟨rfl, HSq.out.b⟩
      · have h5' : (a == 5) = false := by simpa using h5
        have HT2 : Hid (t = (pk + b % 3) % 4096) := Lib.hid (by rw [← HT.out, pageP_low (by rw [HA.out]; exact h6) (by rw [HA.out]; exact h5) HBB.out hlt HF.out HN.out, HPK.out])
        have e3 : Int.tmod b 3 = b % 3 := Int.tmod_eq_emod_of_nonneg (by omega)
        have e4 : IntKind.i64.wrap (pk + b % 3) = pk + b % 3 := by rw [IntKind.wrap_i64]; omega
        have e5 : Int.tmod (pk + b % 3) 4096 = (pk + b % 3) % 4096 := Int.tmod_eq_emod_of_nonneg (by omega)
        have HK := Lib.hid h5
        clear h5
        go_wp2_with (first
          | (refine fieldW rfl 75 _ 0 rfl (.agg #[.int .i64 q1, .int .i64 q2, .int .i64 q3, .int .i64 q4]) (.int .i64 q1) (by simp [Act.eval]) (hitKindW q1 q2 q3 q4) ?_; (try simp only [Act.put, List.setIfInBounds_toArray, List.set_cons_zero, List.set_cons_succ]))
          | (go_at_call 49; refine (specWalk1_any (.slice A0 ws.length c0) ws pk _ (R0.out.below HS.out.b) HW.out ⟨hpk0, hpk1⟩ (q1, q2, q3, q4) HQ.out).mono ?_; unfold hitV; rintro e w9 ⟨rfl, hb9⟩; have HSq := Lib.hid (HS.out.below hb9); clear hb9))
        exact bodyPost_ret (v := .tuple #[.int .i64 t, .int .i64 ((p + 2 : Nat) : Int)]) (by simp [results, Try.results30, go_sem, HT2.out] <;> omega) rfl ⟨rfl, HSq.out.b⟩

set_option maxRecDepth 100000 in
set_option maxHeartbeats 8000000 in
theorem addr_any (v0 : Value) (ws : List Int) (pg : Int) (w : World) (r : Rd wEnc 1 w v0 ws) (hw : WfW ws) (hp : 0 ≤ pg ∧ pg < 4096) (q : Int) (hq : addrP ws pg = q) :
    Calls Try.prog 13 #[.agg #[v0], .int .i64 pg] w fun e w' => e = .returned (.int .i64 q) ∧ Below w.heap.size w w' := by
  obtain ⟨A0, c0, rfl, hc1, hc2⟩ := r.shape
  have R := Lib.hid r
  have HW := Lib.hid hw
  have hlen := hw.2
  have HLN := Lib.hid hlen
  obtain ⟨hp0, hp1⟩ := hp
  obtain ⟨n, hn⟩ : ∃ n, ws.length / 16 = n := ⟨_, rfl⟩
  have hnb : 1 ≤ n ∧ n ≤ 512 := by omega
  obtain ⟨hnb0, hnb1⟩ := hnb
  have HQ : Hid (addrAt ws (n : Int) pg 2 1 0 = q) := Lib.hid (by rw [← hq]; unfold addrP; rw [hn])
  have HN := Lib.hid hn
  clear r hw hq hn hlen
  go_enter Try.func13, Try.ntmps13
  go_upto_region 1 with fail
  refine ((St.start w).push _ _).gen (fun w1 S1 _ => ?_)
  have HS1 := Lib.hid S1
  clear S1
  go_wp2
  go_loopw [5, 6] (fun vf vl wr => ∃ (f : Int) (lv : Nat), vf = .int .i64 f ∧ vl = .int .i64 (lv : Int) ∧ 1 ≤ lv ∧ lv ≤ 3 ∧ 0 ≤ f ∧ f < (n : Int) ∧ Hid (addrAt ws (n : Int) pg (3 - lv) (lv : Int) f = q) ∧ Hid (St w [(w.heap.size, #[.slice A0 ws.length c0], 25)] wr)) (fun _ l _ => 3 - (intOf l).toNat)
  case atStart => exact ⟨0, 1, rfl, rfl, by omega, by omega, by omega, by omega, HQ, HS1⟩
  case round =>
    obtain ⟨f, lv, rfl, rfl, hl1, hl3, hf0, hf1, HR, HS⟩ := hrel
    obtain ⟨ix, hix⟩ : ∃ ix : Nat, idx (lv : Int) pg = (ix : Int) := ⟨(idx (lv : Int) pg).toNat, by have := idx_lt (lv : Int) pg hp0; omega⟩
    have hixb := idx_lt (lv : Int) pg hp0
    rw [hix] at hixb
    have ef : IntKind.i64.wrap (f * 16) = f * 16 := by rw [IntKind.wrap_i64]; omega
    have hlc : (lv : Int) = 1 ∨ (lv : Int) = 2 ∨ (lv : Int) = 3 := by omega
    by_cases hlt : lv < 3
    rotate_left
    · obtain rfl : lv = 3 := by omega
      have ef2 : IntKind.i64.wrap (f * 16 + (ix : Int)) = f * 16 + (ix : Int) := by rw [IntKind.wrap_i64]; omega
      have HE : Hid (q = f * 16 + (ix : Int)) := Lib.hid (by rw [← HR.out]; show f * 16 + idx ((3 : Nat) : Int) pg = _; rw [hix])
      have HIX := Lib.hid hix
      clear hix
      go_wp2_with (go_at_call 33; refine (sindex_b 3 pg (ix : Int) HIX.out _ (by omega) hp0 hp1).mono ?_; rintro e w5 ⟨rfl, rfl⟩)
      go_ret
      exact ⟨ret_int HE.out.symm, HS.out.b⟩
    have hlt' : (lv : Int) < 3 := by omega
    obtain ⟨ad, cc, hv, _, _, hcell, hx0, hx1, hltw⟩ := wordP_at (R.out.below HS.out.b) HW.out f (ix : Int) ⟨hf0, by rw [HN.out]; exact hf1⟩ ⟨hixb.1, hixb.2⟩
    simp only [Value.slice.injEq] at hv
    obtain ⟨rfl, _, rfl⟩ := hv
    obtain ⟨x, hx⟩ : ∃ x, wordP ws f (ix : Int) = x := ⟨_, rfl⟩
    rw [hx] at hcell hx0 hx1
    obtain ⟨dk, dout, dpm, hdd⟩ : ∃ a b c, dec (lv : Int) x = (a, b, c) := ⟨_, _, _, rfl⟩
    have hout := dec_out (lv : Int) x
    rw [hdd] at hout
    simp only at hout
    have HSTEP : Hid (q = if dk = 1 ∧ dout < (n : Int) then addrAt ws (n : Int) pg (3 - (lv + 1)) ((lv + 1 : Nat) : Int) dout else f * 16 + (ix : Int)) := Lib.hid (by
      rw [← HR.out, show 3 - lv = (3 - (lv + 1)) + 1 by omega, addrAt, hix]
      have hx' : ws.getD (f * 16 + (ix : Int)).toNat 0 = x := hx
      rw [hx', hdd, show ((lv + 1 : Nat) : Int) = (lv : Int) + 1 by omega])
    have HD := Lib.hid hdd
    have HIX := Lib.hid hix
    obtain ⟨t, ht⟩ : ∃ t : Nat, f * 16 + (ix : Int) = (t : Int) := ⟨(f * 16 + (ix : Int)).toNat, by omega⟩
    have htl : (t : Int) < (ws.length : Int) := by omega
    rw [ht] at hcell
    simp only [Int.toNat_natCast] at hcell
    have HTT := Lib.hid ht
    have ef2 : IntKind.i64.wrap (f * 16 + (ix : Int)) = (t : Int) := by rw [IntKind.wrap_i64]; omega
    have el : IntKind.i64.wrap ((lv : Int) + 1) = ((lv + 1 : Nat) : Int) := by rw [IntKind.wrap_i64]; omega
    have hz1 := World.block_lt_of_cell? _ _ hcell
    have hz3 : w.heap.size < wr.heap.size := HS.out.lt _ (List.mem_cons_self ..)
    have n1 : ¬ (wr.heap.size = w.heap.size) := by omega
    have n2 : ¬ (wr.heap.size = (ad.add t).block) := by omega
    clear hx hdd hix ht hz1 hz3
    have sT0 := HS.out
    have p0_0 := sT0.c1
    have sT1 := sT0.tail
    clear sT0 sT1
    go_upto_region 5 with fail
    go_region_held3 (fun w' => w'.cell? ⟨w.heap.size, 0, none⟩ = some (.slice (some ad) ws.length c0) ∧ w'.cell? (ad.add t) = some (.int .u64 x))
      (first | go_keep | (with_reducible exact ⟨z0, z1⟩))
      (first
        | (go_at_call 33; refine (sindex_b (lv : Int) pg (ix : Int) HIX.out _ hlc hp0 hp1).mono ?_; rintro e w5 ⟨rfl, rfl⟩)
        | (go_at_call 32; refine (sDecode_d (lv : Int) x dk dout dpm HD.out _ hx0 hx1).mono ?_; rintro e w6 ⟨rfl, hb6⟩; first
          | (have S6 := Lib.hid ((HS.out.push _ _).drew.below hb6); have HB6 : Hid (Below wr.heap.size wr w6) := Lib.hid (thenB (allocB (Below.refl _ _) _).drew hb6); clear hb6; have sT0 := S6.out; obtain ⟨y0_0, y0_1, y0_2⟩ := sT0.c3; have yF0_0 := sT0.f 0; have yF0_1 := sT0.f 1; have yF0_2 := sT0.f 2; have sT1 := sT0.tail; have y1_0 := sT1.c1; have sT2 := sT1.tail; clear sT0 sT1 sT2; have z0 := y1_0; have z1 := bC HB6.out hcell)
          | (have S6 := Lib.hid (HS.out.drew.below hb6); have HB6 : Hid (Below wr.heap.size wr w6) := Lib.hid (thenB (below_drewN (Below.refl _ _) 1) hb6); clear hb6; have sT0 := S6.out; have y0_0 := sT0.c1; have sT1 := sT0.tail; clear sT0 sT1; have z0 := y0_0; have z1 := bC HB6.out hcell)))
    all_goals
      first
        | (refine st_genB (S6.out.push _ _) (allocB HB6.out _) (fun w7 S7' b7' => ?_); obtain ⟨bd, hbd⟩ : ∃ b, w6.heap.size = b := ⟨_, rfl⟩; rw [hbd] at S7' ⊢; have S7 := Lib.hid S7'; clear S7' b7' S6 HB6 hbd z0 z1 n1 n2 hcell)
        | (refine st_genB (st_set3 S6.out _ _ _) (((HB6.out.setCell (p := ⟨wr.heap.size, 0, none⟩) (Nat.le_refl _) _).setCell (p := ⟨wr.heap.size, 1, none⟩) (Nat.le_refl _) _).setCell (p := ⟨wr.heap.size, 2, none⟩) (Nat.le_refl _) _) (fun w7 S7' b7' => ?_); obtain ⟨bd, hbd⟩ : ∃ b, wr.heap.size = b := ⟨_, rfl⟩; rw [hbd] at S7' ⊢; have S7 := Lib.hid S7'; clear S7' b7' S6 HB6 hbd z0 z1 n1 n2 hcell)
    all_goals
      by_cases k1 : dk = 1
      rotate_left
      · have kb1 : (dk != 1) = true := by simpa using k1
        have HE : Hid (q = (t : Int)) := Lib.hid (by rw [HSTEP.out, if_neg (fun h => k1 h.1), HTT.out])
        have HK := Lib.hid k1
        clear k1
        go_upto_region 6 with fail
        have hbc := S7.out
        have sT0 := hbc
        obtain ⟨p0_0, p0_1, p0_2⟩ := sT0.c3
        have sT1 := sT0.tail
        have pB0_0 := BW.cell p0_0
        have pB0_1 := BW.cell p0_1
        have pB0_2 := BW.cell p0_2
        clear p0_0 p0_1 p0_2
        have p1_0 := sT1.c1
        have sT2 := sT1.tail
        have pB1_0 := BW.cell p1_0
        clear p1_0
        clear sT0 sT1 sT2
        clear hbc
        (refine wp_region_below (by kernel_rfl) (by kernel_rfl) ?_; (repeat (first | (go_big_quiet_step (fail)) | ((with_reducible refine wpQuiet_step ?_); intro K hK; go_simp; first | ((with_reducible refine hK _ ?_); clear hK K) | (apply Exists.intro; refine ⟨fun _ => ?_, hK _ ?_⟩; (fail); clear hK K)))); (with_reducible refine wpQuiet_nil ?_); intro wq hw'; obtain ⟨⟨wy, hbq⟩, hw''⟩ := hw'; subst hw'')
        have S8 := Lib.hid (S7.out.below hbq)
        clear hbq
        go_wp2_with (go_at_call 33; refine (sindex_b (lv : Int) pg (ix : Int) HIX.out _ hlc hp0 hp1).mono ?_; rintro e w5 ⟨rfl, rfl⟩)
        go_ret
        exact ⟨ret_int HE.out.symm, S8.out.b⟩
      · subst k1
        have kb1 : ((1 : Int) != 1) = false := rfl
        by_cases kd : dout < (n : Int)
        · have kd' : decide ((n : Int) ≤ dout) = false := decide_eq_false (by omega)
          have HE : Hid (addrAt ws (n : Int) pg (3 - (lv + 1)) ((lv + 1 : Nat) : Int) dout = q) := Lib.hid (by rw [HSTEP.out, if_pos ⟨rfl, kd⟩])
          go_upto_region 6 with fail
          have hbc := S7.out
          have sT0 := hbc
          obtain ⟨p0_0, p0_1, p0_2⟩ := sT0.c3
          have sT1 := sT0.tail
          have pB0_0 := BW.cell p0_0
          have pB0_1 := BW.cell p0_1
          have pB0_2 := BW.cell p0_2
          clear p0_0 p0_1 p0_2
          have p1_0 := sT1.c1
          have sT2 := sT1.tail
          have pB1_0 := BW.cell p1_0
          clear p1_0
          clear sT0 sT1 sT2
          clear hbc
          (refine wp_region_below (by kernel_rfl) (by kernel_rfl) ?_; (repeat (first | (go_big_quiet_step (first | (go_at_call 11; exact BW.calls (sframes_n (some ad) ws.length c0 (n : Int) HLN.out (by rw [HN.out]) _ hc1 hc2)))) | ((with_reducible refine wpQuiet_step ?_); intro K hK; go_simp; first | ((with_reducible refine hK _ ?_); clear hK K) | (apply Exists.intro; refine ⟨fun _ => ?_, hK _ ?_⟩; (first | (go_at_call 11; exact BW.calls (sframes_n (some ad) ws.length c0 (n : Int) HLN.out (by rw [HN.out]) _ hc1 hc2))); clear hK K)))); (with_reducible refine wpQuiet_nil ?_); intro wq hw'; obtain ⟨⟨wy, hbq⟩, hw''⟩ := hw'; subst hw'')
          have S8 := Lib.hid (S7.out.below hbq)
          clear hbq
          have sT0 := S8.out
          obtain ⟨y0_0, y0_1, y0_2⟩ := sT0.c3
          have sT1 := sT0.tail
          have y1_0 := sT1.c1
          have sT2 := sT1.tail
          clear sT0 sT1 sT2
          go_wp2
          go_roundw
          case rel => exact ⟨dout, lv + 1, rfl, by first | rfl | go_num, by omega, by omega, hout.1, kd, HE, Lib.hid S8.out.tail⟩
          case measure => simp [intOf]; omega
        · have kd' : decide ((n : Int) ≤ dout) = true := decide_eq_true (by omega)
          have HE : Hid (q = (t : Int)) := Lib.hid (by rw [HSTEP.out, if_neg (fun h => kd h.2), HTT.out])
          go_upto_region 6 with fail
          have hbc := S7.out
          have sT0 := hbc
          obtain ⟨p0_0, p0_1, p0_2⟩ := sT0.c3
          have sT1 := sT0.tail
          have pB0_0 := BW.cell p0_0
          have pB0_1 := BW.cell p0_1
          have pB0_2 := BW.cell p0_2
          clear p0_0 p0_1 p0_2
          have p1_0 := sT1.c1
          have sT2 := sT1.tail
          have pB1_0 := BW.cell p1_0
          clear p1_0
          clear sT0 sT1 sT2
          clear hbc
          (refine wp_region_below (by kernel_rfl) (by kernel_rfl) ?_; (repeat (first | (go_big_quiet_step (first | (go_at_call 11; exact BW.calls (sframes_n (some ad) ws.length c0 (n : Int) HLN.out (by rw [HN.out]) _ hc1 hc2)))) | ((with_reducible refine wpQuiet_step ?_); intro K hK; go_simp; first | ((with_reducible refine hK _ ?_); clear hK K) | (apply Exists.intro; refine ⟨fun _ => ?_, hK _ ?_⟩; (first | (go_at_call 11; exact BW.calls (sframes_n (some ad) ws.length c0 (n : Int) HLN.out (by rw [HN.out]) _ hc1 hc2))); clear hK K)))); (with_reducible refine wpQuiet_nil ?_); intro wq hw'; obtain ⟨⟨wy, hbq⟩, hw''⟩ := hw'; subst hw'')
          have S8 := Lib.hid (S7.out.below hbq)
          clear hbq
          go_wp2_with (go_at_call 33; refine (sindex_b (lv : Int) pg (ix : Int) HIX.out _ hlc hp0 hp1).mono ?_; rintro e w5 ⟨rfl, rfl⟩)
          go_ret
          exact ⟨ret_int HE.out.symm, S8.out.b⟩
end Go.Proofs.Ythphfcheencbgaa.Draw
