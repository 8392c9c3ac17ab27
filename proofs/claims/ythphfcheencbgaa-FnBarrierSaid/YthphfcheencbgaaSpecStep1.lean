/- Walks of the reference's l3Meet, l3Cached, l3HasFrame, l2Latest. -/
import Derived.Test.YthphfcheencbgaaSpecValid
import Derived.Test.YthphfcheencbgaaSpecCopy
import Derived.Test.YthphfcheencbgaaSpecPlaces
namespace Go.Proofs.Ythphfcheencbgaa.Mmu
open Go.RowKit Go.Proofs.Ythphfcheencbgaa.Base Go.Proofs.Ythphfcheencbgaa.Kinds Go.Proofs.Ythphfcheencbgaa.DecMath Go.Proofs.Ythphfcheencbgaa.L1
set_option linter.unusedVariables false
set_option linter.unusedSimpArgs false
set_option maxHeartbeats 4000000 in
theorem meet_b (p a q b : Int) (c : Bool) (w : World) (hp : 0 ≤ p ∧ p ≤ 1000000) (ha : 0 ≤ a ∧ a ≤ 1000000) (hq : 0 ≤ q ∧ q ≤ 1000000) (hb : 0 ≤ b ∧ b ≤ 1000000) (h : decide (meetQ p a q b) = c) :
    Calls Try.prog 21 #[.int .i64 p, .int .i64 a, .int .i64 q, .int .i64 b] w fun e w' => e = .returned (.bool c) ∧ w' = w := by
  rw [← h]
  clear h
  have e1 : IntKind.i64.wrap (q + b) = q + b := by rw [IntKind.wrap_i64]; omega
  have e2 : IntKind.i64.wrap (p + a) = p + a := by rw [IntKind.wrap_i64]; omega
  by_cases h1 : p < q + b
  · go_enter Try.func21, Try.ntmps21
    go_wp2
    go_ret
    exact ⟨ret_bool (by rw [Bool.eq_iff_iff]; simp [meetQ, h1]), rfl⟩
  · go_enter Try.func21, Try.ntmps21
    go_wp2
    go_ret
    exact ⟨ret_bool (decide_eq_false (fun h => by unfold meetQ at h; omega)).symm, rfl⟩

set_option maxRecDepth 100000 in
set_option maxHeartbeats 8000000 in
theorem hasFrame_b (v : Value) (l : List SPlace) (f : Int) (w : World) (r : Rd SPlace.enc 3 w v l) (b : Bool) (h : l.any (frameB f) = b) :
    Calls Try.prog 41 #[v, .int .i64 f] w fun e w' => e = .returned (.bool b) ∧ Below w.heap.size w w' := by
  obtain ⟨A, c, rfl, hc, hm⟩ := r.shape
  have R := Lib.hid r
  have H := Lib.hid h
  clear r h
  go_enter Try.func41, Try.ntmps41
  go_wp2
  go_loopw [5] (fun i wr => ∃ k : Nat, k ≤ l.length ∧ i = .int .i64 k ∧ (l.take k).any (frameB f) = false ∧ Below w.heap.size w wr) (fun i _ => l.length - (intOf i).toNat)
  case atStart => exact ⟨0, Nat.zero_le _, rfl, by simp, Below.refl _ _⟩
  case round =>
    obtain ⟨k, hk, rfl, ha, hb⟩ := hrel
    have HA := Lib.hid ha
    have HB := Lib.hid hb
    clear ha hb
    by_cases hlt : k < l.length
    rotate_left
    · have hlt' : ¬ (k : Int) < (l.length : Int) := by omega
      go_wp2
      go_ret
      exact ⟨ret_bool ((any_all HA.out (by omega)).symm.trans H.out), HB.out⟩
    have hlt' : (k : Int) < (l.length : Int) := by omega
    obtain ⟨a0, e0, ea, g0, u0, u1, u2⟩ := SPlace.at (R.out.below HB.out) hlt
    cases ea
    have G0 := Lib.hid g0
    clear g0
    rcases Bool.eq_false_or_eq_true (e0.Frame == f) with hc0 | hc0
    · have hT : frameB f e0 = true := decide_eq_true (by simpa using hc0)
      have HT := Lib.hid hT
      clear hT
      go_wp2
      go_ret
      exact ⟨ret_bool ((any_true G0.out HT.out).symm.trans H.out), HB.out⟩
    · have hT : frameB f e0 = false := decide_eq_false (by simpa using hc0)
      have HT := Lib.hid hT
      clear hT
      go_wp2
      go_roundw
      case rel => exact ⟨k + 1, by omega, by go_num, any_take G0.out HA.out HT.out, HB.out⟩
      case measure => simp [intOf]; omega

set_option maxRecDepth 100000 in
set_option maxHeartbeats 8000000 in
theorem cached_b (v0 v1 v2 v3 : Value) (m : SM) (level page n : Int) (w : World) (r : RdM w v0 v1 v2 v3 m) (hv : Valid m) (hp : 0 ≤ page ∧ page ≤ 1000000) (hn : 0 ≤ n ∧ n ≤ 1000000) (b : Bool) (h : cachedB m level page n = b) :
    Calls Try.prog 40 #[.agg #[v0, v1, v2, v3], .int .i64 level, .int .i64 page, .int .i64 n] w fun e w' => e = .returned (.bool b) ∧ Below w.heap.size w w' := by
  obtain ⟨A0, c0, A1, c1, A2, c2, A3, c3, rfl, rfl, rfl, rfl, hl0, hk0, hl1, hk1, hl2, hk2, hl3, hk3⟩ := r.shape
  have R := Lib.hid r
  have V := Lib.hid hv
  have H := Lib.hid h
  have HP := Lib.hid hp
  have HN := Lib.hid hn
  have hnt : m.tlb.length ≤ 256 := hv.ntlb
  have hnw : m.wc.length ≤ 256 := hv.nwc
  clear r h hv
  go_enter Try.func40, Try.ntmps40
  go_upto_region 1 with fail
  refine ((St.start w).push _ _).gen (fun w1 S1' _ => ?_)
  have S1 := Lib.hid S1'
  clear S1'
  go_wp2
  go_loopw [9] (fun i wr => ∃ k : Nat, k ≤ m.tlb.length ∧ i = .int .i64 k ∧ (m.tlb.take k).any (tlbMeet page n) = false ∧ Below w1.heap.size w1 wr) (fun i _ => m.tlb.length - (intOf i).toNat)
  case atStart => exact ⟨0, Nat.zero_le _, rfl, by simp, Below.refl _ _⟩
  case round =>
    obtain ⟨k, hk, rfl, ha, hb⟩ := hrel
    have HA := Lib.hid ha
    have HB := Lib.hid hb
    have S2 := Lib.hid (S1.out.below hb)
    clear ha hb
    by_cases hlt : k < m.tlb.length
    · have hlt' : (k : Int) < (m.tlb.length : Int) := by omega
      have sT0 := S2.out
      obtain ⟨p0_0, p0_1, p0_2, p0_3⟩ := sT0.c4
      have sT1 := sT0.tail
      clear sT0 sT1
      obtain ⟨a0, e0, ea, g0, u0, u1, u2, u3, u4⟩ := STlb.at (R.out.tlb.below S2.out.b) hlt
      cases ea
      have G0 := Lib.hid g0
      have OK := Lib.hid (V.out.tlb e0 (List.mem_of_getElem? g0))
      have hpg : 0 ≤ e0.Page ∧ e0.Page ≤ 1000000 := by have := OK.out.2.1; omega
      have hsz : 0 ≤ e0.Size ∧ e0.Size ≤ 1000000 := by rcases OK.out.1 with h | h <;> omega
      have HPG := Lib.hid hpg
      have HSZ := Lib.hid hsz
      clear g0 hpg hsz
      go_upto_region 4 with fail
      have b0 := BW.cell p0_2
      have x0 := BW.cell u0
      have x1 := BW.cell u1
      clear u0 u1 u2 u3 u4 p0_0 p0_1 p0_2 p0_3
      rcases Bool.eq_false_or_eq_true (tlbMeet page n e0) with hc | hc
      all_goals
        have HC := Lib.hid hc
        clear hc
        (refine wp_region_below (by kernel_rfl) (by kernel_rfl) ?_; (repeat (first | (go_big_quiet_step (first | (go_at_call 21; refine BW.same (meet_b page n e0.Page e0.Size _ _ HP.out HN.out HPG.out HSZ.out HC.out)))) | ((with_reducible refine wpQuiet_step ?_); intro K hK; go_simp; first | ((with_reducible refine hK _ ?_); clear hK K) | (apply Exists.intro; refine ⟨fun _ => ?_, hK _ ?_⟩; (first | (go_at_call 21; refine BW.same (meet_b page n e0.Page e0.Size _ _ HP.out HN.out HPG.out HSZ.out HC.out))); clear hK K)))); (with_reducible refine wpQuiet_nil ?_); intro wq hw'; obtain ⟨⟨wy, hbq⟩, hw''⟩ := hw'; subst hw'')
        go_wp2
      · go_ret
        exact ⟨ret_bool (by rw [← H.out]; unfold cachedB; rw [any_true G0.out HC.out, Bool.true_or]), thenB S2.out.b hbq⟩
      · go_roundw
        case rel => exact ⟨k + 1, by omega, by go_num, any_take G0.out HA.out HC.out, thenB HB.out hbq⟩
        case measure => simp [intOf]; omega
    · have hlt' : ¬ (k : Int) < (m.tlb.length : Int) := by omega
      have HT := Lib.hid (any_all HA.out (Nat.le_of_not_lt hlt))
      generalize wr = w2 at *
      have sT0 := S2.out
      obtain ⟨p0_0, p0_1, p0_2, p0_3⟩ := sT0.c4
      have sT1 := sT0.tail
      clear sT0 sT1
      go_wp2
      clear p0_0 p0_1 p0_2 p0_3
      go_loopw [10] (fun i wr => ∃ k : Nat, k ≤ m.wc.length ∧ i = .int .i64 k ∧ (m.wc.take k).any (wcUnder level page n) = false ∧ Below w1.heap.size w1 wr) (fun i _ => m.wc.length - (intOf i).toNat)
      case atStart => exact ⟨0, Nat.zero_le _, rfl, by simp, HB.out⟩
      case round =>
        obtain ⟨k, hk, rfl, ha, hb⟩ := hrel
        have HA2 := Lib.hid ha
        have HB2 := Lib.hid hb
        have S3 := Lib.hid (S1.out.below hb)
        clear ha hb
        have sT0 := S3.out
        obtain ⟨p0_0, p0_1, p0_2, p0_3⟩ := sT0.c4
        have sT1 := sT0.tail
        clear sT0 sT1
        by_cases hlt : k < m.wc.length
        rotate_left
        · have hlt' : ¬ (k : Int) < (m.wc.length : Int) := by omega
          go_wp2
          go_ret
          exact ⟨ret_bool (by rw [← H.out]; unfold cachedB; rw [HT.out, any_all HA2.out (Nat.le_of_not_lt hlt)]; rfl), S3.out.b⟩
        have hlt' : (k : Int) < (m.wc.length : Int) := by omega
        obtain ⟨a0, e0, ea, g0, u0, u1, u2, u3⟩ := SWc.at (R.out.wc.below S3.out.b) hlt
        cases ea
        have G0 := Lib.hid g0
        have OK := Lib.hid (V.out.wc e0 (List.mem_of_getElem? g0))
        clear g0
        go_upto_region 10 with fail
        refine st_genB (S3.out.push _ _) (allocB HB2.out _) (fun w3 S4' hb3 => ?_)
        have S4 := Lib.hid S4'
        have HB3 := Lib.hid hb3
        clear S4' hb3 u0 u1 u2 u3
        clear p0_0 p0_1 p0_2 p0_3
        have sT0 := S4.out
        obtain ⟨p0_0, p0_1, p0_2, p0_3⟩ := sT0.c4
        have sT1 := sT0.tail
        obtain ⟨p1_0, p1_1, p1_2, p1_3⟩ := sT1.c4
        have sT2 := sT1.tail
        clear sT0 sT1 sT2
        have hpg : 0 ≤ e0.Page ∧ e0.Page ≤ 1000000 := by have := OK.out.2.1; omega
        have HPG := Lib.hid hpg
        obtain ⟨cv, hcv⟩ : ∃ c, cov (e0.Level - 1) = c := ⟨_, rfl⟩
        have hsz : 0 ≤ cv ∧ cv ≤ 1000000 := by rw [← hcv]; unfold cov; split <;> (try split) <;> omega
        have HSZ := Lib.hid hsz
        have HCV := Lib.hid hcv
        have hlw : IntKind.i64.wrap (e0.Level - 1) = e0.Level - 1 := by rw [IntKind.wrap_i64]; rcases OK.out.1 with h | h <;> omega
        have b0 := BW.cell p0_0
        have b1 := BW.cell p0_1
        clear p0_0 p0_1 p0_2 p0_3 p1_0 p1_1 p1_2 p1_3 hcv hpg hsz
        rcases Bool.eq_false_or_eq_true (decide (e0.Level > level)) with hg | hg
        · rcases Bool.eq_false_or_eq_true (decide (meetQ page n e0.Page cv)) with hc | hc
          all_goals
            have HC := Lib.hid hc
            clear hc
            (refine wp_region_below (by kernel_rfl) (by kernel_rfl) ?_; (repeat (first | (go_big_quiet_step (first | (go_at_call 21; refine BW.same (meet_b page n e0.Page cv _ _ HP.out HN.out HPG.out HSZ.out HC.out)) | (go_at_call 22; refine BW.same (coversP_b _ cv HCV.out _)))) | ((with_reducible refine wpQuiet_step ?_); intro K hK; go_simp; first | ((with_reducible refine hK _ ?_); clear hK K) | (apply Exists.intro; refine ⟨fun _ => ?_, hK _ ?_⟩; (first | (go_at_call 21; refine BW.same (meet_b page n e0.Page cv _ _ HP.out HN.out HPG.out HSZ.out HC.out)) | (go_at_call 22; refine BW.same (coversP_b _ cv HCV.out _))); clear hK K)))); (with_reducible refine wpQuiet_nil ?_); intro wq hw'; obtain ⟨⟨wy, hbq⟩, hw''⟩ := hw'; subst hw'')
            go_wp2
          · have hu : wcUnder level page n e0 = true := by
              unfold wcUnder
              rw [HCV.out]
              exact decide_eq_true ⟨of_decide_eq_true hg, of_decide_eq_true HC.out⟩
            go_ret
            exact ⟨ret_bool (by rw [← H.out]; unfold cachedB; rw [any_true G0.out hu, Bool.or_true]), thenB S4.out.b hbq⟩
          · have hu : wcUnder level page n e0 = false := by
              unfold wcUnder
              rw [HCV.out]
              exact decide_eq_false (fun h => of_decide_eq_false HC.out h.2)
            go_roundw
            case rel => exact ⟨k + 1, by omega, by go_num, any_take G0.out HA2.out hu, thenB HB3.out hbq⟩
            case measure => simp [intOf]; omega
        · have hu : wcUnder level page n e0 = false := by
            unfold wcUnder
            exact decide_eq_false (fun h => of_decide_eq_false hg h.1)
          have HU := Lib.hid hu
          clear hu
          (refine wp_region_below (by kernel_rfl) (by kernel_rfl) ?_; (repeat (first | (go_big_quiet_step (fail)) | ((with_reducible refine wpQuiet_step ?_); intro K hK; go_simp; first | ((with_reducible refine hK _ ?_); clear hK K) | (apply Exists.intro; refine ⟨fun _ => ?_, hK _ ?_⟩; (fail); clear hK K)))); (with_reducible refine wpQuiet_nil ?_); intro wq hw'; obtain ⟨⟨wy, hbq⟩, hw''⟩ := hw'; subst hw'')
          go_wp2
          go_roundw
          case rel => exact ⟨k + 1, by omega, by go_num, any_take G0.out HA2.out HU.out, thenB HB3.out hbq⟩
          case measure => simp [intOf]; omega

theorem st_outSet {w0 w : World} {l : List (Nat × Array Value × Nat)} (S : St w0 l w) {g : Nat} (j : Nat) (u : Value) (hg : w0.heap.size ≤ g) (hn : ∀ x ∈ l, x.1 ≠ g) : St w0 l (w.setCell ⟨g, j, none⟩ u) :=
  ⟨S.b.setCell (p := ⟨g, j, none⟩) hg u, fun x hx => by rw [Below.heap_setCell _ _ _ _ (by exact hn x hx)]; exact S.blk x hx, S.up, S.ord⟩
theorem st_own {w0 w : World} {l : List (Nat × Array Value × Nat)} {α : Type} {e : α → List Value} {s E b : Nat} {v : Value} {L : List α} (S : St w0 l w) (h : Own e s E b w v L) {G : World → Prop} (k : ∀ w', St w0 l w' → Own e s E b w' v L → G w') : G w := k w S h
set_option maxRecDepth 100000 in
set_option maxHeartbeats 8000000 in
theorem latest_any (v0 v1 v2 v3 : Value) (m : SM) (w : World) (r : RdM w v0 v1 v2 v3 m) (hv : Valid m) :
    Calls Try.prog 20 #[.agg #[v0, v1, v2, v3]] w fun e w' => ∃ v, e = .returned (.agg #[v]) ∧ Own wEnc 1 31 w.heap.size w' v (latestOf m) ∧ Below w.heap.size w w' := by
  obtain ⟨A0, c0, A1, c1, A2, c2, A3, c3, rfl, rfl, rfl, rfl, hl0, hk0, hl1, hk1, hl2, hk2, hl3, hk3⟩ := r.shape
  have R := Lib.hid r
  have V := Lib.hid hv
  have hnp : m.pend.length ≤ 10000 := hv.npend
  have hnw : m.ws.length ≤ 1048576 := by have := hv.frames; omega
  have hnw1 : 16 ≤ m.ws.length := by have := hv.frames; omega
  clear r hv
  go_enter Try.func20, Try.ntmps20
  go_upto_region 1 with fail
  refine ((St.start w).push2 _ _ _ _).gen (fun w1 S1' _ => ?_)
  have S1 := Lib.hid S1'
  clear S1'
  have sT0 := S1.out
  have p0_0 := sT0.c1
  have sT1 := sT0.tail
  obtain ⟨p1_0, p1_1, p1_2, p1_3⟩ := sT1.c4
  have sT2 := sT1.tail
  clear sT0 sT1 sT2
  go_wp2_with fail
  refine (specCopyMem_any _ m.ws _ (R.out.ws.below S1.out.b) hnw).mono ?_
  rintro e w2 ⟨v, rfl, o2, hb2⟩
  have S2 := Lib.hid (S1.out.below hb2)
  have O2 := Lib.hid (o2.lower S1.out.b.size)
  obtain ⟨Av, cv, hvv⟩ := o2.shape
  subst hvv
  clear o2 hb2
  clear p0_0 p1_0 p1_1 p1_2 p1_3
  go_upto_region 2 with fail
  refine st_own (S2.out.push _ _) (O2.out.below (allocB (Below.refl _ _) _)) (fun w3 S3' O3' => ?_)
  have S3 := Lib.hid S3'
  have O3 := Lib.hid O3'
  clear S3' O3' S2 O2
  obtain ⟨L3, hL3⟩ : ∃ L, (w2.heap.size, #[.slice Av m.ws.length cv], 25) :: (w.heap.size + 1, #[.slice none 0 0], 25) :: (w.heap.size, #[.slice A0 m.ws.length c0, .slice A1 m.pend.length c1, .slice A2 m.tlb.length c2, .slice A3 m.wc.length c3], 30) :: ([] : List (Nat × Array Value × Nat)) = L := ⟨_, rfl⟩
  go_wp2
  go_loopw [4] (fun i wr => ∃ k : Nat, k ≤ m.pend.length ∧ i = .int .i64 k ∧ Own wEnc 1 31 w.heap.size wr (.slice Av m.ws.length cv) (writes m.ws (m.pend.take k)) ∧ St w ((w2.heap.size, #[.slice Av m.ws.length cv], 25) :: (w.heap.size + 1, #[.slice none 0 0], 25) :: (w.heap.size, #[.slice A0 m.ws.length c0, .slice A1 m.pend.length c1, .slice A2 m.tlb.length c2, .slice A3 m.wc.length c3], 30) :: []) wr) (fun i _ => m.pend.length - (intOf i).toNat)
  case atStart => exact ⟨0, Nat.zero_le _, rfl, O3.out, S3.out⟩
  case round =>
    obtain ⟨k, hk, rfl, ho, hs⟩ := hrel
    have HO := Lib.hid ho
    have HS := Lib.hid hs
    clear ho hs
    have sT0 := HS.out
    have p0_0 := sT0.c1
    have sT1 := sT0.tail
    have p1_0 := sT1.c1
    have pF1_0 := sT1.f 0
    have sT2 := sT1.tail
    obtain ⟨p2_0, p2_1, p2_2, p2_3⟩ := sT2.c4
    have sT3 := sT2.tail
    clear sT0 sT1 sT2 sT3
    by_cases hlt : k < m.pend.length
    rotate_left
    · have hlt' : ¬ (k : Int) < (m.pend.length : Int) := by omega
      obtain rfl : k = m.pend.length := by omega
      rw [List.take_length] at HO
      go_wp2
      exact bodyPost_ret (v := .agg #[.slice Av m.ws.length cv]) (by simp [results, Try.results20, go_sem, *]) rfl ⟨_, rfl, own_setOff HO.out (a := ⟨w.heap.size + 1, 0, none⟩) (off_box HO.out HS.out.tail.head (by decide)) _, HS.out.b.setCell (by simp) _⟩
    have hlt' : (k : Int) < (m.pend.length : Int) := by omega
    obtain ⟨a0, e0, ea, g0, u0, u1⟩ := SWrite.at (R.out.pend.below HS.out.b) hlt
    cases ea
    have hok := V.out.pend e0 (List.mem_of_getElem? g0)
    have G0 := Lib.hid g0
    clear g0
    obtain ⟨adr, wd⟩ := e0
    simp only at u0 u1
    obtain ⟨hok0, hok1⟩ := hok
    simp only at hok0 hok1
    have ho := HO.out
    obtain ⟨g, hA, hg1, hg2, hgf, hgc⟩ := ho.block wLen (by rw [writes_len]; omega)
    subst hA
    have hgf0 := hgf adr.toNat
    have hlw : adr.toNat < (writes m.ws (m.pend.take k)).length := by rw [writes_len]; omega
    have hgc0 := hgc adr.toNat _ (List.getElem?_eq_getElem hlw) 0 _ rfl
    simp only [Nat.mul_one, Nat.add_zero] at hgc0
    have n0 := off_box ho HS.out.head (by decide)
    have n1 := off_box ho HS.out.tail.head (by decide)
    have n2 := off_box ho HS.out.tail.tail.head (by decide)
    simp only [Value.ownBlock, ne_eq, Option.some.injEq] at n0 n1 n2
    have N0 := Lib.hid n0
    have N1 := Lib.hid n1
    have N2 := Lib.hid n2
    clear hgf hgc ho n0 n1 n2
    go_upto_region 5 with fail
    go_still_tail 15, (by kernel_rfl)
    change wpList _ _ _ _ _ wr.drew
    have HO3 := Lib.hid HO.out.drew
    have HS3 := Lib.hid HS.out.drew
    have hgf3 : wr.drew.frozen? ⟨g, adr.toNat, none⟩ = false := hgf0
    have hgc3 : wr.drew.cell? ⟨g, adr.toNat, none⟩ = _ := hgc0
    clear hgf0 hgc0 u0 u1 p0_0 p1_0 pF1_0 p2_0 p2_1 p2_2 p2_3 HO HS hg2
    generalize wr.drew = w4 at *
    go_wp2
    go_roundw
    case rel =>
      refine ⟨k + 1, by omega, by go_num, ?_, st_outSet HS3.out _ _ hg1 ?_⟩
      · rw [take_snoc G0.out, writes_snoc]
        exact own_set1 wLen HO3.out adr.toNat hlw wd rfl
      · intro x hx
        simp only [List.mem_cons, List.not_mem_nil, or_false] at hx
        rcases hx with rfl | rfl | rfl
        · exact N0.out
        · exact N1.out
        · exact N2.out
    case measure => simp [intOf]; omega
end Go.Proofs.Ythphfcheencbgaa.Mmu
