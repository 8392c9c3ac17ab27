/- Walks of the program's mach.holds and header.doom. Walks of the program's operations: is one well formed? Walks of the program's operations: what a write does. -/
import Derived.Test.YthphfcheencbgaaImplMeets
namespace Go.Proofs.Ythphfcheencbgaa.Mmu
open Go.RowKit Go.Proofs.Ythphfcheencbgaa.Base Go.Proofs.Ythphfcheencbgaa.Kinds Go.Proofs.Ythphfcheencbgaa.DecMath Go.Proofs.Ythphfcheencbgaa.L1
set_option linter.unusedVariables false
set_option linter.unusedSimpArgs false
theorem meetsH_b (ad : Addr) (hp hc pg ct : Int) (c : Bool) (w : World) (h : decide (meetQ pg ct hp hc) = c) (q0 : w.cell? ad = some (.int .i64 hp)) (q1 : w.cell? ⟨ad.block, ad.off + 1, none⟩ = some (.int .i64 hc))
    (b0 : 0 ≤ hp ∧ 0 ≤ hc ∧ 0 ≤ pg ∧ 0 ≤ ct) (b1 : hp + hc ≤ 100000) (b2 : pg + ct ≤ 100000) :
    Calls Try.prog 89 #[.pointer (some ad), .int .i64 pg, .int .i64 ct] w fun e w' => e = .returned (.bool c) ∧ Below w.heap.size w w' :=
  (meets_any ad hp hc pg ct w q0 q1 b0 b1 b2).mono (by
    rintro e w' ⟨rfl, hb⟩
    exact ⟨ret_bool (by rw [← h, Bool.eq_iff_iff, decide_eq_true_iff, decide_eq_true_iff]; unfold meetQ; omega), hb⟩)
set_option maxRecDepth 100000 in
set_option maxHeartbeats 8000000 in
theorem holds_b (base p : Nat) (v0 v1 v2 v3 v4 : Value) (m : SM) (ls : List Int) (level page n : Int) (w : World) (x : OwnX base w p v0 v1 v2 v3 v4 m ls) (hv : Valid m) (hp : 0 ≤ page ∧ page ≤ 10000) (hn : 0 ≤ n ∧ n ≤ 10000) (b : Bool) (h : cachedB m level page n = b) :
    Calls Try.prog 76 #[.pointer (some ⟨p, 0, none⟩), .int .i64 page, .int .i64 n, .int .i64 level] w fun e w' => e = .returned (.bool b) ∧ Below w.heap.size w w' := by
  obtain ⟨A3, c3, hv3⟩ := x.tlb.shape
  obtain ⟨A4, c4, hv4⟩ := x.wc.shape
  subst hv3 hv4
  have X := Lib.hid x
  have V := Lib.hid hv
  have H := Lib.hid h
  have HP := Lib.hid hp
  have HN := Lib.hid hn
  have hnt : m.tlb.length ≤ 256 := hv.ntlb
  have hnw : m.wc.length ≤ 256 := hv.nwc
  have k3 := x.cell.2.2.2.1
  clear x h hv
  go_enter Try.func76, Try.ntmps76
  go_wp2
  clear k3
  go_loopw [17] (fun i wr => ∃ k : Nat, k ≤ m.tlb.length ∧ i = .int .i64 k ∧ (m.tlb.take k).any (tlbMeet page n) = false ∧ Below w.heap.size w wr) (fun i _ => m.tlb.length - (intOf i).toNat)
  case atStart => exact ⟨0, Nat.zero_le _, rfl, by simp, Below.refl _ _⟩
  case round =>
    obtain ⟨k, hk, rfl, ha, hb⟩ := hrel
    have HA := Lib.hid ha
    have HB := Lib.hid hb
    have XR := Lib.hid (X.out.below hb)
    clear ha hb
    by_cases hlt : k < m.tlb.length
    · have hlt' : (k : Int) < (m.tlb.length : Int) := by omega
      have k3 := XR.out.cell.2.2.2.1
      obtain ⟨a0, e0, ea, g0, u0, u1, u2, u3, u4⟩ := whole_at (XR.out.tlb.rd wholeLen) hlt
      cases ea
      have G0 := Lib.hid g0
      have OK := V.out.tlb e0 (List.mem_of_getElem? g0)
      have hpg : 0 ≤ e0.Page ∧ e0.Page ≤ 10000 := by have := OK.2.1; omega
      have hsz : 0 ≤ e0.Size ∧ e0.Size ≤ 10000 := by rcases OK.1 with h | h <;> omega
      have HPG := Lib.hid hpg
      have HSZ := Lib.hid hsz
      have U0 := Lib.hid u0
      have U1 := Lib.hid u1
      clear g0 hpg hsz OK
      rcases Bool.eq_false_or_eq_true (tlbMeet page n e0) with hc | hc
      all_goals
        have HC := Lib.hid hc
        clear hc
        go_wp2_with (first | (go_at_call 89; refine (meetsH_b _ e0.Page e0.Size page n _ _ HC.out U0.out U1.out (by have := HP.out; have := HN.out; have := HPG.out; have := HSZ.out; omega) (by have := HPG.out; have := HSZ.out; omega) (by have := HP.out; have := HN.out; omega)).mono ?_; rintro e w8 ⟨rfl, hb8⟩; have HB8 := Lib.hid (thenB HB.out hb8); clear hb8))
      · go_ret
        exact ⟨ret_bool (by rw [← H.out]; unfold cachedB; rw [any_true G0.out HC.out, Bool.true_or]), HB8.out⟩
      · go_roundw
        case rel => exact ⟨k + 1, by omega, by go_num, any_take G0.out HA.out HC.out, HB8.out⟩
        case measure => simp [intOf]; omega
    · have hlt' : ¬ (k : Int) < (m.tlb.length : Int) := by omega
      have HT := Lib.hid (any_all HA.out (Nat.le_of_not_lt hlt))
      have k4 := XR.out.cell.2.2.2.2
      generalize wr = w2 at *
      go_wp2
      clear k4
      go_loopw [36] (fun i wr => ∃ k : Nat, k ≤ m.wc.length ∧ i = .int .i64 k ∧ (m.wc.take k).any (wcUnder level page n) = false ∧ Below w.heap.size w wr) (fun i _ => m.wc.length - (intOf i).toNat)
      case atStart => exact ⟨0, Nat.zero_le _, rfl, by simp, HB.out⟩
      case round =>
        obtain ⟨k, hk, rfl, ha, hb⟩ := hrel
        have HA2 := Lib.hid ha
        have HB2 := Lib.hid hb
        have XR := Lib.hid (X.out.below hb)
        clear ha hb
        by_cases hlt : k < m.wc.length
        rotate_left
        · have hlt' : ¬ (k : Int) < (m.wc.length : Int) := by omega
          go_wp2
          go_ret
          exact ⟨ret_bool (by rw [← H.out]; unfold cachedB; rw [HT.out, any_all HA2.out (Nat.le_of_not_lt hlt)]; rfl), HB2.out⟩
        have hlt' : (k : Int) < (m.wc.length : Int) := by omega
        have k4 := XR.out.cell.2.2.2.2
        obtain ⟨a0, e0, ea, g0, u0, u1, u2, u3, u4⟩ := step_at (XR.out.wc.rd stepLen) hlt
        cases ea
        have G0 := Lib.hid g0
        have OK := V.out.wc e0 (List.mem_of_getElem? g0)
        have hpg : 0 ≤ e0.Page ∧ e0.Page ≤ 10000 := by have := OK.2.1; omega
        have HPG := Lib.hid hpg
        obtain ⟨cv, hcv⟩ : ∃ c, cov (e0.Level - 1) = c := ⟨_, rfl⟩
        rw [hcv] at u1
        have hsz : 0 ≤ cv ∧ cv ≤ 10000 := by rw [← hcv]; unfold cov; split <;> (try split) <;> omega
        have HSZ := Lib.hid hsz
        have HCV := Lib.hid hcv
        have U0 := Lib.hid u0
        have U1 := Lib.hid u1
        clear g0 hpg hsz hcv OK
        by_cases hg : e0.Level > level
        · rcases Bool.eq_false_or_eq_true (decide (meetQ page n e0.Page cv)) with hc | hc
          all_goals
            have HC := Lib.hid hc
            clear hc
            go_wp2_with (first | (go_at_call 89; refine (meetsH_b _ e0.Page cv page n _ _ HC.out U0.out U1.out (by have := HP.out; have := HN.out; have := HPG.out; have := HSZ.out; omega) (by have := HPG.out; have := HSZ.out; omega) (by have := HP.out; have := HN.out; omega)).mono ?_; rintro e w8 ⟨rfl, hb8⟩; have HB8 := Lib.hid (thenB HB2.out hb8); clear hb8))
          · have hu : wcUnder level page n e0 = true := by
              unfold wcUnder
              rw [HCV.out]
              exact decide_eq_true ⟨hg, of_decide_eq_true HC.out⟩
            go_ret
            exact ⟨ret_bool (by rw [← H.out]; unfold cachedB; rw [any_true G0.out hu, Bool.or_true]), HB8.out⟩
          · have hu : wcUnder level page n e0 = false := by
              unfold wcUnder
              rw [HCV.out]
              exact decide_eq_false (fun h => of_decide_eq_false HC.out h.2)
            go_roundw
            case rel => exact ⟨k + 1, by omega, by go_num, any_take G0.out HA2.out hu, HB8.out⟩
            case measure => simp [intOf]; omega
        · have hu : wcUnder level page n e0 = false := by
            unfold wcUnder
            exact decide_eq_false (fun h => hg h.1)
          have HU := Lib.hid hu
          clear hu
          go_wp2
          go_roundw
          case rel => exact ⟨k + 1, by omega, by go_num, any_take G0.out HA2.out HU.out, HB2.out⟩
          case measure => simp [intOf]; omega
set_option maxHeartbeats 4000000 in
/-- An entry's header is doomed. -/
theorem doom_any (b o : Nat) (d : Value) (w : World) (q : w.cell? ⟨b, o + 2, none⟩ = some d) (qf : w.frozen? ⟨b, o + 2, none⟩ = false) :
    Calls Try.prog 96 #[.pointer (some ⟨b, o, none⟩)] w fun e w' => e = .returned (.tuple #[]) ∧ w' = w.setCell ⟨b, o + 2, none⟩ (.bool true) := by
  go_enter Try.func96, Try.ntmps96
  go_wp2
  refine bodyPost_end (v := .tuple #[]) (by simp [results, Try.results96, go_sem, *]) rfl ⟨rfl, rfl⟩
end Go.Proofs.Ythphfcheencbgaa.Mmu

namespace Go.Proofs.Ythphfcheencbgaa.Mmu
open Go.RowKit Go.Proofs.Ythphfcheencbgaa.Base Go.Proofs.Ythphfcheencbgaa.Kinds Go.Proofs.Ythphfcheencbgaa.DecMath Go.Proofs.Ythphfcheencbgaa.L1
set_option linter.unusedVariables false
set_option linter.unusedSimpArgs false
set_option maxRecDepth 100000 in
set_option maxHeartbeats 8000000 in
theorem writeFormed_b (base p : Nat) (v0 v1 v2 v3 v4 : Value) (m : SM) (ls : List Int) (a wd rest : Int) (w : World) (x : OwnX base w p v0 v1 v2 v3 v4 m ls) (b : Bool) (h : decide (0 ≤ a ∧ a < (m.ws.length : Int) ∧ rest = 0 ∧ m.pend.length < 10000) = b) :
    Calls Try.prog 87 #[.agg #[.int .i64 a, .int .u64 wd, .int .i64 rest], .pointer (some ⟨p, 0, none⟩)] w fun e w' => e = .returned (.bool b) ∧ Below w.heap.size w w' := by
  obtain ⟨A0, c0, hv0⟩ := x.ws.shape
  obtain ⟨A2, c2, hv2⟩ := x.pend.shape
  subst hv0 hv2
  have X := Lib.hid x
  have H := Lib.hid h
  clear x h
  rcases Bool.eq_false_or_eq_true (decide (0 ≤ a)) with g1 | g1
  · rcases Bool.eq_false_or_eq_true (decide (a < (m.ws.length : Int))) with g2 | g2
    · rcases Bool.eq_false_or_eq_true (rest == 0) with g3 | g3
      all_goals
        go_enter Try.func87, Try.ntmps87
        go_upto_region 1 with fail
        refine ((St.start w).push _ _).gen (fun w1 S1' _ => ?_)
        have S1 := Lib.hid S1'
        have k0 := BW.cell (X.out.below S1'.b).cell.1
        have k2 := BW.cell (X.out.below S1'.b).cell.2.2.1
        clear S1'
        have sT0 := S1.out
        obtain ⟨p0_0, p0_1, p0_2⟩ := sT0.c3
        have sT1 := sT0.tail
        have pB0_0 := BW.cell p0_0
        have pB0_1 := BW.cell p0_1
        have pB0_2 := BW.cell p0_2
        clear p0_0 p0_1 p0_2
        clear sT0 sT1
        (refine wp_region_below (by kernel_rfl) (by kernel_rfl) ?_; (repeat (first | (go_big_quiet_step (fail)) | ((with_reducible refine wpQuiet_step ?_); intro K hK; go_simp; first | ((with_reducible refine hK _ ?_); clear hK K) | (apply Exists.intro; refine ⟨fun _ => ?_, hK _ ?_⟩; (fail); clear hK K)))); (with_reducible refine wpQuiet_nil ?_); intro wq hw'; obtain ⟨⟨wy, hbq⟩, hw''⟩ := hw'; subst hw'')
        go_wp2
        go_ret
      · exact ⟨ret_bool (by rw [← H.out, Bool.eq_iff_iff]; simp at g1 g2 g3; simp [g1, g2, g3]; omega), thenB S1.out.b hbq⟩
      · exact ⟨ret_bool (by rw [← H.out]; simp at g3; simp [g3]), thenB S1.out.b hbq⟩
    · go_enter Try.func87, Try.ntmps87
      go_upto_region 1 with fail
      refine ((St.start w).push _ _).gen (fun w1 S1' _ => ?_)
      have S1 := Lib.hid S1'
      have k0 := BW.cell (X.out.below S1'.b).cell.1
      have k2 := BW.cell (X.out.below S1'.b).cell.2.2.1
      clear S1'
      have sT0 := S1.out
      obtain ⟨p0_0, p0_1, p0_2⟩ := sT0.c3
      have sT1 := sT0.tail
      have pB0_0 := BW.cell p0_0
      have pB0_1 := BW.cell p0_1
      have pB0_2 := BW.cell p0_2
      clear p0_0 p0_1 p0_2
      clear sT0 sT1
      (refine wp_region_below (by kernel_rfl) (by kernel_rfl) ?_; (repeat (first | (go_big_quiet_step (fail)) | ((with_reducible refine wpQuiet_step ?_); intro K hK; go_simp; first | ((with_reducible refine hK _ ?_); clear hK K) | (apply Exists.intro; refine ⟨fun _ => ?_, hK _ ?_⟩; (fail); clear hK K)))); (with_reducible refine wpQuiet_nil ?_); intro wq hw'; obtain ⟨⟨wy, hbq⟩, hw''⟩ := hw'; subst hw'')
      go_wp2
      go_ret
      exact ⟨ret_bool (by rw [← H.out, eq_comm]; simp at g2; exact decide_eq_false (by omega)), thenB S1.out.b hbq⟩
  · go_enter Try.func87, Try.ntmps87
    go_upto_region 1 with fail
    refine ((St.start w).push _ _).gen (fun w1 S1' _ => ?_)
    have S1 := Lib.hid S1'
    have k0 := BW.cell (X.out.below S1'.b).cell.1
    have k2 := BW.cell (X.out.below S1'.b).cell.2.2.1
    clear S1'
    have sT0 := S1.out
    obtain ⟨p0_0, p0_1, p0_2⟩ := sT0.c3
    have sT1 := sT0.tail
    have pB0_0 := BW.cell p0_0
    have pB0_1 := BW.cell p0_1
    have pB0_2 := BW.cell p0_2
    clear p0_0 p0_1 p0_2
    clear sT0 sT1
    (refine wp_region_below (by kernel_rfl) (by kernel_rfl) ?_; (repeat (first | (go_big_quiet_step (fail)) | ((with_reducible refine wpQuiet_step ?_); intro K hK; go_simp; first | ((with_reducible refine hK _ ?_); clear hK K) | (apply Exists.intro; refine ⟨fun _ => ?_, hK _ ?_⟩; (fail); clear hK K)))); (with_reducible refine wpQuiet_nil ?_); intro wq hw'; obtain ⟨⟨wy, hbq⟩, hw''⟩ := hw'; subst hw'')
    go_wp2
    go_ret
    exact ⟨ret_bool (by rw [← H.out, eq_comm]; simp at g1; exact decide_eq_false (by omega)), thenB S1.out.b hbq⟩

set_option maxRecDepth 100000 in
set_option maxHeartbeats 8000000 in
theorem freeFormed_b (base p : Nat) (v0 v1 v2 v3 v4 : Value) (m : SM) (ls : List Int) (kd a bb wd : Int) (w : World) (x : OwnX base w p v0 v1 v2 v3 v4 m ls) (b : Bool) (h : decide (0 ≤ a ∧ a < ((m.ws.length / 16 : Nat) : Int) ∧ bb = 0 ∧ wd = 0) = b) :
    Calls Try.prog 78 #[.agg #[.int .i64 kd, .int .i64 a, .int .i64 bb, .int .u64 wd], .pointer (some ⟨p, 0, none⟩)] w fun e w' => e = .returned (.bool b) ∧ Below w.heap.size w w' := by
  obtain ⟨A0, c0, hv0, hc0, hm0⟩ := (x.ws.rd wLen).shape
  subst hv0
  have X := Lib.hid x
  obtain ⟨f, hf⟩ : ∃ f : Int, ((m.ws.length / 16 : Nat) : Int) = f := ⟨_, rfl⟩
  rw [hf] at h
  have HF := Lib.hid hf
  have H := Lib.hid h
  clear x h hf
  rcases Bool.eq_false_or_eq_true (decide (0 ≤ a)) with g1 | g1
  · rcases Bool.eq_false_or_eq_true (decide (a < f)) with g2 | g2
    · rcases Bool.eq_false_or_eq_true (bb == 0) with g3 | g3
      all_goals
        go_enter Try.func78, Try.ntmps78
        go_upto_region 1 with fail
        refine ((St.start w).push _ _).gen (fun w1 S1' _ => ?_)
        have S1 := Lib.hid S1'
        have k0 := BW.cell (X.out.below S1'.b).cell.1
        clear S1'
        have sT0 := S1.out
        obtain ⟨p0_0, p0_1, p0_2, p0_3⟩ := sT0.c4
        have sT1 := sT0.tail
        have pB0_0 := BW.cell p0_0
        have pB0_1 := BW.cell p0_1
        have pB0_2 := BW.cell p0_2
        have pB0_3 := BW.cell p0_3
        clear p0_0 p0_1 p0_2 p0_3
        clear sT0 sT1
        (refine wp_region_below (by kernel_rfl) (by kernel_rfl) ?_; (repeat (first | (go_big_quiet_step (first | (go_at_call 44; refine BW.calls (frames_b A0 m.ws.length c0 f _ hc0 hm0 HF.out)))) | ((with_reducible refine wpQuiet_step ?_); intro K hK; go_simp; first | ((with_reducible refine hK _ ?_); clear hK K) | (apply Exists.intro; refine ⟨fun _ => ?_, hK _ ?_⟩; (first | (go_at_call 44; refine BW.calls (frames_b A0 m.ws.length c0 f _ hc0 hm0 HF.out))); clear hK K)))); (with_reducible refine wpQuiet_nil ?_); intro wq hw'; obtain ⟨⟨wy, hbq⟩, hw''⟩ := hw'; subst hw'')
        go_wp2
        go_ret
      · exact ⟨ret_bool (by rw [← H.out, Bool.eq_iff_iff]; simp at g1 g2 g3; simp [g1, g2, g3]), thenB S1.out.b hbq⟩
      · exact ⟨ret_bool (by rw [← H.out]; simp at g3; simp [g3]), thenB S1.out.b hbq⟩
    · go_enter Try.func78, Try.ntmps78
      go_upto_region 1 with fail
      refine ((St.start w).push _ _).gen (fun w1 S1' _ => ?_)
      have S1 := Lib.hid S1'
      have k0 := BW.cell (X.out.below S1'.b).cell.1
      clear S1'
      have sT0 := S1.out
      obtain ⟨p0_0, p0_1, p0_2, p0_3⟩ := sT0.c4
      have sT1 := sT0.tail
      have pB0_0 := BW.cell p0_0
      have pB0_1 := BW.cell p0_1
      have pB0_2 := BW.cell p0_2
      have pB0_3 := BW.cell p0_3
      clear p0_0 p0_1 p0_2 p0_3
      clear sT0 sT1
      (refine wp_region_below (by kernel_rfl) (by kernel_rfl) ?_; (repeat (first | (go_big_quiet_step (first | (go_at_call 44; refine BW.calls (frames_b A0 m.ws.length c0 f _ hc0 hm0 HF.out)))) | ((with_reducible refine wpQuiet_step ?_); intro K hK; go_simp; first | ((with_reducible refine hK _ ?_); clear hK K) | (apply Exists.intro; refine ⟨fun _ => ?_, hK _ ?_⟩; (first | (go_at_call 44; refine BW.calls (frames_b A0 m.ws.length c0 f _ hc0 hm0 HF.out))); clear hK K)))); (with_reducible refine wpQuiet_nil ?_); intro wq hw'; obtain ⟨⟨wy, hbq⟩, hw''⟩ := hw'; subst hw'')
      go_wp2
      go_ret
      exact ⟨ret_bool (by rw [← H.out, eq_comm]; simp at g2; exact decide_eq_false (by omega)), thenB S1.out.b hbq⟩
  · go_enter Try.func78, Try.ntmps78
    go_upto_region 1 with fail
    refine ((St.start w).push _ _).gen (fun w1 S1' _ => ?_)
    have S1 := Lib.hid S1'
    have k0 := BW.cell (X.out.below S1'.b).cell.1
    clear S1'
    have sT0 := S1.out
    obtain ⟨p0_0, p0_1, p0_2, p0_3⟩ := sT0.c4
    have sT1 := sT0.tail
    have pB0_0 := BW.cell p0_0
    have pB0_1 := BW.cell p0_1
    have pB0_2 := BW.cell p0_2
    have pB0_3 := BW.cell p0_3
    clear p0_0 p0_1 p0_2 p0_3
    clear sT0 sT1
    (refine wp_region_below (by kernel_rfl) (by kernel_rfl) ?_; (repeat (first | (go_big_quiet_step (fail)) | ((with_reducible refine wpQuiet_step ?_); intro K hK; go_simp; first | ((with_reducible refine hK _ ?_); clear hK K) | (apply Exists.intro; refine ⟨fun _ => ?_, hK _ ?_⟩; (fail); clear hK K)))); (with_reducible refine wpQuiet_nil ?_); intro wq hw'; obtain ⟨⟨wy, hbq⟩, hw''⟩ := hw'; subst hw'')
    go_wp2
    go_ret
    exact ⟨ret_bool (by rw [← H.out, eq_comm]; simp at g1; exact decide_eq_false (by omega)), thenB S1.out.b hbq⟩

theorem pageOKT_b (p : Int) (b : Bool) (h : decide (0 ≤ p ∧ p < 4096) = b) (w : World) : Calls Try.prog 97 #[.int .i64 p] w fun e w' => e = .returned (.bool b) ∧ w' = w :=
  (pageOK_any p w).mono (by rintro e w' ⟨rfl, rfl⟩; exact ⟨by rw [h], rfl⟩)
set_option maxRecDepth 100000 in
set_option maxHeartbeats 8000000 in
theorem tlbiFormed_b (kd a bb wd : Int) (v : Value) (w : World) (b : Bool) (h : decide (0 ≤ a ∧ a < 4096 ∧ 1 ≤ bb ∧ bb ≤ 4096 - a ∧ wd = 0) = b) :
    Calls Try.prog 94 #[.agg #[.int .i64 kd, .int .i64 a, .int .i64 bb, .int .u64 wd], v] w fun e w' => e = .returned (.bool b) ∧ Below w.heap.size w w' := by
  have H := Lib.hid h
  clear h
  by_cases g : 0 ≤ a ∧ a < 4096
  · have HG := Lib.hid (decide_eq_true g)
    obtain ⟨g0, g1⟩ := g
    have e1 : IntKind.i64.wrap (4096 - a) = 4096 - a := by rw [IntKind.wrap_i64]; omega
    go_enter Try.func94, Try.ntmps94
    go_upto_region 1 with fail
    refine ((St.start w).push _ _).gen (fun w1 S1' _ => ?_)
    have S1 := Lib.hid S1'
    clear S1'
    have sT0 := S1.out
    obtain ⟨p0_0, p0_1, p0_2, p0_3⟩ := sT0.c4
    have sT1 := sT0.tail
    clear sT0 sT1
    go_wp2_with (first | (go_at_call 97; refine (pageOKT_b a true HG.out _).mono ?_; rintro e w2 ⟨rfl, rfl⟩))
    all_goals (go_ret; exact ⟨ret_bool (by rw [← H.out, Bool.eq_iff_iff]; simp [g0, g1] at *; try omega), S1.out.b⟩)
  · have HG := Lib.hid (decide_eq_false g)
    have HB : Hid (b = false) := Lib.hid (by rw [← H.out]; exact decide_eq_false (fun h => g ⟨h.1, h.2.1⟩))
    go_enter Try.func94, Try.ntmps94
    go_upto_region 1 with fail
    refine ((St.start w).push _ _).gen (fun w1 S1' _ => ?_)
    have S1 := Lib.hid S1'
    clear S1'
    have sT0 := S1.out
    obtain ⟨p0_0, p0_1, p0_2, p0_3⟩ := sT0.c4
    have sT1 := sT0.tail
    clear sT0 sT1
    go_wp2_with (first | (go_at_call 97; refine (pageOKT_b a false HG.out _).mono ?_; rintro e w2 ⟨rfl, rfl⟩))
    go_ret
    exact ⟨ret_bool HB.out.symm, S1.out.b⟩
set_option maxRecDepth 100000 in
set_option maxHeartbeats 8000000 in
theorem dsbFormed_b (a bb wd : Int) (v : Value) (w : World) (b : Bool) (h : decide (a = 0 ∧ bb = 0 ∧ wd = 0) = b) :
    Calls Try.prog 91 #[.agg #[.int .i64 2, .int .i64 a, .int .i64 bb, .int .u64 wd], v] w fun e w' => e = .returned (.bool b) ∧ Below w.heap.size w w' := by
  have H := Lib.hid h
  clear h
  go_enter Try.func91, Try.ntmps91
  go_upto_region 1 with fail
  refine ((St.start w).push _ _).gen (fun w1 S1' _ => ?_)
  have S1 := Lib.hid S1'
  clear S1'
  have sT0 := S1.out
  obtain ⟨p0_0, p0_1, p0_2, p0_3⟩ := sT0.c4
  have sT1 := sT0.tail
  clear sT0 sT1
  go_wp2
  all_goals (go_ret; exact ⟨ret_bool (by rw [← H.out, Bool.eq_iff_iff]; simp at *; try omega), S1.out.b⟩)
set_option maxHeartbeats 4000000 in
theorem dsbRefused_b (v : Value) (w : World) (kd a bb wd : Int) : Calls Try.prog 92 #[.agg #[.int .i64 kd, .int .i64 a, .int .i64 bb, .int .u64 wd], v] w fun e w' => e = .returned (.int .i64 0) ∧ Below w.heap.size w w' := by
  go_enter Try.func92, Try.ntmps92
  go_wp2
  go_ret
  exact ⟨rfl, allocB (Below.refl _ _) _⟩
set_option maxHeartbeats 4000000 in
theorem tlbiRefused_b (v : Value) (w : World) (kd a bb wd : Int) : Calls Try.prog 95 #[.agg #[.int .i64 kd, .int .i64 a, .int .i64 bb, .int .u64 wd], v] w fun e w' => e = .returned (.int .i64 0) ∧ Below w.heap.size w w' := by
  go_enter Try.func95, Try.ntmps95
  go_wp2
  go_ret
  exact ⟨rfl, allocB (Below.refl _ _) _⟩
end Go.Proofs.Ythphfcheencbgaa.Mmu

namespace Go.Proofs.Ythphfcheencbgaa.Mmu
open Go.RowKit Go.Proofs.Ythphfcheencbgaa.Base Go.Proofs.Ythphfcheencbgaa.Kinds Go.Proofs.Ythphfcheencbgaa.DecMath Go.Proofs.Ythphfcheencbgaa.L1
set_option linter.unusedVariables false
set_option linter.unusedSimpArgs false
/-- The machine inside is turned; its lists are the call's own still. -/
def DoPost (base p : Nat) (w : World) (m : SM) (ls : List Int) (val : Value) (e : Ending) (w' : World) : Prop :=
  e = .returned val ∧ ∃ v0 v1 v2 v3 v4, OwnX base w' p v0 v1 v2 v3 v4 m ls ∧ Below base w w' ∧ KeepX w w'
theorem keep3w {w w' : World} {row : Option Nat} {b q i : Nat} {v0 v1 u : Value} (h : w.cell? ⟨b, 0, none⟩ = some v0 ∧ w.cell? ⟨b, 1, none⟩ = some v1 ∧ w.cell? ⟨q, i, none⟩ = some u) (hg : w.grownBy w' row) (h1 : some b ≠ row) (h2 : some q ≠ row) :
    w'.cell? ⟨b, 0, none⟩ = some v0 ∧ w'.cell? ⟨b, 1, none⟩ = some v1 ∧ w'.cell? ⟨q, i, none⟩ = some u := ⟨hg.cell h.1 h1, hg.cell h.2.1 h1, hg.cell h.2.2 h2⟩
theorem keepX_set {α : Type} {enc : α → List Value} {sz E b g o n c : Nat} {w : World} {l : List α} (h : Own enc sz E b w (.slice (some ⟨g, o, none⟩) n c) l) (hE : inX E) (i : Nat) (u : Value) : KeepX w (w.setCell ⟨g, i, none⟩ u) := by
  rcases h.2 with ⟨h2, _⟩ | ⟨g', cap, cur, hv, hb, hg, _⟩
  · simp at h2
  · simp only [Value.slice.injEq, Option.some.injEq, Addr.mk.injEq] at hv
    obtain ⟨⟨rfl, _⟩, _⟩ := hv
    exact KeepX.set hg hE i u
theorem genX {wb w : World} {base p : Nat} {v0 v1 v2 v3 v4 : Value} {m : SM} {ls : List Int} (X : OwnX base w p v0 v1 v2 v3 v4 m ls) (hb : Below base wb w) (hk : KeepX wb w) {G : World → Prop} (k : ∀ w', OwnX base w' p v0 v1 v2 v3 v4 m ls → Below base wb w' → KeepX wb w' → G w') : G w := k w X hb hk
set_option maxRecDepth 100000 in
set_option maxHeartbeats 8000000 in
theorem writeDo_any (base p : Nat) (v0 v1 v2 v3 v4 : Value) (m : SM) (ls : List Int) (a wd rest : Int) (w : World) (X : OwnX base w p v0 v1 v2 v3 v4 m ls) (hn : m.pend.length < 10000) (ha0 : 0 ≤ a) (ha1 : a < (ls.length : Int)) :
    Calls Try.prog 86 #[.agg #[.int .i64 a, .int .u64 wd, .int .i64 rest], .pointer (some ⟨p, 0, none⟩)] w (DoPost base p w { m with pend := m.pend ++ [⟨a, wd⟩] } (ls.set a.toNat wd) (.tuple #[])) := by
  obtain ⟨A2, c2, e2⟩ := X.pend.shape
  obtain ⟨A1, c1, e1⟩ := X.ls.shape
  subst e2 e1
  have HX := Lib.hid X
  have hp1 : base ≤ p := X.low
  have hp2 : p < w.heap.size := X.lt
  clear X
  go_enter Try.func86, Try.ntmps86
  go_upto_region 1 with fail
  refine ((St.start w).push _ _).gen (fun w1 S1' _ => ?_)
  have S1 := Lib.hid S1'
  have hs1 : w.heap.size < w1.heap.size := S1'.lt _ (List.mem_cons_self ..)
  have X1 := Lib.hid (HX.out.below S1'.b)
  clear S1'
  have sT0 := S1.out
  obtain ⟨p0_0, p0_1, p0_2⟩ := sT0.c3
  have sT1 := sT0.tail
  clear sT0 sT1
  have XD := Lib.hid X1.out.drew
  have f3 := X1.out.cell.2.2.1
  have hun : some w.heap.size ≠ (Value.slice A2 m.pend.length c2).ownBlock := fun e => by have := (HX.out.pend.lt _ e.symm).2; omega
  have hup : some p ≠ (Value.slice A2 m.pend.length c2).ownBlock := X1.out.off X1.out.pend (by decide)
  have HUN := Lib.hid hun
  have HUP := Lib.hid hup
  have hp3 : p < w1.heap.size := X1.out.lt
  have hpn : p ≠ w.heap.size := by omega
  have hbs : base ≤ w1.heap.size := by omega
  clear hun hup
  refine wp_region_F (fun w' => w'.cell? ⟨w.heap.size, 0, none⟩ = some (.int .i64 a) ∧ w'.cell? ⟨w.heap.size, 1, none⟩ = some (.int .u64 wd) ∧ w'.cell? ⟨p, 2, none⟩ = some (.slice A2 m.pend.length c2)) 14 (by kernel_rfl) ⟨p0_0, p0_1, f3⟩ (fun hS => ?_)
  refine wpAnyF_take (i := 0) (v := ?_) 4 rfl rfl (by kernel_rfl) (by kernel_rfl) (by kernel_rfl) (by kernel_rfl) (fun _ _ _ h => h) (Or.inl ⟨by rfl, fun w' hSw => ?_⟩) hS ?_
  rotate_left
  · (try dsimp only at hSw); go_simp; (try with_reducible rfl)
  try simp only [Act.put, List.setIfInBounds_toArray, List.set_cons_zero, List.set_cons_succ]
  refine wpAnyF_take (i := 1) (v := ?_) 5 rfl rfl (by kernel_rfl) (by kernel_rfl) (by kernel_rfl) (by kernel_rfl) (fun _ _ _ h => h) (Or.inl ⟨by rfl, fun w' hSw => ?_⟩) hS ?_
  rotate_left
  · (try dsimp only at hSw); go_simp; (try with_reducible rfl)
  try simp only [Act.put, List.setIfInBounds_toArray, List.set_cons_zero, List.set_cons_succ]
  refine wpAnyF_take (i := 2) (v := ?_) 6 rfl rfl (by kernel_rfl) (by kernel_rfl) (by kernel_rfl) (by kernel_rfl) (fun _ _ _ h => h) (Or.inl ⟨by rfl, fun w' hSw => ?_⟩) hS ?_
  rotate_left
  · (try dsimp only at hSw); go_simp; (try with_reducible rfl)
  try simp only [Act.put, List.setIfInBounds_toArray, List.set_cons_zero, List.set_cons_succ]
  refine wpAnyF_take (i := 3) (v := ?_) 7 rfl rfl (by kernel_rfl) (by kernel_rfl) (by kernel_rfl) (by kernel_rfl) (fun _ _ _ h => h) (Or.inl ⟨by rfl, fun w' hSw => ?_⟩) hS ?_
  rotate_left
  · (try dsimp only at hSw); go_simp; (try with_reducible rfl)
  try simp only [Act.put, List.setIfInBounds_toArray, List.set_cons_zero, List.set_cons_succ]
  refine wpAnyF_take (i := 4) (v := ?_) 8 rfl rfl (by kernel_rfl) (by kernel_rfl) (by kernel_rfl) (by kernel_rfl) (fun _ _ _ h => h) (Or.inl ⟨by rfl, fun w' hSw => ?_⟩) hS ?_
  rotate_left
  · (try dsimp only at hSw); go_simp; (try with_reducible rfl)
  try simp only [Act.put, List.setIfInBounds_toArray, List.set_cons_zero, List.set_cons_succ]
  refine wpAnyF_take (i := 5) (v := ?_) 9 rfl rfl (by kernel_rfl) (by kernel_rfl) (by kernel_rfl) (by kernel_rfl) (fun _ _ _ h => h) (Or.inl ⟨by rfl, fun w' hSw => ?_⟩) hS ?_
  rotate_left
  · (try dsimp only at hSw); go_simp; (try with_reducible rfl)
  try simp only [Act.put, List.setIfInBounds_toArray, List.set_cons_zero, List.set_cons_succ]
  refine wpAnyF_take (i := 6) (v := ?_) 10 rfl rfl (by kernel_rfl) (by kernel_rfl) (by kernel_rfl) (by kernel_rfl) (fun _ _ _ h => h) (Or.inl ⟨by rfl, fun w' hSw => ?_⟩) hS ?_
  rotate_left
  · (try dsimp only at hSw); go_simp; (try with_reducible rfl)
  try simp only [Act.put, List.setIfInBounds_toArray, List.set_cons_zero, List.set_cons_succ]
  refine wpAnyF_take (i := 7) (v := ?_) 11 rfl rfl (by kernel_rfl) (by kernel_rfl) (by kernel_rfl) (by kernel_rfl) (fun _ _ _ h => h) (Or.inl ⟨by rfl, fun w' hSw => ?_⟩) hS ?_
  rotate_left
  · (try dsimp only at hSw); go_simp; (try with_reducible rfl)
  try simp only [Act.put, List.setIfInBounds_toArray, List.set_cons_zero, List.set_cons_succ]
  refine wpAnyF_take (i := 8) (v := ?_) 12 rfl rfl (by kernel_rfl) (by kernel_rfl) (by kernel_rfl) (by kernel_rfl) (fun _ _ _ h => h) (Or.inl ⟨by rfl, fun w' hSw => ?_⟩) hS ?_
  rotate_left
  · (try dsimp only at hSw); go_simp; (try with_reducible rfl)
  try simp only [Act.put, List.setIfInBounds_toArray, List.set_cons_zero, List.set_cons_succ]
  refine wpAnyF_take (i := 9) (v := ?_) 13 rfl rfl (by kernel_rfl) (by kernel_rfl) (by kernel_rfl) (by kernel_rfl) (fun _ _ _ h => h) (Or.inl ⟨by rfl, fun w' hSw => ?_⟩) hS ?_
  rotate_left
  · (try dsimp only at hSw); go_simp; (try with_reducible rfl)
  try simp only [Act.put, List.setIfInBounds_toArray, List.set_cons_zero, List.set_cons_succ]
  refine wpAnyF_one (i := 10) (by kernel_rfl) rfl (by rfl) (fun K hK => ?_)
  go_simp
  have hA := keep3w hS (World.grownBy_alloc w1.drew (.cells #[.int .i64 a, .int .u64 wd] 60) none) (by simp) (by simp)
  refine hK _ _ (fun _ => hA) ?_
  clear hK K
  try simp only [Act.put, List.setIfInBounds_toArray, List.set_cons_zero, List.set_cons_succ]
  refine wpAnyF_one (i := 11) (by kernel_rfl) rfl (by rfl) (fun K hK => ?_)
  refine wp_appendAll 60 2 16 26 (.agg #[.int .i64 0, .int .u64 0]) Try.underlying26 infoWr rfl (by decide) SWrite.len SWrite.one (.tmp 8) (.tmp 14) rfl base _ _ m.pend [⟨a, wd⟩] rfl rfl (XD.out.pend.alloc _) (rd_laid SWrite.len w1.drew _ _ (by simp [SWrite.enc])) (by simp; omega) (by decide) (by simp; omega) ?_
  intro vT wT hoT hgT
  have sT1 := hgT.cell (XD.out.below (allocB (Below.refl _ _) _)).cell.2.2.1 HUP.out
  have sT2 : wT.frozen? ⟨p, 2, none⟩ = false := (hgT.frozen_far ⟨p, 2, none⟩ (XD.out.below (allocB (Below.refl _ _) _)).lt HUP.out).trans ((XD.out.below (allocB (Below.refl _ _) _)).frozen 2)
  obtain ⟨BT, dT, rfl⟩ := hoT.shape
  have hT := keep3w hA hgT HUN.out HUP.out
  refine hK _ _ (fun _ => hT) ?_
  clear hK K
  try simp only [Act.put, List.setIfInBounds_toArray, List.set_cons_zero, List.set_cons_succ]
  refine wpAnyF_one (i := 12) (by kernel_rfl) rfl (by rfl) (fun K hK => ?_)
  go_simp
  refine hK _ _ (fun _ => hT) ?_
  clear hK K
  try simp only [Act.put, List.setIfInBounds_toArray, List.set_cons_zero, List.set_cons_succ]
  refine wpAnyF_one (i := 13) (by kernel_rfl) rfl (by rfl) (fun K hK => ?_)
  go_simp
  refine hK _ _ (fun _ => hT) ?_
  clear hK K
  try simp only [Act.put, List.setIfInBounds_toArray, List.set_cons_zero, List.set_cons_succ]
  refine wpAnyF_one (i := 14) (by kernel_rfl) rfl (by rfl) (fun K hK => ?_)
  go_simp
  refine hK _ _ (fun h => absurd rfl h) ?_
  clear hK K
  try simp only [Act.put, List.setIfInBounds_toArray, List.set_cons_zero, List.set_cons_succ]
  refine wpAnyF_done (by kernel_rfl) ?_ _
  refine NoPanic.normal ?_
  have hg3 : w1.drew.grownBy wT (Value.slice A2 m.pend.length c2).ownBlock := World.grownBy.trans (World.grownBy_alloc w1.drew _ _) hgT
  rw [show (m.pend ++ [(⟨a, wd⟩ : SWrite)]).length = m.pend.length + 1 from by simp] at hoT
  have HXN := Lib.hid (XD.out.setPend hg3 hoT)
  have HBT := Lib.hid ((Own.grown XD.out.pend (S1.out.b.mono (show base ≤ w.heap.size by omega)).drew (show base ≤ w1.drew.heap.size from hbs) hg3).setCell (p := ⟨p, 2, none⟩) hp1 (.slice BT (m.pend.length + 1) dT))
  have HKX := Lib.hid ((KeepX.of_below S1.out.b.drew).trans ((KeepX.grown XD.out.pend (by decide) hg3).trans (KeepX.set (by rw [hg3.block p XD.out.lt (XD.out.off XD.out.pend (by decide))]; exact XD.out.box) (by decide) 2 (.slice BT (m.pend.length + 1) dT))))
  have HZ := Lib.hid (((KeepX.grown XD.out.pend (by decide) hg3).trans (KeepX.set (by rw [hg3.block p XD.out.lt (XD.out.off XD.out.pend (by decide))]; exact XD.out.box) (by decide) 2 (.slice BT (m.pend.length + 1) dT))).block _ _ _ S1.out.drew.head (by decide))
  clear hg3 hoT hgT hA hT sT1 sT2 p0_0 p0_1 p0_2 f3 hS XD X1 S1
  generalize (wT.setCell ⟨p, 2, none⟩ (.slice BT (m.pend.length + 1) dT)) = w2 at *
  have q0 : w2.cell? ⟨w.heap.size, 0, none⟩ = some (.int .i64 a) := by simp [World.cell?, HZ.out]
  have q1 : w2.cell? ⟨w.heap.size, 1, none⟩ = some (.int .u64 wd) := by simp [World.cell?, HZ.out]
  have k1 := HXN.out.cell.2.1
  obtain ⟨g, hA, hg1, hg2, hgf, hgc⟩ := HXN.out.ls.block wLen (by omega)
  subst hA
  have hlw : a.toNat < ls.length := by omega
  have hgf0 := hgf a.toNat
  have hgc0 := hgc a.toNat _ (List.getElem?_eq_getElem hlw) 0 _ rfl
  simp only [Nat.mul_one, Nat.add_zero] at hgc0
  clear hgf hgc
  go_upto_region 2 with fail
  go_still_tail 10, (by kernel_rfl)
  change wpList _ _ _ _ _ w2.drew
  have XE := Lib.hid (HXN.out.drew)
  have hgf3 : w2.drew.frozen? ⟨g, a.toNat, none⟩ = false := hgf0
  have hgc3 : w2.drew.cell? ⟨g, a.toNat, none⟩ = _ := hgc0
  have HB3 := Lib.hid (HBT.out.drew)
  have HK3 := Lib.hid (HKX.out.trans (KeepX.of_below (below_drewN (Below.refl _ _) 1)))
  clear hgf0 hgc0 q0 q1 k1 hg2 HXN HBT HKX HZ
  change Hid (KeepX w w2.drew) at HK3
  generalize w2.drew = w3 at *
  go_wp2
  refine bodyPost_end (v := .tuple #[]) (by simp [results, Try.results86, go_sem]) rfl ⟨rfl, _, _, _, _, _, XE.out.setWord a.toNat hlw wd, HB3.out.setCell hg1 _, HK3.out.trans (keepX_set XE.out.ls (by decide) _ _)⟩
end Go.Proofs.Ythphfcheencbgaa.Mmu
