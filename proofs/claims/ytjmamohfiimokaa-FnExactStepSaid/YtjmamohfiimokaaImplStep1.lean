/- Walks of the program's mach.holds and header.doom. -/
import Derived.Test.YtjmamohfiimokaaImplMeets
namespace Go.Proofs.Ytjmamohfiimokaa.Mmu
open Go.RowKit Go.Proofs.Ytjmamohfiimokaa.Base Go.Proofs.Ytjmamohfiimokaa.Kinds Go.Proofs.Ytjmamohfiimokaa.DecMath Go.Proofs.Ytjmamohfiimokaa.L1
set_option linter.unusedVariables false
set_option linter.unusedSimpArgs false
theorem meetsH_b (ad : Addr) (hp hc pg ct : Int) (c : Bool) (w : World) (h : decide (meetQ pg ct hp hc) = c) (q0 : w.cell? ad = some (.int .i64 hp)) (q1 : w.cell? ⟨ad.block, ad.off + 1, none⟩ = some (.int .i64 hc))
    (b0 : 0 ≤ hp ∧ 0 ≤ hc ∧ 0 ≤ pg ∧ 0 ≤ ct) (b1 : hp + hc ≤ 100000) (b2 : pg + ct ≤ 100000) :
    Calls Try.prog 300 #[.pointer (some ad), .int .i64 pg, .int .i64 ct] w fun e w' => e = .returned (.bool c) ∧ Below w.heap.size w w' :=
  (meets_any ad hp hc pg ct w q0 q1 b0 b1 b2).mono (by
    rintro e w' ⟨rfl, hb⟩
    exact ⟨ret_bool (by rw [← h, Bool.eq_iff_iff, decide_eq_true_iff, decide_eq_true_iff]; unfold meetQ; omega), hb⟩)
set_option maxRecDepth 100000 in
set_option maxHeartbeats 8000000 in
theorem holds_b (base p : Nat) (v0 v1 v2 v3 v4 : Value) (m : SM) (ls : List Int) (level page n : Int) (w : World) (x : OwnX base w p v0 v1 v2 v3 v4 m ls) (hv : Valid m) (hp : 0 ≤ page ∧ page ≤ 10000) (hn : 0 ≤ n ∧ n ≤ 10000) (b : Bool) (h : cachedB m level page n = b) :
    Calls Try.prog 293 #[.pointer (some ⟨p, 0, none⟩), .int .i64 page, .int .i64 n, .int .i64 level] w fun e w' => e = .returned (.bool b) ∧ Below w.heap.size w w' := by
  obtain ⟨A3, c3, hv3⟩ := x.tlb.shape
  obtain ⟨A4, c4, hv4⟩ := x.wc.shape
  subst hv3 hv4
  have X := Lib.hid x
  have V := Lib.hid hv
  have H := Lib.hid h
  have HP := Lib.hid hp
  have HN := Lib.hid hn
  have hnt : m.tlb.length ≤ 256 := hv.ntlb
  have hnw : m.wc.length ≤ 256 := hv.nwc
  have k3 := x.cell.2.2.2.1
  clear x h hv
  go_enter Try.func293, Try.ntmps293
  go_wp2
  clear k3
  go_loopw [17] (fun i wr => ∃ k : Nat, k ≤ m.tlb.length ∧ i = .int .i64 k ∧ (m.tlb.take k).any (tlbMeet page n) = false ∧ Below w.heap.size w wr) (fun i _ => m.tlb.length - (intOf i).toNat)
  case atStart => exact ⟨0, Nat.zero_le _, rfl, by simp, Below.refl _ _⟩
  case round =>
    obtain ⟨k, hk, rfl, ha, hb⟩ := hrel
    have HA := Lib.hid ha
    have HB := Lib.hid hb
    have XR := Lib.hid (X.out.below hb)
    clear ha hb
    by_cases hlt : k < m.tlb.length
    · have hlt' : (k : Int) < (m.tlb.length : Int) := by omega
      have k3 := XR.out.cell.2.2.2.1
      obtain ⟨a0, e0, ea, g0, u0, u1, u2, u3, u4⟩ := whole_at (XR.out.tlb.rd wholeLen) hlt
      cases ea
      have G0 := Lib.hid g0
      have OK := V.out.tlb e0 (List.mem_of_getElem? g0)
      have hpg : 0 ≤ e0.Page ∧ e0.Page ≤ 10000 := by have := OK.2.1; omega
      have hsz : 0 ≤ e0.Size ∧ e0.Size ≤ 10000 := by rcases OK.1 with h | h <;> omega
      have HPG := Lib.hid hpg
      have HSZ := Lib.hid hsz
      have U0 := Lib.hid u0
      have U1 := Lib.hid u1
      clear g0 hpg hsz OK
      rcases Bool.eq_false_or_eq_true (tlbMeet page n e0) with hc | hc
      all_goals
        have HC := Lib.hid hc
        clear hc
        go_wp2_with (first | (go_at_call 300; refine (meetsH_b _ e0.Page e0.Size page n _ _ HC.out U0.out U1.out (by have := HP.out; have := HN.out; have := HPG.out; have := HSZ.out; omega) (by have := HPG.out; have := HSZ.out; omega) (by have := HP.out; have := HN.out; omega)).mono ?_; rintro e w8 ⟨rfl, hb8⟩; have HB8 := Lib.hid (thenB HB.out hb8); clear hb8))
      · go_ret
        exact ⟨ret_bool (by rw [← H.out]; unfold cachedB; rw [any_true G0.out HC.out, Bool.true_or]), HB8.out⟩
      · go_roundw
        case rel => exact ⟨k + 1, by omega, by go_num, any_take G0.out HA.out HC.out, HB8.out⟩
        case measure => simp [intOf]; omega
    · have hlt' : ¬ (k : Int) < (m.tlb.length : Int) := by omega
      have HT := Lib.hid (any_all HA.out (Nat.le_of_not_lt hlt))
      have k4 := XR.out.cell.2.2.2.2
      generalize wr = w2 at *
      go_wp2
      clear k4
      go_loopw [36] (fun i wr => ∃ k : Nat, k ≤ m.wc.length ∧ i = .int .i64 k ∧ (m.wc.take k).any (wcUnder level page n) = false ∧ Below w.heap.size w wr) (fun i _ => m.wc.length - (intOf i).toNat)
      case atStart => exact ⟨0, Nat.zero_le _, rfl, by simp, HB.out⟩
      case round =>
        obtain ⟨k, hk, rfl, ha, hb⟩ := hrel
        have HA2 := Lib.hid ha
        have HB2 := Lib.hid hb
        have XR := Lib.hid (X.out.below hb)
        clear ha hb
        by_cases hlt : k < m.wc.length
        rotate_left
        · have hlt' : ¬ (k : Int) < (m.wc.length : Int) := by omega
          go_wp2
          go_ret
          exact ⟨ret_bool (by rw [← H.out]; unfold cachedB; rw [HT.out, any_all HA2.out (Nat.le_of_not_lt hlt)]; rfl), HB2.out⟩
        have hlt' : (k : Int) < (m.wc.length : Int) := by omega
        have k4 := XR.out.cell.2.2.2.2
        obtain ⟨a0, e0, ea, g0, u0, u1, u2, u3, u4⟩ := step_at (XR.out.wc.rd stepLen) hlt
        cases ea
        have G0 := Lib.hid g0
        have OK := V.out.wc e0 (List.mem_of_getElem? g0)
        have hpg : 0 ≤ e0.Page ∧ e0.Page ≤ 10000 := by have := OK.2.1; omega
        have HPG := Lib.hid hpg
        obtain ⟨cv, hcv⟩ : ∃ c, cov (e0.Level - 1) = c := ⟨_, rfl⟩
        rw [hcv] at u1
        have hsz : 0 ≤ cv ∧ cv ≤ 10000 := by rw [← hcv]; unfold cov; split <;> (try split) <;> omega
        have HSZ := Lib.hid hsz
        have HCV := Lib.hid hcv
        have U0 := Lib.hid u0
        have U1 := Lib.hid u1
        clear g0 hpg hsz hcv OK
        by_cases hg : e0.Level > level
        · rcases Bool.eq_false_or_eq_true (decide (meetQ page n e0.Page cv)) with hc | hc
          all_goals
            have HC := Lib.hid hc
            clear hc
            go_wp2_with (first | (go_at_call 300; refine (meetsH_b _ e0.Page cv page n _ _ HC.out U0.out U1.out (by have := HP.out; have := HN.out; have := HPG.out; have := HSZ.out; omega) (by have := HPG.out; have := HSZ.out; omega) (by have := HP.out; have := HN.out; omega)).mono ?_; rintro e w8 ⟨rfl, hb8⟩; have HB8 := Lib.hid (thenB HB2.out hb8); clear hb8))
          · have hu : wcUnder level page n e0 = true := by
              unfold wcUnder
              rw [HCV.out]
              exact decide_eq_true ⟨hg, of_decide_eq_true HC.out⟩
            go_ret
            exact ⟨ret_bool (by rw [← H.out]; unfold cachedB; rw [any_true G0.out hu, Bool.or_true]), HB8.out⟩
          · have hu : wcUnder level page n e0 = false := by
              unfold wcUnder
              rw [HCV.out]
              exact decide_eq_false (fun h => of_decide_eq_false HC.out h.2)
            go_roundw
            case rel => exact ⟨k + 1, by omega, by go_num, any_take G0.out HA2.out hu, HB8.out⟩
            case measure => simp [intOf]; omega
        · have hu : wcUnder level page n e0 = false := by
            unfold wcUnder
            exact decide_eq_false (fun h => hg h.1)
          have HU := Lib.hid hu
          clear hu
          go_wp2
          go_roundw
          case rel => exact ⟨k + 1, by omega, by go_num, any_take G0.out HA2.out HU.out, HB2.out⟩
          case measure => simp [intOf]; omega
set_option maxHeartbeats 4000000 in
/-- An entry's header is doomed. -/
theorem doom_any (b o : Nat) (d : Value) (w : World) (q : w.cell? ⟨b, o + 2, none⟩ = some d) (qf : w.frozen? ⟨b, o + 2, none⟩ = false) :
    Calls Try.prog 307 #[.pointer (some ⟨b, o, none⟩)] w fun e w' => e = .returned (.tuple #[]) ∧ w' = w.setCell ⟨b, o + 2, none⟩ (.bool true) := by
  go_enter Try.func307, Try.ntmps307
  go_wp2
  refine bodyPost_end (v := .tuple #[]) (by simp [results, Try.results307, go_sem, *]) rfl ⟨rfl, rfl⟩
end Go.Proofs.Ytjmamohfiimokaa.Mmu
