/- Walk of the reference's l2Valid. -/
import Derived.Test.YthphfcheencbgaaSpecMach1
import Derived.Test.YthphfcheencbgaaL1
import Derived.Test.YthphfcheencbgaaGround
import Derived.Test.YthphfcheencbgaaMachG
namespace Go.Proofs.Ythphfcheencbgaa.Mmu
open Go.RowKit Go.Proofs.Ythphfcheencbgaa.Base Go.Proofs.Ythphfcheencbgaa.Kinds Go.Proofs.Ythphfcheencbgaa.DecMath Go.Proofs.Ythphfcheencbgaa.L1
set_option linter.unusedVariables false
set_option linter.unusedSimpArgs false
set_option maxRecDepth 100000 in
set_option maxHeartbeats 4000000 in
theorem valid_any (v0 v1 v2 v3 : Value) (m : SM) (w : World) (r : RdM w v0 v1 v2 v3 m) :
    Calls Try.prog 15 #[.agg #[v0, v1, v2, v3]] w fun ex w' => ex = .returned (.bool (decide (Valid m))) ∧ Below w.heap.size w w' := by
  obtain ⟨A0, c0, A1, c1, A2, c2, A3, c3, rfl, rfl, rfl, rfl, hl0, hk0, hl1, hk1, hl2, hk2, hl3, hk3⟩ := r.shape
  have R := Lib.hid r
  clear r
  have HF : Hid (framesOf m.ws.length = if m.ws.length % 16 = 0 ∧ 16 ≤ m.ws.length ∧ m.ws.length ≤ 8192 then ((m.ws.length / 16 : Nat) : Int) else 0) := rfl
  generalize hf : framesOf m.ws.length = f at HF
  have HF0 := Lib.hid hf
  clear hf
  have key : Hid (¬ (¬ f = 0 ∧ m.pend.length ≤ 10000 ∧ m.tlb.length ≤ 256 ∧ m.wc.length ≤ 256) → decide (Valid m) = false) := Lib.hid (by
    intro h
    rw [decide_eq_false_iff_not]
    intro hv
    apply h
    refine ⟨?_, hv.npend, hv.ntlb, hv.nwc⟩
    rw [HF.out, if_pos hv.frames]
    have := hv.frames
    omega)
  by_cases p0 : f = 0
  · have KEY : Hid (decide (Valid m) = false) := Lib.hid (key.out (fun q => q.1 p0))
    clear key
    go_enter Try.func15, Try.ntmps15
    go_wp2_with (first | (go_at_call 11; refine (l1Frames_any A0 m.ws.length c0 _ hl0 hk0).mono ?_; rw [HF0.out]; rintro e w1 ⟨rfl, hb1⟩; obtain ⟨hc1, hf1⟩ := bcell hb1; have HB1 := Lib.hid (thenB (allocB (Below.refl w.heap.size w) _) hb1); have hz1 : w.heap.size < w1.heap.size := (by have := hb1.size; simp at this; omega)))
    go_ret
    exact ⟨ret_bool KEY.out.symm, HB1.out⟩
  by_cases p1 : (10000 : Int) < m.pend.length
  · have KEY : Hid (decide (Valid m) = false) := Lib.hid (key.out (fun q => by have := q.2.1; omega))
    clear key
    go_enter Try.func15, Try.ntmps15
    go_wp2_with (first | (go_at_call 11; refine (l1Frames_any A0 m.ws.length c0 _ hl0 hk0).mono ?_; rw [HF0.out]; rintro e w1 ⟨rfl, hb1⟩; obtain ⟨hc1, hf1⟩ := bcell hb1; have HB1 := Lib.hid (thenB (allocB (Below.refl w.heap.size w) _) hb1); have hz1 : w.heap.size < w1.heap.size := (by have := hb1.size; simp at this; omega)))
    go_ret
    exact ⟨ret_bool KEY.out.symm, HB1.out⟩
  by_cases p2 : (256 : Int) < m.tlb.length
  · have KEY : Hid (decide (Valid m) = false) := Lib.hid (key.out (fun q => by have := q.2.2.1; omega))
    clear key
    go_enter Try.func15, Try.ntmps15
    go_wp2_with (first | (go_at_call 11; refine (l1Frames_any A0 m.ws.length c0 _ hl0 hk0).mono ?_; rw [HF0.out]; rintro e w1 ⟨rfl, hb1⟩; obtain ⟨hc1, hf1⟩ := bcell hb1; have HB1 := Lib.hid (thenB (allocB (Below.refl w.heap.size w) _) hb1); have hz1 : w.heap.size < w1.heap.size := (by have := hb1.size; simp at this; omega)))
    go_ret
    exact ⟨ret_bool KEY.out.symm, HB1.out⟩
  by_cases p3 : (256 : Int) < m.wc.length
  · have KEY : Hid (decide (Valid m) = false) := Lib.hid (key.out (fun q => by have := q.2.2.2; omega))
    clear key
    go_enter Try.func15, Try.ntmps15
    go_wp2_with (first | (go_at_call 11; refine (l1Frames_any A0 m.ws.length c0 _ hl0 hk0).mono ?_; rw [HF0.out]; rintro e w1 ⟨rfl, hb1⟩; obtain ⟨hc1, hf1⟩ := bcell hb1; have HB1 := Lib.hid (thenB (allocB (Below.refl w.heap.size w) _) hb1); have hz1 : w.heap.size < w1.heap.size := (by have := hb1.size; simp at this; omega)))
    go_ret
    exact ⟨ret_bool KEY.out.symm, HB1.out⟩
  have n0 : (m.pend.length : Int) ≤ 10000 := by omega
  have n1 : (m.tlb.length : Int) ≤ 256 := by omega
  have n2 : (m.wc.length : Int) ≤ 256 := by omega
  clear p1 p2 p3 key
  go_enter Try.func15, Try.ntmps15
  go_wp2_with (first | (go_at_call 11; refine (l1Frames_any A0 m.ws.length c0 _ hl0 hk0).mono ?_; rw [HF0.out]; rintro e w1 ⟨rfl, hb1⟩; obtain ⟨hc1, hf1⟩ := bcell hb1; have HB1 := Lib.hid (thenB (allocB (Below.refl w.heap.size w) _) hb1); have hz1 : w.heap.size < w1.heap.size := (by have := hb1.size; simp at this; omega)))
  · exfalso; rename_i h; simp only [beq_iff_eq] at h; omega
  have hfr : Hid ((m.ws.length % 16 = 0 ∧ 16 ≤ m.ws.length ∧ m.ws.length ≤ 8192) ∧ f = ((m.ws.length / 16 : Nat) : Int)) := Lib.hid (by
    have h1 := HF.out
    by_cases g : m.ws.length % 16 = 0 ∧ 16 ≤ m.ws.length ∧ m.ws.length ≤ 8192
    · rw [if_pos g] at h1; exact ⟨g, h1⟩
    · rw [if_neg g] at h1; exact absurd h1 p0)
  have m0 : w1.cell? ⟨w.heap.size, 0, none⟩ = some (.slice A0 m.ws.length c0) := (hc1 _ _ (by simp)).trans (by go_simp)
  have m1 : w1.cell? ⟨w.heap.size, 1, none⟩ = some (.slice A1 m.pend.length c1) := (hc1 _ _ (by simp)).trans (by go_simp)
  have m2 : w1.cell? ⟨w.heap.size, 2, none⟩ = some (.slice A2 m.tlb.length c2) := (hc1 _ _ (by simp)).trans (by go_simp)
  have m3 : w1.cell? ⟨w.heap.size, 3, none⟩ = some (.slice A3 m.wc.length c3) := (hc1 _ _ (by simp)).trans (by go_simp)
  have M0 := Lib.hid m0
  have M1 := Lib.hid m1
  have M2 := Lib.hid m2
  have M3 := Lib.hid m3
  clear hc1 hf1 m0 m1 m2 m3 hb1
  go_loopw [4] (fun i wr => ∃ k : Nat, k ≤ m.pend.length ∧ i = .int .i64 k ∧ (∀ e ∈ m.pend.take k, okPend m.ws.length e) ∧ Below w1.heap.size w1 wr) (fun i _ => m.pend.length - (intOf i).toNat)
  case atStart => exact ⟨0, Nat.zero_le _, rfl, by simp, Below.refl _ _⟩
  case round =>
    obtain ⟨k, hk, rfl, hall, hb⟩ := hrel
    have HA := Lib.hid hall
    clear hall
    have hz : w.heap.size < wr.heap.size := Nat.lt_of_lt_of_le hz1 hb.size
    have R0 := Lib.hid (R.out.pend.below (thenB HB1.out hb))
    have q0 : wr.cell? ⟨w.heap.size, 0, none⟩ = some (.slice A0 m.ws.length c0) := (hb.cell hz1).trans M0.out
    have q1 : wr.cell? ⟨w.heap.size, 1, none⟩ = some (.slice A1 m.pend.length c1) := (hb.cell hz1).trans M1.out
    by_cases hlt : k < m.pend.length
    · have hlt' : (k : Int) < (m.pend.length : Int) := by omega
      obtain ⟨a0, e0, ea, g0, u0, u1⟩ := SWrite.at R0.out hlt
      cases ea
      have G0 := Lib.hid g0
      clear g0
      rcases Bool.eq_false_or_eq_true (decide (e0.Adr < 0)) with h1 | h1
      all_goals
        have H1 := Lib.hid h1
        go_wp2
        go_quiet (fail)
        go_wp2
      · go_ret
        refine ⟨ret_bool ?_, below_drewN (thenB HB1.out hb) _⟩
        rw [eq_comm, decide_eq_false_iff_not]
        intro hv
        have := hv.pend e0 (List.mem_of_getElem? G0.out)
        have h1 := H1.out
        simp [okPend] at *
        omega
      · go_ret
        refine ⟨ret_bool ?_, below_drewN (thenB HB1.out hb) _⟩
        rw [eq_comm, decide_eq_false_iff_not]
        intro hv
        have := hv.pend e0 (List.mem_of_getElem? G0.out)
        have h1 := H1.out
        simp [okPend] at *
        omega
      · go_roundw
        case rel =>
          refine ⟨k + 1, by omega, by go_num, all_take G0.out HA.out ?_, below_drewN hb _⟩
          have h1 := H1.out
          simp [okPend] at *
          omega
        case measure => simp [intOf]; omega
    · have hlt' : ¬ (k : Int) < (m.pend.length : Int) := by omega
      go_wp2
      have AP := HA.out
      rw [List.take_of_length_le (by omega)] at AP
      have hA := Lib.hid AP
      clear HA AP hk hlt hlt' q0 q1 R0
      have hz2 := Lib.hid hz
      generalize hB2 : wr = w2 at *
      have HB2 : Hid (Below w1.heap.size w1 w2) := Lib.hid hb
      clear hb hB2 hz
      go_loopw [5] (fun i wr => ∃ k : Nat, k ≤ m.tlb.length ∧ i = .int .i64 k ∧ (∀ e ∈ m.tlb.take k, okTlb e) ∧ Below w1.heap.size w1 wr) (fun i _ => m.tlb.length - (intOf i).toNat)
      case atStart => exact ⟨0, Nat.zero_le _, rfl, by simp, HB2.out⟩
      case round =>
        obtain ⟨k, hk, rfl, hall, hb⟩ := hrel
        have HA := Lib.hid hall
        clear hall
        have hz : w.heap.size < wr.heap.size := Nat.lt_of_lt_of_le hz1 hb.size
        have R0 := Lib.hid (R.out.tlb.below (thenB HB1.out hb))
        have q0 : wr.cell? ⟨w.heap.size, 2, none⟩ = some (.slice A2 m.tlb.length c2) := (hb.cell hz1).trans M2.out
        by_cases hlt : k < m.tlb.length
        · have hlt' : (k : Int) < (m.tlb.length : Int) := by omega
          obtain ⟨a0, e0, ea, g0, u0, u1, u2, u3, u4⟩ := STlb.at R0.out hlt
          cases ea
          have G0 := Lib.hid g0
          clear g0
          go_wp2_with (first | (go_at_call 35; refine (tlbOk_any e0 _).mono ?_; rintro e w3 ⟨rfl, hb3⟩))
          · go_ret
            have hne : (!decide (okTlb e0)) = true := by assumption
            refine ⟨ret_bool ?_, thenB (thenB HB1.out hb) hb3⟩
            rw [eq_comm, decide_eq_false_iff_not]
            intro hv
            have := hv.tlb e0 (List.mem_of_getElem? G0.out)
            simp [this] at hne
          · have hne : (!decide (okTlb e0)) = false := by assumption
            have hne' : okTlb e0 := by simpa using hne
            go_roundw
            case rel => exact ⟨k + 1, by omega, by go_num, all_take G0.out HA.out hne', hb.trans (hb3.mono hb.size)⟩
            case measure => simp [intOf]; omega
        · have hlt' : ¬ (k : Int) < (m.tlb.length : Int) := by omega
          go_wp2
          have AP := HA.out
          rw [List.take_of_length_le (by omega)] at AP
          have hT := Lib.hid AP
          clear HA AP hk hlt hlt' q0 R0
          generalize hB3 : wr = w3 at *
          have HB3 : Hid (Below w1.heap.size w1 w3) := Lib.hid hb
          clear hb hB3 hz
          go_loopw [6] (fun i wr => ∃ k : Nat, k ≤ m.wc.length ∧ i = .int .i64 k ∧ (∀ e ∈ m.wc.take k, okWc f e) ∧ Below w1.heap.size w1 wr) (fun i _ => m.wc.length - (intOf i).toNat)
          case atStart => exact ⟨0, Nat.zero_le _, rfl, by simp, HB3.out⟩
          case round =>
            obtain ⟨k, hk, rfl, hall, hb⟩ := hrel
            have HA := Lib.hid hall
            clear hall
            have hz : w.heap.size < wr.heap.size := Nat.lt_of_lt_of_le hz1 hb.size
            have R0 := Lib.hid (R.out.wc.below (thenB HB1.out hb))
            have q0 : wr.cell? ⟨w.heap.size, 3, none⟩ = some (.slice A3 m.wc.length c3) := (hb.cell hz1).trans M3.out
            by_cases hlt : k < m.wc.length
            · have hlt' : (k : Int) < (m.wc.length : Int) := by omega
              obtain ⟨a0, e0, ea, g0, u0, u1, u2, u3⟩ := SWc.at R0.out hlt
              cases ea
              have G0 := Lib.hid g0
              clear g0
              go_wp2_with (first | (go_at_call 36; refine (wcOk_any e0 f _).mono ?_; rintro e w4 ⟨rfl, hb4⟩))
              · go_ret
                have hne : (!decide (okWc f e0)) = true := by assumption
                refine ⟨ret_bool ?_, thenB (thenB HB1.out hb) hb4⟩
                rw [eq_comm, decide_eq_false_iff_not]
                intro hv
                have := hv.wc e0 (List.mem_of_getElem? G0.out)
                rw [← hfr.out.2] at this
                simp [this] at hne
              · have hne : (!decide (okWc f e0)) = false := by assumption
                have hne' : okWc f e0 := by simpa using hne
                go_roundw
                case rel => exact ⟨k + 1, by omega, by go_num, all_take G0.out HA.out hne', hb.trans (hb4.mono hb.size)⟩
                case measure => simp [intOf]; omega
            · have hlt' : ¬ (k : Int) < (m.wc.length : Int) := by omega
              go_wp2
              go_ret
              have AP := HA.out
              rw [List.take_of_length_le (by omega), hfr.out.2] at AP
              refine ⟨ret_bool ?_, thenB HB1.out hb⟩
              rw [eq_comm, decide_eq_true_iff]
              exact ⟨hfr.out.1, by omega, by omega, by omega, hA.out, hT.out, AP⟩
end Go.Proofs.Ythphfcheencbgaa.Mmu
