/- Walks of the program's copyMem and machineOK. Walk of the program's machineOK. -/
import Derived.Test.YthphfcheencbgaaL1
import Derived.Test.YthphfcheencbgaaGround
import Derived.Test.YthphfcheencbgaaMachG
import Derived.Deep.Cut
import Derived.Deep.CutRange
namespace Go.Proofs.Ythphfcheencbgaa.Mmu
open Go.RowKit Go.Proofs.Ythphfcheencbgaa.Base Go.Proofs.Ythphfcheencbgaa.Kinds Go.Proofs.Ythphfcheencbgaa.DecMath Go.Proofs.Ythphfcheencbgaa.L1
set_option linter.unusedVariables false
set_option linter.unusedSimpArgs false

theorem infoW : (Try.prog.info? 31).map (fun i => (i.zero, i.size, i.bytes)) = some (some (.int .u64 0), 1, 8) := by kernel_rfl
set_option maxRecDepth 100000 in
set_option maxHeartbeats 4000000 in
theorem copyMem_any (v0 : Value) (l : List Int) (w : World) (r : Rd wEnc 1 w v0 l) (hn : l.length ≤ 1048576) :
    Calls Try.prog 45 #[.agg #[v0]] w fun e w' => ∃ v, e = .returned (.agg #[v]) ∧ Own wEnc 1 31 w.heap.size w' v l ∧ Below w.heap.size w w' := by
  obtain ⟨A0, c0, rfl, hc0, hn0⟩ := id r.shape
  have R := Lib.hid r
  clear r
  go_enter Try.func45, Try.ntmps45
  have O : Hid (Own wEnc 1 31 (w.heap.size + 2) (((w.alloc (.cells #[.slice A0 l.length c0] 25)).alloc (.cells #[.slice none 0 0] 25)).alloc (.cells #[] 31)) (.slice (some ⟨w.heap.size + 1 + 1, 0, none⟩) 0 0) []) :=
    Lib.hid (by simpa using Own.made wEnc 1 31 (base := w.heap.size + 2) ((w.alloc (.cells #[.slice A0 l.length c0] 25)).alloc (.cells #[.slice none 0 0] 25)) (by simp))
  go_wp2_with (at_builtin; refine appendAll 31 1 8 23 (.int .u64 0) Try.underlying23 infoW rfl (by decide) wLen wOne rfl (.tmp 3) (.tmp 5) rfl (w.heap.size + 2) (.slice (some ⟨w.heap.size + 1 + 1, 0, none⟩) 0 0) (.slice A0 l.length c0) [] l rfl rfl O.out (R.out.below (allocB (allocB (allocB (Below.refl _ _) _) _) _)) (by simp; omega) (by decide) (by simp) ?_)
  intro v1 w1 ho1 hg1
  have hb1 : Below (w.heap.size + 2) _ w1 := Own.grown O.out (Below.refl _ _) (by simp) hg1
  have q0 : w1.cell? ⟨w.heap.size + 1, 0, none⟩ = some (.slice none 0 0) := (hb1.cell (by simp)).trans (by go_simp)
  have q1 : w1.frozen? ⟨w.heap.size + 1, 0, none⟩ = false := (hb1.frozen (by simp)).trans (by go_simp)
  have hbw : Below w.heap.size w w1 := Below.trans (allocB (allocB (allocB (Below.refl _ _) _) _) _) (hb1.mono (by omega))
  obtain ⟨A1, c1, rfl⟩ := ho1.shape
  have HO := Lib.hid ho1
  have HB := Lib.hid hbw
  clear ho1 hg1 hb1 hbw O
  go_wp2
  exact bodyPost_ret (v := .agg #[.slice A1 l.length c1]) (by simp [results, Try.results45, go_sem, q0, q1]) rfl ⟨_, rfl, (HO.out.setBelow (by simp) _).lower (by omega), HB.out.setCell (by simp) _⟩
end Go.Proofs.Ythphfcheencbgaa.Mmu

namespace Go.Proofs.Ythphfcheencbgaa.Mmu
open Go.RowKit Go.Proofs.Ythphfcheencbgaa.Base Go.Proofs.Ythphfcheencbgaa.Kinds Go.Proofs.Ythphfcheencbgaa.DecMath Go.Proofs.Ythphfcheencbgaa.L1
set_option linter.unusedVariables false
set_option linter.unusedSimpArgs false

theorem frames_b (A : Option Addr) (n c : Nat) (f : Int) (w : World) (hn : n ≤ c) (hc : c ≤ 9223372036854775807) (hf : ((n / 16 : Nat) : Int) = f) :
    Calls Try.prog 44 #[.agg #[.slice A n c]] w fun e w' => e = .returned (.int .i64 f) ∧ Below w.heap.size w w' := by
  rw [← hf]; exact frames_any A n c w hn hc
theorem coverI_b (l c : Int) (h : cov l = c) (w : World) : Calls Try.prog 43 #[.int .i64 l] w fun e w' => e = .returned (.int .i64 c) ∧ w' = w :=
  (cover_any l w).mono (by rintro e w' ⟨rfl, rfl⟩; exact ⟨by rw [h], rfl⟩)
set_option maxRecDepth 100000 in
set_option maxHeartbeats 4000000 in
theorem machineOK_any (v0 v1 v2 v3 : Value) (m : SM) (w : World) (r : RdM w v0 v1 v2 v3 m) :
    Calls Try.prog 23 #[.agg #[v0, v1, v2, v3]] w fun ex w' => ex = .returned (.bool (decide (Valid m))) ∧ Below w.heap.size w w' := by
  obtain ⟨A0, c0, A1, c1, A2, c2, A3, c3, rfl, rfl, rfl, rfl, hl0, hk0, hl1, hk1, hl2, hk2, hl3, hk3⟩ := r.shape
  have R := Lib.hid r
  clear r
  by_cases hfr : m.ws.length % 16 = 0 ∧ 16 ≤ m.ws.length ∧ m.ws.length ≤ 8192
  rotate_left
  · have HM : Hid (decide (m.ws.length % 16 = 0 ∧ 16 ≤ m.ws.length ∧ m.ws.length ≤ 8192) = false) := Lib.hid (decide_eq_false hfr)
    have KEY : Hid (decide (Valid m) = false) := Lib.hid (decide_eq_false fun hv => hfr hv.frames)
    clear hfr
    go_enter Try.func23, Try.ntmps23
    go_wp2_with (first | (go_at_call 42; refine (memOK_any A0 m.ws.length c0 _ hl0 hk0).mono ?_; rw [HM.out]; rintro e w1 ⟨rfl, hb1⟩; obtain ⟨hc1, hf1⟩ := bcell hb1; have HB1 := Lib.hid (thenB (allocB (Below.refl w.heap.size w) _) hb1); have hz1 : w.heap.size < w1.heap.size := (by have := hb1.size; simp at this; omega)))
    go_ret
    exact ⟨ret_bool KEY.out.symm, HB1.out⟩
  have HM : Hid (decide (m.ws.length % 16 = 0 ∧ 16 ≤ m.ws.length ∧ m.ws.length ≤ 8192) = true) := Lib.hid (decide_eq_true hfr)
  have HFR := Lib.hid hfr
  clear hfr
  by_cases p1 : (10000 : Int) < m.pend.length
  · have KEY : Hid (decide (Valid m) = false) := Lib.hid (decide_eq_false fun hv => by have := hv.npend; omega)
    go_enter Try.func23, Try.ntmps23
    go_wp2_with (first | (go_at_call 42; refine (memOK_any A0 m.ws.length c0 _ hl0 hk0).mono ?_; rw [HM.out]; rintro e w1 ⟨rfl, hb1⟩; obtain ⟨hc1, hf1⟩ := bcell hb1; have HB1 := Lib.hid (thenB (allocB (Below.refl w.heap.size w) _) hb1); have hz1 : w.heap.size < w1.heap.size := (by have := hb1.size; simp at this; omega)))
    go_ret
    exact ⟨ret_bool KEY.out.symm, HB1.out⟩
  by_cases p2 : (256 : Int) < m.tlb.length
  · have KEY : Hid (decide (Valid m) = false) := Lib.hid (decide_eq_false fun hv => by have := hv.ntlb; omega)
    go_enter Try.func23, Try.ntmps23
    go_wp2_with (first | (go_at_call 42; refine (memOK_any A0 m.ws.length c0 _ hl0 hk0).mono ?_; rw [HM.out]; rintro e w1 ⟨rfl, hb1⟩; obtain ⟨hc1, hf1⟩ := bcell hb1; have HB1 := Lib.hid (thenB (allocB (Below.refl w.heap.size w) _) hb1); have hz1 : w.heap.size < w1.heap.size := (by have := hb1.size; simp at this; omega)))
    go_ret
    exact ⟨ret_bool KEY.out.symm, HB1.out⟩
  by_cases p3 : (256 : Int) < m.wc.length
  · have KEY : Hid (decide (Valid m) = false) := Lib.hid (decide_eq_false fun hv => by have := hv.nwc; omega)
    go_enter Try.func23, Try.ntmps23
    go_wp2_with (first | (go_at_call 42; refine (memOK_any A0 m.ws.length c0 _ hl0 hk0).mono ?_; rw [HM.out]; rintro e w1 ⟨rfl, hb1⟩; obtain ⟨hc1, hf1⟩ := bcell hb1; have HB1 := Lib.hid (thenB (allocB (Below.refl w.heap.size w) _) hb1); have hz1 : w.heap.size < w1.heap.size := (by have := hb1.size; simp at this; omega)))
    go_ret
    exact ⟨ret_bool KEY.out.symm, HB1.out⟩
  have n0 : (m.pend.length : Int) ≤ 10000 := by omega
  have n1 : (m.tlb.length : Int) ≤ 256 := by omega
  have n2 : (m.wc.length : Int) ≤ 256 := by omega
  clear p1 p2 p3
  go_enter Try.func23, Try.ntmps23
  go_wp2_with (first | (go_at_call 42; refine (memOK_any A0 m.ws.length c0 _ hl0 hk0).mono ?_; rw [HM.out]; rintro e w1 ⟨rfl, hb1⟩; obtain ⟨hc1, hf1⟩ := bcell hb1; have HB1 := Lib.hid (thenB (allocB (Below.refl w.heap.size w) _) hb1); have hz1 : w.heap.size < w1.heap.size := (by have := hb1.size; simp at this; omega)))
  have m0 : w1.cell? ⟨w.heap.size, 0, none⟩ = some (.slice A0 m.ws.length c0) := (hc1 _ _ (by simp)).trans (by go_simp)
  have m1 : w1.cell? ⟨w.heap.size, 1, none⟩ = some (.slice A1 m.pend.length c1) := (hc1 _ _ (by simp)).trans (by go_simp)
  have m2 : w1.cell? ⟨w.heap.size, 2, none⟩ = some (.slice A2 m.tlb.length c2) := (hc1 _ _ (by simp)).trans (by go_simp)
  have m3 : w1.cell? ⟨w.heap.size, 3, none⟩ = some (.slice A3 m.wc.length c3) := (hc1 _ _ (by simp)).trans (by go_simp)
  have M0 := Lib.hid m0
  have M1 := Lib.hid m1
  have M2 := Lib.hid m2
  have M3 := Lib.hid m3
  clear hc1 hf1 m0 m1 m2 m3 hb1
  go_loopw [34] (fun i wr => ∃ k : Nat, k ≤ m.pend.length ∧ i = .int .i64 k ∧ (∀ e ∈ m.pend.take k, okPend m.ws.length e) ∧ Below w1.heap.size w1 wr) (fun i _ => m.pend.length - (intOf i).toNat)
  case atStart => exact ⟨0, Nat.zero_le _, rfl, by simp, Below.refl _ _⟩
  case round =>
    obtain ⟨k, hk, rfl, hall, hb⟩ := hrel
    have HA := Lib.hid hall
    clear hall
    have hz : w.heap.size < wr.heap.size := Nat.lt_of_lt_of_le hz1 hb.size
    have R0 := Lib.hid (R.out.pend.below (thenB HB1.out hb))
    have q0 : wr.cell? ⟨w.heap.size, 0, none⟩ = some (.slice A0 m.ws.length c0) := (hb.cell hz1).trans M0.out
    have q1 : wr.cell? ⟨w.heap.size, 1, none⟩ = some (.slice A1 m.pend.length c1) := (hb.cell hz1).trans M1.out
    by_cases hlt : k < m.pend.length
    · have hlt' : (k : Int) < (m.pend.length : Int) := by omega
      obtain ⟨a0, e0, ea, g0, u0, u1⟩ := SWrite.at R0.out hlt
      cases ea
      have G0 := Lib.hid g0
      clear g0
      have HB := Lib.hid hb
      clear hb
      by_cases h1 : e0.Adr < 0
      · go_wp2
        go_ret
        refine ⟨ret_bool ?_, ?_⟩
        · rw [eq_comm, decide_eq_false_iff_not]
          intro hv
          have := hv.pend e0 (List.mem_of_getElem? G0.out)
          simp [okPend] at this
          omega
        · exact allocB (thenB HB1.out HB.out) _
      by_cases h2 : (m.ws.length : Int) ≤ e0.Adr
      · go_wp2
        go_ret
        refine ⟨ret_bool ?_, ?_⟩
        · rw [eq_comm, decide_eq_false_iff_not]
          intro hv
          have := hv.pend e0 (List.mem_of_getElem? G0.out)
          simp [okPend] at this
          omega
        · exact allocB (thenB HB1.out HB.out) _
      go_wp2
      go_roundw
      case rel => exact ⟨k + 1, by omega, by go_num, all_take G0.out HA.out ⟨by omega, by omega⟩, allocB HB.out _⟩
      case measure => simp [intOf]; omega
    · have hlt' : ¬ (k : Int) < (m.pend.length : Int) := by omega
      have q2 : wr.cell? ⟨w.heap.size, 2, none⟩ = some (.slice A2 m.tlb.length c2) := (hb.cell hz1).trans M2.out
      go_wp2
      have AP := HA.out
      rw [List.take_of_length_le (by omega)] at AP
      have hA := Lib.hid AP
      clear HA AP hk hlt hlt' q0 q1 q2 R0
      generalize hB2 : wr = w2 at *
      have HB2 : Hid (Below w1.heap.size w1 w2) := Lib.hid hb
      clear hb hB2 hz
      go_loopw [54] (fun i wr => ∃ k : Nat, k ≤ m.tlb.length ∧ i = .int .i64 k ∧ (∀ e ∈ m.tlb.take k, okTlb e) ∧ Below w1.heap.size w1 wr) (fun i _ => m.tlb.length - (intOf i).toNat)
      case atStart => exact ⟨0, Nat.zero_le _, rfl, by simp, HB2.out⟩
      case round =>
        obtain ⟨k, hk, rfl, hall, hb⟩ := hrel
        have HT := Lib.hid hall
        clear hall
        have hz : w.heap.size < wr.heap.size := Nat.lt_of_lt_of_le hz1 hb.size
        have R0 := Lib.hid (R.out.tlb.below (thenB HB1.out hb))
        have q0 : wr.cell? ⟨w.heap.size, 2, none⟩ = some (.slice A2 m.tlb.length c2) := (hb.cell hz1).trans M2.out
        by_cases hlt : k < m.tlb.length
        · have hlt' : (k : Int) < (m.tlb.length : Int) := by omega
          obtain ⟨a0, e0, ea, g0, u0, u1, u2, u3, u4⟩ := STlb.at R0.out hlt
          cases ea
          have G0 := Lib.hid g0
          have HB := Lib.hid hb
          clear hb g0
          obtain ⟨pg, sz, out, pm, dm⟩ := e0
          simp only at u0 u1 u2 u3 u4
          go_upto_region 12 with fail
          go_cut [111] from 58 to 111 (fun c wx => c = .bool (!decide (okTlb ⟨pg, sz, out, pm, dm⟩)) ∧ wx = wr.alloc (.cells #[.int .i64 pg, .int .i64 sz, .int .i64 out, .int .i64 pm, .bool dm] 40))
          case first =>
            clear u0 u1 u2 u3 u4 q0 HB R0 G0 HT
            by_cases hs : sz = 1 ∨ sz = 16
            rotate_left
            · have hs1 : ¬ sz = 1 := fun h => hs (Or.inl h)
              have hs2 : ¬ sz = 16 := fun h => hs (Or.inr h)
              clear hs
              go_wp2
              go_meet
              case rel => exact ⟨by rw [decide_eq_false (by simp [okTlb]; omega)]; rfl, rfl⟩
            rcases hs with rfl | rfl
            · by_cases h1 : pg < 0
              · go_wp2
                go_meet
                case rel => exact ⟨by rw [decide_eq_false (by simp [okTlb]; omega)]; rfl, rfl⟩
              have h1' : 0 ≤ pg := by omega
              by_cases h2 : 4096 ≤ pg
              · go_wp2
                go_meet
                case rel => exact ⟨by rw [decide_eq_false (by simp [okTlb]; omega)]; rfl, rfl⟩
              by_cases h4 : pm < 1
              · go_wp2
                go_meet
                case rel => exact ⟨by rw [decide_eq_false (by simp [okTlb]; omega)]; rfl, rfl⟩
              by_cases h5 : 7 < pm
              · go_wp2
                go_meet
                case rel => exact ⟨by rw [decide_eq_false (by simp [okTlb]; omega)]; rfl, rfl⟩
              by_cases h6 : out < 0
              · go_wp2
                go_meet
                case rel => exact ⟨by rw [decide_eq_false (by simp [okTlb]; omega)]; rfl, rfl⟩
              have h6' : 0 ≤ out := by omega
              by_cases h7 : 65536 ≤ out
              · go_wp2
                go_meet
                case rel => exact ⟨by rw [decide_eq_false (by simp [okTlb]; omega)]; rfl, rfl⟩
              go_wp2
              go_meet
              case rel => exact ⟨by rw [decide_eq_true (by simp [okTlb]; try omega)]; rfl, rfl⟩
            · by_cases h1 : pg < 0
              · go_wp2
                go_meet
                case rel => exact ⟨by rw [decide_eq_false (by simp [okTlb]; omega)]; rfl, rfl⟩
              have h1' : 0 ≤ pg := by omega
              by_cases h2 : 4096 ≤ pg
              · go_wp2
                go_meet
                case rel => exact ⟨by rw [decide_eq_false (by simp [okTlb]; omega)]; rfl, rfl⟩
              rcases Bool.eq_false_or_eq_true (pg % 16 != 0) with h3 | h3
              · have h3p : ¬ pg % 16 = 0 := by simpa using h3
                go_wp2
                go_meet
                case rel => exact ⟨by rw [decide_eq_false (by simp [okTlb]; omega)]; rfl, rfl⟩
              have h3p : pg % 16 = 0 := by simpa using h3
              by_cases h4 : pm < 1
              · go_wp2
                go_meet
                case rel => exact ⟨by rw [decide_eq_false (by simp [okTlb]; omega)]; rfl, rfl⟩
              by_cases h5 : 7 < pm
              · go_wp2
                go_meet
                case rel => exact ⟨by rw [decide_eq_false (by simp [okTlb]; omega)]; rfl, rfl⟩
              by_cases h6 : out < 0
              · go_wp2
                go_meet
                case rel => exact ⟨by rw [decide_eq_false (by simp [okTlb]; omega)]; rfl, rfl⟩
              have h6' : 0 ≤ out := by omega
              by_cases h7 : 65536 ≤ out
              · go_wp2
                go_meet
                case rel => exact ⟨by rw [decide_eq_false (by simp [okTlb]; omega)]; rfl, rfl⟩
              rcases Bool.eq_false_or_eq_true (out % 16 != 0) with h8 | h8
              · have h8p : ¬ out % 16 = 0 := by simpa using h8
                go_wp2
                go_meet
                case rel => exact ⟨by rw [decide_eq_false (by simp [okTlb]; omega)]; rfl, rfl⟩
              have h8p : out % 16 = 0 := by simpa using h8
              go_wp2
              go_meet
              case rel => exact ⟨by rw [decide_eq_true (by simp [okTlb]; try omega)]; rfl, rfl⟩
          case rest =>
            obtain ⟨rfl, rfl⟩ := hcut
            go_wp2
            · go_ret
              have hne : (!decide (okTlb ⟨pg, sz, out, pm, dm⟩)) = true := by assumption
              have hne' : ¬ okTlb ⟨pg, sz, out, pm, dm⟩ := by simpa using hne
              exact ⟨ret_bool (by rw [eq_comm, decide_eq_false_iff_not]; exact fun hv => hne' (hv.tlb _ (List.mem_of_getElem? G0.out))), allocB (thenB HB1.out HB.out) _⟩
            · have hne : (!decide (okTlb ⟨pg, sz, out, pm, dm⟩)) = false := by assumption
              have hne' : okTlb ⟨pg, sz, out, pm, dm⟩ := by simpa using hne
              go_roundw
              case rel => exact ⟨k + 1, by omega, by go_num, all_take G0.out HT.out hne', allocB HB.out _⟩
              case measure => simp [intOf]; omega
        · have hlt' : ¬ (k : Int) < (m.tlb.length : Int) := by omega
          have q2 : wr.cell? ⟨w.heap.size, 3, none⟩ = some (.slice A3 m.wc.length c3) := (hb.cell hz1).trans M3.out
          go_wp2
          have AP := HT.out
          rw [List.take_of_length_le (by omega)] at AP
          have hT := Lib.hid AP
          clear HT AP hk hlt hlt' q0 q2 R0
          generalize hB3 : wr = w3 at *
          have HB3 : Hid (Below w1.heap.size w1 w3) := Lib.hid hb
          clear hb hB3 hz
          go_loopw [116] (fun i wr => ∃ k : Nat, k ≤ m.wc.length ∧ i = .int .i64 k ∧ (∀ e ∈ m.wc.take k, okWc ((m.ws.length / 16 : Nat) : Int) e) ∧ Below w1.heap.size w1 wr) (fun i _ => m.wc.length - (intOf i).toNat)
          case atStart => exact ⟨0, Nat.zero_le _, rfl, by simp, HB3.out⟩
          case round =>
            obtain ⟨k, hk, rfl, hall, hb⟩ := hrel
            have HC := Lib.hid hall
            clear hall
            have hz : w.heap.size < wr.heap.size := Nat.lt_of_lt_of_le hz1 hb.size
            have R0 := Lib.hid (R.out.wc.below (thenB HB1.out hb))
            have q0 : wr.cell? ⟨w.heap.size, 3, none⟩ = some (.slice A3 m.wc.length c3) := (hb.cell hz1).trans M3.out
            have q1 : wr.cell? ⟨w.heap.size, 0, none⟩ = some (.slice A0 m.ws.length c0) := (hb.cell hz1).trans M0.out
            by_cases hlt : k < m.wc.length
            · have hlt' : (k : Int) < (m.wc.length : Int) := by omega
              obtain ⟨a0, e0, ea, g0, u0, u1, u2, u3⟩ := SWc.at R0.out hlt
              cases ea
              have G0 := Lib.hid g0
              have HB := Lib.hid hb
              clear hb g0
              obtain ⟨lv, pg, tb, dm⟩ := e0
              simp only at u0 u1 u2 u3
              go_upto_region 18 with fail
              go_cut [160] from 120 to 160 (fun c wx => c = .bool (!decide (okWc ((m.ws.length / 16 : Nat) : Int) ⟨lv, pg, tb, dm⟩)) ∧ Below w1.heap.size w1 wx)
              case first =>
                have k0 : (wr.alloc (.cells #[.int .i64 lv, .int .i64 pg, .int .i64 tb, .bool dm] 42)).cell? ⟨wr.heap.size, 0, none⟩ = some (.int .i64 lv) := by go_simp
                have k1 : (wr.alloc (.cells #[.int .i64 lv, .int .i64 pg, .int .i64 tb, .bool dm] 42)).cell? ⟨wr.heap.size, 1, none⟩ = some (.int .i64 pg) := by go_simp
                have k2 : (wr.alloc (.cells #[.int .i64 lv, .int .i64 pg, .int .i64 tb, .bool dm] 42)).cell? ⟨wr.heap.size, 2, none⟩ = some (.int .i64 tb) := by go_simp
                have k3 : (wr.alloc (.cells #[.int .i64 lv, .int .i64 pg, .int .i64 tb, .bool dm] 42)).cell? ⟨wr.heap.size, 3, none⟩ = some (.bool dm) := by go_simp
                have k4 : (wr.alloc (.cells #[.int .i64 lv, .int .i64 pg, .int .i64 tb, .bool dm] 42)).cell? ⟨w.heap.size, 0, none⟩ = some (.slice A0 m.ws.length c0) := by go_simp
                have HBW : Hid (Below w1.heap.size w1 (wr.alloc (.cells #[.int .i64 lv, .int .i64 pg, .int .i64 tb, .bool dm] 42))) := Lib.hid (allocB HB.out _)
                obtain ⟨f, hff⟩ : ∃ f : Int, ((m.ws.length / 16 : Nat) : Int) = f := ⟨_, rfl⟩
                have HF : Hid (((m.ws.length / 16 : Nat) : Int) = f) := Lib.hid hff
                clear u0 u1 u2 u3 q0 q1 HB R0 G0 HC hff
                generalize (wr.alloc (.cells #[.int .i64 lv, .int .i64 pg, .int .i64 tb, .bool dm] 42)) = w5 at *
                have b0 := BW.cell k0
                have b1 := BW.cell k1
                have b2 := BW.cell k2
                have b3 := BW.cell k3
                have b4 := BW.cell k4
                clear k0 k1 k2 k3 k4
                by_cases hs : lv = 2 ∨ lv = 3
                rotate_left
                · have hs1 : (lv != 2) = true := by simp; omega
                  have hs2 : (lv != 3) = true := by simp; omega
                  (refine wp_region_below (by kernel_rfl) (by kernel_rfl) ?_; (repeat (first | (go_big_quiet_step (first | (go_at_call 43; refine BW.same (coverI_b _ 256 rfl _)) | (go_at_call 44; refine BW.calls (frames_b A0 m.ws.length c0 f _ hl0 hk0 HF.out)))) | ((with_reducible refine wpQuiet_step ?_); intro K hK; go_simp; first | ((with_reducible refine hK _ ?_); clear hK K) | (apply Exists.intro; refine ⟨fun _ => ?_, hK _ ?_⟩; (first | (go_at_call 43; refine BW.same (coverI_b _ 256 rfl _)) | (go_at_call 44; refine BW.calls (frames_b A0 m.ws.length c0 f _ hl0 hk0 HF.out))); clear hK K)))); (with_reducible refine wpQuiet_nil ?_); intro wq hw'; obtain ⟨⟨wy, hbq⟩, hw''⟩ := hw'; subst hw'')
                  go_wp2
                  go_meet
                  case rel => exact ⟨by rw [HF.out, decide_eq_false (by simp [okWc, cov]; try omega)]; rfl, thenB HBW.out hbq⟩
                rcases hs with rfl | rfl
                · rcases Bool.eq_false_or_eq_true (decide (pg < 0)) with h1 | h1
                  · have h1p : pg < 0 := of_decide_eq_true h1
                    (refine wp_region_below (by kernel_rfl) (by kernel_rfl) ?_; (repeat (first | (go_big_quiet_step (first | (go_at_call 43; refine BW.same (coverI_b _ 256 rfl _)) | (go_at_call 44; refine BW.calls (frames_b A0 m.ws.length c0 f _ hl0 hk0 HF.out)))) | ((with_reducible refine wpQuiet_step ?_); intro K hK; go_simp; first | ((with_reducible refine hK _ ?_); clear hK K) | (apply Exists.intro; refine ⟨fun _ => ?_, hK _ ?_⟩; (first | (go_at_call 43; refine BW.same (coverI_b _ 256 rfl _)) | (go_at_call 44; refine BW.calls (frames_b A0 m.ws.length c0 f _ hl0 hk0 HF.out))); clear hK K)))); (with_reducible refine wpQuiet_nil ?_); intro wq hw'; obtain ⟨⟨wy, hbq⟩, hw''⟩ := hw'; subst hw'')
                    go_wp2
                    go_meet
                    case rel => exact ⟨by rw [HF.out, decide_eq_false (by simp [okWc, cov]; try omega)]; rfl, thenB HBW.out hbq⟩
                  have h1p : ¬ pg < 0 := of_decide_eq_false h1
                  have h1q : 0 ≤ pg := by omega
                  rcases Bool.eq_false_or_eq_true (decide (4096 ≤ pg)) with h2 | h2
                  · have h2p : 4096 ≤ pg := of_decide_eq_true h2
                    (refine wp_region_below (by kernel_rfl) (by kernel_rfl) ?_; (repeat (first | (go_big_quiet_step (first | (go_at_call 43; refine BW.same (coverI_b _ 256 rfl _)) | (go_at_call 44; refine BW.calls (frames_b A0 m.ws.length c0 f _ hl0 hk0 HF.out)))) | ((with_reducible refine wpQuiet_step ?_); intro K hK; go_simp; first | ((with_reducible refine hK _ ?_); clear hK K) | (apply Exists.intro; refine ⟨fun _ => ?_, hK _ ?_⟩; (first | (go_at_call 43; refine BW.same (coverI_b _ 256 rfl _)) | (go_at_call 44; refine BW.calls (frames_b A0 m.ws.length c0 f _ hl0 hk0 HF.out))); clear hK K)))); (with_reducible refine wpQuiet_nil ?_); intro wq hw'; obtain ⟨⟨wy, hbq⟩, hw''⟩ := hw'; subst hw'')
                    go_wp2
                    go_meet
                    case rel => exact ⟨by rw [HF.out, decide_eq_false (by simp [okWc, cov]; try omega)]; rfl, thenB HBW.out hbq⟩
                  have h2p : ¬ 4096 ≤ pg := of_decide_eq_false h2
                  have ht : pg.tmod 256 = pg % 256 := Int.tmod_eq_emod_of_nonneg h1q
                  rcases Bool.eq_false_or_eq_true (pg.tmod 256 != 0) with h3 | h3
                  · have h3q : (pg % 256 != 0) = true := ht ▸ h3
                    have h3p : ¬ pg % 256 = 0 := by simpa using h3q
                    clear ht
                    (refine wp_region_below (by kernel_rfl) (by kernel_rfl) ?_; (repeat (first | (go_big_quiet_step (first | (go_at_call 43; refine BW.same (coverI_b _ 256 rfl _)) | (go_at_call 44; refine BW.calls (frames_b A0 m.ws.length c0 f _ hl0 hk0 HF.out)))) | ((with_reducible refine wpQuiet_step ?_); intro K hK; go_simp; first | ((with_reducible refine hK _ ?_); clear hK K) | (apply Exists.intro; refine ⟨fun _ => ?_, hK _ ?_⟩; (first | (go_at_call 43; refine BW.same (coverI_b _ 256 rfl _)) | (go_at_call 44; refine BW.calls (frames_b A0 m.ws.length c0 f _ hl0 hk0 HF.out))); clear hK K)))); (with_reducible refine wpQuiet_nil ?_); intro wq hw'; obtain ⟨⟨wy, hbq⟩, hw''⟩ := hw'; subst hw'')
                    go_wp2
                    go_meet
                    case rel => exact ⟨by rw [HF.out, decide_eq_false (by simp [okWc, cov]; try omega)]; rfl, thenB HBW.out hbq⟩
                  have h3q : (pg % 256 != 0) = false := ht ▸ h3
                  have h3p : pg % 256 = 0 := by simpa using h3q
                  clear ht
                  rcases Bool.eq_false_or_eq_true (decide (tb < 0)) with h4 | h4
                  · have h4p : tb < 0 := of_decide_eq_true h4
                    (refine wp_region_below (by kernel_rfl) (by kernel_rfl) ?_; (repeat (first | (go_big_quiet_step (first | (go_at_call 43; refine BW.same (coverI_b _ 256 rfl _)) | (go_at_call 44; refine BW.calls (frames_b A0 m.ws.length c0 f _ hl0 hk0 HF.out)))) | ((with_reducible refine wpQuiet_step ?_); intro K hK; go_simp; first | ((with_reducible refine hK _ ?_); clear hK K) | (apply Exists.intro; refine ⟨fun _ => ?_, hK _ ?_⟩; (first | (go_at_call 43; refine BW.same (coverI_b _ 256 rfl _)) | (go_at_call 44; refine BW.calls (frames_b A0 m.ws.length c0 f _ hl0 hk0 HF.out))); clear hK K)))); (with_reducible refine wpQuiet_nil ?_); intro wq hw'; obtain ⟨⟨wy, hbq⟩, hw''⟩ := hw'; subst hw'')
                    go_wp2
                    go_meet
                    case rel => exact ⟨by rw [HF.out, decide_eq_false (by simp [okWc, cov]; try omega)]; rfl, thenB HBW.out hbq⟩
                  have h4p : ¬ tb < 0 := of_decide_eq_false h4
                  rcases Bool.eq_false_or_eq_true (decide (f ≤ tb)) with h5 | h5
                  · have h5p : f ≤ tb := of_decide_eq_true h5
                    (refine wp_region_below (by kernel_rfl) (by kernel_rfl) ?_; (repeat (first | (go_big_quiet_step (first | (go_at_call 43; refine BW.same (coverI_b _ 256 rfl _)) | (go_at_call 44; refine BW.calls (frames_b A0 m.ws.length c0 f _ hl0 hk0 HF.out)))) | ((with_reducible refine wpQuiet_step ?_); intro K hK; go_simp; first | ((with_reducible refine hK _ ?_); clear hK K) | (apply Exists.intro; refine ⟨fun _ => ?_, hK _ ?_⟩; (first | (go_at_call 43; refine BW.same (coverI_b _ 256 rfl _)) | (go_at_call 44; refine BW.calls (frames_b A0 m.ws.length c0 f _ hl0 hk0 HF.out))); clear hK K)))); (with_reducible refine wpQuiet_nil ?_); intro wq hw'; obtain ⟨⟨wy, hbq⟩, hw''⟩ := hw'; subst hw'')
                    go_wp2
                    go_meet
                    case rel => exact ⟨by rw [HF.out, decide_eq_false (by simp [okWc, cov]; try omega)]; rfl, thenB HBW.out hbq⟩
                  have h5p : ¬ f ≤ tb := of_decide_eq_false h5
                  (refine wp_region_below (by kernel_rfl) (by kernel_rfl) ?_; (repeat (first | (go_big_quiet_step (first | (go_at_call 43; refine BW.same (coverI_b _ 256 rfl _)) | (go_at_call 44; refine BW.calls (frames_b A0 m.ws.length c0 f _ hl0 hk0 HF.out)))) | ((with_reducible refine wpQuiet_step ?_); intro K hK; go_simp; first | ((with_reducible refine hK _ ?_); clear hK K) | (apply Exists.intro; refine ⟨fun _ => ?_, hK _ ?_⟩; (first | (go_at_call 43; refine BW.same (coverI_b _ 256 rfl _)) | (go_at_call 44; refine BW.calls (frames_b A0 m.ws.length c0 f _ hl0 hk0 HF.out))); clear hK K)))); (with_reducible refine wpQuiet_nil ?_); intro wq hw'; obtain ⟨⟨wy, hbq⟩, hw''⟩ := hw'; subst hw'')
                  go_wp2
                  go_meet
                  case rel => exact ⟨by rw [HF.out, decide_eq_true (by simp [okWc, cov]; try omega)]; rfl, thenB HBW.out hbq⟩
                · rcases Bool.eq_false_or_eq_true (decide (pg < 0)) with h1 | h1
                  · have h1p : pg < 0 := of_decide_eq_true h1
                    (refine wp_region_below (by kernel_rfl) (by kernel_rfl) ?_; (repeat (first | (go_big_quiet_step (first | (go_at_call 43; refine BW.same (coverI_b _ 16 rfl _)) | (go_at_call 44; refine BW.calls (frames_b A0 m.ws.length c0 f _ hl0 hk0 HF.out)))) | ((with_reducible refine wpQuiet_step ?_); intro K hK; go_simp; first | ((with_reducible refine hK _ ?_); clear hK K) | (apply Exists.intro; refine ⟨fun _ => ?_, hK _ ?_⟩; (first | (go_at_call 43; refine BW.same (coverI_b _ 16 rfl _)) | (go_at_call 44; refine BW.calls (frames_b A0 m.ws.length c0 f _ hl0 hk0 HF.out))); clear hK K)))); (with_reducible refine wpQuiet_nil ?_); intro wq hw'; obtain ⟨⟨wy, hbq⟩, hw''⟩ := hw'; subst hw'')
                    go_wp2
                    go_meet
                    case rel => exact ⟨by rw [HF.out, decide_eq_false (by simp [okWc, cov]; try omega)]; rfl, thenB HBW.out hbq⟩
                  have h1p : ¬ pg < 0 := of_decide_eq_false h1
                  have h1q : 0 ≤ pg := by omega
                  rcases Bool.eq_false_or_eq_true (decide (4096 ≤ pg)) with h2 | h2
                  · have h2p : 4096 ≤ pg := of_decide_eq_true h2
                    (refine wp_region_below (by kernel_rfl) (by kernel_rfl) ?_; (repeat (first | (go_big_quiet_step (first | (go_at_call 43; refine BW.same (coverI_b _ 16 rfl _)) | (go_at_call 44; refine BW.calls (frames_b A0 m.ws.length c0 f _ hl0 hk0 HF.out)))) | ((with_reducible refine wpQuiet_step ?_); intro K hK; go_simp; first | ((with_reducible refine hK _ ?_); clear hK K) | (apply Exists.intro; refine ⟨fun _ => ?_, hK _ ?_⟩; (first | (go_at_call 43; refine BW.same (coverI_b _ 16 rfl _)) | (go_at_call 44; refine BW.calls (frames_b A0 m.ws.length c0 f _ hl0 hk0 HF.out))); clear hK K)))); (with_reducible refine wpQuiet_nil ?_); intro wq hw'; obtain ⟨⟨wy, hbq⟩, hw''⟩ := hw'; subst hw'')
                    go_wp2
                    go_meet
                    case rel => exact ⟨by rw [HF.out, decide_eq_false (by simp [okWc, cov]; try omega)]; rfl, thenB HBW.out hbq⟩
                  have h2p : ¬ 4096 ≤ pg := of_decide_eq_false h2
                  have ht : pg.tmod 16 = pg % 16 := Int.tmod_eq_emod_of_nonneg h1q
                  rcases Bool.eq_false_or_eq_true (pg.tmod 16 != 0) with h3 | h3
                  · have h3q : (pg % 16 != 0) = true := ht ▸ h3
                    have h3p : ¬ pg % 16 = 0 := by simpa using h3q
                    clear ht
                    (refine wp_region_below (by kernel_rfl) (by kernel_rfl) ?_; (repeat (first | (go_big_quiet_step (first | (go_at_call 43; refine BW.same (coverI_b _ 16 rfl _)) | (go_at_call 44; refine BW.calls (frames_b A0 m.ws.length c0 f _ hl0 hk0 HF.out)))) | ((with_reducible refine wpQuiet_step ?_); intro K hK; go_simp; first | ((with_reducible refine hK _ ?_); clear hK K) | (apply Exists.intro; refine ⟨fun _ => ?_, hK _ ?_⟩; (first | (go_at_call 43; refine BW.same (coverI_b _ 16 rfl _)) | (go_at_call 44; refine BW.calls (frames_b A0 m.ws.length c0 f _ hl0 hk0 HF.out))); clear hK K)))); (with_reducible refine wpQuiet_nil ?_); intro wq hw'; obtain ⟨⟨wy, hbq⟩, hw''⟩ := hw'; subst hw'')
                    go_wp2
                    go_meet
                    case rel => exact ⟨by rw [HF.out, decide_eq_false (by simp [okWc, cov]; try omega)]; rfl, thenB HBW.out hbq⟩
                  have h3q : (pg % 16 != 0) = false := ht ▸ h3
                  have h3p : pg % 16 = 0 := by simpa using h3q
                  clear ht
                  rcases Bool.eq_false_or_eq_true (decide (tb < 0)) with h4 | h4
                  · have h4p : tb < 0 := of_decide_eq_true h4
                    (refine wp_region_below (by kernel_rfl) (by kernel_rfl) ?_; (repeat (first | (go_big_quiet_step (first | (go_at_call 43; refine BW.same (coverI_b _ 16 rfl _)) | (go_at_call 44; refine BW.calls (frames_b A0 m.ws.length c0 f _ hl0 hk0 HF.out)))) | ((with_reducible refine wpQuiet_step ?_); intro K hK; go_simp; first | ((with_reducible refine hK _ ?_); clear hK K) | (apply Exists.intro; refine ⟨fun _ => ?_, hK _ ?_⟩; (first | (go_at_call 43; refine BW.same (coverI_b _ 16 rfl _)) | (go_at_call 44; refine BW.calls (frames_b A0 m.ws.length c0 f _ hl0 hk0 HF.out))); clear hK K)))); (with_reducible refine wpQuiet_nil ?_); intro wq hw'; obtain ⟨⟨wy, hbq⟩, hw''⟩ := hw'; subst hw'')
                    go_wp2
                    go_meet
                    case rel => exact ⟨by rw [HF.out, decide_eq_false (by simp [okWc, cov]; try omega)]; rfl, thenB HBW.out hbq⟩
                  have h4p : ¬ tb < 0 := of_decide_eq_false h4
                  rcases Bool.eq_false_or_eq_true (decide (f ≤ tb)) with h5 | h5
                  · have h5p : f ≤ tb := of_decide_eq_true h5
                    (refine wp_region_below (by kernel_rfl) (by kernel_rfl) ?_; (repeat (first | (go_big_quiet_step (first | (go_at_call 43; refine BW.same (coverI_b _ 16 rfl _)) | (go_at_call 44; refine BW.calls (frames_b A0 m.ws.length c0 f _ hl0 hk0 HF.out)))) | ((with_reducible refine wpQuiet_step ?_); intro K hK; go_simp; first | ((with_reducible refine hK _ ?_); clear hK K) | (apply Exists.intro; refine ⟨fun _ => ?_, hK _ ?_⟩; (first | (go_at_call 43; refine BW.same (coverI_b _ 16 rfl _)) | (go_at_call 44; refine BW.calls (frames_b A0 m.ws.length c0 f _ hl0 hk0 HF.out))); clear hK K)))); (with_reducible refine wpQuiet_nil ?_); intro wq hw'; obtain ⟨⟨wy, hbq⟩, hw''⟩ := hw'; subst hw'')
                    go_wp2
                    go_meet
                    case rel => exact ⟨by rw [HF.out, decide_eq_false (by simp [okWc, cov]; try omega)]; rfl, thenB HBW.out hbq⟩
                  have h5p : ¬ f ≤ tb := of_decide_eq_false h5
                  (refine wp_region_below (by kernel_rfl) (by kernel_rfl) ?_; (repeat (first | (go_big_quiet_step (first | (go_at_call 43; refine BW.same (coverI_b _ 16 rfl _)) | (go_at_call 44; refine BW.calls (frames_b A0 m.ws.length c0 f _ hl0 hk0 HF.out)))) | ((with_reducible refine wpQuiet_step ?_); intro K hK; go_simp; first | ((with_reducible refine hK _ ?_); clear hK K) | (apply Exists.intro; refine ⟨fun _ => ?_, hK _ ?_⟩; (first | (go_at_call 43; refine BW.same (coverI_b _ 16 rfl _)) | (go_at_call 44; refine BW.calls (frames_b A0 m.ws.length c0 f _ hl0 hk0 HF.out))); clear hK K)))); (with_reducible refine wpQuiet_nil ?_); intro wq hw'; obtain ⟨⟨wy, hbq⟩, hw''⟩ := hw'; subst hw'')
                  go_wp2
                  go_meet
                  case rel => exact ⟨by rw [HF.out, decide_eq_true (by simp [okWc, cov]; try omega)]; rfl, thenB HBW.out hbq⟩
              case rest =>
                obtain ⟨rfl, hcb⟩ := hcut
                have HCB := Lib.hid hcb
                clear hcb
                go_wp2
                · go_ret
                  have hne : (!decide (okWc ((m.ws.length / 16 : Nat) : Int) ⟨lv, pg, tb, dm⟩)) = true := by assumption
                  have hne' : ¬ okWc ((m.ws.length / 16 : Nat) : Int) ⟨lv, pg, tb, dm⟩ := by simpa using hne
                  exact ⟨ret_bool (by rw [eq_comm, decide_eq_false_iff_not]; exact fun hv => hne' (hv.wc _ (List.mem_of_getElem? G0.out))), thenB HB1.out HCB.out⟩
                · have hne : (!decide (okWc ((m.ws.length / 16 : Nat) : Int) ⟨lv, pg, tb, dm⟩)) = false := by assumption
                  have hne' : okWc ((m.ws.length / 16 : Nat) : Int) ⟨lv, pg, tb, dm⟩ := by simpa using hne
                  go_roundw
                  case rel => exact ⟨k + 1, by omega, by go_num, all_take G0.out HC.out hne', HCB.out⟩
                  case measure => simp [intOf]; omega
            · have hlt' : ¬ (k : Int) < (m.wc.length : Int) := by omega
              go_wp2
              go_ret
              have AP := HC.out
              rw [List.take_of_length_le (by omega)] at AP
              refine ⟨ret_bool ?_, thenB HB1.out hb⟩
              rw [eq_comm, decide_eq_true_iff]
              exact ⟨HFR.out, by omega, by omega, by omega, hA.out, hT.out, AP⟩
end Go.Proofs.Ythphfcheencbgaa.Mmu
