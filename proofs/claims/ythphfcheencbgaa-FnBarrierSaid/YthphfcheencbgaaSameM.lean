/- Walks of the laws' wSameWords and wSameMachine, of machines that read alike. -/
import Derived.Test.YthphfcheencbgaaMachG
import Derived.Test.YthphfcheencbgaaL1
import Derived.Deep.Cut
import Derived.Deep.CutRange
namespace Go.Proofs.Ythphfcheencbgaa.Draw
open Go.RowKit Go.Proofs.Ythphfcheencbgaa.Base Go.Proofs.Ythphfcheencbgaa.Kinds Go.Proofs.Ythphfcheencbgaa.DecMath Go.Proofs.Ythphfcheencbgaa.L1
set_option linter.unusedVariables false
set_option linter.unusedSimpArgs false

set_option maxRecDepth 100000 in
set_option maxHeartbeats 8000000 in
theorem sameWords_any (v0 v1 : Value) (l : List Int) (w : World) (r0 : Rd wEnc 1 w v0 l) (r1 : Rd wEnc 1 w v1 l) :
    Calls Try.prog 27 #[v0, v1] w fun e w' => e = .returned (.bool true) ∧ Below w.heap.size w w' := by
  obtain ⟨A0, c0, rfl, h00, h01⟩ := r0.shape
  obtain ⟨A1, c1, rfl, h10, h11⟩ := r1.shape
  have R0 := Lib.hid r0
  have R1 := Lib.hid r1
  clear r0 r1
  go_enter Try.func27, Try.ntmps27
  go_wp2
  go_loopw [5] (fun vi wr => ∃ k : Nat, k ≤ l.length ∧ vi = .int .i64 (k : Int) ∧ Hid (Below w.heap.size w wr)) (fun i _ => l.length - (intOf i).toNat)
  case atStart => exact ⟨0, Nat.zero_le _, rfl, Lib.hid (Below.refl _ _)⟩
  case round =>
    obtain ⟨k, hk, rfl, HBk⟩ := hrel
    by_cases hlt : k < l.length
    · have hlt' : (k : Int) < (l.length : Int) := by omega
      obtain ⟨ad0, x, rfl, hx, q0⟩ := word_at (R0.out.below HBk.out) hlt
      obtain ⟨ad1, x', rfl, hx', q1⟩ := word_at (R1.out.below HBk.out) hlt
      obtain rfl := Option.some.inj (hx.symm.trans hx')
      have b0 := BW.cell q0
      have b1 := BW.cell q1
      clear hx hx' q0 q1
      go_upto_region 6 with fail
      (refine wp_region_below (by kernel_rfl) (by kernel_rfl) ?_; (repeat (first | (go_big_quiet_step (fail)) | ((with_reducible refine wpQuiet_step ?_); intro K hK; go_simp; first | ((with_reducible refine hK _ ?_); clear hK K) | (apply Exists.intro; refine ⟨fun _ => ?_, hK _ ?_⟩; (fail); clear hK K)))); (with_reducible refine wpQuiet_nil ?_); intro wq hw'; obtain ⟨⟨wy, hbq⟩, hw''⟩ := hw'; subst hw'')
      have HBn := Lib.hid (thenB HBk.out hbq)
      clear hbq
      go_wp2
      go_roundw
      case rel => exact ⟨k + 1, by omega, by first | rfl | go_num, HBn⟩
      case measure => simp [intOf]; omega
    · obtain rfl : k = l.length := by omega
      go_wp2
      go_ret
      exact ⟨rfl, HBk.out⟩

set_option maxRecDepth 100000 in
set_option maxHeartbeats 8000000 in
theorem sameM_any (v0 v1 v2 v3 u0 u1 u2 u3 : Value) (m : SM) (w : World) (r : RdM w v0 v1 v2 v3 m) (s : RdM w u0 u1 u2 u3 m) :
    Calls Try.prog 7 #[.agg #[v0, v1, v2, v3], .agg #[u0, u1, u2, u3]] w fun e w' => e = .returned (.bool true) ∧ Below w.heap.size w w' := by
  obtain ⟨A0, c0, A1, c1, A2, c2, A3, c3, rfl, rfl, rfl, rfl, hl0, hk0, hl1, hk1, hl2, hk2, hl3, hk3⟩ := r.shape
  obtain ⟨B0, d0, B1, d1, B2, d2, B3, d3, rfl, rfl, rfl, rfl, gl0, gk0, gl1, gk1, gl2, gk2, gl3, gk3⟩ := s.shape
  have R := Lib.hid r
  have U := Lib.hid s
  clear r s
  go_enter Try.func7, Try.ntmps7
  go_upto_region 1 with fail
  refine ((St.start w).push2 _ _ _ _).gen (fun w1 S1' _ => ?_)
  have S1 := Lib.hid S1'
  clear S1'
  have sT0 := S1.out
  obtain ⟨z0_0, z0_1, z0_2, z0_3⟩ := sT0.c4
  have sT1 := sT0.tail
  obtain ⟨z1_0, z1_1, z1_2, z1_3⟩ := sT1.c4
  have sT2 := sT1.tail
  clear sT0 sT1 sT2
  go_upto_region 3 with (go_at_call 27; refine (sameWords_any _ _ m.ws _ (R.out.below S1.out.b).ws (U.out.below S1.out.b).ws).mono ?_; rintro e w2 ⟨rfl, hb2⟩; have S2 := Lib.hid (S1.out.below hb2); clear hb2; have sT0 := S2.out; obtain ⟨y0_0, y0_1, y0_2, y0_3⟩ := sT0.c4; have sT1 := sT0.tail; obtain ⟨y1_0, y1_1, y1_2, y1_3⟩ := sT1.c4; have sT2 := sT1.tail; clear sT0 sT1 sT2)
  clear z0_0 z0_1 z0_2 z0_3 z1_0 z1_1 z1_2 z1_3
  go_wp2
  clear y0_0 y0_1 y0_2 y0_3 y1_0 y1_1 y1_2 y1_3
  clear S1
  go_loopw [5] (fun vi wr => ∃ k : Nat, k ≤ m.pend.length ∧ vi = .int .i64 (k : Int) ∧ Hid (St w [(w.heap.size + 1, #[.slice B0 m.ws.length d0, .slice B1 m.pend.length d1, .slice B2 m.tlb.length d2, .slice B3 m.wc.length d3], 30), (w.heap.size, #[.slice A0 m.ws.length c0, .slice A1 m.pend.length c1, .slice A2 m.tlb.length c2, .slice A3 m.wc.length c3], 30)] wr)) (fun i _ => m.pend.length - (intOf i).toNat)
  case atStart => exact ⟨0, Nat.zero_le _, rfl, S2⟩
  case round =>
    obtain ⟨k, hk, rfl, HS⟩ := hrel
    by_cases hlt : k < m.pend.length
    · have hlt' : (k : Int) < (m.pend.length : Int) := by omega
      obtain ⟨ad0, x, ea, hx, q0, q1⟩ := SWrite.at (R.out.below HS.out.b).pend hlt
      cases ea
      obtain ⟨ad1, x', ea, hx', q2, q3⟩ := SWrite.at (U.out.below HS.out.b).pend hlt
      cases ea
      obtain rfl := Option.some.inj (hx.symm.trans hx')
      have b0 := BW.cell q0
      have b1 := BW.cell q1
      have b2 := BW.cell q2
      have b3 := BW.cell q3
      clear hx hx' q0 q1 q2 q3
      have sT0 := HS.out
      obtain ⟨z0_0, z0_1, z0_2, z0_3⟩ := sT0.c4
      have sT1 := sT0.tail
      obtain ⟨z1_0, z1_1, z1_2, z1_3⟩ := sT1.c4
      have sT2 := sT1.tail
      clear sT0 sT1 sT2
      go_upto_region 8 with fail
      clear z0_0 z0_1 z0_2 z0_3 z1_0 z1_1 z1_2 z1_3
      have sT0 := HS.out
      obtain ⟨z0_0, z0_1, z0_2, z0_3⟩ := sT0.c4
      have sT1 := sT0.tail
      have zB0_0 := BW.cell z0_0
      have zB0_1 := BW.cell z0_1
      have zB0_2 := BW.cell z0_2
      have zB0_3 := BW.cell z0_3
      clear z0_0 z0_1 z0_2 z0_3
      obtain ⟨z1_0, z1_1, z1_2, z1_3⟩ := sT1.c4
      have sT2 := sT1.tail
      have zB1_0 := BW.cell z1_0
      have zB1_1 := BW.cell z1_1
      have zB1_2 := BW.cell z1_2
      have zB1_3 := BW.cell z1_3
      clear z1_0 z1_1 z1_2 z1_3
      clear sT0 sT1 sT2
      (refine wp_region_below (by kernel_rfl) (by kernel_rfl) ?_; (repeat (first | (go_big_quiet_step (fail)) | ((with_reducible refine wpQuiet_step ?_); intro K hK; go_simp; first | ((with_reducible refine hK _ ?_); clear hK K) | (apply Exists.intro; refine ⟨fun _ => ?_, hK _ ?_⟩; (fail); clear hK K)))); (with_reducible refine wpQuiet_nil ?_); intro wq hw'; obtain ⟨⟨wy, hbq⟩, hw''⟩ := hw'; subst hw'')
      have HSn := Lib.hid (HS.out.below hbq)
      clear hbq
      go_wp2
      go_roundw
      case rel => exact ⟨k + 1, by omega, by first | rfl | go_num, HSn⟩
      case measure => simp [intOf]; omega
    obtain rfl : k = m.pend.length := by omega
    have sT0 := HS.out
    obtain ⟨z0_0, z0_1, z0_2, z0_3⟩ := sT0.c4
    have sT1 := sT0.tail
    obtain ⟨z1_0, z1_1, z1_2, z1_3⟩ := sT1.c4
    have sT2 := sT1.tail
    clear sT0 sT1 sT2
    go_wp2
    clear z0_0 z0_1 z0_2 z0_3 z1_0 z1_1 z1_2 z1_3
    go_loopw [6] (fun vi wr => ∃ k : Nat, k ≤ m.tlb.length ∧ vi = .int .i64 (k : Int) ∧ Hid (St w [(w.heap.size + 1, #[.slice B0 m.ws.length d0, .slice B1 m.pend.length d1, .slice B2 m.tlb.length d2, .slice B3 m.wc.length d3], 30), (w.heap.size, #[.slice A0 m.ws.length c0, .slice A1 m.pend.length c1, .slice A2 m.tlb.length c2, .slice A3 m.wc.length c3], 30)] wr)) (fun i _ => m.tlb.length - (intOf i).toNat)
    case atStart => exact ⟨0, Nat.zero_le _, rfl, HS⟩
    case round =>
      obtain ⟨k, hk, rfl, HS2⟩ := hrel
      by_cases hlt : k < m.tlb.length
      · have hlt' : (k : Int) < (m.tlb.length : Int) := by omega
        obtain ⟨ad0, x, ea, hx, q0, q1, q2, q3, q4⟩ := STlb.at (R.out.below HS2.out.b).tlb hlt
        cases ea
        obtain ⟨ad1, x', ea, hx', p0, p1, p2, p3, p4⟩ := STlb.at (U.out.below HS2.out.b).tlb hlt
        cases ea
        obtain rfl := Option.some.inj (hx.symm.trans hx')
        clear hx hx'
        have hz3 : w.heap.size + 1 < wr.heap.size := HS2.out.lt _ (List.mem_cons_self ..)
        have hz2 : w.heap.size < wr.heap.size := by omega
        have hab0 := World.block_lt_of_cell? _ _ q4
        have hab1 := World.block_lt_of_cell? _ _ p4
        simp only at hab0 hab1
        have sT0 := HS2.out
        obtain ⟨z0_0, z0_1, z0_2, z0_3⟩ := sT0.c4
        have sT1 := sT0.tail
        obtain ⟨z1_0, z1_1, z1_2, z1_3⟩ := sT1.c4
        have sT2 := sT1.tail
        clear sT0 sT1 sT2
        go_wp2
        go_roundw
        case rel => exact ⟨k + 1, by omega, by first | rfl | go_num, Lib.hid (HS2.out.below (allocB (allocB (Below.refl _ _) _) _))⟩
        case measure => simp [intOf]; omega
      obtain rfl : k = m.tlb.length := by omega
      have sT0 := HS2.out
      obtain ⟨z0_0, z0_1, z0_2, z0_3⟩ := sT0.c4
      have sT1 := sT0.tail
      obtain ⟨z1_0, z1_1, z1_2, z1_3⟩ := sT1.c4
      have sT2 := sT1.tail
      clear sT0 sT1 sT2
      go_wp2
      clear z0_0 z0_1 z0_2 z0_3 z1_0 z1_1 z1_2 z1_3
      go_loopw [9] (fun vi wr => ∃ k : Nat, k ≤ m.wc.length ∧ vi = .int .i64 (k : Int) ∧ Hid (St w [(w.heap.size + 1, #[.slice B0 m.ws.length d0, .slice B1 m.pend.length d1, .slice B2 m.tlb.length d2, .slice B3 m.wc.length d3], 30), (w.heap.size, #[.slice A0 m.ws.length c0, .slice A1 m.pend.length c1, .slice A2 m.tlb.length c2, .slice A3 m.wc.length c3], 30)] wr)) (fun i _ => m.wc.length - (intOf i).toNat)
      case atStart => exact ⟨0, Nat.zero_le _, rfl, HS2⟩
      case round =>
        obtain ⟨k, hk, rfl, HS3⟩ := hrel
        by_cases hlt : k < m.wc.length
        · have hlt' : (k : Int) < (m.wc.length : Int) := by omega
          obtain ⟨ad0, x, ea, hx, q0, q1, q2, q3⟩ := SWc.at (R.out.below HS3.out.b).wc hlt
          cases ea
          obtain ⟨ad1, x', ea, hx', p0, p1, p2, p3⟩ := SWc.at (U.out.below HS3.out.b).wc hlt
          cases ea
          obtain rfl := Option.some.inj (hx.symm.trans hx')
          clear hx hx'
          have hz3 : w.heap.size + 1 < wr.heap.size := HS3.out.lt _ (List.mem_cons_self ..)
          have hz2 : w.heap.size < wr.heap.size := by omega
          have hab0 := World.block_lt_of_cell? _ _ q3
          have hab1 := World.block_lt_of_cell? _ _ p3
          simp only at hab0 hab1
          have sT0 := HS3.out
          obtain ⟨z0_0, z0_1, z0_2, z0_3⟩ := sT0.c4
          have sT1 := sT0.tail
          obtain ⟨z1_0, z1_1, z1_2, z1_3⟩ := sT1.c4
          have sT2 := sT1.tail
          clear sT0 sT1 sT2
          go_wp2
          go_roundw
          case rel => exact ⟨k + 1, by omega, by first | rfl | go_num, Lib.hid (HS3.out.below (allocB (allocB (Below.refl _ _) _) _))⟩
          case measure => simp [intOf]; omega
        obtain rfl : k = m.wc.length := by omega
        have sT0 := HS3.out
        obtain ⟨z0_0, z0_1, z0_2, z0_3⟩ := sT0.c4
        have sT1 := sT0.tail
        obtain ⟨z1_0, z1_1, z1_2, z1_3⟩ := sT1.c4
        have sT2 := sT1.tail
        clear sT0 sT1 sT2
        go_wp2
        go_ret
        exact ⟨rfl, HS3.out.b⟩
end Go.Proofs.Ythphfcheencbgaa.Draw
