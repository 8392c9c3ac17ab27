/- Walks of the program's header.meets, same and Conflict. -/
import Derived.Test.YtemfnbcebgflmaaMachOf
import Derived.Test.YtemfnbcebgflmaaImplMach2
namespace Go.Proofs.Ytemfnbcebgflmaa.Mmu
open Go.RowKit Go.Proofs.Ytemfnbcebgflmaa.Base Go.Proofs.Ytemfnbcebgflmaa.Kinds Go.Proofs.Ytemfnbcebgflmaa.DecMath Go.Proofs.Ytemfnbcebgflmaa.L1
set_option linter.unusedVariables false
set_option linter.unusedSimpArgs false

set_option maxRecDepth 100000 in
set_option maxHeartbeats 4000000 in
theorem meets_any (ad : Addr) (hp hc pg ct : Int) (w : World) (q0 : w.cell? ad = some (.int .i64 hp)) (q1 : w.cell? ⟨ad.block, ad.off + 1, none⟩ = some (.int .i64 hc))
    (b0 : 0 ≤ hp ∧ 0 ≤ hc ∧ 0 ≤ pg ∧ 0 ≤ ct) (b1 : hp + hc ≤ 100000) (b2 : pg + ct ≤ 100000) :
    Calls Try.prog 96 #[.pointer (some ad), .int .i64 pg, .int .i64 ct] w fun e w' => e = .returned (.bool (decide (hp < pg + ct ∧ pg < hp + hc))) ∧ Below w.heap.size w w' := by
  have w1 : IntKind.i64.wrap (pg + ct) = pg + ct := by rw [IntKind.wrap_i64]; omega
  have w2 : IntKind.i64.wrap (hp + hc) = hp + hc := by rw [IntKind.wrap_i64]; omega
  rcases Bool.eq_false_or_eq_true (decide (hp < pg + ct)) with h | h
  all_goals
    go_enter Try.func96, Try.ntmps96
    go_wp2
    go_quiet (fail)
    go_wp2
  · go_ret
    refine ⟨ret_bool ?_, below_drewN (Below.refl _ _) _⟩
    have h' : hp < pg + ct := of_decide_eq_true h
    simp [h']
  · go_ret
    refine ⟨ret_bool ?_, below_drewN (Below.refl _ _) _⟩
    have h' : ¬ hp < pg + ct := of_decide_eq_false h
    simp [h']

def STlb.wval (x : STlb) : Value := .agg #[.int .i64 x.Page, .int .i64 x.Size, .bool x.Doomed, .int .i64 x.Out, .int .i64 x.Perm]
set_option maxRecDepth 100000 in
set_option maxHeartbeats 4000000 in
theorem sameI_any (a b : STlb) (w : World) : Calls Try.prog 97 #[STlb.wval a, STlb.wval b] w fun ex w' => ex = .returned (.bool (decide (sameP a b))) ∧ Below w.heap.size w w' := by
  obtain ⟨pg, sz, out, pm, dm⟩ := a
  obtain ⟨pg', sz', out', pm', dm'⟩ := b
  simp only [STlb.wval]
  go_enter Try.func97, Try.ntmps97
  go_wp2
  all_goals (go_ret; exact ⟨ret_bool (by rw [Bool.eq_iff_iff, decide_eq_true_iff]; simp [sameP] at *; try omega), allocB (allocB (Below.refl _ _) _) _⟩)

theorem meets_b (ad : Addr) (a b : STlb) (r : Bool) (w : World) (ha : okTlb a) (hb : okTlb b) (h : decide (meetsP a b) = r) (q0 : w.cell? ad = some (.int .i64 a.Page)) (q1 : w.cell? ⟨ad.block, ad.off + 1, none⟩ = some (.int .i64 a.Size)) :
    Calls Try.prog 96 #[.pointer (some ad), .int .i64 b.Page, .int .i64 b.Size] w fun e w' => e = .returned (.bool r) ∧ Below w.heap.size w w' := by
  rw [← h]
  have h1 := ha.2.1
  have h2 := hb.2.1
  have h3 : a.Size ≤ 16 ∧ 0 ≤ a.Size := by rcases ha.1 with e | e <;> omega
  have h4 : b.Size ≤ 16 ∧ 0 ≤ b.Size := by rcases hb.1 with e | e <;> omega
  exact meets_any ad _ _ _ _ w q0 q1 ⟨by omega, by omega, by omega, by omega⟩ (by omega) (by omega)

set_option maxRecDepth 100000 in
set_option maxHeartbeats 4000000 in
theorem implConflict_any (v0 v1 v2 v3 : Value) (m : SM) (w : World) (r : RdM w v0 v1 v2 v3 m) :
    Calls Try.prog 45 #[.agg #[v0, v1, v2, v3]] w fun ex w' => ex = .returned (.bool (conflictP m)) ∧ Below w.heap.size w w' := by
  obtain ⟨A0, c0, A1, c1, A2, c2, A3, c3, rfl, rfl, rfl, rfl, hl0, hk0, hl1, hk1, hl2, hk2, hl3, hk3⟩ := r.shape
  have R := Lib.hid r
  clear r
  by_cases hv : Valid m
  rotate_left
  · have HV : Hid (decide (Valid m) = false) := Lib.hid (decide_eq_false hv)
    have HC : Hid (conflictP m = false) := Lib.hid (conflict_bad hv)
    clear hv
    go_enter Try.func45, Try.ntmps45
    go_wp2_with (first | (go_at_call 94; refine (machineOK_any _ _ _ _ m _ (R.out.below (allocB (Below.refl _ _) _))).mono ?_; rw [HV.out]; rintro e w1 ⟨rfl, hb1⟩; have HB1 := Lib.hid (thenB (allocB (Below.refl w.heap.size w) _) hb1)))
    go_ret
    exact ⟨ret_bool HC.out.symm, HB1.out⟩
  have HV : Hid (decide (Valid m) = true) := Lib.hid (decide_eq_true hv)
  have V := Lib.hid hv
  have hn := hv.ntlb
  clear hv
  go_enter Try.func45, Try.ntmps45
  go_wp2_with (first
    | (go_at_call 94; refine (machineOK_any _ _ _ _ m _ (R.out.below (allocB (Below.refl _ _) _))).mono ?_; rw [HV.out]; rintro e w1 ⟨rfl, hb1⟩; have HB1 := Lib.hid (thenB (allocB (Below.refl w.heap.size w) _) hb1); obtain ⟨hc1, hf1⟩ := bcell hb1; have y0 : w1.cell? ⟨w.heap.size, 0, none⟩ = some (.slice A0 m.ws.length c0) := (hc1 _ _ (by simp)).trans (by go_simp); have y1 : w1.cell? ⟨w.heap.size, 1, none⟩ = some (.slice A1 m.pend.length c1) := (hc1 _ _ (by simp)).trans (by go_simp); have y2 : w1.cell? ⟨w.heap.size, 2, none⟩ = some (.slice A2 m.tlb.length c2) := (hc1 _ _ (by simp)).trans (by go_simp); have y3 : w1.cell? ⟨w.heap.size, 3, none⟩ = some (.slice A3 m.wc.length c3) := (hc1 _ _ (by simp)).trans (by go_simp); clear hc1 hf1 hb1)
    | (go_at_call 95; refine (machOf_any _ _ _ _ m _ (R.out.below HB1.out) V.out).mono ?_; rintro e w2 ⟨p, u0, u1, u2, u3, u4, rfl, hX, hb2⟩; have HX := Lib.hid hX; have HB2 := Lib.hid (thenB HB1.out hb2); obtain ⟨A5, c5, e5⟩ := hX.tlb.shape; subst e5; have f3 := hX.cell.2.2.2.1; clear hX hb2 y0 y1 y2 y3))
  clear f3
  go_loopw [16] (fun i wr => ∃ k : Nat, k ≤ m.tlb.length ∧ i = .int .i64 k ∧ (∀ i', i' < k → ∀ j, j < i' → ¬ clash m.tlb i' j) ∧ Below w2.heap.size w2 wr) (fun i _ => m.tlb.length - (intOf i).toNat)
  case atStart => exact ⟨0, Nat.zero_le _, rfl, by omega, Below.refl _ _⟩
  case round =>
    obtain ⟨i, hi, rfl, hall, hb⟩ := hrel
    have HA := Lib.hid hall
    clear hall
    by_cases hlt : i < m.tlb.length
    rotate_left
    · have hlt' : ¬ (i : Int) < (m.tlb.length : Int) := by omega
      go_wp2
      go_ret
      exact ⟨ret_bool (conflict_false (fun i' hi' => HA.out i' (by omega))).symm, thenB HB2.out hb⟩
    have hlt' : (i : Int) < (m.tlb.length : Int) := by omega
    go_wp2
    have HB3 := Lib.hid hb
    clear hb
    generalize wr = w3 at *
    go_loopw [20] (fun j wr => ∃ k : Nat, k ≤ i ∧ j = .int .i64 k ∧ (∀ j', j' < k → ¬ clash m.tlb i j') ∧ Below w2.heap.size w2 wr) (fun j _ => i - (intOf j).toNat)
    case atStart => exact ⟨0, Nat.zero_le _, rfl, by omega, HB3.out⟩
    case round =>
      obtain ⟨j, hj, rfl, hall, hb⟩ := hrel
      have HJ := Lib.hid hall
      clear hall
      by_cases hjt : j < i
      rotate_left
      · have hjt' : ¬ (j : Int) < (i : Int) := by omega
        go_wp2
        go_roundw
        case rel =>
          refine ⟨i + 1, by omega, by go_num, fun i' hi' j' hj' => ?_, hb⟩
          by_cases e : i' < i
          · exact HA.out i' e j' hj'
          · obtain rfl : i' = i := by omega
            exact HJ.out j' (by omega)
        case measure => simp [intOf]; omega
      have hjt' : (j : Int) < (i : Int) := by omega
      have hjl : j < m.tlb.length := by omega
      have hjl' : (j : Int) < (m.tlb.length : Int) := by omega
      go_upto_region 10 with fail
      have hX := HX.out.below hb
      have f3 := hX.cell.2.2.2.1
      obtain ⟨a0, ei, ea, g0, t0, t1, t2, t3, t4⟩ := whole_at (hX.tlb.rd wholeLen) hlt
      cases ea
      obtain ⟨a1, ej, ea, g1, s0, s1, s2, s3, s4⟩ := whole_at (hX.tlb.rd wholeLen) hjl
      cases ea
      have OI := Lib.hid (V.out.tlb ei (List.mem_of_getElem? g0))
      have OJ := Lib.hid (V.out.tlb ej (List.mem_of_getElem? g1))
      have EI := Lib.hid g0
      have EJ := Lib.hid g1
      have b0 := BW.cell f3
      have x0 := BW.cell t0
      have x1 := BW.cell t1
      have x2 := BW.cell t2
      have x3 := BW.cell t3
      have x4 := BW.cell t4
      have y0 := BW.cell s0
      have y1 := BW.cell s1
      have y2 := BW.cell s2
      have y3 := BW.cell s3
      have y4 := BW.cell s4
      clear f3 t0 t1 t2 t3 t4 s0 s1 s2 s3 s4 hX g0 g1
      rcases Bool.eq_false_or_eq_true (decide (meetsP ei ej)) with hc | hc
      all_goals
        have HC := Lib.hid hc
        clear hc
        (refine wp_region_below (by kernel_rfl) (by kernel_rfl) ?_; (repeat (first | (go_big_quiet_step (first | (go_at_call 96; refine BW.calls (meets_b _ ei ej _ _ OI.out OJ.out HC.out (x0 _) (x1 _))) | (go_at_call 97; refine BW.calls (sameI_any ei ej _)))) | ((with_reducible refine wpQuiet_step ?_); intro K hK; go_simp; first | ((with_reducible refine hK _ ?_); clear hK K) | (apply Exists.intro; refine ⟨fun _ => ?_, hK _ ?_⟩; (first | (go_at_call 96; refine BW.calls (meets_b _ ei ej _ _ OI.out OJ.out HC.out (x0 _) (x1 _))) | (go_at_call 97; refine BW.calls (sameI_any ei ej _))); clear hK K)))); (with_reducible refine wpQuiet_nil ?_); intro wq hw'; obtain ⟨⟨wy, hbq⟩, hw''⟩ := hw'; subst hw'')
        go_wp2
      · go_ret
        have hne : (!decide (sameP ei ej)) = true := by assumption
        have hne' : ¬ sameP ei ej := by simpa using hne
        exact ⟨ret_bool (conflict_true V.out hjt EI.out EJ.out (of_decide_eq_true HC.out) hne').symm, thenB HB2.out (thenB hb hbq)⟩
      · have hne : (!decide (sameP ei ej)) = false := by assumption
        have hne' : sameP ei ej := by simpa using hne
        go_roundw
        case rel =>
          refine ⟨j + 1, by omega, by go_num, fun j' hj' => ?_, thenB hb hbq⟩
          by_cases e : j' < j
          · exact HJ.out j' e
          · obtain rfl : j' = j := by omega
            rintro ⟨a, b, ha, hb', hm, hs⟩
            obtain rfl : ei = a := Option.some.inj (EI.out.symm.trans ha)
            obtain rfl : ej = b := Option.some.inj (EJ.out.symm.trans hb')
            exact hs hne'
        case measure => simp [intOf]; omega
      · go_roundw
        case rel =>
          refine ⟨j + 1, by omega, by go_num, fun j' hj' => ?_, thenB hb hbq⟩
          by_cases e : j' < j
          · exact HJ.out j' e
          · obtain rfl : j' = j := by omega
            rintro ⟨a, b, ha, hb', hm, hs⟩
            obtain rfl : ei = a := Option.some.inj (EI.out.symm.trans ha)
            obtain rfl : ej = b := Option.some.inj (EJ.out.symm.trans hb')
            exact of_decide_eq_false HC.out hm
        case measure => simp [intOf]; omega
end Go.Proofs.Ytemfnbcebgflmaa.Mmu
