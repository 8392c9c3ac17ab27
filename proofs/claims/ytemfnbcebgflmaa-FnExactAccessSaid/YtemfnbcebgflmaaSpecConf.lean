/- Walk of the reference's Conflict. -/
import Derived.Test.YtemfnbcebgflmaaSpecValid
import Derived.Test.YtemfnbcebgflmaaQuietB
namespace Go.Proofs.Ytemfnbcebgflmaa.Mmu
open Go.RowKit Go.Proofs.Ytemfnbcebgflmaa.Base Go.Proofs.Ytemfnbcebgflmaa.Kinds Go.Proofs.Ytemfnbcebgflmaa.DecMath Go.Proofs.Ytemfnbcebgflmaa.L1
set_option linter.unusedVariables false
set_option linter.unusedSimpArgs false

theorem tlbCovers_b (e : STlb) (p : Int) (b : Bool) (w : World) (he : okTlb e) (hp : 0 ≤ p) (hp' : p ≤ 100000) (h : decide (tcovP e p) = b) : Calls Try.prog 89 #[e.val, .int .i64 p] w fun ex w' => ex = .returned (.bool b) ∧ Below w.heap.size w w' := by
  rw [← h]; exact tlbCovers_any e p w he hp hp'

set_option maxRecDepth 100000 in
set_option maxHeartbeats 4000000 in
theorem specConflict_any (v0 v1 v2 v3 : Value) (m : SM) (w : World) (r : RdM w v0 v1 v2 v3 m) :
    Calls Try.prog 43 #[.agg #[v0, v1, v2, v3]] w fun ex w' => ex = .returned (.bool (conflictP m)) ∧ Below w.heap.size w w' := by
  obtain ⟨A0, c0, A1, c1, A2, c2, A3, c3, rfl, rfl, rfl, rfl, hl0, hk0, hl1, hk1, hl2, hk2, hl3, hk3⟩ := r.shape
  have R := Lib.hid r
  clear r
  by_cases hv : Valid m
  rotate_left
  · have HV : Hid (decide (Valid m) = false) := Lib.hid (decide_eq_false hv)
    have HC : Hid (conflictP m = false) := Lib.hid (conflict_bad hv)
    clear hv
    go_enter Try.func43, Try.ntmps43
    go_wp2_with (first | (go_at_call 88; refine (valid_any _ _ _ _ m _ (R.out.below (allocB (Below.refl _ _) _))).mono ?_; rw [HV.out]; rintro e w1 ⟨rfl, hb1⟩; have HB1 := Lib.hid (thenB (allocB (Below.refl w.heap.size w) _) hb1)))
    go_ret
    exact ⟨ret_bool HC.out.symm, HB1.out⟩
  have HV : Hid (decide (Valid m) = true) := Lib.hid (decide_eq_true hv)
  have V := Lib.hid hv
  have hn := hv.ntlb
  clear hv
  go_enter Try.func43, Try.ntmps43
  go_wp2_with (first | (go_at_call 88; refine (valid_any _ _ _ _ m _ (R.out.below (allocB (Below.refl _ _) _))).mono ?_; rw [HV.out]; rintro e w1 ⟨rfl, hb1⟩; have HB1 := Lib.hid (thenB (allocB (Below.refl w.heap.size w) _) hb1); obtain ⟨hc1, hf1⟩ := bcell hb1; have hz1 : w.heap.size < w1.heap.size := (by have := hb1.size; simp at this; omega)))
  have m2 : w1.cell? ⟨w.heap.size, 2, none⟩ = some (.slice A2 m.tlb.length c2) := (hc1 _ _ (by simp)).trans (by go_simp)
  have M2 := Lib.hid m2
  clear hc1 hf1 m2 hb1
  go_loopw [3] (fun i wr => ∃ k : Nat, k ≤ m.tlb.length ∧ i = .int .i64 k ∧ (∀ i', i' < k → ∀ j, j < i' → ¬ clash m.tlb i' j) ∧ Below w1.heap.size w1 wr) (fun i _ => m.tlb.length - (intOf i).toNat)
  case atStart => exact ⟨0, Nat.zero_le _, rfl, by omega, Below.refl _ _⟩
  case round =>
    obtain ⟨i, hi, rfl, hall, hb⟩ := hrel
    have HA := Lib.hid hall
    clear hall
    have hz : w.heap.size < wr.heap.size := Nat.lt_of_lt_of_le hz1 hb.size
    have q0 : wr.cell? ⟨w.heap.size, 2, none⟩ = some (.slice A2 m.tlb.length c2) := (hb.cell hz1).trans M2.out
    by_cases hlt : i < m.tlb.length
    rotate_left
    · have hlt' : ¬ (i : Int) < (m.tlb.length : Int) := by omega
      go_wp2
      go_ret
      exact ⟨ret_bool (conflict_false (fun i' hi' => HA.out i' (by omega))).symm, thenB HB1.out hb⟩
    have hlt' : (i : Int) < (m.tlb.length : Int) := by omega
    go_wp2
    have HB2 := Lib.hid hb
    clear hb q0 hz
    generalize wr = w2 at *
    go_loopw [4] (fun j wr => ∃ k : Nat, k ≤ i ∧ j = .int .i64 k ∧ (∀ j', j' < k → ¬ clash m.tlb i j') ∧ Below w1.heap.size w1 wr) (fun j _ => i - (intOf j).toNat)
    case atStart => exact ⟨0, Nat.zero_le _, rfl, by omega, HB2.out⟩
    case round =>
      obtain ⟨j, hj, rfl, hall, hb⟩ := hrel
      have HJ := Lib.hid hall
      clear hall
      have hz : w.heap.size < wr.heap.size := Nat.lt_of_lt_of_le hz1 hb.size
      by_cases hjt : j < i
      rotate_left
      · have hjt' : ¬ (j : Int) < (i : Int) := by omega
        go_wp2
        go_roundw
        case rel =>
          refine ⟨i + 1, by omega, by go_num, fun i' hi' j' hj' => ?_, hb⟩
          by_cases e : i' < i
          · exact HA.out i' e j' hj'
          · obtain rfl : i' = i := by omega
            exact HJ.out j' (by omega)
        case measure => simp [intOf]; omega
      have hjt' : (j : Int) < (i : Int) := by omega
      go_wp2
      have HB3 := Lib.hid hb
      clear hb hz
      generalize wr = w3 at *
      have hjl : j < m.tlb.length := by omega
      obtain ⟨ei, hei⟩ : ∃ e, m.tlb[i]? = some e := ⟨_, List.getElem?_eq_getElem hlt⟩
      obtain ⟨ej, hej⟩ : ∃ e, m.tlb[j]? = some e := ⟨_, List.getElem?_eq_getElem hjl⟩
      have EI := Lib.hid hei
      have EJ := Lib.hid hej
      have hoki := V.out.tlb ei (List.mem_of_getElem? hei)
      have hokj := V.out.tlb ej (List.mem_of_getElem? hej)
      have OI := Lib.hid hoki
      have OJ := Lib.hid hokj
      clear hoki hokj hei hej
      have hsz : 0 ≤ ei.Size ∧ ei.Size ≤ 16 := by rcases OI.out.1 with h | h <;> omega
      have hpg : 0 ≤ ei.Page ∧ ei.Page < 4096 := OI.out.2.1
      obtain ⟨hsz0, hsz1⟩ := hsz
      obtain ⟨hpg0, hpg1⟩ := hpg
      go_loopw [5] (fun x wr => ∃ k : Nat, (k : Int) ≤ ei.Size ∧ x = .int .i64 k ∧ (sameP ei ej ∨ ∀ k', k' < k → ¬ tcovP ej (ei.Page + k')) ∧ Below w1.heap.size w1 wr) (fun x _ => ei.Size.toNat - (intOf x).toNat)
      case atStart => exact ⟨0, by omega, rfl, Or.inr (by omega), HB3.out⟩
      case round =>
        obtain ⟨k, hk, rfl, hall, hb⟩ := hrel
        have HK := Lib.hid hall
        clear hall
        have hz : w.heap.size < wr.heap.size := Nat.lt_of_lt_of_le hz1 hb.size
        have R0 := Lib.hid (R.out.tlb.below (thenB HB1.out hb))
        have q0 : wr.cell? ⟨w.heap.size, 2, none⟩ = some (.slice A2 m.tlb.length c2) := (hb.cell hz1).trans M2.out
        obtain ⟨a0, e0, ea, g0, u0, u1, u2, u3, u4⟩ := STlb.at R0.out hlt
        cases ea
        obtain rfl : ei = e0 := Option.some.inj (EI.out.symm.trans g0)
        obtain ⟨a1, e1, ea, g1, t0, t1, t2, t3, t4⟩ := STlb.at R0.out hjl
        cases ea
        obtain rfl : ej = e1 := Option.some.inj (EJ.out.symm.trans g1)
        clear g0 g1
        by_cases hkt : (k : Int) < ei.Size
        rotate_left
        · go_wp2
          go_roundw
          case rel =>
            refine ⟨j + 1, by omega, by go_num, fun j' hj' => ?_, hb⟩
            by_cases e : j' < j
            · exact HJ.out j' e
            · obtain rfl : j' = j := by omega
              rintro ⟨a, b, ha, hb', hm, hs⟩
              obtain rfl : ei = a := Option.some.inj (EI.out.symm.trans ha)
              obtain rfl : ej = b := Option.some.inj (EJ.out.symm.trans hb')
              rcases HK.out with h | h
              · exact hs h
              · obtain ⟨k', hk', hc⟩ := (meets_iff OI.out OJ.out).1 hm
                exact h k' (by omega) hc
          case measure => simp [intOf]; omega
        go_wp2
        have b0 := BW.cell q0
        have x0 := BW.cell u0
        have x1 := BW.cell u1
        have x2 := BW.cell u2
        have x3 := BW.cell u3
        have x4 := BW.cell u4
        have y0 := BW.cell t0
        have y1 := BW.cell t1
        have y2 := BW.cell t2
        have y3 := BW.cell t3
        have y4 := BW.cell t4
        clear q0 u0 u1 u2 u3 u4 t0 t1 t2 t3 t4
        have hw : IntKind.i64.wrap (ei.Page + (k : Int)) = ei.Page + (k : Int) := by rw [IntKind.wrap_i64]; omega
        rcases Bool.eq_false_or_eq_true (decide (tcovP ej (ei.Page + k))) with hc | hc
        all_goals
          have HC := Lib.hid hc
          clear hc
          (refine wp_region_below (by kernel_rfl) (by kernel_rfl) ?_; (repeat (first | (go_big_quiet_step (first | (go_at_call 89; refine BW.calls (tlbCovers_b ej _ _ _ OJ.out (by omega) (by omega) HC.out)) | (go_at_call 90; refine BW.calls (same_any ei ej _)))) | ((with_reducible refine wpQuiet_step ?_); intro K hK; go_simp; first | ((with_reducible refine hK _ ?_); clear hK K) | (apply Exists.intro; refine ⟨fun _ => ?_, hK _ ?_⟩; (first | (go_at_call 89; refine BW.calls (tlbCovers_b ej _ _ _ OJ.out (by omega) (by omega) HC.out)) | (go_at_call 90; refine BW.calls (same_any ei ej _))); clear hK K)))); (with_reducible refine wpQuiet_nil ?_); intro wq hw'; obtain ⟨⟨wy, hbq⟩, hw''⟩ := hw'; subst hw'')
          go_wp2
        · go_ret
          have hne : (!decide (sameP ei ej)) = true := by assumption
          have hne' : ¬ sameP ei ej := by simpa using hne
          have hc' : tcovP ej (ei.Page + k) := of_decide_eq_true HC.out
          exact ⟨ret_bool (conflict_true V.out hjt EI.out EJ.out ((meets_iff OI.out OJ.out).2 ⟨k, hkt, hc'⟩) hne').symm, thenB HB1.out (thenB hb hbq)⟩
        · have hne : (!decide (sameP ei ej)) = false := by assumption
          have hne' : sameP ei ej := by simpa using hne
          go_roundw
          case rel => exact ⟨k + 1, by omega, by go_num, Or.inl hne', thenB hb hbq⟩
          case measure => simp [intOf]; omega
        · have hc' : ¬ tcovP ej (ei.Page + k) := of_decide_eq_false HC.out
          go_roundw
          case rel =>
            refine ⟨k + 1, by omega, by go_num, ?_, thenB hb hbq⟩
            rcases HK.out with h | h
            · exact Or.inl h
            · refine Or.inr fun k' hk' => ?_
              by_cases e : k' < k
              · exact h k' e
              · obtain rfl : k' = k := by omega
                exact hc'
          case measure => simp [intOf]; omega
end Go.Proofs.Ytemfnbcebgflmaa.Mmu
