/- Walk of the program's ValidSpans. -/
import Derived.Test.YtkdclihnmocepaaImplSpan
namespace Go.Proofs.Ytkdclihnmocepaa.Mmu
open Go.RowKit Go.Proofs.Ytkdclihnmocepaa.Base Go.Proofs.Ytkdclihnmocepaa.Kinds
set_option linter.unusedVariables false
set_option linter.unusedSimpArgs false

/-- Five cells of the newest box are written. -/
theorem St.t0 {w0 w : World} {b T : Nat} {l : List (Nat × Array Value × Nat)} {x0 x1 x2 x3 x4 : Value} (h : St w0 ((b, #[x0, x1, x2, x3, x4], T) :: l) w) (u0 u1 u2 u3 u4 : Value) : St w0 ((b, #[u0, u1, u2, u3, u4], T) :: l) (((((w.setCell ⟨b, 0, none⟩ u0).setCell ⟨b, 1, none⟩ u1).setCell ⟨b, 2, none⟩ u2).setCell ⟨b, 3, none⟩ u3).setCell ⟨b, 4, none⟩ u4) :=
  St.set (l1 := []) (St.set (l1 := []) (St.set (l1 := []) (St.set (l1 := []) (St.set (l1 := []) h 0 u0) 1 u1) 2 u2) 3 u3) 4 u4
theorem implSpanOk_b (s : SSpan) (b : Bool) (hb : decide (okS s) = b) (w : World) : Calls Try.prog 20 #[s.val] w fun e w' => e = .returned (.bool b) ∧ Below w.heap.size w w' := by
  rw [← hb]; exact implSpanOk_any s w
theorem implJoins_b (a b : SSpan) (ha : okS a) (hb : okS b) (q : Bool) (hq : decide (joinS a b) = q) (w : World) : Calls Try.prog 21 #[a.val, b.val] w fun e w' => e = .returned (.bool q) ∧ Below w.heap.size w w' := by
  rw [← hq]; exact implJoins_any a b ha hb w

set_option maxRecDepth 100000 in
set_option maxHeartbeats 4000000 in
theorem implValidS_any (v : Value) (l : List SSpan) (w : World) (r : Rd SSpan.enc 5 w v l) :
    Calls Try.prog 13 #[v] w fun e w' => e = .returned (.bool (decide (ValidS l))) ∧ Below w.heap.size w w' := by
  obtain ⟨A, c, rfl, hc, hk⟩ := r.shape
  have R := Lib.hid r
  clear r
  go_enter Try.func13, Try.ntmps13
  go_wp2
  go_loopw [7] (fun i wr => ∃ k : Nat, k ≤ l.length ∧ i = .int .i64 k ∧ Hid (oksTo l k) ∧ Hid (goodTo l k) ∧ Below w.heap.size w wr) (fun i _ => l.length - (intOf i).toNat)
  case atStart => exact ⟨0, Nat.zero_le _, rfl, Lib.hid (oksTo_zero l), Lib.hid (goodTo_one l 0 (by decide)), Below.refl _ _⟩
  case round =>
    obtain ⟨k, hkl, rfl, ho, hg, hb⟩ := hrel
    by_cases hlt : k < l.length
    · have hlt' : (k : Int) < (l.length : Int) := by omega
      obtain ⟨ad, y, rfl, hy, q0, q1, q2, q3, q4⟩ := SSpan.at (R.out.below hb) hlt
      have HY := Lib.hid hy
      go_upto_region 4 with fail
      refine ((St.start wr).push _ _).gen (fun w1 S1 _ => ?_)
      have HB := Lib.hid (thenB hb S1.b)
      clear hy q0 q1 q2 q3 q4 hb
      have sT0 := S1
      obtain ⟨z0_0, z0_1, z0_2, z0_3, z0_4⟩ := sT0.c5
      have sT1 := sT0.tail
      have zB0_0 := BW.cell z0_0
      have zB0_1 := BW.cell z0_1
      have zB0_2 := BW.cell z0_2
      have zB0_3 := BW.cell z0_3
      have zB0_4 := BW.cell z0_4
      clear z0_0 z0_1 z0_2 z0_3 z0_4
      clear sT0 sT1
      clear S1
      rcases Bool.eq_false_or_eq_true (decide (okS y)) with hoy | hoy
      · have OY := Lib.hid (of_decide_eq_true hoy)
        have HOY := Lib.hid hoy
        clear hoy
        by_cases hk0 : k = 0
        · subst hk0
          have g0 : decide ((0 : Int) < 0) = false := rfl
          (refine wp_region_below (by kernel_rfl) (by kernel_rfl) ?_; (repeat (first | (go_big_quiet_step (first | (go_at_call 20; exact BW.calls (implSpanOk_b y true HOY.out _)))) | ((with_reducible refine wpQuiet_step ?_); intro K hK; go_simp; first | ((with_reducible refine hK _ ?_); clear hK K) | (apply Exists.intro; refine ⟨fun _ => ?_, hK _ ?_⟩; (first | (go_at_call 20; exact BW.calls (implSpanOk_b y true HOY.out _))); clear hK K)))); (with_reducible refine wpQuiet_nil ?_); intro wq hw'; obtain ⟨⟨wy, hbq⟩, hw''⟩ := hw'; subst hw'')
          go_wp2
          go_roundw
          case rel => exact ⟨1, by omega, by go_num, Lib.hid (oksTo_step ho.out HY.out OY.out), Lib.hid (goodTo_one l 1 (by decide)), thenB HB.out hbq⟩
          case measure => simp [intOf]; omega
        · have e1 : IntKind.i64.wrap ((k : Int) - 1) = ((k - 1 : Nat) : Int) := by rw [IntKind.wrap_i64]; omega
          have n1 : ((k - 1 : Nat) : Int) < (l.length : Int) := by omega
          have g0 : decide (0 < k) = true := by simp; omega
          obtain ⟨ad', x, hae, hx, p0, p1, p2, p3, p4⟩ := SSpan.at (k := k - 1) (R.out.below HB.out) (by omega)
          cases hae
          have ox := ho.out _ _ (by omega) hx
          have OX := Lib.hid ox
          have e2 : IntKind.i64.wrap (x.Page + x.Count) = x.Page + x.Count := by rw [IntKind.wrap_i64]; unfold okS at ox; omega
          have HX := Lib.hid hx
          have pb0 := BW.cell p0
          have pb1 := BW.cell p1
          have pb2 := BW.cell p2
          have pb3 := BW.cell p3
          have pb4 := BW.cell p4
          have HK0 := Lib.hid hk0
          clear hx ox p0 p1 p2 p3 p4 hk0
          rcases Bool.eq_false_or_eq_true (decide (y.Page < x.Page + x.Count)) with h1 | h1
          · have H1 := Lib.hid h1
            (refine wp_region_below (by kernel_rfl) (by kernel_rfl) ?_; (repeat (first | (go_big_quiet_step (first | (go_at_call 20; exact BW.calls (implSpanOk_b y true HOY.out _)))) | ((with_reducible refine wpQuiet_step ?_); intro K hK; go_simp; first | ((with_reducible refine hK _ ?_); clear hK K) | (apply Exists.intro; refine ⟨fun _ => ?_, hK _ ?_⟩; (first | (go_at_call 20; exact BW.calls (implSpanOk_b y true HOY.out _))); clear hK K)))); (with_reducible refine wpQuiet_nil ?_); intro wq hw'; obtain ⟨⟨wy, hbq⟩, hw''⟩ := hw'; subst hw'')
            go_wp2
            go_ret
            refine ⟨ret_bool ?_, thenB HB.out hbq⟩
            exact (decide_eq_false (not_valid_good (by have := HK0.out; omega) HX.out HY.out (fun h => by have := of_decide_eq_true H1.out; omega))).symm
          · have H1 := Lib.hid h1
            rcases Bool.eq_false_or_eq_true (decide (joinS x y)) with hj | hj
            · have HJ := Lib.hid hj
              clear hj
              (refine wp_region_below (by kernel_rfl) (by kernel_rfl) ?_; (repeat (first | (go_big_quiet_step (first | (go_at_call 20; exact BW.calls (implSpanOk_b y true HOY.out _)) | (go_at_call 21; exact BW.calls (implJoins_b x y OX.out OY.out true HJ.out _)))) | ((with_reducible refine wpQuiet_step ?_); intro K hK; go_simp; first | ((with_reducible refine hK _ ?_); clear hK K) | (apply Exists.intro; refine ⟨fun _ => ?_, hK _ ?_⟩; (first | (go_at_call 20; exact BW.calls (implSpanOk_b y true HOY.out _)) | (go_at_call 21; exact BW.calls (implJoins_b x y OX.out OY.out true HJ.out _))); clear hK K)))); (with_reducible refine wpQuiet_nil ?_); intro wq hw'; obtain ⟨⟨wy, hbq⟩, hw''⟩ := hw'; subst hw'')
              go_wp2
              go_ret
              refine ⟨ret_bool ?_, thenB HB.out hbq⟩
              exact (decide_eq_false (not_valid_good (by have := HK0.out; omega) HX.out HY.out (fun h => h.2 (of_decide_eq_true HJ.out)))).symm
            · have HJ := Lib.hid hj
              clear hj
              (refine wp_region_below (by kernel_rfl) (by kernel_rfl) ?_; (repeat (first | (go_big_quiet_step (first | (go_at_call 20; exact BW.calls (implSpanOk_b y true HOY.out _)) | (go_at_call 21; exact BW.calls (implJoins_b x y OX.out OY.out false HJ.out _)))) | ((with_reducible refine wpQuiet_step ?_); intro K hK; go_simp; first | ((with_reducible refine hK _ ?_); clear hK K) | (apply Exists.intro; refine ⟨fun _ => ?_, hK _ ?_⟩; (first | (go_at_call 20; exact BW.calls (implSpanOk_b y true HOY.out _)) | (go_at_call 21; exact BW.calls (implJoins_b x y OX.out OY.out false HJ.out _))); clear hK K)))); (with_reducible refine wpQuiet_nil ?_); intro wq hw'; obtain ⟨⟨wy, hbq⟩, hw''⟩ := hw'; subst hw'')
              go_wp2
              go_roundw
              case rel => exact ⟨k + 1, by omega, by go_num, Lib.hid (oksTo_step ho.out HY.out OY.out), Lib.hid (goodTo_step hg.out (by have := HK0.out; omega) HX.out HY.out ⟨by have := of_decide_eq_false H1.out; omega, of_decide_eq_false HJ.out⟩), thenB HB.out hbq⟩
              case measure => simp [intOf]; omega
      · have HOY := Lib.hid hoy
        clear hoy
        (refine wp_region_below (by kernel_rfl) (by kernel_rfl) ?_; (repeat (first | (go_big_quiet_step (first | (go_at_call 20; exact BW.calls (implSpanOk_b y false HOY.out _)))) | ((with_reducible refine wpQuiet_step ?_); intro K hK; go_simp; first | ((with_reducible refine hK _ ?_); clear hK K) | (apply Exists.intro; refine ⟨fun _ => ?_, hK _ ?_⟩; (first | (go_at_call 20; exact BW.calls (implSpanOk_b y false HOY.out _))); clear hK K)))); (with_reducible refine wpQuiet_nil ?_); intro wq hw'; obtain ⟨⟨wy, hbq⟩, hw''⟩ := hw'; subst hw'')
        go_wp2
        go_ret
        refine ⟨ret_bool ?_, thenB HB.out hbq⟩
        exact (decide_eq_false (not_valid_ok HY.out (of_decide_eq_false HOY.out))).symm
    · obtain rfl : k = l.length := by omega
      go_wp2
      go_ret
      exact ⟨ret_bool (decide_eq_true ⟨ho.out, hg.out⟩).symm, hb⟩
end Go.Proofs.Ytkdclihnmocepaa.Mmu
