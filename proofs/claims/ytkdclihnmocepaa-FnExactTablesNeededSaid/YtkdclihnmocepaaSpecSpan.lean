/- Walks of the reference's functions on spans: l4SpanOk, l4Joins, ValidSpans, l4Big, l4At. -/
import Derived.Test.YtkdclihnmocepaaProg
import Derived.Test.YtkdclihnmocepaaSpanMath
import Derived.Deep.Cut
import Derived.Deep.CutRange
namespace Go.Proofs.Ytkdclihnmocepaa.Mmu
open Go.RowKit Go.Proofs.Ytkdclihnmocepaa.Base Go.Proofs.Ytkdclihnmocepaa.Kinds
set_option linter.unusedVariables false
set_option linter.unusedSimpArgs false

set_option maxRecDepth 100000 in
set_option maxHeartbeats 4000000 in
theorem specSpanOk_any (s : SSpan) (w : World) : Calls Try.prog 16 #[s.val] w fun e w' => e = .returned (.bool (decide (okS s))) ∧ Below w.heap.size w w' := by
  obtain ⟨p, c, o, m, h⟩ := s
  have hd : ∀ b : Bool, (b = true ↔ (1 ≤ c ∧ 0 ≤ p ∧ p + c ≤ 4096 ∧ 0 ≤ o ∧ o + c ≤ 65536 ∧ 1 ≤ m ∧ m ≤ 7)) → b = decide (okS ⟨p, c, o, m, h⟩) := fun b hb => by
    rw [Bool.eq_iff_iff, hb, decide_eq_true_iff]; exact Iff.rfl
  have HD := Lib.hid hd
  clear hd
  unfold SSpan.val
  dsimp only
  go_enter Try.func16, Try.ntmps16
  go_wp2
  all_goals
    go_ret
    refine ⟨ret_bool ?_, allocB (Below.refl _ _) _⟩
    try simp only [IntKind.wrap_i64] at *
    refine HD.out _ ?_
    simp only [decide_eq_true_eq, Bool.false_eq_true]
    first | exact ⟨fun hh => hh.elim, fun hh => by omega⟩ | (constructor <;> intro hh <;> omega)

set_option maxRecDepth 100000 in
set_option maxHeartbeats 4000000 in
theorem specJoins_any (a b : SSpan) (ha : okS a) (hb : okS b) (w : World) : Calls Try.prog 17 #[a.val, b.val] w fun e w' => e = .returned (.bool (decide (joinS a b))) ∧ Below w.heap.size w w' := by
  obtain ⟨p, c, o, m, h⟩ := a
  obtain ⟨p', c', o', m', h'⟩ := b
  unfold okS at ha hb
  unfold SSpan.val
  dsimp only at *
  have w1 : IntKind.i64.wrap (p + c) = p + c := by rw [IntKind.wrap_i64]; omega
  have w2 : IntKind.i64.wrap (o + c) = o + c := by rw [IntKind.wrap_i64]; omega
  go_enter Try.func17, Try.ntmps17
  go_wp2
  all_goals
    go_ret
    refine ⟨ret_bool ?_, allocB (allocB (Below.refl _ _) _) _⟩
    simp [joinS] at *
    simp_all
    try (cases h <;> cases h' <;> rfl)

set_option maxRecDepth 100000 in
set_option maxHeartbeats 4000000 in
theorem specValidS_any (v : Value) (l : List SSpan) (w : World) (r : Rd SSpan.enc 5 w v l) :
    Calls Try.prog 9 #[v] w fun e w' => e = .returned (.bool (decide (ValidS l))) ∧ Below w.heap.size w w' := by
  obtain ⟨A, c, rfl, hc, hk⟩ := r.shape
  have R := Lib.hid r
  clear r
  go_enter Try.func9, Try.ntmps9
  go_wp2
  go_loopw [3] (fun i wr => ∃ k : Nat, k ≤ l.length ∧ i = .int .i64 k ∧ Hid (oksTo l k) ∧ Below w.heap.size w wr) (fun i _ => l.length - (intOf i).toNat)
  case atStart => exact ⟨0, Nat.zero_le _, rfl, Lib.hid (oksTo_zero l), Below.refl _ _⟩
  case round =>
    obtain ⟨k, hkl, rfl, ho, hb⟩ := hrel
    by_cases hlt : k < l.length
    · have hlt' : (k : Int) < (l.length : Int) := by omega
      obtain ⟨ad, x, rfl, hx, q0, q1, q2, q3, q4⟩ := SSpan.at (R.out.below hb) hlt
      have HX := Lib.hid hx
      clear hx
      go_wp2_with (go_at_call 16; refine (specSpanOk_any x _).mono ?_; rintro e w1 ⟨rfl, hb1⟩)
      · go_ret
        have hne : (!decide (okS x)) = true := by assumption
        refine ⟨ret_bool ?_, thenB hb hb1⟩
        exact (decide_eq_false (not_valid_ok HX.out (by simpa using hne))).symm
      · go_roundw
        case rel =>
          have he : (!decide (okS x)) = false := by assumption
          exact ⟨k + 1, by omega, by go_num, Lib.hid (oksTo_step ho.out HX.out (by simpa using he)), thenB hb hb1⟩
        case measure => simp [intOf]; omega
    · obtain rfl : k = l.length := by omega
      have HO := ho
      clear ho
      generalize hwr : wr = w0 at *
      have HB := Lib.hid hb
      clear hb hwr
      go_wp2
      go_loopw [4] (fun i wr => ∃ k : Nat, (k ≤ l.length ∨ k = 1) ∧ 1 ≤ k ∧ i = .int .i64 k ∧ Hid (goodTo l k) ∧ Below w.heap.size w wr) (fun i _ => l.length - (intOf i).toNat)
      case atStart => exact ⟨1, Or.inr rfl, Nat.le_refl _, rfl, Lib.hid (goodTo_one l 1 (Nat.le_refl _)), HB.out⟩
      case round =>
        obtain ⟨k, hkl, hk1, rfl, hg, hb⟩ := hrel
        by_cases hlt : k < l.length
        · have hlt' : (k : Int) < (l.length : Int) := by omega
          have e1 : IntKind.i64.wrap ((k : Int) - 1) = ((k - 1 : Nat) : Int) := by rw [IntKind.wrap_i64]; omega
          have n1 : ((k - 1 : Nat) : Int) < (l.length : Int) := by omega
          obtain ⟨ad, y, rfl, hy, q0, q1, q2, q3, q4⟩ := SSpan.at (R.out.below hb) hlt
          obtain ⟨ad', x, hae, hx, p0, p1, p2, p3, p4⟩ := SSpan.at (k := k - 1) (R.out.below hb) (by omega)
          cases hae
          have ox := HO.out _ _ (by omega) hx
          have oy := HO.out _ _ hlt hy
          have OX := Lib.hid ox
          have OY := Lib.hid oy
          have e2 : IntKind.i64.wrap (x.Page + x.Count) = x.Page + x.Count := by rw [IntKind.wrap_i64]; unfold okS at ox; omega
          have HX := Lib.hid hx
          have HY := Lib.hid hy
          have pb0 := BW.cell p0
          have pb1 := BW.cell p1
          have pb2 := BW.cell p2
          have pb3 := BW.cell p3
          have pb4 := BW.cell p4
          have qb0 := BW.cell q0
          have qb1 := BW.cell q1
          have qb2 := BW.cell q2
          have qb3 := BW.cell q3
          have qb4 := BW.cell q4
          clear hx hy ox oy p0 p1 p2 p3 p4 q0 q1 q2 q3 q4
          rcases Bool.eq_false_or_eq_true (decide (y.Page < x.Page + x.Count)) with h1 | h1
          · have H1 := Lib.hid h1
            go_wp2
            (refine wp_region_below (by kernel_rfl) (by kernel_rfl) ?_; (repeat (first | (go_big_quiet_step (fail)) | ((with_reducible refine wpQuiet_step ?_); intro K hK; go_simp; first | ((with_reducible refine hK _ ?_); clear hK K) | (apply Exists.intro; refine ⟨fun _ => ?_, hK _ ?_⟩; (fail); clear hK K)))); (with_reducible refine wpQuiet_nil ?_); intro wq hw'; obtain ⟨⟨wy, hbq⟩, hw''⟩ := hw'; subst hw'')
            go_wp2
            go_ret
            refine ⟨ret_bool ?_, thenB hb hbq⟩
            exact (decide_eq_false (not_valid_good (by omega) HX.out HY.out (fun h => by have := of_decide_eq_true H1.out; omega))).symm
          · have H1 := Lib.hid h1
            go_wp2
            (refine wp_region_below (by kernel_rfl) (by kernel_rfl) ?_; (repeat (first | (go_big_quiet_step (first | (go_at_call 17; exact BW.calls (specJoins_any x y OX.out OY.out _)))) | ((with_reducible refine wpQuiet_step ?_); intro K hK; go_simp; first | ((with_reducible refine hK _ ?_); clear hK K) | (apply Exists.intro; refine ⟨fun _ => ?_, hK _ ?_⟩; (first | (go_at_call 17; exact BW.calls (specJoins_any x y OX.out OY.out _))); clear hK K)))); (with_reducible refine wpQuiet_nil ?_); intro wq hw'; obtain ⟨⟨wy, hbq⟩, hw''⟩ := hw'; subst hw'')
            go_wp2
            · go_ret
              have hj : joinS x y := by assumption
              refine ⟨ret_bool ?_, thenB hb hbq⟩
              exact (decide_eq_false (not_valid_good (by omega) HX.out HY.out (fun h => h.2 hj))).symm
            · go_roundw
              case rel =>
                have hj : ¬ joinS x y := by assumption
                exact ⟨k + 1, by omega, by omega, by go_num, Lib.hid (goodTo_step hg.out (by omega) HX.out HY.out ⟨by have := of_decide_eq_false H1.out; omega, hj⟩), thenB hb hbq⟩
              case measure => simp [intOf]; omega
        · go_wp2
          go_ret
          refine ⟨ret_bool ?_, hb⟩
          have hkl' : k = l.length ∨ k = 1 := by omega
          symm; rw [decide_eq_true_iff]
          refine ⟨HO.out, ?_⟩
          rcases Nat.lt_or_ge 1 l.length with g | g
          · obtain rfl : k = l.length := by omega
            exact hg.out
          · exact goodTo_one l _ g
end Go.Proofs.Ytkdclihnmocepaa.Mmu
