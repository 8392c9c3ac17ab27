/- Walks of the laws' helper functions on lists of Place: copying, counting, comparing, marking, holding. -/
import Derived.Test.YtemfnbcebgflmaaProg
import Derived.Test.YtemfnbcebgflmaaKinds
import Derived.Test.YtemfnbcebgflmaaRowSet
namespace Go.Proofs.Ytemfnbcebgflmaa.LawsPlace
open Go.RowKit Go.Proofs.Ytemfnbcebgflmaa.Base Go.Proofs.Ytemfnbcebgflmaa.Kinds
set_option linter.unusedVariables false
set_option linter.unusedSimpArgs false

theorem info : (Try.prog.info? 116).map (fun i => (i.zero, i.size, i.bytes)) = some (some (.agg #[.int .i64 0, .int .i64 0, .int .i64 0]), 3, 24) := by kernel_rfl

set_option maxHeartbeats 2000000 in
theorem eq_any (a b : SPlace) (w : World) :
    Calls Try.prog 83 #[.agg #[.int .i64 a.Frame, .int .i64 a.Level, .int .i64 a.Page], .agg #[.int .i64 b.Frame, .int .i64 b.Level, .int .i64 b.Page]] w fun e w' => e = .returned (.bool (decide (a = b))) ∧ Below w.heap.size w w' := by
  obtain ⟨x0, x1, x2⟩ := a
  obtain ⟨y0, y1, y2⟩ := b
  dsimp only
  go_enter Try.func83, Try.ntmps83
  go_wp2
  all_goals (go_ret; exact ⟨ret_bool (by symm; simp_all), by repeat (first | exact Below.refl _ _ | apply allocB)⟩)

set_option maxRecDepth 100000 in
set_option maxHeartbeats 2000000 in
theorem eqS_any (v0 v1 : Value) (l0 l1 : List SPlace) (w : World) (r0 : Rd SPlace.enc 3 w v0 l0) (r1 : Rd SPlace.enc 3 w v1 l1) :
    Calls Try.prog 38 #[v0, v1] w fun e w' => e = .returned (.bool (decide (l0 = l1))) ∧ Below w.heap.size w w' := by
  obtain ⟨A0, c0, rfl, hc0, hn0⟩ := r0.shape
  obtain ⟨A1, c1, rfl, hc1, hn1⟩ := r1.shape
  by_cases hl : l0.length = l1.length
  · go_enter Try.func38, Try.ntmps38
    go_wp2
    go_loopw [5] (fun i wr => ∃ k : Nat, k ≤ l0.length ∧ i = .int .i64 k ∧ l0.take k = l1.take k ∧ Below w.heap.size w wr) (fun i _ => l0.length - (intOf i).toNat)
    case atStart => exact ⟨0, Nat.zero_le _, rfl, rfl, Below.refl _ _⟩
    case round =>
      obtain ⟨k, hk, rfl, ht, hb⟩ := hrel
      have R0 := Lib.hid (r0.below hb)
      have R1 := Lib.hid (r1.below hb)
      have HT := Lib.hid ht
      have HL := Lib.hid hl
      clear r0 r1 ht hl
      by_cases hlt : k < l0.length
      · have hlt' : (k : Int) < (l0.length : Int) := by omega
        have hlt1 : k < l1.length := by rw [← HL.out]; exact hlt
        have hlt1' : (k : Int) < (l1.length : Int) := by omega
        obtain ⟨a0, s0, e0, g0, q00, q01, q02⟩ := SPlace.at R0.out hlt
        obtain ⟨a1, s1, e1, g1, q10, q11, q12⟩ := SPlace.at R1.out hlt1
        cases e0
        cases e1
        have G0 := Lib.hid g0
        have G1 := Lib.hid g1
        clear g0 g1
        go_wp2
        go_still_tail 8, (by kernel_rfl)
        change wpList _ _ _ _ _ wr.drew
        generalize hw2 : wr.drew = w2
        have HB : Below w.heap.size w w2 := by rw [← hw2]; exact hb.drew
        clear hw2 q00 q01 q02 q10 q11 q12 hb
        go_wp2_with (go_at_call 83; refine (eq_any s0 s1 _).mono ?_; rintro e w3 ⟨rfl, hb3⟩)
        · go_ret
          have hne : (!decide (s0 = s1)) = true := by assumption
          have hne' : ¬ s0 = s1 := by simpa using hne
          refine ⟨ret_bool ?_, thenB HB hb3⟩
          symm; rw [decide_eq_false_iff_not]
          rintro rfl
          rw [G0.out] at G1
          exact hne' (Option.some.inj G1.out)
        · have he : (!decide (s0 = s1)) = false := by assumption
          have he' : s0 = s1 := by simpa using he
          go_roundw
          case rel => exact ⟨k + 1, by omega, by go_num, by rw [take_snoc G0.out, take_snoc G1.out, HT.out, he'], thenB HB hb3⟩
          case measure => simp [intOf]; omega
      · go_wp2
        go_ret
        have e := HT.out
        rw [List.take_of_length_le (by omega), List.take_of_length_le (by have := HL.out; omega)] at e
        exact ⟨ret_bool (by symm; simpa using e), hb⟩
  · go_enter Try.func38, Try.ntmps38
    go_wp2
    go_ret
    exact ⟨ret_bool (by symm; simp; intro h; exact hl (by rw [h])), Below.refl _ _⟩

/-- What the law marks the i-th element with, from k on. -/
def mark (k : Int) (i : Nat) : SPlace := ⟨k + 3 * i, k + 3 * i + 1, k + 3 * i + 2⟩
def marks (k : Int) (n : Nat) : List SPlace := (List.range n).map (mark k)

set_option maxRecDepth 100000 in
set_option maxHeartbeats 4000000 in
theorem markS_any (base : Nat) (v : Value) (l : List SPlace) (k : Int) (w : World) (ho : Own SPlace.enc 3 116 base w v l) (hl : l.length ≤ 1048576) (hk : 0 ≤ k) (hk' : k ≤ 1000000000) :
    Calls Try.prog 40 #[v, .int .i64 k] w fun e w' => e = .returned (.int .i64 (k + 3 * l.length)) ∧ Own SPlace.enc 3 116 base w' v (marks k l.length) ∧ w.grownBy w' v.ownBlock := by
  obtain ⟨A, c, rfl⟩ := ho.shape
  have HO := Lib.hid ho
  clear ho
  go_enter Try.func40, Try.ntmps40
  go_wp2
  go_loopw [1, 5] (fun q i wr => ∃ j : Nat, j ≤ l.length ∧ i = .int .i64 j ∧ q = .int .i64 (k + 3 * j) ∧ Hid (Own SPlace.enc 3 116 base wr (.slice A l.length c) ((List.range j).map (mark k) ++ l.drop j)) ∧ Hid (w.grownBy wr (Value.slice A l.length c).ownBlock)) (fun _ i _ => l.length - (intOf i).toNat)
  case atStart => exact ⟨0, Nat.zero_le _, rfl, by simp, by simpa using HO, grown_refl _ _⟩
  case round =>
    obtain ⟨j, hj, rfl, rfl, hr, hg⟩ := hrel
    by_cases hlt : j < l.length
    · obtain ⟨g, rfl, _, _, f, cs⟩ := Own.block SPlace.len hr.out (by rw [marks_len _ _ _ hj]; omega)
      have hx := marks_get (mark k) l j hlt
      rw [List.getElem?_eq_getElem hlt] at hx
      have cs := cs j _ hx
      have c0 : wr.cell? ⟨g, j * 3, none⟩ = _ := cs 0 _ rfl
      have c1 : wr.cell? ⟨g, j * 3 + 1, none⟩ = _ := cs 1 _ rfl
      have c2 : wr.cell? ⟨g, j * 3 + 2, none⟩ = _ := cs 2 _ rfl
      clear cs hx
      go_wp2
      go_roundw
      case rel =>
        refine ⟨j + 1, by omega, by go_num, by go_num, ?_, grown_set (grown_set (grown_set hg.out _ _) _ _) _ _⟩
        have h := own_set3 SPlace.len hr.out j (by rw [marks_len _ _ _ hj]; omega) (mark k j) rfl
        rw [marks_step _ _ _ hlt] at h
        refine Lib.hid ?_
        simpa [mark, Int.add_assoc] using h
      case measure => simp [intOf]; omega
    · obtain rfl : j = l.length := by omega
      go_wp2
      go_ret
      have h := hr.out
      rw [List.drop_length, List.append_nil] at h
      exact ⟨rfl, h, hg.out⟩

set_option maxRecDepth 100000 in
set_option maxHeartbeats 4000000 in
theorem heldS_any (v : Value) (n : Nat) (k : Int) (w : World) (r : Rd SPlace.enc 3 w v (marks k n)) (hl : n ≤ 1048576) (hk : 0 ≤ k) (hk' : k ≤ 1000000000) :
    Calls Try.prog 41 #[v, .int .i64 k] w fun e w' => e = .returned (.int .i64 (k + 3 * n)) ∧ w = w' := by
  obtain ⟨A, c, rfl, _, _⟩ := r.shape
  have hml : (marks k n).length = n := by simp [marks]
  rw [hml] at r ⊢
  have HR := Lib.hid r
  have HM := Lib.hid hml
  clear r hml
  go_enter Try.func41, Try.ntmps41
  go_wp2
  go_loop [1, 5] (fun q i => ∃ j : Nat, j ≤ n ∧ i = .int .i64 j ∧ q = .int .i64 (k + 3 * j)) (fun _ i => n - (intOf i).toNat)
  case atStart => exact ⟨0, Nat.zero_le _, rfl, by simp⟩
  case round =>
    obtain ⟨j, hj, rfl, rfl⟩ := hrel
    by_cases hlt : j < n
    · obtain ⟨ad, x, rfl, hx, c0, c1, c2⟩ := SPlace.at HR.out (by rw [HM.out]; exact hlt)
      obtain rfl : x = mark k j := by
        simp [marks, List.getElem?_range hlt] at hx
        exact hx.symm
      simp only [mark] at c0 c1 c2
      rw [show k + 3 * (j : Int) + 2 = k + 3 * j + 1 + 1 from by omega] at c2
      clear hx
      go_wp2
      go_round
      case rel => exact ⟨j + 1, by omega, by go_num, by go_num⟩
      case measure => simp [intOf]; omega
    · obtain rfl : j = n := by omega
      go_wp2
      go_ret
      exact ⟨rfl, rfl⟩

end Go.Proofs.Ytemfnbcebgflmaa.LawsPlace
