/- Walks of the laws' helper functions on lists of Span: copying, counting, comparing, marking, holding. -/
import Derived.Test.YtkdclihnmocepaaProg
import Derived.Test.YtkdclihnmocepaaGround
namespace Go.Proofs.Ytkdclihnmocepaa.LawsSpan
open Go.RowKit Go.Proofs.Ytkdclihnmocepaa.Base Go.Proofs.Ytkdclihnmocepaa.Kinds
set_option linter.unusedVariables false
set_option linter.unusedSimpArgs false

theorem info : (Try.prog.info? 35).map (fun i => (i.zero, i.size, i.bytes)) = some (some (.agg #[.int .i64 0, .int .i64 0, .int .i64 0, .int .i64 0, .bool false]), 5, 40) := by kernel_rfl

theorem sz_any (A : Option Addr) (n c : Nat) (q : Int) (w : World) (hn : n ≤ c) (hc : c ≤ 9223372036854775807) (hq : 0 ≤ q) (hq' : q ≤ 1048576) :
    Calls Try.prog 4 #[.slice A n c, .int .i64 q] w fun e w' => e = .returned (.int .i64 (if q - n < 0 then -1 else q - n)) ∧ w = w' := by
  obtain ⟨r, hr⟩ : ∃ r, r = (if q - (n : Int) < 0 then (-1 : Int) else q - n) := ⟨_, rfl⟩
  rw [← hr]
  have HR := Lib.hid hr
  clear hr
  go_enter Try.func4, Try.ntmps4
  go_wp2
  all_goals
    go_ret
    refine ⟨ret_int ?_, rfl⟩
    rw [HR.out]
    first | rw [if_pos (by omega)] | rw [if_neg (by omega)]

set_option maxHeartbeats 2000000 in
theorem eq_any (a b : SSpan) (w : World) :
    Calls Try.prog 15 #[.agg #[.int .i64 a.Page, .int .i64 a.Count, .int .i64 a.Out, .int .i64 a.Perm, .bool a.Huge], .agg #[.int .i64 b.Page, .int .i64 b.Count, .int .i64 b.Out, .int .i64 b.Perm, .bool b.Huge]] w fun e w' => e = .returned (.bool (decide (a = b))) ∧ Below w.heap.size w w' := by
  obtain ⟨x0, x1, x2, x3, x4⟩ := a
  obtain ⟨y0, y1, y2, y3, y4⟩ := b
  dsimp only
  go_enter Try.func15, Try.ntmps15
  go_wp2
  all_goals (go_ret; exact ⟨ret_bool (by symm; simp_all), by repeat (first | exact Below.refl _ _ | apply allocB)⟩)

set_option maxRecDepth 100000 in
set_option maxHeartbeats 2000000 in
theorem eqS_any (v0 v1 : Value) (l0 l1 : List SSpan) (w : World) (r0 : Rd SSpan.enc 5 w v0 l0) (r1 : Rd SSpan.enc 5 w v1 l1) :
    Calls Try.prog 8 #[v0, v1] w fun e w' => e = .returned (.bool (decide (l0 = l1))) ∧ Below w.heap.size w w' := by
  obtain ⟨A0, c0, rfl, hc0, hn0⟩ := r0.shape
  obtain ⟨A1, c1, rfl, hc1, hn1⟩ := r1.shape
  by_cases hl : l0.length = l1.length
  · go_enter Try.func8, Try.ntmps8
    go_wp2
    go_loopw [5] (fun i wr => ∃ k : Nat, k ≤ l0.length ∧ i = .int .i64 k ∧ l0.take k = l1.take k ∧ Below w.heap.size w wr) (fun i _ => l0.length - (intOf i).toNat)
    case atStart => exact ⟨0, Nat.zero_le _, rfl, rfl, Below.refl _ _⟩
    case round =>
      obtain ⟨k, hk, rfl, ht, hb⟩ := hrel
      have R0 := Lib.hid (r0.below hb)
      have R1 := Lib.hid (r1.below hb)
      have HT := Lib.hid ht
      have HL := Lib.hid hl
      clear r0 r1 ht hl
      by_cases hlt : k < l0.length
      · have hlt' : (k : Int) < (l0.length : Int) := by omega
        have hlt1 : k < l1.length := by rw [← HL.out]; exact hlt
        have hlt1' : (k : Int) < (l1.length : Int) := by omega
        obtain ⟨a0, s0, e0, g0, q00, q01, q02, q03, q04⟩ := SSpan.at R0.out hlt
        obtain ⟨a1, s1, e1, g1, q10, q11, q12, q13, q14⟩ := SSpan.at R1.out hlt1
        cases e0
        cases e1
        have G0 := Lib.hid g0
        have G1 := Lib.hid g1
        clear g0 g1
        go_wp2
        go_still_tail 8, (by kernel_rfl)
        change wpList _ _ _ _ _ wr.drew
        generalize hw2 : wr.drew = w2
        have HB : Below w.heap.size w w2 := by rw [← hw2]; exact hb.drew
        clear hw2 q00 q01 q02 q03 q04 q10 q11 q12 q13 q14 hb
        go_wp2_with (go_at_call 15; refine (eq_any s0 s1 _).mono ?_; rintro e w3 ⟨rfl, hb3⟩)
        · go_ret
          have hne : (!decide (s0 = s1)) = true := by assumption
          have hne' : ¬ s0 = s1 := by simpa using hne
          refine ⟨ret_bool ?_, thenB HB hb3⟩
          symm; rw [decide_eq_false_iff_not]
          rintro rfl
          rw [G0.out] at G1
          exact hne' (Option.some.inj G1.out)
        · have he : (!decide (s0 = s1)) = false := by assumption
          have he' : s0 = s1 := by simpa using he
          go_roundw
          case rel => exact ⟨k + 1, by omega, by go_num, by rw [take_snoc G0.out, take_snoc G1.out, HT.out, he'], thenB HB hb3⟩
          case measure => simp [intOf]; omega
      · go_wp2
        go_ret
        have e := HT.out
        rw [List.take_of_length_le (by omega), List.take_of_length_le (by have := HL.out; omega)] at e
        exact ⟨ret_bool (by symm; simpa using e), hb⟩
  · go_enter Try.func8, Try.ntmps8
    go_wp2
    go_ret
    exact ⟨ret_bool (by symm; simp; intro h; exact hl (by rw [h])), Below.refl _ _⟩

/-- What the law marks the i-th element with, from k on. -/
def mark (k : Int) (i : Nat) : SSpan := ⟨k + 5 * i, k + 5 * i + 1, k + 5 * i + 2, k + 5 * i + 3, (k + 5 * i + 4) % 3 == 0⟩
def marks (k : Int) (n : Nat) : List SSpan := (List.range n).map (mark k)

theorem to_any (x : SSpan) (w : World) :
    Calls Try.prog 12 #[.agg #[.int .i64 x.Page, .int .i64 x.Count, .int .i64 x.Out, .int .i64 x.Perm, .bool x.Huge]] w fun e w' => e = .returned (.agg #[.int .i64 x.Page, .int .i64 x.Count, .int .i64 x.Out, .int .i64 x.Perm, .bool x.Huge]) ∧ Below w.heap.size w w' := by
  obtain ⟨x0, x1, x2, x3, x4⟩ := x
  dsimp only
  go_enter Try.func12, Try.ntmps12
  go_wp2
  exact bodyPost_ret (v := .agg #[.int .i64 x0, .int .i64 x1, .int .i64 x2, .int .i64 x3, .bool x4]) (by simp [results, Try.results12, go_sem]) rfl ⟨rfl, by repeat (first | exact Below.refl _ _ | apply allocB)⟩

theorem made_flat (n : Nat) : (madeCells (Value.cells (.agg #[.int .i64 0, .int .i64 0, .int .i64 0, .int .i64 0, .bool false])) (n * 5)).toList = (List.replicate n (⟨0, 0, 0, 0, false⟩ : SSpan)).flatMap SSpan.enc := made_rep SSpan.len (⟨0, 0, 0, 0, false⟩ : SSpan) rfl (by decide) n

set_option maxRecDepth 100000 in
set_option maxHeartbeats 4000000 in
theorem toS_any (v : Value) (l : List SSpan) (w : World) (r : Rd SSpan.enc 5 w v l) (hl : l.length ≤ 1048576) :
    Calls Try.prog 6 #[v] w fun e w' => ∃ v', e = .returned v' ∧ Own SSpan.enc 5 35 w.heap.size w' v' l ∧ Below w.heap.size w w' := by
  obtain ⟨A, c, rfl, _, _⟩ := r.shape
  have HR := Lib.hid r
  clear r
  obtain ⟨i0, hi, hz0, hz1, hz2⟩ := info_parts info
  go_enter Try.func6, Try.ntmps6
  go_wp2_with (at_make; refine wpList_make_full _ rfl (.tmp 6) (.tmp 6) 25 rfl w.heap.size 35 i0 _ 5 Try.underlying25 hi hz0 hz1 .i64 .i64 (l.length : Int) (l.length : Int) l.length rfl rfl rfl rfl (by rw [hz2]; omega) (by unfold maxLen; omega) (Nat.le_refl _) ?_; intro w0 ho0 hg0)
  have hb0 : Below w.heap.size w w0 := (Below.refl _ _).grown hg0 (Nat.le_refl _) (by simp)
  rw [made_flat] at ho0
  have HO := Lib.hid ho0
  clear ho0 hg0 hi hz0 hz1 hz2
  go_wp2
  go_loopw [4] (fun i wr => ∃ j : Nat, j ≤ l.length ∧ i = .int .i64 j ∧ Hid (Own SSpan.enc 5 35 w.heap.size wr (.slice (some ⟨w.heap.size, 0, none⟩) l.length l.length) (l.take j ++ List.replicate (l.length - j) (⟨0, 0, 0, 0, false⟩ : SSpan))) ∧ Below w.heap.size w wr) (fun i _ => l.length - (intOf i).toNat)
  case atStart => exact ⟨0, Nat.zero_le _, rfl, Lib.hid (by have := HO.out; unfold Own; simpa using this), hb0⟩
  case round =>
    obtain ⟨j, hj, rfl, hr, hb⟩ := hrel
    by_cases hlt : j < l.length
    · obtain ⟨ad, x, rfl, hx, q0, q1, q2, q3, q4⟩ := SSpan.at (HR.out.below hb) hlt
      have hlen : (l.take j ++ List.replicate (l.length - j) (⟨0, 0, 0, 0, false⟩ : SSpan)).length = l.length := by simp; omega
      obtain ⟨g, hge, _, hgw, f, cs⟩ := Own.block SSpan.len hr.out (by omega)
      simp only [Option.some.injEq, Addr.mk.injEq, and_true] at hge
      subst hge
      have hz : (l.take j ++ List.replicate (l.length - j) (⟨0, 0, 0, 0, false⟩ : SSpan))[j]? = some (⟨0, 0, 0, 0, false⟩ : SSpan) := by
        rw [List.getElem?_append_right (by simp; omega), List.getElem?_replicate]; simp; omega
      have cs := cs j _ hz
      have c0 : wr.cell? ⟨w.heap.size, j * 5, none⟩ = _ := cs 0 _ rfl
      have c1 : wr.cell? ⟨w.heap.size, j * 5 + 1, none⟩ = _ := cs 1 _ rfl
      have c2 : wr.cell? ⟨w.heap.size, j * 5 + 2, none⟩ = _ := cs 2 _ rfl
      have c3 : wr.cell? ⟨w.heap.size, j * 5 + 3, none⟩ = _ := cs 3 _ rfl
      have c4 : wr.cell? ⟨w.heap.size, j * 5 + 4, none⟩ = _ := cs 4 _ rfl
      have HX := Lib.hid hx
      have HL := Lib.hid hlen
      clear cs hz hx hlen
      go_wp2_with (go_at_call 12; refine (to_any x _).mono ?_; rintro e w1 ⟨rfl, hb1⟩; have d0 : w1.cell? ⟨w.heap.size, j * 5, none⟩ = _ := (hb1.cell (by simpa using hgw)).trans c0; have d1 : w1.cell? ⟨w.heap.size, j * 5 + 1, none⟩ = _ := (hb1.cell (by simpa using hgw)).trans c1; have d2 : w1.cell? ⟨w.heap.size, j * 5 + 2, none⟩ = _ := (hb1.cell (by simpa using hgw)).trans c2; have d3 : w1.cell? ⟨w.heap.size, j * 5 + 3, none⟩ = _ := (hb1.cell (by simpa using hgw)).trans c3; have d4 : w1.cell? ⟨w.heap.size, j * 5 + 4, none⟩ = _ := (hb1.cell (by simpa using hgw)).trans c4; have fw : ∀ i, w1.frozen? ⟨w.heap.size, i, none⟩ = false := fun i => (hb1.frozen (by simpa using hgw)).trans (f i))
      go_roundw
      case rel =>
        have ho1 := Own.below hr.out hb1
        have h := own_set5 SSpan.len ho1 j (by rw [HL.out]; exact hlt) x rfl
        rw [fill_step HX.out hlt] at h
        exact ⟨j + 1, by omega, by go_num, Lib.hid (by simpa using h), Below.setCell (Below.setCell (Below.setCell (Below.setCell (Below.setCell (thenB hb hb1) (Nat.le_refl _) _) (Nat.le_refl _) _) (Nat.le_refl _) _) (Nat.le_refl _) _) (Nat.le_refl _) _⟩
      case measure => simp [intOf]; omega
    · obtain rfl : j = l.length := by omega
      go_wp2
      go_ret
      have h := hr.out
      rw [List.take_length, Nat.sub_self, List.replicate_zero, List.append_nil] at h
      exact ⟨_, rfl, h, hb⟩

end Go.Proofs.Ytkdclihnmocepaa.LawsSpan
