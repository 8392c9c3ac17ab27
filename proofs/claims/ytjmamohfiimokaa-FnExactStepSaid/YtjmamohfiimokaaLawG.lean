/- Walks of the laws' helper functions on words: copying, counting, comparing, marking, holding. Walks of the laws' helper functions on lists of Tlb: copying, counting, comparing, marking, holding. Walks of the laws' helper functions on lists of Wc: copying, counting, comparing, marking, holding. Walks of the laws' helper functions on lists of Write: copying, counting, comparing, marking, holding. Walks of the laws' helper functions on lists of Place: copying, counting, comparing, marking, holding. Walks of the laws' helper functions on memories: counting, copying, comparing, marking, holding. Walks of the laws' helper functions on machines: counting, copying, comparing, marking, holding. The law's guard on a machine's bulk, in two halves; cells kept. -/
import Derived.Test.YtjmamohfiimokaaProg
import Derived.Test.YtjmamohfiimokaaGround
namespace Go.Proofs.Ytjmamohfiimokaa.LawsUint64
open Go.RowKit Go.Proofs.Ytjmamohfiimokaa.Base Go.Proofs.Ytjmamohfiimokaa.Kinds
set_option linter.unusedVariables false
set_option linter.unusedSimpArgs false

theorem info : (Try.prog.info? 30).map (fun i => (i.zero, i.size, i.bytes)) = some (some (.int .u64 0), 1, 8) := by kernel_rfl

theorem sz_any (A : Option Addr) (n c : Nat) (q : Int) (w : World) (hn : n ≤ c) (hc : c ≤ 9223372036854775807) (hq : 0 ≤ q) (hq' : q ≤ 1048576) :
    Calls Try.prog 118 #[.slice A n c, .int .i64 q] w fun e w' => e = .returned (.int .i64 (if q - n < 0 then -1 else q - n)) ∧ w = w' := by
  obtain ⟨r, hr⟩ : ∃ r, r = (if q - (n : Int) < 0 then (-1 : Int) else q - n) := ⟨_, rfl⟩
  rw [← hr]
  have HR := Lib.hid hr
  clear hr
  go_enter Try.func118, Try.ntmps118
  go_wp2
  all_goals
    go_ret
    refine ⟨ret_int ?_, rfl⟩
    rw [HR.out]
    first | rw [if_pos (by omega)] | rw [if_neg (by omega)]

set_option maxRecDepth 100000 in
set_option maxHeartbeats 2000000 in
theorem eqS_any (v0 v1 : Value) (l0 l1 : List Int) (w : World) (r0 : Rd wEnc 1 w v0 l0) (r1 : Rd wEnc 1 w v1 l1) :
    Calls Try.prog 115 #[v0, v1] w fun e w' => e = .returned (.bool (decide (l0 = l1))) ∧ Below w.heap.size w w' := by
  obtain ⟨A0, c0, rfl, hc0, hn0⟩ := r0.shape
  obtain ⟨A1, c1, rfl, hc1, hn1⟩ := r1.shape
  by_cases hl : l0.length = l1.length
  · go_enter Try.func115, Try.ntmps115
    go_wp2
    go_loopw [5] (fun i wr => ∃ k : Nat, k ≤ l0.length ∧ i = .int .i64 k ∧ l0.take k = l1.take k ∧ Below w.heap.size w wr) (fun i _ => l0.length - (intOf i).toNat)
    case atStart => exact ⟨0, Nat.zero_le _, rfl, rfl, Below.refl _ _⟩
    case round =>
      obtain ⟨k, hk, rfl, ht, hb⟩ := hrel
      have R0 := Lib.hid (r0.below hb)
      have R1 := Lib.hid (r1.below hb)
      have HT := Lib.hid ht
      have HL := Lib.hid hl
      clear r0 r1 ht hl
      by_cases hlt : k < l0.length
      · have hlt' : (k : Int) < (l0.length : Int) := by omega
        have hlt1 : k < l1.length := by rw [← HL.out]; exact hlt
        have hlt1' : (k : Int) < (l1.length : Int) := by omega
        obtain ⟨a0, s0, e0, g0, q00⟩ := word_at R0.out hlt
        obtain ⟨a1, s1, e1, g1, q10⟩ := word_at R1.out hlt1
        cases e0
        cases e1
        have G0 := Lib.hid g0
        have G1 := Lib.hid g1
        clear g0 g1
        go_wp2
        go_quiet (fail)
        go_wp2
        · have hne : (s0 != s1) = true := by assumption
          have hne' : ¬ s0 = s1 := by simpa using hne
          go_ret
          refine ⟨ret_bool ?_, below_drewN hb _⟩
          symm; rw [decide_eq_false_iff_not]
          rintro rfl
          rw [G0.out] at G1
          exact hne' (Option.some.inj G1.out)
        · have he : (s0 != s1) = false := by assumption
          have he' : s0 = s1 := by simpa using he
          go_roundw
          case rel => exact ⟨k + 1, by omega, by go_num, by rw [take_snoc G0.out, take_snoc G1.out, HT.out, he'], below_drewN hb _⟩
          case measure => simp [intOf]; omega
      · go_wp2
        go_ret
        have e := HT.out
        rw [List.take_of_length_le (by omega), List.take_of_length_le (by have := HL.out; omega)] at e
        exact ⟨ret_bool (by symm; simpa using e), hb⟩
  · go_enter Try.func115, Try.ntmps115
    go_wp2
    go_ret
    exact ⟨ret_bool (by symm; simp; intro h; exact hl (by rw [h])), Below.refl _ _⟩

/-- What the law marks the i-th element with, from k on. -/
def mark (k : Int) (i : Nat) : Int := k + i
def marks (k : Int) (n : Nat) : List Int := (List.range n).map (mark k)

set_option maxRecDepth 100000 in
set_option maxHeartbeats 4000000 in
theorem markS_any (base : Nat) (v : Value) (l : List Int) (k : Int) (w : World) (ho : Own wEnc 1 30 base w v l) (hl : l.length ≤ 1048576) (hk : 0 ≤ k) (hk' : k ≤ 1000000000) :
    Calls Try.prog 116 #[v, .int .i64 k] w fun e w' => e = .returned (.int .i64 (k +  l.length)) ∧ Own wEnc 1 30 base w' v (marks k l.length) ∧ w.grownBy w' v.ownBlock := by
  obtain ⟨A, c, rfl⟩ := ho.shape
  have HO := Lib.hid ho
  clear ho
  go_enter Try.func116, Try.ntmps116
  go_wp2
  go_loopw [1, 5] (fun q i wr => ∃ j : Nat, j ≤ l.length ∧ i = .int .i64 j ∧ q = .int .i64 (k +  j) ∧ Hid (Own wEnc 1 30 base wr (.slice A l.length c) ((List.range j).map (mark k) ++ l.drop j)) ∧ Hid (w.grownBy wr (Value.slice A l.length c).ownBlock)) (fun _ i _ => l.length - (intOf i).toNat)
  case atStart => exact ⟨0, Nat.zero_le _, rfl, by simp, by simpa using HO, grown_refl _ _⟩
  case round =>
    obtain ⟨j, hj, rfl, rfl, hr, hg⟩ := hrel
    by_cases hlt : j < l.length
    · obtain ⟨g, rfl, _, _, f, cs⟩ := Own.block wLen hr.out (by rw [marks_len _ _ _ hj]; omega)
      have hx := marks_get (mark k) l j hlt
      rw [List.getElem?_eq_getElem hlt] at hx
      have cs := cs j _ hx
      have c0 : wr.cell? ⟨g, j, none⟩ = some (.int .u64 l[j]) := by simpa using cs 0 _ rfl
      clear cs hx
      go_wp2
      go_roundw
      case rel =>
        refine ⟨j + 1, by omega, by go_num, by go_num, ?_, grown_set hg.out _ _⟩
        have h := own_set1 wLen hr.out j (by rw [marks_len _ _ _ hj]; omega) (mark k j) rfl
        rw [marks_step _ _ _ hlt] at h
        refine Lib.hid ?_
        simpa [mark, Int.add_assoc] using h
      case measure => simp [intOf]; omega
    · obtain rfl : j = l.length := by omega
      go_wp2
      go_ret
      have h := hr.out
      rw [List.drop_length, List.append_nil] at h
      exact ⟨rfl, h, hg.out⟩

set_option maxRecDepth 100000 in
set_option maxHeartbeats 4000000 in
theorem heldS_any (v : Value) (n : Nat) (k : Int) (w : World) (r : Rd wEnc 1 w v (marks k n)) (hl : n ≤ 1048576) (hk : 0 ≤ k) (hk' : k ≤ 1000000000) :
    Calls Try.prog 117 #[v, .int .i64 k] w fun e w' => e = .returned (.int .i64 (k +  n)) ∧ w = w' := by
  obtain ⟨A, c, rfl, _, _⟩ := r.shape
  have hml : (marks k n).length = n := by simp [marks]
  rw [hml] at r ⊢
  have HR := Lib.hid r
  have HM := Lib.hid hml
  clear r hml
  go_enter Try.func117, Try.ntmps117
  go_wp2
  go_loop [1, 5] (fun q i => ∃ j : Nat, j ≤ n ∧ i = .int .i64 j ∧ q = .int .i64 (k +  j)) (fun _ i => n - (intOf i).toNat)
  case atStart => exact ⟨0, Nat.zero_le _, rfl, by simp⟩
  case round =>
    obtain ⟨j, hj, rfl, rfl⟩ := hrel
    by_cases hlt : j < n
    · obtain ⟨ad, x, rfl, hx, c0⟩ := word_at HR.out (by rw [HM.out]; exact hlt)
      obtain rfl : x = mark k j := by
        simp [marks, List.getElem?_range hlt] at hx
        exact hx.symm
      simp only [mark] at c0
      clear hx
      go_wp2
      go_round
      case rel => exact ⟨j + 1, by omega, by go_num, by go_num⟩
      case measure => simp [intOf]; omega
    · obtain rfl : j = n := by omega
      go_wp2
      go_ret
      exact ⟨rfl, rfl⟩

theorem made_flat (n : Nat) : (madeCells (Value.cells (.int .u64 0)) (n * 1)).toList = (List.replicate n (0 : Int)).flatMap wEnc := made_rep wLen (0 : Int) rfl (by decide) n

set_option maxRecDepth 100000 in
set_option maxHeartbeats 4000000 in
theorem toS_any (v : Value) (l : List Int) (w : World) (r : Rd wEnc 1 w v l) (hl : l.length ≤ 1048576) :
    Calls Try.prog 124 #[v] w fun e w' => ∃ v', e = .returned v' ∧ Own wEnc 1 30 w.heap.size w' v' l ∧ Below w.heap.size w w' := by
  obtain ⟨A, c, rfl, _, _⟩ := r.shape
  have HR := Lib.hid r
  clear r
  obtain ⟨i0, hi, hz0, hz1, hz2⟩ := info_parts info
  go_enter Try.func124, Try.ntmps124
  go_wp2_with (at_make; refine wpList_make_full _ rfl (.tmp 6) (.tmp 6) 22 rfl w.heap.size 30 i0 _ 1 Try.underlying22 hi hz0 hz1 .i64 .i64 (l.length : Int) (l.length : Int) l.length rfl rfl rfl rfl (by rw [hz2]; omega) (by unfold maxLen; omega) (Nat.le_refl _) ?_; intro w0 ho0 hg0)
  have hb0 : Below w.heap.size w w0 := (Below.refl _ _).grown hg0 (Nat.le_refl _) (by simp)
  rw [made_flat] at ho0
  have HO := Lib.hid ho0
  clear ho0 hg0 hi hz0 hz1 hz2
  go_wp2
  go_loopw [4] (fun i wr => ∃ j : Nat, j ≤ l.length ∧ i = .int .i64 j ∧ Hid (Own wEnc 1 30 w.heap.size wr (.slice (some ⟨w.heap.size, 0, none⟩) l.length l.length) (l.take j ++ List.replicate (l.length - j) (0 : Int))) ∧ Below w.heap.size w wr) (fun i _ => l.length - (intOf i).toNat)
  case atStart => exact ⟨0, Nat.zero_le _, rfl, Lib.hid (by have := HO.out; unfold Own; simpa using this), hb0⟩
  case round =>
    obtain ⟨j, hj, rfl, hr, hb⟩ := hrel
    by_cases hlt : j < l.length
    · obtain ⟨ad, x, rfl, hx, q0⟩ := word_at (HR.out.below hb) hlt
      have hlen : (l.take j ++ List.replicate (l.length - j) (0 : Int)).length = l.length := by simp; omega
      obtain ⟨g, hge, _, hgw, f, cs⟩ := Own.block wLen hr.out (by omega)
      simp only [Option.some.injEq, Addr.mk.injEq, and_true] at hge
      subst hge
      have hz : (l.take j ++ List.replicate (l.length - j) (0 : Int))[j]? = some (0 : Int) := by
        rw [List.getElem?_append_right (by simp; omega), List.getElem?_replicate]; simp; omega
      have cs := cs j _ hz
      have c0 : wr.cell? ⟨w.heap.size, j, none⟩ = some (.int .u64 0) := by simpa using cs 0 _ rfl
      have HX := Lib.hid hx
      have HL := Lib.hid hlen
      clear cs hz hx hlen
      go_wp2
      go_roundw
      case rel =>
        have ho1 := hr.out
        have h := own_set1 wLen ho1 j (by rw [HL.out]; exact hlt) x rfl
        rw [fill_step HX.out hlt] at h
        exact ⟨j + 1, by omega, by go_num, Lib.hid (by simpa using h), Below.setCell (hb) (Nat.le_refl _) _⟩
      case measure => simp [intOf]; omega
    · obtain rfl : j = l.length := by omega
      go_wp2
      go_ret
      have h := hr.out
      rw [List.take_length, Nat.sub_self, List.replicate_zero, List.append_nil] at h
      exact ⟨_, rfl, h, hb⟩

end Go.Proofs.Ytjmamohfiimokaa.LawsUint64

namespace Go.Proofs.Ytjmamohfiimokaa.LawsTlb
open Go.RowKit Go.Proofs.Ytjmamohfiimokaa.Base Go.Proofs.Ytjmamohfiimokaa.Kinds
set_option linter.unusedVariables false
set_option linter.unusedSimpArgs false

theorem info : (Try.prog.info? 74).map (fun i => (i.zero, i.size, i.bytes)) = some (some (.agg #[.int .i64 0, .int .i64 0, .int .i64 0, .int .i64 0, .bool false]), 5, 40) := by kernel_rfl

theorem sz_any (A : Option Addr) (n c : Nat) (q : Int) (w : World) (hn : n ≤ c) (hc : c ≤ 9223372036854775807) (hq : 0 ≤ q) (hq' : q ≤ 1048576) :
    Calls Try.prog 45 #[.slice A n c, .int .i64 q] w fun e w' => e = .returned (.int .i64 (if q - n < 0 then -1 else q - n)) ∧ w = w' := by
  obtain ⟨r, hr⟩ : ∃ r, r = (if q - (n : Int) < 0 then (-1 : Int) else q - n) := ⟨_, rfl⟩
  rw [← hr]
  have HR := Lib.hid hr
  clear hr
  go_enter Try.func45, Try.ntmps45
  go_wp2
  all_goals
    go_ret
    refine ⟨ret_int ?_, rfl⟩
    rw [HR.out]
    first | rw [if_pos (by omega)] | rw [if_neg (by omega)]

set_option maxHeartbeats 2000000 in
theorem eq_any (a b : STlb) (w : World) :
    Calls Try.prog 133 #[.agg #[.int .i64 a.Page, .int .i64 a.Size, .int .i64 a.Out, .int .i64 a.Perm, .bool a.Doomed], .agg #[.int .i64 b.Page, .int .i64 b.Size, .int .i64 b.Out, .int .i64 b.Perm, .bool b.Doomed]] w fun e w' => e = .returned (.bool (decide (a = b))) ∧ Below w.heap.size w w' := by
  obtain ⟨x0, x1, x2, x3, x4⟩ := a
  obtain ⟨y0, y1, y2, y3, y4⟩ := b
  dsimp only
  go_enter Try.func133, Try.ntmps133
  go_wp2
  all_goals (go_ret; exact ⟨ret_bool (by symm; simp_all), by repeat (first | exact Below.refl _ _ | apply allocB)⟩)

set_option maxRecDepth 100000 in
set_option maxHeartbeats 2000000 in
theorem eqS_any (v0 v1 : Value) (l0 l1 : List STlb) (w : World) (r0 : Rd STlb.enc 5 w v0 l0) (r1 : Rd STlb.enc 5 w v1 l1) :
    Calls Try.prog 64 #[v0, v1] w fun e w' => e = .returned (.bool (decide (l0 = l1))) ∧ Below w.heap.size w w' := by
  obtain ⟨A0, c0, rfl, hc0, hn0⟩ := r0.shape
  obtain ⟨A1, c1, rfl, hc1, hn1⟩ := r1.shape
  by_cases hl : l0.length = l1.length
  · go_enter Try.func64, Try.ntmps64
    go_wp2
    go_loopw [5] (fun i wr => ∃ k : Nat, k ≤ l0.length ∧ i = .int .i64 k ∧ l0.take k = l1.take k ∧ Below w.heap.size w wr) (fun i _ => l0.length - (intOf i).toNat)
    case atStart => exact ⟨0, Nat.zero_le _, rfl, rfl, Below.refl _ _⟩
    case round =>
      obtain ⟨k, hk, rfl, ht, hb⟩ := hrel
      have R0 := Lib.hid (r0.below hb)
      have R1 := Lib.hid (r1.below hb)
      have HT := Lib.hid ht
      have HL := Lib.hid hl
      clear r0 r1 ht hl
      by_cases hlt : k < l0.length
      · have hlt' : (k : Int) < (l0.length : Int) := by omega
        have hlt1 : k < l1.length := by rw [← HL.out]; exact hlt
        have hlt1' : (k : Int) < (l1.length : Int) := by omega
        obtain ⟨a0, s0, e0, g0, q00, q01, q02, q03, q04⟩ := STlb.at R0.out hlt
        obtain ⟨a1, s1, e1, g1, q10, q11, q12, q13, q14⟩ := STlb.at R1.out hlt1
        cases e0
        cases e1
        have G0 := Lib.hid g0
        have G1 := Lib.hid g1
        clear g0 g1
        go_wp2
        go_still_tail 8, (by kernel_rfl)
        change wpList _ _ _ _ _ wr.drew
        generalize hw2 : wr.drew = w2
        have HB : Below w.heap.size w w2 := by rw [← hw2]; exact hb.drew
        clear hw2 q00 q01 q02 q03 q04 q10 q11 q12 q13 q14 hb
        go_wp2_with (go_at_call 133; refine (eq_any s0 s1 _).mono ?_; rintro e w3 ⟨rfl, hb3⟩)
        · go_ret
          have hne : (!decide (s0 = s1)) = true := by assumption
          have hne' : ¬ s0 = s1 := by simpa using hne
          refine ⟨ret_bool ?_, thenB HB hb3⟩
          symm; rw [decide_eq_false_iff_not]
          rintro rfl
          rw [G0.out] at G1
          exact hne' (Option.some.inj G1.out)
        · have he : (!decide (s0 = s1)) = false := by assumption
          have he' : s0 = s1 := by simpa using he
          go_roundw
          case rel => exact ⟨k + 1, by omega, by go_num, by rw [take_snoc G0.out, take_snoc G1.out, HT.out, he'], thenB HB hb3⟩
          case measure => simp [intOf]; omega
      · go_wp2
        go_ret
        have e := HT.out
        rw [List.take_of_length_le (by omega), List.take_of_length_le (by have := HL.out; omega)] at e
        exact ⟨ret_bool (by symm; simpa using e), hb⟩
  · go_enter Try.func64, Try.ntmps64
    go_wp2
    go_ret
    exact ⟨ret_bool (by symm; simp; intro h; exact hl (by rw [h])), Below.refl _ _⟩

/-- What the law marks the i-th element with, from k on. -/
def mark (k : Int) (i : Nat) : STlb := ⟨k + 5 * i, k + 5 * i + 1, k + 5 * i + 2, k + 5 * i + 3, (k + 5 * i + 4) % 3 == 0⟩
def marks (k : Int) (n : Nat) : List STlb := (List.range n).map (mark k)

set_option maxRecDepth 100000 in
set_option maxHeartbeats 4000000 in
theorem markS_any (base : Nat) (v : Value) (l : List STlb) (k : Int) (w : World) (ho : Own STlb.enc 5 74 base w v l) (hl : l.length ≤ 1048576) (hk : 0 ≤ k) (hk' : k ≤ 1000000000) :
    Calls Try.prog 67 #[v, .int .i64 k] w fun e w' => e = .returned (.int .i64 (k + 5 * l.length)) ∧ Own STlb.enc 5 74 base w' v (marks k l.length) ∧ w.grownBy w' v.ownBlock := by
  obtain ⟨A, c, rfl⟩ := ho.shape
  have HO := Lib.hid ho
  clear ho
  go_enter Try.func67, Try.ntmps67
  go_wp2
  go_loopw [1, 5] (fun q i wr => ∃ j : Nat, j ≤ l.length ∧ i = .int .i64 j ∧ q = .int .i64 (k + 5 * j) ∧ Hid (Own STlb.enc 5 74 base wr (.slice A l.length c) ((List.range j).map (mark k) ++ l.drop j)) ∧ Hid (w.grownBy wr (Value.slice A l.length c).ownBlock)) (fun _ i _ => l.length - (intOf i).toNat)
  case atStart => exact ⟨0, Nat.zero_le _, rfl, by simp, by simpa using HO, grown_refl _ _⟩
  case round =>
    obtain ⟨j, hj, rfl, rfl, hr, hg⟩ := hrel
    by_cases hlt : j < l.length
    · obtain ⟨g, rfl, _, _, f, cs⟩ := Own.block STlb.len hr.out (by rw [marks_len _ _ _ hj]; omega)
      have hx := marks_get (mark k) l j hlt
      rw [List.getElem?_eq_getElem hlt] at hx
      have cs := cs j _ hx
      have c0 : wr.cell? ⟨g, j * 5, none⟩ = _ := cs 0 _ rfl
      have c1 : wr.cell? ⟨g, j * 5 + 1, none⟩ = _ := cs 1 _ rfl
      have c2 : wr.cell? ⟨g, j * 5 + 2, none⟩ = _ := cs 2 _ rfl
      have c3 : wr.cell? ⟨g, j * 5 + 3, none⟩ = _ := cs 3 _ rfl
      have c4 : wr.cell? ⟨g, j * 5 + 4, none⟩ = _ := cs 4 _ rfl
      clear cs hx
      go_wp2
      go_roundw
      case rel =>
        refine ⟨j + 1, by omega, by go_num, by go_num, ?_, grown_set (grown_set (grown_set (grown_set (grown_set hg.out _ _) _ _) _ _) _ _) _ _⟩
        have h := own_set5 STlb.len hr.out j (by rw [marks_len _ _ _ hj]; omega) (mark k j) rfl
        rw [marks_step _ _ _ hlt] at h
        refine Lib.hid ?_
        simpa [mark, Int.add_assoc] using h
      case measure => simp [intOf]; omega
    · obtain rfl : j = l.length := by omega
      go_wp2
      go_ret
      have h := hr.out
      rw [List.drop_length, List.append_nil] at h
      exact ⟨rfl, h, hg.out⟩

set_option maxRecDepth 100000 in
set_option maxHeartbeats 4000000 in
theorem heldS_any (v : Value) (n : Nat) (k : Int) (w : World) (r : Rd STlb.enc 5 w v (marks k n)) (hl : n ≤ 1048576) (hk : 0 ≤ k) (hk' : k ≤ 1000000000) :
    Calls Try.prog 70 #[v, .int .i64 k] w fun e w' => e = .returned (.int .i64 (k + 5 * n)) ∧ w = w' := by
  obtain ⟨A, c, rfl, _, _⟩ := r.shape
  have hml : (marks k n).length = n := by simp [marks]
  rw [hml] at r ⊢
  have HR := Lib.hid r
  have HM := Lib.hid hml
  clear r hml
  go_enter Try.func70, Try.ntmps70
  go_wp2
  go_loop [1, 5] (fun q i => ∃ j : Nat, j ≤ n ∧ i = .int .i64 j ∧ q = .int .i64 (k + 5 * j)) (fun _ i => n - (intOf i).toNat)
  case atStart => exact ⟨0, Nat.zero_le _, rfl, by simp⟩
  case round =>
    obtain ⟨j, hj, rfl, rfl⟩ := hrel
    by_cases hlt : j < n
    · obtain ⟨ad, x, rfl, hx, c0, c1, c2, c3, c4⟩ := STlb.at HR.out (by rw [HM.out]; exact hlt)
      obtain rfl : x = mark k j := by
        simp [marks, List.getElem?_range hlt] at hx
        exact hx.symm
      simp only [mark] at c0 c1 c2 c3 c4
      rw [show k + 5 * (j : Int) + 2 = k + 5 * j + 1 + 1 from by omega] at c2
      rw [show k + 5 * (j : Int) + 3 = k + 5 * j + 1 + 1 + 1 from by omega] at c3
      rw [show k + 5 * (j : Int) + 4 = k + 5 * j + 1 + 1 + 1 + 1 from by omega] at c4
      clear hx
      go_wp2
      go_round
      case rel => exact ⟨j + 1, by omega, by go_num, by go_num⟩
      case measure => simp [intOf]; omega
    · obtain rfl : j = n := by omega
      go_wp2
      go_ret
      exact ⟨rfl, rfl⟩

theorem to_any (x : STlb) (w : World) :
    Calls Try.prog 126 #[.agg #[.int .i64 x.Page, .int .i64 x.Size, .int .i64 x.Out, .int .i64 x.Perm, .bool x.Doomed]] w fun e w' => e = .returned (.agg #[.int .i64 x.Page, .int .i64 x.Size, .int .i64 x.Out, .int .i64 x.Perm, .bool x.Doomed]) ∧ Below w.heap.size w w' := by
  obtain ⟨x0, x1, x2, x3, x4⟩ := x
  dsimp only
  go_enter Try.func126, Try.ntmps126
  go_wp2
  exact bodyPost_ret (v := .agg #[.int .i64 x0, .int .i64 x1, .int .i64 x2, .int .i64 x3, .bool x4]) (by simp [results, Try.results126, go_sem]) rfl ⟨rfl, by repeat (first | exact Below.refl _ _ | apply allocB)⟩

theorem made_flat (n : Nat) : (madeCells (Value.cells (.agg #[.int .i64 0, .int .i64 0, .int .i64 0, .int .i64 0, .bool false])) (n * 5)).toList = (List.replicate n (⟨0, 0, 0, 0, false⟩ : STlb)).flatMap STlb.enc := made_rep STlb.len (⟨0, 0, 0, 0, false⟩ : STlb) rfl (by decide) n

set_option maxRecDepth 100000 in
set_option maxHeartbeats 4000000 in
theorem toS_any (v : Value) (l : List STlb) (w : World) (r : Rd STlb.enc 5 w v l) (hl : l.length ≤ 1048576) :
    Calls Try.prog 57 #[v] w fun e w' => ∃ v', e = .returned v' ∧ Own STlb.enc 5 74 w.heap.size w' v' l ∧ Below w.heap.size w w' := by
  obtain ⟨A, c, rfl, _, _⟩ := r.shape
  have HR := Lib.hid r
  clear r
  obtain ⟨i0, hi, hz0, hz1, hz2⟩ := info_parts info
  go_enter Try.func57, Try.ntmps57
  go_wp2_with (at_make; refine wpList_make_full _ rfl (.tmp 6) (.tmp 6) 36 rfl w.heap.size 74 i0 _ 5 Try.underlying36 hi hz0 hz1 .i64 .i64 (l.length : Int) (l.length : Int) l.length rfl rfl rfl rfl (by rw [hz2]; omega) (by unfold maxLen; omega) (Nat.le_refl _) ?_; intro w0 ho0 hg0)
  have hb0 : Below w.heap.size w w0 := (Below.refl _ _).grown hg0 (Nat.le_refl _) (by simp)
  rw [made_flat] at ho0
  have HO := Lib.hid ho0
  clear ho0 hg0 hi hz0 hz1 hz2
  go_wp2
  go_loopw [4] (fun i wr => ∃ j : Nat, j ≤ l.length ∧ i = .int .i64 j ∧ Hid (Own STlb.enc 5 74 w.heap.size wr (.slice (some ⟨w.heap.size, 0, none⟩) l.length l.length) (l.take j ++ List.replicate (l.length - j) (⟨0, 0, 0, 0, false⟩ : STlb))) ∧ Below w.heap.size w wr) (fun i _ => l.length - (intOf i).toNat)
  case atStart => exact ⟨0, Nat.zero_le _, rfl, Lib.hid (by have := HO.out; unfold Own; simpa using this), hb0⟩
  case round =>
    obtain ⟨j, hj, rfl, hr, hb⟩ := hrel
    by_cases hlt : j < l.length
    · obtain ⟨ad, x, rfl, hx, q0, q1, q2, q3, q4⟩ := STlb.at (HR.out.below hb) hlt
      have hlen : (l.take j ++ List.replicate (l.length - j) (⟨0, 0, 0, 0, false⟩ : STlb)).length = l.length := by simp; omega
      obtain ⟨g, hge, _, hgw, f, cs⟩ := Own.block STlb.len hr.out (by omega)
      simp only [Option.some.injEq, Addr.mk.injEq, and_true] at hge
      subst hge
      have hz : (l.take j ++ List.replicate (l.length - j) (⟨0, 0, 0, 0, false⟩ : STlb))[j]? = some (⟨0, 0, 0, 0, false⟩ : STlb) := by
        rw [List.getElem?_append_right (by simp; omega), List.getElem?_replicate]; simp; omega
      have cs := cs j _ hz
      have c0 : wr.cell? ⟨w.heap.size, j * 5, none⟩ = _ := cs 0 _ rfl
      have c1 : wr.cell? ⟨w.heap.size, j * 5 + 1, none⟩ = _ := cs 1 _ rfl
      have c2 : wr.cell? ⟨w.heap.size, j * 5 + 2, none⟩ = _ := cs 2 _ rfl
      have c3 : wr.cell? ⟨w.heap.size, j * 5 + 3, none⟩ = _ := cs 3 _ rfl
      have c4 : wr.cell? ⟨w.heap.size, j * 5 + 4, none⟩ = _ := cs 4 _ rfl
      have HX := Lib.hid hx
      have HL := Lib.hid hlen
      clear cs hz hx hlen
      go_wp2_with (go_at_call 126; refine (to_any x _).mono ?_; rintro e w1 ⟨rfl, hb1⟩; have d0 : w1.cell? ⟨w.heap.size, j * 5, none⟩ = _ := (hb1.cell (by simpa using hgw)).trans c0; have d1 : w1.cell? ⟨w.heap.size, j * 5 + 1, none⟩ = _ := (hb1.cell (by simpa using hgw)).trans c1; have d2 : w1.cell? ⟨w.heap.size, j * 5 + 2, none⟩ = _ := (hb1.cell (by simpa using hgw)).trans c2; have d3 : w1.cell? ⟨w.heap.size, j * 5 + 3, none⟩ = _ := (hb1.cell (by simpa using hgw)).trans c3; have d4 : w1.cell? ⟨w.heap.size, j * 5 + 4, none⟩ = _ := (hb1.cell (by simpa using hgw)).trans c4; have fw : ∀ i, w1.frozen? ⟨w.heap.size, i, none⟩ = false := fun i => (hb1.frozen (by simpa using hgw)).trans (f i))
      go_roundw
      case rel =>
        have ho1 := Own.below hr.out hb1
        have h := own_set5 STlb.len ho1 j (by rw [HL.out]; exact hlt) x rfl
        rw [fill_step HX.out hlt] at h
        exact ⟨j + 1, by omega, by go_num, Lib.hid (by simpa using h), Below.setCell (Below.setCell (Below.setCell (Below.setCell (Below.setCell (thenB hb hb1) (Nat.le_refl _) _) (Nat.le_refl _) _) (Nat.le_refl _) _) (Nat.le_refl _) _) (Nat.le_refl _) _⟩
      case measure => simp [intOf]; omega
    · obtain rfl : j = l.length := by omega
      go_wp2
      go_ret
      have h := hr.out
      rw [List.take_length, Nat.sub_self, List.replicate_zero, List.append_nil] at h
      exact ⟨_, rfl, h, hb⟩

end Go.Proofs.Ytjmamohfiimokaa.LawsTlb

namespace Go.Proofs.Ytjmamohfiimokaa.LawsWc
open Go.RowKit Go.Proofs.Ytjmamohfiimokaa.Base Go.Proofs.Ytjmamohfiimokaa.Kinds
set_option linter.unusedVariables false
set_option linter.unusedSimpArgs false

theorem info : (Try.prog.info? 76).map (fun i => (i.zero, i.size, i.bytes)) = some (some (.agg #[.int .i64 0, .int .i64 0, .int .i64 0, .bool false]), 4, 32) := by kernel_rfl

theorem sz_any (A : Option Addr) (n c : Nat) (q : Int) (w : World) (hn : n ≤ c) (hc : c ≤ 9223372036854775807) (hq : 0 ≤ q) (hq' : q ≤ 1048576) :
    Calls Try.prog 46 #[.slice A n c, .int .i64 q] w fun e w' => e = .returned (.int .i64 (if q - n < 0 then -1 else q - n)) ∧ w = w' := by
  obtain ⟨r, hr⟩ : ∃ r, r = (if q - (n : Int) < 0 then (-1 : Int) else q - n) := ⟨_, rfl⟩
  rw [← hr]
  have HR := Lib.hid hr
  clear hr
  go_enter Try.func46, Try.ntmps46
  go_wp2
  all_goals
    go_ret
    refine ⟨ret_int ?_, rfl⟩
    rw [HR.out]
    first | rw [if_pos (by omega)] | rw [if_neg (by omega)]

set_option maxHeartbeats 2000000 in
theorem eq_any (a b : SWc) (w : World) :
    Calls Try.prog 134 #[.agg #[.int .i64 a.Level, .int .i64 a.Page, .int .i64 a.Table, .bool a.Doomed], .agg #[.int .i64 b.Level, .int .i64 b.Page, .int .i64 b.Table, .bool b.Doomed]] w fun e w' => e = .returned (.bool (decide (a = b))) ∧ Below w.heap.size w w' := by
  obtain ⟨x0, x1, x2, x3⟩ := a
  obtain ⟨y0, y1, y2, y3⟩ := b
  dsimp only
  go_enter Try.func134, Try.ntmps134
  go_wp2
  all_goals (go_ret; exact ⟨ret_bool (by symm; simp_all), by repeat (first | exact Below.refl _ _ | apply allocB)⟩)

set_option maxRecDepth 100000 in
set_option maxHeartbeats 2000000 in
theorem eqS_any (v0 v1 : Value) (l0 l1 : List SWc) (w : World) (r0 : Rd SWc.enc 4 w v0 l0) (r1 : Rd SWc.enc 4 w v1 l1) :
    Calls Try.prog 65 #[v0, v1] w fun e w' => e = .returned (.bool (decide (l0 = l1))) ∧ Below w.heap.size w w' := by
  obtain ⟨A0, c0, rfl, hc0, hn0⟩ := r0.shape
  obtain ⟨A1, c1, rfl, hc1, hn1⟩ := r1.shape
  by_cases hl : l0.length = l1.length
  · go_enter Try.func65, Try.ntmps65
    go_wp2
    go_loopw [5] (fun i wr => ∃ k : Nat, k ≤ l0.length ∧ i = .int .i64 k ∧ l0.take k = l1.take k ∧ Below w.heap.size w wr) (fun i _ => l0.length - (intOf i).toNat)
    case atStart => exact ⟨0, Nat.zero_le _, rfl, rfl, Below.refl _ _⟩
    case round =>
      obtain ⟨k, hk, rfl, ht, hb⟩ := hrel
      have R0 := Lib.hid (r0.below hb)
      have R1 := Lib.hid (r1.below hb)
      have HT := Lib.hid ht
      have HL := Lib.hid hl
      clear r0 r1 ht hl
      by_cases hlt : k < l0.length
      · have hlt' : (k : Int) < (l0.length : Int) := by omega
        have hlt1 : k < l1.length := by rw [← HL.out]; exact hlt
        have hlt1' : (k : Int) < (l1.length : Int) := by omega
        obtain ⟨a0, s0, e0, g0, q00, q01, q02, q03⟩ := SWc.at R0.out hlt
        obtain ⟨a1, s1, e1, g1, q10, q11, q12, q13⟩ := SWc.at R1.out hlt1
        cases e0
        cases e1
        have G0 := Lib.hid g0
        have G1 := Lib.hid g1
        clear g0 g1
        go_wp2
        go_still_tail 8, (by kernel_rfl)
        change wpList _ _ _ _ _ wr.drew
        generalize hw2 : wr.drew = w2
        have HB : Below w.heap.size w w2 := by rw [← hw2]; exact hb.drew
        clear hw2 q00 q01 q02 q03 q10 q11 q12 q13 hb
        go_wp2_with (go_at_call 134; refine (eq_any s0 s1 _).mono ?_; rintro e w3 ⟨rfl, hb3⟩)
        · go_ret
          have hne : (!decide (s0 = s1)) = true := by assumption
          have hne' : ¬ s0 = s1 := by simpa using hne
          refine ⟨ret_bool ?_, thenB HB hb3⟩
          symm; rw [decide_eq_false_iff_not]
          rintro rfl
          rw [G0.out] at G1
          exact hne' (Option.some.inj G1.out)
        · have he : (!decide (s0 = s1)) = false := by assumption
          have he' : s0 = s1 := by simpa using he
          go_roundw
          case rel => exact ⟨k + 1, by omega, by go_num, by rw [take_snoc G0.out, take_snoc G1.out, HT.out, he'], thenB HB hb3⟩
          case measure => simp [intOf]; omega
      · go_wp2
        go_ret
        have e := HT.out
        rw [List.take_of_length_le (by omega), List.take_of_length_le (by have := HL.out; omega)] at e
        exact ⟨ret_bool (by symm; simpa using e), hb⟩
  · go_enter Try.func65, Try.ntmps65
    go_wp2
    go_ret
    exact ⟨ret_bool (by symm; simp; intro h; exact hl (by rw [h])), Below.refl _ _⟩

/-- What the law marks the i-th element with, from k on. -/
def mark (k : Int) (i : Nat) : SWc := ⟨k + 4 * i, k + 4 * i + 1, k + 4 * i + 2, (k + 4 * i + 3) % 3 == 0⟩
def marks (k : Int) (n : Nat) : List SWc := (List.range n).map (mark k)

set_option maxRecDepth 100000 in
set_option maxHeartbeats 4000000 in
theorem markS_any (base : Nat) (v : Value) (l : List SWc) (k : Int) (w : World) (ho : Own SWc.enc 4 76 base w v l) (hl : l.length ≤ 1048576) (hk : 0 ≤ k) (hk' : k ≤ 1000000000) :
    Calls Try.prog 68 #[v, .int .i64 k] w fun e w' => e = .returned (.int .i64 (k + 4 * l.length)) ∧ Own SWc.enc 4 76 base w' v (marks k l.length) ∧ w.grownBy w' v.ownBlock := by
  obtain ⟨A, c, rfl⟩ := ho.shape
  have HO := Lib.hid ho
  clear ho
  go_enter Try.func68, Try.ntmps68
  go_wp2
  go_loopw [1, 5] (fun q i wr => ∃ j : Nat, j ≤ l.length ∧ i = .int .i64 j ∧ q = .int .i64 (k + 4 * j) ∧ Hid (Own SWc.enc 4 76 base wr (.slice A l.length c) ((List.range j).map (mark k) ++ l.drop j)) ∧ Hid (w.grownBy wr (Value.slice A l.length c).ownBlock)) (fun _ i _ => l.length - (intOf i).toNat)
  case atStart => exact ⟨0, Nat.zero_le _, rfl, by simp, by simpa using HO, grown_refl _ _⟩
  case round =>
    obtain ⟨j, hj, rfl, rfl, hr, hg⟩ := hrel
    by_cases hlt : j < l.length
    · obtain ⟨g, rfl, _, _, f, cs⟩ := Own.block SWc.len hr.out (by rw [marks_len _ _ _ hj]; omega)
      have hx := marks_get (mark k) l j hlt
      rw [List.getElem?_eq_getElem hlt] at hx
      have cs := cs j _ hx
      have c0 : wr.cell? ⟨g, j * 4, none⟩ = _ := cs 0 _ rfl
      have c1 : wr.cell? ⟨g, j * 4 + 1, none⟩ = _ := cs 1 _ rfl
      have c2 : wr.cell? ⟨g, j * 4 + 2, none⟩ = _ := cs 2 _ rfl
      have c3 : wr.cell? ⟨g, j * 4 + 3, none⟩ = _ := cs 3 _ rfl
      clear cs hx
      go_wp2
      go_roundw
      case rel =>
        refine ⟨j + 1, by omega, by go_num, by go_num, ?_, grown_set (grown_set (grown_set (grown_set hg.out _ _) _ _) _ _) _ _⟩
        have h := own_set4 SWc.len hr.out j (by rw [marks_len _ _ _ hj]; omega) (mark k j) rfl
        rw [marks_step _ _ _ hlt] at h
        refine Lib.hid ?_
        simpa [mark, Int.add_assoc] using h
      case measure => simp [intOf]; omega
    · obtain rfl : j = l.length := by omega
      go_wp2
      go_ret
      have h := hr.out
      rw [List.drop_length, List.append_nil] at h
      exact ⟨rfl, h, hg.out⟩

set_option maxRecDepth 100000 in
set_option maxHeartbeats 4000000 in
theorem heldS_any (v : Value) (n : Nat) (k : Int) (w : World) (r : Rd SWc.enc 4 w v (marks k n)) (hl : n ≤ 1048576) (hk : 0 ≤ k) (hk' : k ≤ 1000000000) :
    Calls Try.prog 71 #[v, .int .i64 k] w fun e w' => e = .returned (.int .i64 (k + 4 * n)) ∧ w = w' := by
  obtain ⟨A, c, rfl, _, _⟩ := r.shape
  have hml : (marks k n).length = n := by simp [marks]
  rw [hml] at r ⊢
  have HR := Lib.hid r
  have HM := Lib.hid hml
  clear r hml
  go_enter Try.func71, Try.ntmps71
  go_wp2
  go_loop [1, 5] (fun q i => ∃ j : Nat, j ≤ n ∧ i = .int .i64 j ∧ q = .int .i64 (k + 4 * j)) (fun _ i => n - (intOf i).toNat)
  case atStart => exact ⟨0, Nat.zero_le _, rfl, by simp⟩
  case round =>
    obtain ⟨j, hj, rfl, rfl⟩ := hrel
    by_cases hlt : j < n
    · obtain ⟨ad, x, rfl, hx, c0, c1, c2, c3⟩ := SWc.at HR.out (by rw [HM.out]; exact hlt)
      obtain rfl : x = mark k j := by
        simp [marks, List.getElem?_range hlt] at hx
        exact hx.symm
      simp only [mark] at c0 c1 c2 c3
      rw [show k + 4 * (j : Int) + 2 = k + 4 * j + 1 + 1 from by omega] at c2
      rw [show k + 4 * (j : Int) + 3 = k + 4 * j + 1 + 1 + 1 from by omega] at c3
      clear hx
      go_wp2
      go_round
      case rel => exact ⟨j + 1, by omega, by go_num, by go_num⟩
      case measure => simp [intOf]; omega
    · obtain rfl : j = n := by omega
      go_wp2
      go_ret
      exact ⟨rfl, rfl⟩

theorem to_any (x : SWc) (w : World) :
    Calls Try.prog 127 #[.agg #[.int .i64 x.Level, .int .i64 x.Page, .int .i64 x.Table, .bool x.Doomed]] w fun e w' => e = .returned (.agg #[.int .i64 x.Level, .int .i64 x.Page, .int .i64 x.Table, .bool x.Doomed]) ∧ Below w.heap.size w w' := by
  obtain ⟨x0, x1, x2, x3⟩ := x
  dsimp only
  go_enter Try.func127, Try.ntmps127
  go_wp2
  exact bodyPost_ret (v := .agg #[.int .i64 x0, .int .i64 x1, .int .i64 x2, .bool x3]) (by simp [results, Try.results127, go_sem]) rfl ⟨rfl, by repeat (first | exact Below.refl _ _ | apply allocB)⟩

theorem made_flat (n : Nat) : (madeCells (Value.cells (.agg #[.int .i64 0, .int .i64 0, .int .i64 0, .bool false])) (n * 4)).toList = (List.replicate n (⟨0, 0, 0, false⟩ : SWc)).flatMap SWc.enc := made_rep SWc.len (⟨0, 0, 0, false⟩ : SWc) rfl (by decide) n

set_option maxRecDepth 100000 in
set_option maxHeartbeats 4000000 in
theorem toS_any (v : Value) (l : List SWc) (w : World) (r : Rd SWc.enc 4 w v l) (hl : l.length ≤ 1048576) :
    Calls Try.prog 58 #[v] w fun e w' => ∃ v', e = .returned v' ∧ Own SWc.enc 4 76 w.heap.size w' v' l ∧ Below w.heap.size w w' := by
  obtain ⟨A, c, rfl, _, _⟩ := r.shape
  have HR := Lib.hid r
  clear r
  obtain ⟨i0, hi, hz0, hz1, hz2⟩ := info_parts info
  go_enter Try.func58, Try.ntmps58
  go_wp2_with (at_make; refine wpList_make_full _ rfl (.tmp 6) (.tmp 6) 37 rfl w.heap.size 76 i0 _ 4 Try.underlying37 hi hz0 hz1 .i64 .i64 (l.length : Int) (l.length : Int) l.length rfl rfl rfl rfl (by rw [hz2]; omega) (by unfold maxLen; omega) (Nat.le_refl _) ?_; intro w0 ho0 hg0)
  have hb0 : Below w.heap.size w w0 := (Below.refl _ _).grown hg0 (Nat.le_refl _) (by simp)
  rw [made_flat] at ho0
  have HO := Lib.hid ho0
  clear ho0 hg0 hi hz0 hz1 hz2
  go_wp2
  go_loopw [4] (fun i wr => ∃ j : Nat, j ≤ l.length ∧ i = .int .i64 j ∧ Hid (Own SWc.enc 4 76 w.heap.size wr (.slice (some ⟨w.heap.size, 0, none⟩) l.length l.length) (l.take j ++ List.replicate (l.length - j) (⟨0, 0, 0, false⟩ : SWc))) ∧ Below w.heap.size w wr) (fun i _ => l.length - (intOf i).toNat)
  case atStart => exact ⟨0, Nat.zero_le _, rfl, Lib.hid (by have := HO.out; unfold Own; simpa using this), hb0⟩
  case round =>
    obtain ⟨j, hj, rfl, hr, hb⟩ := hrel
    by_cases hlt : j < l.length
    · obtain ⟨ad, x, rfl, hx, q0, q1, q2, q3⟩ := SWc.at (HR.out.below hb) hlt
      have hlen : (l.take j ++ List.replicate (l.length - j) (⟨0, 0, 0, false⟩ : SWc)).length = l.length := by simp; omega
      obtain ⟨g, hge, _, hgw, f, cs⟩ := Own.block SWc.len hr.out (by omega)
      simp only [Option.some.injEq, Addr.mk.injEq, and_true] at hge
      subst hge
      have hz : (l.take j ++ List.replicate (l.length - j) (⟨0, 0, 0, false⟩ : SWc))[j]? = some (⟨0, 0, 0, false⟩ : SWc) := by
        rw [List.getElem?_append_right (by simp; omega), List.getElem?_replicate]; simp; omega
      have cs := cs j _ hz
      have c0 : wr.cell? ⟨w.heap.size, j * 4, none⟩ = _ := cs 0 _ rfl
      have c1 : wr.cell? ⟨w.heap.size, j * 4 + 1, none⟩ = _ := cs 1 _ rfl
      have c2 : wr.cell? ⟨w.heap.size, j * 4 + 2, none⟩ = _ := cs 2 _ rfl
      have c3 : wr.cell? ⟨w.heap.size, j * 4 + 3, none⟩ = _ := cs 3 _ rfl
      have HX := Lib.hid hx
      have HL := Lib.hid hlen
      clear cs hz hx hlen
      go_wp2_with (go_at_call 127; refine (to_any x _).mono ?_; rintro e w1 ⟨rfl, hb1⟩; have d0 : w1.cell? ⟨w.heap.size, j * 4, none⟩ = _ := (hb1.cell (by simpa using hgw)).trans c0; have d1 : w1.cell? ⟨w.heap.size, j * 4 + 1, none⟩ = _ := (hb1.cell (by simpa using hgw)).trans c1; have d2 : w1.cell? ⟨w.heap.size, j * 4 + 2, none⟩ = _ := (hb1.cell (by simpa using hgw)).trans c2; have d3 : w1.cell? ⟨w.heap.size, j * 4 + 3, none⟩ = _ := (hb1.cell (by simpa using hgw)).trans c3; have fw : ∀ i, w1.frozen? ⟨w.heap.size, i, none⟩ = false := fun i => (hb1.frozen (by simpa using hgw)).trans (f i))
      go_roundw
      case rel =>
        have ho1 := Own.below hr.out hb1
        have h := own_set4 SWc.len ho1 j (by rw [HL.out]; exact hlt) x rfl
        rw [fill_step HX.out hlt] at h
        exact ⟨j + 1, by omega, by go_num, Lib.hid (by simpa using h), Below.setCell (Below.setCell (Below.setCell (Below.setCell (thenB hb hb1) (Nat.le_refl _) _) (Nat.le_refl _) _) (Nat.le_refl _) _) (Nat.le_refl _) _⟩
      case measure => simp [intOf]; omega
    · obtain rfl : j = l.length := by omega
      go_wp2
      go_ret
      have h := hr.out
      rw [List.take_length, Nat.sub_self, List.replicate_zero, List.append_nil] at h
      exact ⟨_, rfl, h, hb⟩

end Go.Proofs.Ytjmamohfiimokaa.LawsWc

namespace Go.Proofs.Ytjmamohfiimokaa.LawsWrite
open Go.RowKit Go.Proofs.Ytjmamohfiimokaa.Base Go.Proofs.Ytjmamohfiimokaa.Kinds
set_option linter.unusedVariables false
set_option linter.unusedSimpArgs false

theorem info : (Try.prog.info? 103).map (fun i => (i.zero, i.size, i.bytes)) = some (some (.agg #[.int .i64 0, .int .u64 0]), 2, 16) := by kernel_rfl

theorem sz_any (A : Option Addr) (n c : Nat) (q : Int) (w : World) (hn : n ≤ c) (hc : c ≤ 9223372036854775807) (hq : 0 ≤ q) (hq' : q ≤ 1048576) :
    Calls Try.prog 44 #[.slice A n c, .int .i64 q] w fun e w' => e = .returned (.int .i64 (if q - n < 0 then -1 else q - n)) ∧ w = w' := by
  obtain ⟨r, hr⟩ : ∃ r, r = (if q - (n : Int) < 0 then (-1 : Int) else q - n) := ⟨_, rfl⟩
  rw [← hr]
  have HR := Lib.hid hr
  clear hr
  go_enter Try.func44, Try.ntmps44
  go_wp2
  all_goals
    go_ret
    refine ⟨ret_int ?_, rfl⟩
    rw [HR.out]
    first | rw [if_pos (by omega)] | rw [if_neg (by omega)]

set_option maxHeartbeats 2000000 in
theorem eq_any (a b : SWrite) (w : World) :
    Calls Try.prog 132 #[.agg #[.int .i64 a.Adr, .int .u64 a.Word], .agg #[.int .i64 b.Adr, .int .u64 b.Word]] w fun e w' => e = .returned (.bool (decide (a = b))) ∧ Below w.heap.size w w' := by
  obtain ⟨x0, x1⟩ := a
  obtain ⟨y0, y1⟩ := b
  dsimp only
  go_enter Try.func132, Try.ntmps132
  go_wp2
  all_goals (go_ret; exact ⟨ret_bool (by symm; simp_all), by repeat (first | exact Below.refl _ _ | apply allocB)⟩)

set_option maxRecDepth 100000 in
set_option maxHeartbeats 2000000 in
theorem eqS_any (v0 v1 : Value) (l0 l1 : List SWrite) (w : World) (r0 : Rd SWrite.enc 2 w v0 l0) (r1 : Rd SWrite.enc 2 w v1 l1) :
    Calls Try.prog 63 #[v0, v1] w fun e w' => e = .returned (.bool (decide (l0 = l1))) ∧ Below w.heap.size w w' := by
  obtain ⟨A0, c0, rfl, hc0, hn0⟩ := r0.shape
  obtain ⟨A1, c1, rfl, hc1, hn1⟩ := r1.shape
  by_cases hl : l0.length = l1.length
  · go_enter Try.func63, Try.ntmps63
    go_wp2
    go_loopw [5] (fun i wr => ∃ k : Nat, k ≤ l0.length ∧ i = .int .i64 k ∧ l0.take k = l1.take k ∧ Below w.heap.size w wr) (fun i _ => l0.length - (intOf i).toNat)
    case atStart => exact ⟨0, Nat.zero_le _, rfl, rfl, Below.refl _ _⟩
    case round =>
      obtain ⟨k, hk, rfl, ht, hb⟩ := hrel
      have R0 := Lib.hid (r0.below hb)
      have R1 := Lib.hid (r1.below hb)
      have HT := Lib.hid ht
      have HL := Lib.hid hl
      clear r0 r1 ht hl
      by_cases hlt : k < l0.length
      · have hlt' : (k : Int) < (l0.length : Int) := by omega
        have hlt1 : k < l1.length := by rw [← HL.out]; exact hlt
        have hlt1' : (k : Int) < (l1.length : Int) := by omega
        obtain ⟨a0, s0, e0, g0, q00, q01⟩ := SWrite.at R0.out hlt
        obtain ⟨a1, s1, e1, g1, q10, q11⟩ := SWrite.at R1.out hlt1
        cases e0
        cases e1
        have G0 := Lib.hid g0
        have G1 := Lib.hid g1
        clear g0 g1
        go_wp2
        go_still_tail 8, (by kernel_rfl)
        change wpList _ _ _ _ _ wr.drew
        generalize hw2 : wr.drew = w2
        have HB : Below w.heap.size w w2 := by rw [← hw2]; exact hb.drew
        clear hw2 q00 q01 q10 q11 hb
        go_wp2_with (go_at_call 132; refine (eq_any s0 s1 _).mono ?_; rintro e w3 ⟨rfl, hb3⟩)
        · go_ret
          have hne : (!decide (s0 = s1)) = true := by assumption
          have hne' : ¬ s0 = s1 := by simpa using hne
          refine ⟨ret_bool ?_, thenB HB hb3⟩
          symm; rw [decide_eq_false_iff_not]
          rintro rfl
          rw [G0.out] at G1
          exact hne' (Option.some.inj G1.out)
        · have he : (!decide (s0 = s1)) = false := by assumption
          have he' : s0 = s1 := by simpa using he
          go_roundw
          case rel => exact ⟨k + 1, by omega, by go_num, by rw [take_snoc G0.out, take_snoc G1.out, HT.out, he'], thenB HB hb3⟩
          case measure => simp [intOf]; omega
      · go_wp2
        go_ret
        have e := HT.out
        rw [List.take_of_length_le (by omega), List.take_of_length_le (by have := HL.out; omega)] at e
        exact ⟨ret_bool (by symm; simpa using e), hb⟩
  · go_enter Try.func63, Try.ntmps63
    go_wp2
    go_ret
    exact ⟨ret_bool (by symm; simp; intro h; exact hl (by rw [h])), Below.refl _ _⟩

/-- What the law marks the i-th element with, from k on. -/
def mark (k : Int) (i : Nat) : SWrite := ⟨k + 2 * i, k + 2 * i + 1⟩
def marks (k : Int) (n : Nat) : List SWrite := (List.range n).map (mark k)

set_option maxRecDepth 100000 in
set_option maxHeartbeats 4000000 in
theorem markS_any (base : Nat) (v : Value) (l : List SWrite) (k : Int) (w : World) (ho : Own SWrite.enc 2 103 base w v l) (hl : l.length ≤ 1048576) (hk : 0 ≤ k) (hk' : k ≤ 1000000000) :
    Calls Try.prog 66 #[v, .int .i64 k] w fun e w' => e = .returned (.int .i64 (k + 2 * l.length)) ∧ Own SWrite.enc 2 103 base w' v (marks k l.length) ∧ w.grownBy w' v.ownBlock := by
  obtain ⟨A, c, rfl⟩ := ho.shape
  have HO := Lib.hid ho
  clear ho
  go_enter Try.func66, Try.ntmps66
  go_wp2
  go_loopw [1, 5] (fun q i wr => ∃ j : Nat, j ≤ l.length ∧ i = .int .i64 j ∧ q = .int .i64 (k + 2 * j) ∧ Hid (Own SWrite.enc 2 103 base wr (.slice A l.length c) ((List.range j).map (mark k) ++ l.drop j)) ∧ Hid (w.grownBy wr (Value.slice A l.length c).ownBlock)) (fun _ i _ => l.length - (intOf i).toNat)
  case atStart => exact ⟨0, Nat.zero_le _, rfl, by simp, by simpa using HO, grown_refl _ _⟩
  case round =>
    obtain ⟨j, hj, rfl, rfl, hr, hg⟩ := hrel
    by_cases hlt : j < l.length
    · obtain ⟨g, rfl, _, _, f, cs⟩ := Own.block SWrite.len hr.out (by rw [marks_len _ _ _ hj]; omega)
      have hx := marks_get (mark k) l j hlt
      rw [List.getElem?_eq_getElem hlt] at hx
      have cs := cs j _ hx
      have c0 : wr.cell? ⟨g, j * 2, none⟩ = _ := cs 0 _ rfl
      have c1 : wr.cell? ⟨g, j * 2 + 1, none⟩ = _ := cs 1 _ rfl
      clear cs hx
      go_wp2
      go_roundw
      case rel =>
        refine ⟨j + 1, by omega, by go_num, by go_num, ?_, grown_set (grown_set hg.out _ _) _ _⟩
        have h := own_set2 SWrite.len hr.out j (by rw [marks_len _ _ _ hj]; omega) (mark k j) rfl
        rw [marks_step _ _ _ hlt] at h
        refine Lib.hid ?_
        simpa [mark, Int.add_assoc] using h
      case measure => simp [intOf]; omega
    · obtain rfl : j = l.length := by omega
      go_wp2
      go_ret
      have h := hr.out
      rw [List.drop_length, List.append_nil] at h
      exact ⟨rfl, h, hg.out⟩

set_option maxRecDepth 100000 in
set_option maxHeartbeats 4000000 in
theorem heldS_any (v : Value) (n : Nat) (k : Int) (w : World) (r : Rd SWrite.enc 2 w v (marks k n)) (hl : n ≤ 1048576) (hk : 0 ≤ k) (hk' : k ≤ 1000000000) :
    Calls Try.prog 69 #[v, .int .i64 k] w fun e w' => e = .returned (.int .i64 (k + 2 * n)) ∧ w = w' := by
  obtain ⟨A, c, rfl, _, _⟩ := r.shape
  have hml : (marks k n).length = n := by simp [marks]
  rw [hml] at r ⊢
  have HR := Lib.hid r
  have HM := Lib.hid hml
  clear r hml
  go_enter Try.func69, Try.ntmps69
  go_wp2
  go_loop [1, 5] (fun q i => ∃ j : Nat, j ≤ n ∧ i = .int .i64 j ∧ q = .int .i64 (k + 2 * j)) (fun _ i => n - (intOf i).toNat)
  case atStart => exact ⟨0, Nat.zero_le _, rfl, by simp⟩
  case round =>
    obtain ⟨j, hj, rfl, rfl⟩ := hrel
    by_cases hlt : j < n
    · obtain ⟨ad, x, rfl, hx, c0, c1⟩ := SWrite.at HR.out (by rw [HM.out]; exact hlt)
      obtain rfl : x = mark k j := by
        simp [marks, List.getElem?_range hlt] at hx
        exact hx.symm
      simp only [mark] at c0 c1
      clear hx
      go_wp2
      go_round
      case rel => exact ⟨j + 1, by omega, by go_num, by go_num⟩
      case measure => simp [intOf]; omega
    · obtain rfl : j = n := by omega
      go_wp2
      go_ret
      exact ⟨rfl, rfl⟩

theorem to_any (x : SWrite) (w : World) :
    Calls Try.prog 125 #[.agg #[.int .i64 x.Adr, .int .u64 x.Word]] w fun e w' => e = .returned (.agg #[.int .i64 x.Adr, .int .u64 x.Word]) ∧ Below w.heap.size w w' := by
  obtain ⟨x0, x1⟩ := x
  dsimp only
  go_enter Try.func125, Try.ntmps125
  go_wp2
  exact bodyPost_ret (v := .agg #[.int .i64 x0, .int .u64 x1]) (by simp [results, Try.results125, go_sem]) rfl ⟨rfl, by repeat (first | exact Below.refl _ _ | apply allocB)⟩

theorem made_flat (n : Nat) : (madeCells (Value.cells (.agg #[.int .i64 0, .int .u64 0])) (n * 2)).toList = (List.replicate n (⟨0, 0⟩ : SWrite)).flatMap SWrite.enc := made_rep SWrite.len (⟨0, 0⟩ : SWrite) rfl (by decide) n

set_option maxRecDepth 100000 in
set_option maxHeartbeats 4000000 in
theorem toS_any (v : Value) (l : List SWrite) (w : World) (r : Rd SWrite.enc 2 w v l) (hl : l.length ≤ 1048576) :
    Calls Try.prog 56 #[v] w fun e w' => ∃ v', e = .returned v' ∧ Own SWrite.enc 2 103 w.heap.size w' v' l ∧ Below w.heap.size w w' := by
  obtain ⟨A, c, rfl, _, _⟩ := r.shape
  have HR := Lib.hid r
  clear r
  obtain ⟨i0, hi, hz0, hz1, hz2⟩ := info_parts info
  go_enter Try.func56, Try.ntmps56
  go_wp2_with (at_make; refine wpList_make_full _ rfl (.tmp 6) (.tmp 6) 35 rfl w.heap.size 103 i0 _ 2 Try.underlying35 hi hz0 hz1 .i64 .i64 (l.length : Int) (l.length : Int) l.length rfl rfl rfl rfl (by rw [hz2]; omega) (by unfold maxLen; omega) (Nat.le_refl _) ?_; intro w0 ho0 hg0)
  have hb0 : Below w.heap.size w w0 := (Below.refl _ _).grown hg0 (Nat.le_refl _) (by simp)
  rw [made_flat] at ho0
  have HO := Lib.hid ho0
  clear ho0 hg0 hi hz0 hz1 hz2
  go_wp2
  go_loopw [4] (fun i wr => ∃ j : Nat, j ≤ l.length ∧ i = .int .i64 j ∧ Hid (Own SWrite.enc 2 103 w.heap.size wr (.slice (some ⟨w.heap.size, 0, none⟩) l.length l.length) (l.take j ++ List.replicate (l.length - j) (⟨0, 0⟩ : SWrite))) ∧ Below w.heap.size w wr) (fun i _ => l.length - (intOf i).toNat)
  case atStart => exact ⟨0, Nat.zero_le _, rfl, Lib.hid (by have := HO.out; unfold Own; simpa using this), hb0⟩
  case round =>
    obtain ⟨j, hj, rfl, hr, hb⟩ := hrel
    by_cases hlt : j < l.length
    · obtain ⟨ad, x, rfl, hx, q0, q1⟩ := SWrite.at (HR.out.below hb) hlt
      have hlen : (l.take j ++ List.replicate (l.length - j) (⟨0, 0⟩ : SWrite)).length = l.length := by simp; omega
      obtain ⟨g, hge, _, hgw, f, cs⟩ := Own.block SWrite.len hr.out (by omega)
      simp only [Option.some.injEq, Addr.mk.injEq, and_true] at hge
      subst hge
      have hz : (l.take j ++ List.replicate (l.length - j) (⟨0, 0⟩ : SWrite))[j]? = some (⟨0, 0⟩ : SWrite) := by
        rw [List.getElem?_append_right (by simp; omega), List.getElem?_replicate]; simp; omega
      have cs := cs j _ hz
      have c0 : wr.cell? ⟨w.heap.size, j * 2, none⟩ = _ := cs 0 _ rfl
      have c1 : wr.cell? ⟨w.heap.size, j * 2 + 1, none⟩ = _ := cs 1 _ rfl
      have HX := Lib.hid hx
      have HL := Lib.hid hlen
      clear cs hz hx hlen
      go_wp2_with (go_at_call 125; refine (to_any x _).mono ?_; rintro e w1 ⟨rfl, hb1⟩; have d0 : w1.cell? ⟨w.heap.size, j * 2, none⟩ = _ := (hb1.cell (by simpa using hgw)).trans c0; have d1 : w1.cell? ⟨w.heap.size, j * 2 + 1, none⟩ = _ := (hb1.cell (by simpa using hgw)).trans c1; have fw : ∀ i, w1.frozen? ⟨w.heap.size, i, none⟩ = false := fun i => (hb1.frozen (by simpa using hgw)).trans (f i))
      go_roundw
      case rel =>
        have ho1 := Own.below hr.out hb1
        have h := own_set2 SWrite.len ho1 j (by rw [HL.out]; exact hlt) x rfl
        rw [fill_step HX.out hlt] at h
        exact ⟨j + 1, by omega, by go_num, Lib.hid (by simpa using h), Below.setCell (Below.setCell (thenB hb hb1) (Nat.le_refl _) _) (Nat.le_refl _) _⟩
      case measure => simp [intOf]; omega
    · obtain rfl : j = l.length := by omega
      go_wp2
      go_ret
      have h := hr.out
      rw [List.take_length, Nat.sub_self, List.replicate_zero, List.append_nil] at h
      exact ⟨_, rfl, h, hb⟩

end Go.Proofs.Ytjmamohfiimokaa.LawsWrite

namespace Go.Proofs.Ytjmamohfiimokaa.LawsMem
open Go.RowKit Go.Proofs.Ytjmamohfiimokaa.Base Go.Proofs.Ytjmamohfiimokaa.Kinds
set_option linter.unusedVariables false
set_option linter.unusedSimpArgs false

theorem sz_any (A : Option Addr) (n c : Nat) (q : Int) (w : World) (hn : n ≤ c) (hc : c ≤ 9223372036854775807) (hq : 0 ≤ q) (hq' : q ≤ 1048576) :
    Calls Try.prog 43 #[.agg #[.slice A n c], .int .i64 q] w fun e w' => e = .returned (.int .i64 (if q - n < 0 then -1 else q - n)) ∧ Below w.heap.size w w' := by
  by_cases h : q - (n : Int) < 0
  · rw [if_pos h]
    go_enter Try.func43, Try.ntmps43
    go_wp2_with (go_at_call 118; refine (LawsUint64.sz_any A n c q _ hn hc hq hq').mono ?_; rw [if_pos h]; rintro e w' ⟨rfl, rfl⟩)
    go_ret
    exact ⟨rfl, allocB (Below.refl _ _) _⟩
  · rw [if_neg h]
    go_enter Try.func43, Try.ntmps43
    go_wp2_with (go_at_call 118; refine (LawsUint64.sz_any A n c q _ hn hc hq hq').mono ?_; rw [if_neg h]; rintro e w' ⟨rfl, rfl⟩)
    go_ret
    exact ⟨rfl, allocB (Below.refl _ _) _⟩

theorem eq_any (v0 v1 : Value) (l0 l1 : List Int) (w : World) (r0 : Rd wEnc 1 w v0 l0) (r1 : Rd wEnc 1 w v1 l1) :
    Calls Try.prog 40 #[.agg #[v0], .agg #[v1]] w fun e w' => e = .returned (.bool (decide (l0 = l1))) ∧ Below w.heap.size w w' := by
  obtain ⟨A0, c0, rfl, hc0, hn0⟩ := r0.shape
  obtain ⟨A1, c1, rfl, hc1, hn1⟩ := r1.shape
  have R0 := Lib.hid r0
  have R1 := Lib.hid r1
  clear r0 r1
  go_enter Try.func40, Try.ntmps40
  go_wp2_with (go_at_call 115; refine (LawsUint64.eqS_any _ _ l0 l1 _ (R0.out.below (allocB (allocB (Below.refl _ _) _) _)) (R1.out.below (allocB (allocB (Below.refl _ _) _) _))).mono ?_; rintro e w1 ⟨rfl, hb1⟩)
  all_goals (go_ret; exact ⟨ret_bool (by simp_all), thenB (allocB (allocB (Below.refl _ _) _) _) hb1⟩)

theorem to_any (v : Value) (l : List Int) (w : World) (r : Rd wEnc 1 w v l) (hl : l.length ≤ 1048576) :
    Calls Try.prog 55 #[.agg #[v]] w fun e w' => ∃ v', e = .returned (.agg #[v']) ∧ Own wEnc 1 30 w.heap.size w' v' l ∧ Below w.heap.size w w' := by
  obtain ⟨A, c, rfl, _, _⟩ := r.shape
  have HR := Lib.hid r
  clear r
  go_enter Try.func55, Try.ntmps55
  go_wp2_with (go_at_call 124; refine (LawsUint64.toS_any _ l _ (HR.out.below (allocB (allocB (allocB (Below.refl _ _) _) _) _)) hl).mono ?_; rintro e w1 ⟨v1, rfl, ho1, hb1⟩; obtain ⟨A1, c1, rfl⟩ := ho1.shape; obtain ⟨hc1, hf1⟩ := bcell hb1)
  exact bodyPost_ret (v := .agg #[.slice A1 l.length c1]) (by simp [results, Try.results55, go_sem, hc1, hf1]) rfl ⟨_, rfl, ((ho1.setBelow (by simp) _).setBelow (by simp) _).lower (by simp; omega), ((thenB (allocB (allocB (allocB (Below.refl _ _) _) _) _) hb1).setCell (by simp <;> omega) _).setCell (by simp <;> omega) _⟩

theorem mark_any (base : Nat) (v : Value) (l : List Int) (k : Int) (w : World) (ho : Own wEnc 1 30 base w v l) (hl : l.length ≤ 1048576) (hk : 0 ≤ k) (hk' : k ≤ 1000000000) :
    Calls Try.prog 41 #[.agg #[v], .int .i64 k] w fun e w' => e = .returned (.int .i64 (k + l.length)) ∧ Own wEnc 1 30 base w' v (LawsUint64.marks k l.length) ∧ w.grownBy w' v.ownBlock := by
  obtain ⟨A, c, rfl⟩ := ho.shape
  have HO := Lib.hid ho
  clear ho
  go_enter Try.func41, Try.ntmps41
  go_wp2_with (go_at_call 116; refine (LawsUint64.markS_any base _ l k _ (HO.out.alloc _) hl hk hk').mono ?_; rintro e w1 ⟨rfl, ho1, hg1⟩)
  go_ret
  exact ⟨rfl, ho1, World.grownBy.trans (World.grownBy_alloc w _ _) hg1⟩

theorem held_any (v : Value) (n : Nat) (k : Int) (w : World) (r : Rd wEnc 1 w v (LawsUint64.marks k n)) (hl : n ≤ 1048576) (hk : 0 ≤ k) (hk' : k ≤ 1000000000) :
    Calls Try.prog 42 #[.agg #[v], .int .i64 k] w fun e w' => e = .returned (.int .i64 (k + n)) ∧ Below w.heap.size w w' := by
  obtain ⟨A, c, rfl, _, _⟩ := r.shape
  have HR := Lib.hid r
  clear r
  go_enter Try.func42, Try.ntmps42
  go_wp2_with (go_at_call 117; refine (LawsUint64.heldS_any _ n k _ (HR.out.below (allocB (Below.refl _ _) _)) hl hk hk').mono ?_; rintro e w1 ⟨rfl, rfl⟩)
  go_ret
  exact ⟨rfl, allocB (Below.refl _ _) _⟩

end Go.Proofs.Ytjmamohfiimokaa.LawsMem

namespace Go.Proofs.Ytjmamohfiimokaa.LawsMach
open Go.RowKit Go.Proofs.Ytjmamohfiimokaa.Base Go.Proofs.Ytjmamohfiimokaa.Kinds
set_option linter.unusedVariables false
set_option linter.unusedSimpArgs false

/-- What a machine's lists hold together. -/
def bulk (m : SM) : Int := m.ws.length + m.pend.length + m.tlb.length + m.wc.length
theorem bulk_le {m : SM} (h : bulk m ≤ 1048576) : m.ws.length ≤ 1048576 ∧ m.pend.length ≤ 1048576 ∧ m.tlb.length ≤ 1048576 ∧ m.wc.length ≤ 1048576 := by unfold bulk at h; omega


set_option maxRecDepth 100000 in
set_option maxHeartbeats 4000000 in
theorem eq_any (v0 v1 v2 v3 u0 u1 u2 u3 : Value) (m n : SM) (w : World) (r : RdM w v0 v1 v2 v3 m) (q : RdM w u0 u1 u2 u3 n) :
    Calls Try.prog 14 #[.agg #[v0, v1, v2, v3], .agg #[u0, u1, u2, u3]] w fun e w' => e = .returned (.bool (decide (m = n))) ∧ Below w.heap.size w w' := by
  obtain ⟨A0, c0, A1, c1, A2, c2, A3, c3, rfl, rfl, rfl, rfl, _⟩ := r.shape
  obtain ⟨B0, d0, B1, d1, B2, d2, B3, d3, rfl, rfl, rfl, rfl, _⟩ := q.shape
  have R := Lib.hid r
  have Q := Lib.hid q
  have HM : Hid (∀ b : Bool, (b = true ↔ m.ws = n.ws ∧ m.pend = n.pend ∧ m.tlb = n.tlb ∧ m.wc = n.wc) → decide (m = n) = b) := by
    intro b hb
    obtain ⟨a1, a2, a3, a4⟩ := m
    obtain ⟨b1, b2, b3, b4⟩ := n
    rw [Bool.eq_iff_iff, hb]; simp
  clear r q
  go_enter Try.func14, Try.ntmps14
  go_wp2_with (first
    | (go_at_call 40; refine (LawsMem.eq_any _ _ m.ws n.ws _ (R.out.ws.below (allocB (allocB (Below.refl _ _) _) _)) (Q.out.ws.below (allocB (allocB (Below.refl _ _) _) _))).mono ?_; rintro e w1 ⟨rfl, hb1⟩; obtain ⟨hc1, hf1⟩ := bcell hb1; have HB1 := Lib.hid (thenB (allocB (allocB (Below.refl w.heap.size w) _) _) hb1); have hz1 : w.heap.size < w1.heap.size := (by have := hb1.size; simp at this; omega); have hy1 : w.heap.size + 1 < w1.heap.size := (by have := hb1.size; simp at this; omega))
    | (go_at_call 63; refine (LawsWrite.eqS_any _ _ m.pend n.pend _ (R.out.pend.below HB1.out) (Q.out.pend.below HB1.out)).mono ?_; rintro e w2 ⟨rfl, hb2⟩; obtain ⟨hc2, hf2⟩ := bcell hb2; have HB2 := Lib.hid (thenB HB1.out hb2); have hz2 : w.heap.size < w2.heap.size := (by have := hb2.size; omega); have hy2 : w.heap.size + 1 < w2.heap.size := (by have := hb2.size; omega))
    | (go_at_call 64; refine (LawsTlb.eqS_any _ _ m.tlb n.tlb _ (R.out.tlb.below HB2.out) (Q.out.tlb.below HB2.out)).mono ?_; rintro e w3 ⟨rfl, hb3⟩; obtain ⟨hc3, hf3⟩ := bcell hb3; have HB3 := Lib.hid (thenB HB2.out hb3); have hz3 : w.heap.size < w3.heap.size := (by have := hb3.size; omega); have hy3 : w.heap.size + 1 < w3.heap.size := (by have := hb3.size; omega))
    | (go_at_call 65; refine (LawsWc.eqS_any _ _ m.wc n.wc _ (R.out.wc.below HB3.out) (Q.out.wc.below HB3.out)).mono ?_; rintro e w4 ⟨rfl, hb4⟩; have HB4 := Lib.hid (thenB HB3.out hb4)))
  all_goals
    go_ret
    refine ⟨ret_bool ((HM.out _ ?_).symm), by first | exact HB4.out | exact HB3.out | exact HB2.out | exact HB1.out⟩
    simp_all

set_option maxRecDepth 100000 in
set_option maxHeartbeats 4000000 in
theorem sz_any (A0 A1 A2 A3 : Option Addr) (n0 c0 n1 c1 n2 c2 n3 c3 : Nat) (w : World) (h0 : n0 ≤ c0) (k0 : c0 ≤ 9223372036854775807) (h1 : n1 ≤ c1) (k1 : c1 ≤ 9223372036854775807) (h2 : n2 ≤ c2) (k2 : c2 ≤ 9223372036854775807) (h3 : n3 ≤ c3) (k3 : c3 ≤ 9223372036854775807) :
    Calls Try.prog 9 #[.agg #[.slice A0 n0 c0, .slice A1 n1 c1, .slice A2 n2 c2, .slice A3 n3 c3], .int .i64 1048576] w fun e w' => e = .returned (.int .i64 (if (n0 : Int) + n1 + n2 + n3 ≤ 1048576 then 1048576 - ((n0 : Int) + n1 + n2 + n3) else -1)) ∧ Below w.heap.size w w' := by
  by_cases g0 : (1048576 : Int) - n0 < 0
  · rw [if_neg (by omega)]
    go_enter Try.func9, Try.ntmps9
    (go_wp2_with (first | (go_at_call 43; refine (LawsMem.sz_any A0 n0 c0 _ _ h0 k0 (by omega) (by omega)).mono ?_; rw [if_pos (by omega)]; rintro e w1 ⟨rfl, hb1⟩; obtain ⟨hc1, hf1⟩ := bcell hb1; have HB1 := Lib.hid (thenB (allocB (Below.refl w.heap.size w) _) hb1); have hz1 : w.heap.size < w1.heap.size := (by have := hb1.size; simp at this; omega))))
    go_ret
    exact ⟨rfl, HB1.out⟩
  by_cases g1 : ((1048576 - n0) : Int) - n1 < 0
  · rw [if_neg (by omega)]
    go_enter Try.func9, Try.ntmps9
    (go_wp2_with (first | (go_at_call 43; refine (LawsMem.sz_any A0 n0 c0 _ _ h0 k0 (by omega) (by omega)).mono ?_; rw [if_neg (by omega)]; rintro e w1 ⟨rfl, hb1⟩; obtain ⟨hc1, hf1⟩ := bcell hb1; have HB1 := Lib.hid (thenB (allocB (Below.refl w.heap.size w) _) hb1); have hz1 : w.heap.size < w1.heap.size := (by have := hb1.size; simp at this; omega)) | (go_at_call 44; refine (LawsWrite.sz_any A1 n1 c1 _ _ h1 k1 (by omega) (by omega)).mono ?_; rw [if_pos (by omega)]; rintro e w' ⟨rfl, rfl⟩)))
    go_ret
    exact ⟨rfl, HB1.out⟩
  by_cases g2 : ((1048576 - n0 - n1) : Int) - n2 < 0
  · rw [if_neg (by omega)]
    go_enter Try.func9, Try.ntmps9
    (go_wp2_with (first | (go_at_call 43; refine (LawsMem.sz_any A0 n0 c0 _ _ h0 k0 (by omega) (by omega)).mono ?_; rw [if_neg (by omega)]; rintro e w1 ⟨rfl, hb1⟩; obtain ⟨hc1, hf1⟩ := bcell hb1; have HB1 := Lib.hid (thenB (allocB (Below.refl w.heap.size w) _) hb1); have hz1 : w.heap.size < w1.heap.size := (by have := hb1.size; simp at this; omega)) | (go_at_call 44; refine (LawsWrite.sz_any A1 n1 c1 _ _ h1 k1 (by omega) (by omega)).mono ?_; rw [if_neg (by omega)]; rintro e w' ⟨rfl, rfl⟩) | (go_at_call 45; refine (LawsTlb.sz_any A2 n2 c2 _ _ h2 k2 (by omega) (by omega)).mono ?_; rw [if_pos (by omega)]; rintro e w' ⟨rfl, rfl⟩)))
    go_ret
    exact ⟨rfl, HB1.out⟩
  by_cases g3 : ((1048576 - n0 - n1 - n2) : Int) - n3 < 0
  · rw [if_neg (by omega)]
    go_enter Try.func9, Try.ntmps9
    (go_wp2_with (first | (go_at_call 43; refine (LawsMem.sz_any A0 n0 c0 _ _ h0 k0 (by omega) (by omega)).mono ?_; rw [if_neg (by omega)]; rintro e w1 ⟨rfl, hb1⟩; obtain ⟨hc1, hf1⟩ := bcell hb1; have HB1 := Lib.hid (thenB (allocB (Below.refl w.heap.size w) _) hb1); have hz1 : w.heap.size < w1.heap.size := (by have := hb1.size; simp at this; omega)) | (go_at_call 44; refine (LawsWrite.sz_any A1 n1 c1 _ _ h1 k1 (by omega) (by omega)).mono ?_; rw [if_neg (by omega)]; rintro e w' ⟨rfl, rfl⟩) | (go_at_call 45; refine (LawsTlb.sz_any A2 n2 c2 _ _ h2 k2 (by omega) (by omega)).mono ?_; rw [if_neg (by omega)]; rintro e w' ⟨rfl, rfl⟩) | (go_at_call 46; refine (LawsWc.sz_any A3 n3 c3 _ _ h3 k3 (by omega) (by omega)).mono ?_; rw [if_pos (by omega)]; rintro e w' ⟨rfl, rfl⟩)))
    go_ret
    exact ⟨rfl, HB1.out⟩
  rw [if_pos (by omega)]
  go_enter Try.func9, Try.ntmps9
  (go_wp2_with (first | (go_at_call 43; refine (LawsMem.sz_any A0 n0 c0 _ _ h0 k0 (by omega) (by omega)).mono ?_; rw [if_neg (by omega)]; rintro e w1 ⟨rfl, hb1⟩; obtain ⟨hc1, hf1⟩ := bcell hb1; have HB1 := Lib.hid (thenB (allocB (Below.refl w.heap.size w) _) hb1); have hz1 : w.heap.size < w1.heap.size := (by have := hb1.size; simp at this; omega)) | (go_at_call 44; refine (LawsWrite.sz_any A1 n1 c1 _ _ h1 k1 (by omega) (by omega)).mono ?_; rw [if_neg (by omega)]; rintro e w' ⟨rfl, rfl⟩) | (go_at_call 45; refine (LawsTlb.sz_any A2 n2 c2 _ _ h2 k2 (by omega) (by omega)).mono ?_; rw [if_neg (by omega)]; rintro e w' ⟨rfl, rfl⟩) | (go_at_call 46; refine (LawsWc.sz_any A3 n3 c3 _ _ h3 k3 (by omega) (by omega)).mono ?_; rw [if_neg (by omega)]; rintro e w' ⟨rfl, rfl⟩)))
  go_ret
  exact ⟨ret_int (by omega), HB1.out⟩

set_option maxRecDepth 100000 in
set_option maxHeartbeats 4000000 in
theorem to_any (v0 v1 v2 v3 : Value) (m : SM) (w : World) (r : RdM w v0 v1 v2 v3 m) (hl : bulk m ≤ 1048576) :
    Calls Try.prog 11 #[.agg #[v0, v1, v2, v3]] w fun e w' => ∃ u0 u1 u2 u3, e = .returned (.agg #[u0, u1, u2, u3]) ∧ OwnM w.heap.size w' u0 u1 u2 u3 m ∧ Below w.heap.size w w' := by
  obtain ⟨A0, c0, A1, c1, A2, c2, A3, c3, rfl, rfl, rfl, rfl, _⟩ := r.shape
  obtain ⟨l0, l1, l2, l3⟩ := bulk_le hl
  have R := Lib.hid r
  clear r hl
  go_enter Try.func11, Try.ntmps11
  go_wp2_with (first
    | (go_at_call 55; refine (LawsMem.to_any _ m.ws _ (R.out.ws.below (allocB (allocB (allocB (Below.refl _ _) _) _) _)) l0).mono ?_; rintro e w1 ⟨x0, rfl, o0, hb1⟩; obtain ⟨B0, d0, rfl⟩ := o0.shape; obtain ⟨hc1, hf1⟩ := bcell hb1; have HB1 := Lib.hid (thenB (allocB (allocB (allocB (Below.refl w.heap.size w) _) _) _) hb1); have O0 := Lib.hid (o0.lower (show w.heap.size + 3 ≤ _ from by simp)); have hz1 : w.heap.size < w1.heap.size := (by have := hb1.size; simp at this; omega); have hy1 : w.heap.size + 1 < w1.heap.size := (by have := hb1.size; simp at this; omega); have hx1 : w.heap.size + 1 + 1 < w1.heap.size := (by have := hb1.size; simp at this; omega))
    | (go_at_call 56; refine (LawsWrite.toS_any _ m.pend _ (R.out.pend.below (HB1.out.setCell (by simp <;> omega) _)) l1).mono ?_; rintro e w2 ⟨x1, rfl, o1, hb2⟩; obtain ⟨B1, d1, rfl⟩ := o1.shape; obtain ⟨hc2, hf2⟩ := bcell hb2; have HB2 := Lib.hid (thenB (HB1.out.setCell (by simp <;> omega) _) hb2); have O1 := Lib.hid (o1.lower (show w.heap.size + 3 ≤ _ from by simp [World.setCell]; omega)); have hx2 : w.heap.size + 1 + 1 < w2.heap.size := (by have := hb2.size; simp [World.setCell] at this; omega); have hy2 : w.heap.size + 1 < w2.heap.size := (by omega); have hz2 : w.heap.size < w2.heap.size := (by omega))
    | (go_at_call 57; refine (LawsTlb.toS_any _ m.tlb _ (R.out.tlb.below (HB2.out.setCell (by simp <;> omega) _)) l2).mono ?_; rintro e w3 ⟨x2, rfl, o2, hb3⟩; obtain ⟨B2, d2, rfl⟩ := o2.shape; obtain ⟨hc3, hf3⟩ := bcell hb3; have HB3 := Lib.hid (thenB (HB2.out.setCell (by simp <;> omega) _) hb3); have O2 := Lib.hid (o2.lower (show w.heap.size + 3 ≤ _ from by simp [World.setCell]; omega)); have hx3 : w.heap.size + 1 + 1 < w3.heap.size := (by have := hb3.size; simp [World.setCell] at this; omega); have hy3 : w.heap.size + 1 < w3.heap.size := (by omega); have hz3 : w.heap.size < w3.heap.size := (by omega))
    | (go_at_call 58; refine (LawsWc.toS_any _ m.wc _ (R.out.wc.below (HB3.out.setCell (by simp <;> omega) _)) l3).mono ?_; rintro e w4 ⟨x3, rfl, o3, hb4⟩; obtain ⟨B3, d3, rfl⟩ := o3.shape; obtain ⟨hc4, hf4⟩ := bcell hb4; have HB4 := Lib.hid (thenB (HB3.out.setCell (by simp <;> omega) _) hb4); have O3 := Lib.hid (o3.lower (show w.heap.size + 3 ≤ _ from by simp [World.setCell]; omega)); have hx4 : w.heap.size + 1 + 1 < w4.heap.size := (by have := hb4.size; simp [World.setCell] at this; omega); have hy4 : w.heap.size + 1 < w4.heap.size := (by omega); have hz4 : w.heap.size < w4.heap.size := (by omega)))
  have P0 := ((((((O0.out.setBelow (a := ⟨w.heap.size + 1 + 1, 0, none⟩) (by simp) (.slice B0 m.ws.length d0)).below hb2).setBelow (a := ⟨w.heap.size + 1 + 1, 1, none⟩) (by simp) (.slice B1 m.pend.length d1)).below hb3).setBelow (a := ⟨w.heap.size + 1 + 1, 2, none⟩) (by simp) (.slice B2 m.tlb.length d2)).below hb4)
  have P1 := ((((O1.out.setBelow (a := ⟨w.heap.size + 1 + 1, 1, none⟩) (by simp) (.slice B1 m.pend.length d1)).below hb3).setBelow (a := ⟨w.heap.size + 1 + 1, 2, none⟩) (by simp) (.slice B2 m.tlb.length d2)).below hb4)
  have P2 := ((O2.out.setBelow (a := ⟨w.heap.size + 1 + 1, 2, none⟩) (by simp) (.slice B2 m.tlb.length d2)).below hb4)
  have P3 := O3.out
  refine bodyPost_ret (v := .agg #[.slice B0 m.ws.length d0, .slice B1 m.pend.length d1, .slice B2 m.tlb.length d2, .slice B3 m.wc.length d3]) (by simp [results, Try.results11, go_sem, *]) rfl ⟨_, _, _, _, rfl, OwnM.lower (base := w.heap.size + 3) ?_ (by omega), ?_⟩
  · repeat (refine OwnM.setBelow ?_ (by simp) _)
    exact ⟨P0, P1, P2, P3⟩
  · repeat (refine Below.setCell ?_ (by simp <;> omega) _)
    exact HB4.out

/-- What the law marks a machine with, from k on. -/
def markM (k : Int) (m : SM) : SM := ⟨LawsUint64.marks k m.ws.length, LawsWrite.marks (k + m.ws.length) m.pend.length, LawsTlb.marks (k + m.ws.length + 2 * m.pend.length) m.tlb.length, LawsWc.marks (k + m.ws.length + 2 * m.pend.length + 5 * m.tlb.length) m.wc.length⟩
/-- The mark behind the last. -/
def markEnd (k : Int) (m : SM) : Int := k + m.ws.length + 2 * m.pend.length + 5 * m.tlb.length + 4 * m.wc.length

set_option maxRecDepth 100000 in
set_option maxHeartbeats 4000000 in
theorem mark_any (lo hi : Nat) (v0 v1 v2 v3 : Value) (m : SM) (w : World) (o : OwnM lo w v0 v1 v2 v3 m) (hi' : InM hi v0 v1 v2 v3) (hl : bulk m ≤ 1048576) :
    Calls Try.prog 15 #[.agg #[v0, v1, v2, v3], .int .i64 1] w fun e w' => e = .returned (.int .i64 (markEnd 1 m)) ∧ OwnM lo w' v0 v1 v2 v3 (markM 1 m) ∧ Within lo hi w w' := by
  obtain ⟨A0, c0, A1, c1, A2, c2, A3, c3, rfl, rfl, rfl, rfl⟩ := o.shape
  obtain ⟨l0, l1, l2, l3⟩ := bulk_le hl
  obtain ⟨o0, o1, o2, o3⟩ := o
  have O0 := Lib.hid (o0.alloc (.cells #[.slice A0 m.ws.length c0, .slice A1 m.pend.length c1, .slice A2 m.tlb.length c2, .slice A3 m.wc.length c3] 39))
  have O1 := Lib.hid (o1.alloc (.cells #[.slice A0 m.ws.length c0, .slice A1 m.pend.length c1, .slice A2 m.tlb.length c2, .slice A3 m.wc.length c3] 39))
  have O2 := Lib.hid (o2.alloc (.cells #[.slice A0 m.ws.length c0, .slice A1 m.pend.length c1, .slice A2 m.tlb.length c2, .slice A3 m.wc.length c3] 39))
  have O3 := Lib.hid (o3.alloc (.cells #[.slice A0 m.ws.length c0, .slice A1 m.pend.length c1, .slice A2 m.tlb.length c2, .slice A3 m.wc.length c3] 39))
  have g0 : some w.heap.size ≠ (Value.slice A0 m.ws.length c0).ownBlock := fun e => by have := o0.lt _ e.symm; omega
  have g1 : some w.heap.size ≠ (Value.slice A1 m.pend.length c1).ownBlock := fun e => by have := o1.lt _ e.symm; omega
  have g2 : some w.heap.size ≠ (Value.slice A2 m.tlb.length c2).ownBlock := fun e => by have := o2.lt _ e.symm; omega
  have G0 := Lib.hid g0
  have G1 := Lib.hid g1
  have G2 := Lib.hid g2
  have HI := Lib.hid hi'
  have hE : Hid (markEnd 1 m = 1 + m.ws.length + 2 * m.pend.length + 5 * m.tlb.length + 4 * m.wc.length) := rfl
  clear hl o0 o1 o2 o3 hi' g0 g1 g2
  go_enter Try.func15, Try.ntmps15
  go_wp2_with (first
    | (go_at_call 41; refine (LawsMem.mark_any lo _ m.ws _ _ O0.out l0 (by omega) (by omega)).mono ?_; rintro e w1 ⟨rfl, p0, hg1⟩; have HG1 := Lib.hid hg1; have P0 := Lib.hid p0; have P1 := Lib.hid (O1.out.kept hg1 (own_apart (by decide) O1.out O0.out)); have P2 := Lib.hid (O2.out.kept hg1 (own_apart (by decide) O2.out O0.out)); have P3 := Lib.hid (O3.out.kept hg1 (own_apart (by decide) O3.out O0.out)); have e1 : ∀ i, w1.cell? ⟨w.heap.size, i, none⟩ = _ := (fun i => World.cell?_of_block (hg1.block w.heap.size (by simp) G0.out)); have z1 : w.heap.size < w1.heap.size := (by have := hg1.size; simp at this; omega); clear hg1 p0)
    | (go_at_call 66; refine (LawsWrite.markS_any lo _ m.pend _ _ P1.out l1 (by omega) (by omega)).mono ?_; rintro e w2 ⟨rfl, p1, hg2⟩; have HG2 := Lib.hid hg2; have Q1 := Lib.hid p1; have Q0 := Lib.hid (P0.out.kept hg2 (own_apart (by decide) P0.out P1.out)); have Q2 := Lib.hid (P2.out.kept hg2 (own_apart (by decide) P2.out P1.out)); have Q3 := Lib.hid (P3.out.kept hg2 (own_apart (by decide) P3.out P1.out)); have e2 : ∀ i, w2.cell? ⟨w.heap.size, i, none⟩ = _ := (fun i => World.cell?_of_block (hg2.block w.heap.size z1 G1.out)); have z2 : w.heap.size < w2.heap.size := (by have := hg2.size; omega); clear hg2 p1)
    | (go_at_call 67; refine (LawsTlb.markS_any lo _ m.tlb _ _ Q2.out l2 (by omega) (by omega)).mono ?_; rintro e w3 ⟨rfl, p2, hg3⟩; have HG3 := Lib.hid hg3; have S2 := Lib.hid p2; have S0 := Lib.hid (Q0.out.kept hg3 (own_apart (by decide) Q0.out Q2.out)); have S1 := Lib.hid (Q1.out.kept hg3 (own_apart (by decide) Q1.out Q2.out)); have S3 := Lib.hid (Q3.out.kept hg3 (own_apart (by decide) Q3.out Q2.out)); have e3 : ∀ i, w3.cell? ⟨w.heap.size, i, none⟩ = _ := (fun i => World.cell?_of_block (hg3.block w.heap.size z2 G2.out)); have z3 : w.heap.size < w3.heap.size := (by have := hg3.size; omega); clear hg3 p2)
    | (go_at_call 68; refine (LawsWc.markS_any lo _ m.wc _ _ S3.out l3 (by omega) (by omega)).mono ?_; rintro e w4 ⟨rfl, p3, hg4⟩; have HG4 := Lib.hid hg4; have T3 := Lib.hid p3; have T0 := Lib.hid (S0.out.kept hg4 (own_apart (by decide) S0.out S3.out)); have T1 := Lib.hid (S1.out.kept hg4 (own_apart (by decide) S1.out S3.out)); have T2 := Lib.hid (S2.out.kept hg4 (own_apart (by decide) S2.out S3.out)); clear hg4 p3))
  go_ret
  refine ⟨ret_int (by rw [hE.out]), ⟨T0.out, T1.out, T2.out, T3.out⟩, ?_⟩
  have W1 : Within lo hi w w1 := Within.trans (Within.of_below (allocB (Below.refl _ _) _)) (Within.of_grown HG1.out (fun k e => ⟨(O0.out.lt k e).1, HI.out.ws k e⟩))
  have W2 : Within lo hi w1 w2 := Within.of_grown HG2.out (fun k e => ⟨(O1.out.lt k e).1, HI.out.pend k e⟩)
  have W3 : Within lo hi w2 w3 := Within.of_grown HG3.out (fun k e => ⟨(O2.out.lt k e).1, HI.out.tlb k e⟩)
  have W4 : Within lo hi w3 w4 := Within.of_grown HG4.out (fun k e => ⟨(O3.out.lt k e).1, HI.out.wc k e⟩)
  exact ((W1.trans W2).trans W3).trans W4

/-- The types of the lists' elements. -/
def inL (T : Nat) : Prop := T = 30 ∨ T = 103 ∨ T = 74 ∨ T = 76
instance (T : Nat) : Decidable (inL T) := by unfold inL; infer_instance
/-- All blocks but those of the lists' elements are as they were. -/
structure KeepL (w w' : World) : Prop where
  size : w.heap.size ≤ w'.heap.size
  block : ∀ (k : Nat) (cs : Array Value) (T : Nat), w.heap[k]? = some (Obj.cells cs T) → ¬ inL T → w'.heap[k]? = some (Obj.cells cs T)
theorem KeepL.trans {a b c : World} (h : KeepL a b) (k : KeepL b c) : KeepL a c := ⟨Nat.le_trans h.size k.size, fun i cs T hi hT => k.block i cs T (h.block i cs T hi hT) hT⟩
theorem KeepL.of_below {w w' : World} (h : Below w.heap.size w w') : KeepL w w' := ⟨h.size, fun i cs T hi hT => (h.block i (Array.getElem?_eq_some_iff.1 hi).1).trans hi⟩
theorem KeepL.grown {α : Type} {enc : α → List Value} {sz E b : Nat} {w w1 : World} {v : Value} {l : List α} (o : Own enc sz E b w v l) (hE : inL E) (hg : w.grownBy w1 v.ownBlock) : KeepL w w1 := by
  refine ⟨hg.size, fun k cs T hk hT => ?_⟩
  have hne : some k ≠ v.ownBlock := by
    rcases o.2 with ⟨rfl, _⟩ | ⟨g, cap, cur, rfl, hb, hgg, _⟩
    · simp [Value.ownBlock]
    · intro e
      simp only [Value.ownBlock, Option.some.injEq] at e
      rw [← e, hk] at hgg
      simp only [Option.some.injEq, Obj.cells.injEq] at hgg
      exact hT (hgg.2.1 ▸ hE)
  rw [hg.block k (Array.getElem?_eq_some_iff.1 hk).1 hne]
  exact hk
set_option maxRecDepth 100000 in
set_option maxHeartbeats 4000000 in
theorem markK_any (lo hi : Nat) (v0 v1 v2 v3 : Value) (m : SM) (w : World) (o : OwnM lo w v0 v1 v2 v3 m) (hi' : InM hi v0 v1 v2 v3) (hl : bulk m ≤ 1048576) :
    Calls Try.prog 15 #[.agg #[v0, v1, v2, v3], .int .i64 1] w fun e w' => e = .returned (.int .i64 (markEnd 1 m)) ∧ OwnM lo w' v0 v1 v2 v3 (markM 1 m) ∧ Within lo hi w w' ∧ KeepL w w' := by
  obtain ⟨A0, c0, A1, c1, A2, c2, A3, c3, rfl, rfl, rfl, rfl⟩ := o.shape
  obtain ⟨l0, l1, l2, l3⟩ := bulk_le hl
  obtain ⟨o0, o1, o2, o3⟩ := o
  have O0 := Lib.hid (o0.alloc (.cells #[.slice A0 m.ws.length c0, .slice A1 m.pend.length c1, .slice A2 m.tlb.length c2, .slice A3 m.wc.length c3] 39))
  have O1 := Lib.hid (o1.alloc (.cells #[.slice A0 m.ws.length c0, .slice A1 m.pend.length c1, .slice A2 m.tlb.length c2, .slice A3 m.wc.length c3] 39))
  have O2 := Lib.hid (o2.alloc (.cells #[.slice A0 m.ws.length c0, .slice A1 m.pend.length c1, .slice A2 m.tlb.length c2, .slice A3 m.wc.length c3] 39))
  have O3 := Lib.hid (o3.alloc (.cells #[.slice A0 m.ws.length c0, .slice A1 m.pend.length c1, .slice A2 m.tlb.length c2, .slice A3 m.wc.length c3] 39))
  have g0 : some w.heap.size ≠ (Value.slice A0 m.ws.length c0).ownBlock := fun e => by have := o0.lt _ e.symm; omega
  have g1 : some w.heap.size ≠ (Value.slice A1 m.pend.length c1).ownBlock := fun e => by have := o1.lt _ e.symm; omega
  have g2 : some w.heap.size ≠ (Value.slice A2 m.tlb.length c2).ownBlock := fun e => by have := o2.lt _ e.symm; omega
  have G0 := Lib.hid g0
  have G1 := Lib.hid g1
  have G2 := Lib.hid g2
  have HI := Lib.hid hi'
  have hE : Hid (markEnd 1 m = 1 + m.ws.length + 2 * m.pend.length + 5 * m.tlb.length + 4 * m.wc.length) := rfl
  clear hl o0 o1 o2 o3 hi' g0 g1 g2
  go_enter Try.func15, Try.ntmps15
  go_wp2_with (first
    | (go_at_call 41; refine (LawsMem.mark_any lo _ m.ws _ _ O0.out l0 (by omega) (by omega)).mono ?_; rintro e w1 ⟨rfl, p0, hg1⟩; have HG1 := Lib.hid hg1; have P0 := Lib.hid p0; have P1 := Lib.hid (O1.out.kept hg1 (own_apart (by decide) O1.out O0.out)); have P2 := Lib.hid (O2.out.kept hg1 (own_apart (by decide) O2.out O0.out)); have P3 := Lib.hid (O3.out.kept hg1 (own_apart (by decide) O3.out O0.out)); have e1 : ∀ i, w1.cell? ⟨w.heap.size, i, none⟩ = _ := (fun i => World.cell?_of_block (hg1.block w.heap.size (by simp) G0.out)); have z1 : w.heap.size < w1.heap.size := (by have := hg1.size; simp at this; omega); clear hg1 p0)
    | (go_at_call 66; refine (LawsWrite.markS_any lo _ m.pend _ _ P1.out l1 (by omega) (by omega)).mono ?_; rintro e w2 ⟨rfl, p1, hg2⟩; have HG2 := Lib.hid hg2; have Q1 := Lib.hid p1; have Q0 := Lib.hid (P0.out.kept hg2 (own_apart (by decide) P0.out P1.out)); have Q2 := Lib.hid (P2.out.kept hg2 (own_apart (by decide) P2.out P1.out)); have Q3 := Lib.hid (P3.out.kept hg2 (own_apart (by decide) P3.out P1.out)); have e2 : ∀ i, w2.cell? ⟨w.heap.size, i, none⟩ = _ := (fun i => World.cell?_of_block (hg2.block w.heap.size z1 G1.out)); have z2 : w.heap.size < w2.heap.size := (by have := hg2.size; omega); clear hg2 p1)
    | (go_at_call 67; refine (LawsTlb.markS_any lo _ m.tlb _ _ Q2.out l2 (by omega) (by omega)).mono ?_; rintro e w3 ⟨rfl, p2, hg3⟩; have HG3 := Lib.hid hg3; have S2 := Lib.hid p2; have S0 := Lib.hid (Q0.out.kept hg3 (own_apart (by decide) Q0.out Q2.out)); have S1 := Lib.hid (Q1.out.kept hg3 (own_apart (by decide) Q1.out Q2.out)); have S3 := Lib.hid (Q3.out.kept hg3 (own_apart (by decide) Q3.out Q2.out)); have e3 : ∀ i, w3.cell? ⟨w.heap.size, i, none⟩ = _ := (fun i => World.cell?_of_block (hg3.block w.heap.size z2 G2.out)); have z3 : w.heap.size < w3.heap.size := (by have := hg3.size; omega); clear hg3 p2)
    | (go_at_call 68; refine (LawsWc.markS_any lo _ m.wc _ _ S3.out l3 (by omega) (by omega)).mono ?_; rintro e w4 ⟨rfl, p3, hg4⟩; have HG4 := Lib.hid hg4; have T3 := Lib.hid p3; have T0 := Lib.hid (S0.out.kept hg4 (own_apart (by decide) S0.out S3.out)); have T1 := Lib.hid (S1.out.kept hg4 (own_apart (by decide) S1.out S3.out)); have T2 := Lib.hid (S2.out.kept hg4 (own_apart (by decide) S2.out S3.out)); clear hg4 p3))
  go_ret
  refine ⟨ret_int (by rw [hE.out]), ⟨T0.out, T1.out, T2.out, T3.out⟩, ?_⟩
  have W1 : Within lo hi w w1 := Within.trans (Within.of_below (allocB (Below.refl _ _) _)) (Within.of_grown HG1.out (fun k e => ⟨(O0.out.lt k e).1, HI.out.ws k e⟩))
  have W2 : Within lo hi w1 w2 := Within.of_grown HG2.out (fun k e => ⟨(O1.out.lt k e).1, HI.out.pend k e⟩)
  have W3 : Within lo hi w2 w3 := Within.of_grown HG3.out (fun k e => ⟨(O2.out.lt k e).1, HI.out.tlb k e⟩)
  have W4 : Within lo hi w3 w4 := Within.of_grown HG4.out (fun k e => ⟨(O3.out.lt k e).1, HI.out.wc k e⟩)
  exact ⟨((W1.trans W2).trans W3).trans W4, ((((KeepL.of_below (allocB (Below.refl _ _) _)).trans (KeepL.grown O0.out (by decide) HG1.out)).trans (KeepL.grown P1.out (by decide) HG2.out)).trans (KeepL.grown Q2.out (by decide) HG3.out)).trans (KeepL.grown S3.out (by decide) HG4.out)⟩

set_option maxRecDepth 100000 in
set_option maxHeartbeats 4000000 in
theorem held_any (v0 v1 v2 v3 : Value) (m : SM) (w : World) (r : RdM w v0 v1 v2 v3 (markM 1 m)) (hl : bulk m ≤ 1048576) :
    Calls Try.prog 16 #[.agg #[v0, v1, v2, v3], .int .i64 1] w fun e w' => e = .returned (.int .i64 (markEnd 1 m)) ∧ Below w.heap.size w w' := by
  obtain ⟨A0, c0, A1, c1, A2, c2, A3, c3, rfl, rfl, rfl, rfl, _⟩ := r.shape
  obtain ⟨l0, l1, l2, l3⟩ := bulk_le hl
  have R := Lib.hid r
  have hE : Hid (markEnd 1 m = 1 + m.ws.length + 2 * m.pend.length + 5 * m.tlb.length + 4 * m.wc.length) := rfl
  clear hl r
  go_enter Try.func16, Try.ntmps16
  go_wp2_with (first
    | (go_at_call 42; refine (LawsMem.held_any _ m.ws.length 1 _ (R.out.ws.below (allocB (Below.refl _ _) _)) l0 (by omega) (by omega)).mono ?_; rintro e w1 ⟨rfl, hb1⟩; obtain ⟨hc1, hf1⟩ := bcell hb1; have HB1 := Lib.hid (thenB (allocB (Below.refl w.heap.size w) _) hb1); have hz1 : w.heap.size < w1.heap.size := (by have := hb1.size; simp at this; omega))
    | (go_at_call 69; refine (LawsWrite.heldS_any _ m.pend.length _ _ (R.out.pend.below HB1.out) l1 (by omega) (by omega)).mono ?_; rintro e w' ⟨rfl, rfl⟩)
    | (go_at_call 70; refine (LawsTlb.heldS_any _ m.tlb.length _ _ (R.out.tlb.below HB1.out) l2 (by omega) (by omega)).mono ?_; rintro e w' ⟨rfl, rfl⟩)
    | (go_at_call 71; refine (LawsWc.heldS_any _ m.wc.length _ _ (R.out.wc.below HB1.out) l3 (by omega) (by omega)).mono ?_; rintro e w' ⟨rfl, rfl⟩))
  go_ret
  exact ⟨ret_int (by rw [hE.out]), HB1.out⟩

end Go.Proofs.Ytjmamohfiimokaa.LawsMach

namespace Go.Proofs.Ytjmamohfiimokaa.Mmu
open Go.RowKit Go.Proofs.Ytjmamohfiimokaa.Base Go.Proofs.Ytjmamohfiimokaa.Kinds Go.Proofs.Ytjmamohfiimokaa.LawsMach
set_option linter.unusedVariables false
set_option linter.unusedSimpArgs false
theorem sz_bad {v0 v1 v2 v3 : Value} (m : SM) (w : World) (r : RdM w v0 v1 v2 v3 m) (hl : ¬ bulk m ≤ 1048576) :
    Calls Try.prog 9 #[.agg #[v0, v1, v2, v3], .int .i64 1048576] w fun e w' => ∃ x : Int, x < 0 ∧ e = .returned (.int .i64 x) ∧ Below w.heap.size w w' := by
  obtain ⟨A0, c0, A1, c1, A2, c2, A3, c3, rfl, rfl, rfl, rfl, hl0, hk0, hl1, hk1, hl2, hk2, hl3, hk3⟩ := r.shape
  refine (sz_any A0 A1 A2 A3 _ c0 _ c1 _ c2 _ c3 w hl0 hk0 hl1 hk1 hl2 hk2 hl3 hk3).mono ?_
  rintro e w' ⟨rfl, hb⟩
  unfold bulk at hl
  exact ⟨_, by rw [if_neg (by omega)]; omega, rfl, hb⟩
theorem sz_good {v0 v1 v2 v3 : Value} (m : SM) (w : World) (r : RdM w v0 v1 v2 v3 m) (hl : bulk m ≤ 1048576) :
    Calls Try.prog 9 #[.agg #[v0, v1, v2, v3], .int .i64 1048576] w fun e w' => ∃ x : Int, ¬ x < 0 ∧ e = .returned (.int .i64 x) ∧ Below w.heap.size w w' := by
  obtain ⟨A0, c0, A1, c1, A2, c2, A3, c3, rfl, rfl, rfl, rfl, hl0, hk0, hl1, hk1, hl2, hk2, hl3, hk3⟩ := r.shape
  refine (sz_any A0 A1 A2 A3 _ c0 _ c1 _ c2 _ c3 w hl0 hk0 hl1 hk1 hl2 hk2 hl3 hk3).mono ?_
  rintro e w' ⟨rfl, hb⟩
  unfold bulk at hl
  exact ⟨_, by rw [if_pos (by omega)]; omega, rfl, hb⟩
theorem keepR {w wb : World} {a1 : Addr} {u0 u1 u2 u3 x0 x1 x2 x3 : Value} {a2 : Addr}
    (m1 : (w.cell? a1 = some u0 ∧ w.cell? ⟨a1.block, 1, none⟩ = some u1 ∧ w.cell? ⟨a1.block, 2, none⟩ = some u2 ∧ w.cell? ⟨a1.block, 3, none⟩ = some u3) ∧ (w.cell? a2 = some x0 ∧ w.cell? ⟨a2.block, 1, none⟩ = some x1 ∧ w.cell? ⟨a2.block, 2, none⟩ = some x2 ∧ w.cell? ⟨a2.block, 3, none⟩ = some x3)) (hb : Below w.heap.size w wb) :
    (wb.cell? a1 = some u0 ∧ wb.cell? ⟨a1.block, 1, none⟩ = some u1 ∧ wb.cell? ⟨a1.block, 2, none⟩ = some u2 ∧ wb.cell? ⟨a1.block, 3, none⟩ = some u3) ∧ (wb.cell? a2 = some x0 ∧ wb.cell? ⟨a2.block, 1, none⟩ = some x1 ∧ wb.cell? ⟨a2.block, 2, none⟩ = some x2 ∧ wb.cell? ⟨a2.block, 3, none⟩ = some x3) := by
  have k : ∀ {a : Addr} {v : Value}, w.cell? a = some v → wb.cell? a = some v := fun h => (hb.cell (World.block_lt_of_cell? _ _ h)).trans h
  obtain ⟨⟨h0, h1, h2, h3⟩, h4, h5, h6, h7⟩ := m1
  exact ⟨⟨k h0, k h1, k h2, k h3⟩, k h4, k h5, k h6, k h7⟩

end Go.Proofs.Ytjmamohfiimokaa.Mmu
