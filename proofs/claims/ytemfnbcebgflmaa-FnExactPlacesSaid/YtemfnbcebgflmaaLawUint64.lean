/- Walks of the laws' helper functions on words: copying, counting, comparing, marking, holding. -/
import Derived.Test.YtemfnbcebgflmaaProg
import Derived.Test.YtemfnbcebgflmaaKinds
import Derived.Test.YtemfnbcebgflmaaRowSet
namespace Go.Proofs.Ytemfnbcebgflmaa.LawsUint64
open Go.RowKit Go.Proofs.Ytemfnbcebgflmaa.Base Go.Proofs.Ytemfnbcebgflmaa.Kinds
set_option linter.unusedVariables false
set_option linter.unusedSimpArgs false

theorem info : (Try.prog.info? 23).map (fun i => (i.zero, i.size, i.bytes)) = some (some (.int .u64 0), 1, 8) := by kernel_rfl

theorem sz_any (A : Option Addr) (n c : Nat) (q : Int) (w : World) (hn : n ≤ c) (hc : c ≤ 9223372036854775807) (hq : 0 ≤ q) (hq' : q ≤ 1048576) :
    Calls Try.prog 70 #[.slice A n c, .int .i64 q] w fun e w' => e = .returned (.int .i64 (if q - n < 0 then -1 else q - n)) ∧ w = w' := by
  obtain ⟨r, hr⟩ : ∃ r, r = (if q - (n : Int) < 0 then (-1 : Int) else q - n) := ⟨_, rfl⟩
  rw [← hr]
  have HR := Lib.hid hr
  clear hr
  go_enter Try.func70, Try.ntmps70
  go_wp2
  all_goals
    go_ret
    refine ⟨ret_int ?_, rfl⟩
    rw [HR.out]
    first | rw [if_pos (by omega)] | rw [if_neg (by omega)]

set_option maxRecDepth 100000 in
set_option maxHeartbeats 2000000 in
theorem eqS_any (v0 v1 : Value) (l0 l1 : List Int) (w : World) (r0 : Rd wEnc 1 w v0 l0) (r1 : Rd wEnc 1 w v1 l1) :
    Calls Try.prog 76 #[v0, v1] w fun e w' => e = .returned (.bool (decide (l0 = l1))) ∧ Below w.heap.size w w' := by
  obtain ⟨A0, c0, rfl, hc0, hn0⟩ := r0.shape
  obtain ⟨A1, c1, rfl, hc1, hn1⟩ := r1.shape
  by_cases hl : l0.length = l1.length
  · go_enter Try.func76, Try.ntmps76
    go_wp2
    go_loopw [5] (fun i wr => ∃ k : Nat, k ≤ l0.length ∧ i = .int .i64 k ∧ l0.take k = l1.take k ∧ Below w.heap.size w wr) (fun i _ => l0.length - (intOf i).toNat)
    case atStart => exact ⟨0, Nat.zero_le _, rfl, rfl, Below.refl _ _⟩
    case round =>
      obtain ⟨k, hk, rfl, ht, hb⟩ := hrel
      have R0 := Lib.hid (r0.below hb)
      have R1 := Lib.hid (r1.below hb)
      have HT := Lib.hid ht
      have HL := Lib.hid hl
      clear r0 r1 ht hl
      by_cases hlt : k < l0.length
      · have hlt' : (k : Int) < (l0.length : Int) := by omega
        have hlt1 : k < l1.length := by rw [← HL.out]; exact hlt
        have hlt1' : (k : Int) < (l1.length : Int) := by omega
        obtain ⟨a0, s0, e0, g0, q00⟩ := word_at R0.out hlt
        obtain ⟨a1, s1, e1, g1, q10⟩ := word_at R1.out hlt1
        cases e0
        cases e1
        have G0 := Lib.hid g0
        have G1 := Lib.hid g1
        clear g0 g1
        go_wp2
        go_quiet (fail)
        go_wp2
        · have hne : (s0 != s1) = true := by assumption
          have hne' : ¬ s0 = s1 := by simpa using hne
          go_ret
          refine ⟨ret_bool ?_, below_drewN hb _⟩
          symm; rw [decide_eq_false_iff_not]
          rintro rfl
          rw [G0.out] at G1
          exact hne' (Option.some.inj G1.out)
        · have he : (s0 != s1) = false := by assumption
          have he' : s0 = s1 := by simpa using he
          go_roundw
          case rel => exact ⟨k + 1, by omega, by go_num, by rw [take_snoc G0.out, take_snoc G1.out, HT.out, he'], below_drewN hb _⟩
          case measure => simp [intOf]; omega
      · go_wp2
        go_ret
        have e := HT.out
        rw [List.take_of_length_le (by omega), List.take_of_length_le (by have := HL.out; omega)] at e
        exact ⟨ret_bool (by symm; simpa using e), hb⟩
  · go_enter Try.func76, Try.ntmps76
    go_wp2
    go_ret
    exact ⟨ret_bool (by symm; simp; intro h; exact hl (by rw [h])), Below.refl _ _⟩

/-- What the law marks the i-th element with, from k on. -/
def mark (k : Int) (i : Nat) : Int := k + i
def marks (k : Int) (n : Nat) : List Int := (List.range n).map (mark k)

set_option maxRecDepth 100000 in
set_option maxHeartbeats 4000000 in
theorem markS_any (base : Nat) (v : Value) (l : List Int) (k : Int) (w : World) (ho : Own wEnc 1 23 base w v l) (hl : l.length ≤ 1048576) (hk : 0 ≤ k) (hk' : k ≤ 1000000000) :
    Calls Try.prog 84 #[v, .int .i64 k] w fun e w' => e = .returned (.int .i64 (k +  l.length)) ∧ Own wEnc 1 23 base w' v (marks k l.length) ∧ w.grownBy w' v.ownBlock := by
  obtain ⟨A, c, rfl⟩ := ho.shape
  have HO := Lib.hid ho
  clear ho
  go_enter Try.func84, Try.ntmps84
  go_wp2
  go_loopw [1, 5] (fun q i wr => ∃ j : Nat, j ≤ l.length ∧ i = .int .i64 j ∧ q = .int .i64 (k +  j) ∧ Hid (Own wEnc 1 23 base wr (.slice A l.length c) ((List.range j).map (mark k) ++ l.drop j)) ∧ Hid (w.grownBy wr (Value.slice A l.length c).ownBlock)) (fun _ i _ => l.length - (intOf i).toNat)
  case atStart => exact ⟨0, Nat.zero_le _, rfl, by simp, by simpa using HO, grown_refl _ _⟩
  case round =>
    obtain ⟨j, hj, rfl, rfl, hr, hg⟩ := hrel
    by_cases hlt : j < l.length
    · obtain ⟨g, rfl, _, _, f, cs⟩ := Own.block wLen hr.out (by rw [marks_len _ _ _ hj]; omega)
      have hx := marks_get (mark k) l j hlt
      rw [List.getElem?_eq_getElem hlt] at hx
      have cs := cs j _ hx
      have c0 : wr.cell? ⟨g, j, none⟩ = some (.int .u64 l[j]) := by simpa using cs 0 _ rfl
      clear cs hx
      go_wp2
      go_roundw
      case rel =>
        refine ⟨j + 1, by omega, by go_num, by go_num, ?_, grown_set hg.out _ _⟩
        have h := own_set1 wLen hr.out j (by rw [marks_len _ _ _ hj]; omega) (mark k j) rfl
        rw [marks_step _ _ _ hlt] at h
        refine Lib.hid ?_
        simpa [mark, Int.add_assoc] using h
      case measure => simp [intOf]; omega
    · obtain rfl : j = l.length := by omega
      go_wp2
      go_ret
      have h := hr.out
      rw [List.drop_length, List.append_nil] at h
      exact ⟨rfl, h, hg.out⟩

set_option maxRecDepth 100000 in
set_option maxHeartbeats 4000000 in
theorem heldS_any (v : Value) (n : Nat) (k : Int) (w : World) (r : Rd wEnc 1 w v (marks k n)) (hl : n ≤ 1048576) (hk : 0 ≤ k) (hk' : k ≤ 1000000000) :
    Calls Try.prog 142 #[v, .int .i64 k] w fun e w' => e = .returned (.int .i64 (k +  n)) ∧ w = w' := by
  obtain ⟨A, c, rfl, _, _⟩ := r.shape
  have hml : (marks k n).length = n := by simp [marks]
  rw [hml] at r ⊢
  have HR := Lib.hid r
  have HM := Lib.hid hml
  clear r hml
  go_enter Try.func142, Try.ntmps142
  go_wp2
  go_loop [1, 5] (fun q i => ∃ j : Nat, j ≤ n ∧ i = .int .i64 j ∧ q = .int .i64 (k +  j)) (fun _ i => n - (intOf i).toNat)
  case atStart => exact ⟨0, Nat.zero_le _, rfl, by simp⟩
  case round =>
    obtain ⟨j, hj, rfl, rfl⟩ := hrel
    by_cases hlt : j < n
    · obtain ⟨ad, x, rfl, hx, c0⟩ := word_at HR.out (by rw [HM.out]; exact hlt)
      obtain rfl : x = mark k j := by
        simp [marks, List.getElem?_range hlt] at hx
        exact hx.symm
      simp only [mark] at c0
      clear hx
      go_wp2
      go_round
      case rel => exact ⟨j + 1, by omega, by go_num, by go_num⟩
      case measure => simp [intOf]; omega
    · obtain rfl : j = n := by omega
      go_wp2
      go_ret
      exact ⟨rfl, rfl⟩

theorem made_flat (n : Nat) : (madeCells (Value.cells (.int .u64 0)) (n * 1)).toList = (List.replicate n (0 : Int)).flatMap wEnc := made_rep wLen (0 : Int) rfl (by decide) n

set_option maxRecDepth 100000 in
set_option maxHeartbeats 4000000 in
theorem toS_any (v : Value) (l : List Int) (w : World) (r : Rd wEnc 1 w v l) (hl : l.length ≤ 1048576) :
    Calls Try.prog 73 #[v] w fun e w' => ∃ v', e = .returned v' ∧ Own wEnc 1 23 w.heap.size w' v' l ∧ Below w.heap.size w w' := by
  obtain ⟨A, c, rfl, _, _⟩ := r.shape
  have HR := Lib.hid r
  clear r
  obtain ⟨i0, hi, hz0, hz1, hz2⟩ := info_parts info
  go_enter Try.func73, Try.ntmps73
  go_wp2_with (at_make; refine wpList_make_full _ rfl (.tmp 6) (.tmp 6) 45 rfl w.heap.size 23 i0 _ 1 Try.underlying45 hi hz0 hz1 .i64 .i64 (l.length : Int) (l.length : Int) l.length rfl rfl rfl rfl (by rw [hz2]; omega) (by unfold maxLen; omega) (Nat.le_refl _) ?_; intro w0 ho0 hg0)
  have hb0 : Below w.heap.size w w0 := (Below.refl _ _).grown hg0 (Nat.le_refl _) (by simp)
  rw [made_flat] at ho0
  have HO := Lib.hid ho0
  clear ho0 hg0 hi hz0 hz1 hz2
  go_wp2
  go_loopw [4] (fun i wr => ∃ j : Nat, j ≤ l.length ∧ i = .int .i64 j ∧ Hid (Own wEnc 1 23 w.heap.size wr (.slice (some ⟨w.heap.size, 0, none⟩) l.length l.length) (l.take j ++ List.replicate (l.length - j) (0 : Int))) ∧ Below w.heap.size w wr) (fun i _ => l.length - (intOf i).toNat)
  case atStart => exact ⟨0, Nat.zero_le _, rfl, Lib.hid (by have := HO.out; unfold Own; simpa using this), hb0⟩
  case round =>
    obtain ⟨j, hj, rfl, hr, hb⟩ := hrel
    by_cases hlt : j < l.length
    · obtain ⟨ad, x, rfl, hx, q0⟩ := word_at (HR.out.below hb) hlt
      have hlen : (l.take j ++ List.replicate (l.length - j) (0 : Int)).length = l.length := by simp; omega
      obtain ⟨g, hge, _, hgw, f, cs⟩ := Own.block wLen hr.out (by omega)
      simp only [Option.some.injEq, Addr.mk.injEq, and_true] at hge
      subst hge
      have hz : (l.take j ++ List.replicate (l.length - j) (0 : Int))[j]? = some (0 : Int) := by
        rw [List.getElem?_append_right (by simp; omega), List.getElem?_replicate]; simp; omega
      have cs := cs j _ hz
      have c0 : wr.cell? ⟨w.heap.size, j, none⟩ = some (.int .u64 0) := by simpa using cs 0 _ rfl
      have HX := Lib.hid hx
      have HL := Lib.hid hlen
      clear cs hz hx hlen
      go_wp2
      go_roundw
      case rel =>
        have ho1 := hr.out
        have h := own_set1 wLen ho1 j (by rw [HL.out]; exact hlt) x rfl
        rw [fill_step HX.out hlt] at h
        exact ⟨j + 1, by omega, by go_num, Lib.hid (by simpa using h), Below.setCell (hb) (Nat.le_refl _) _⟩
      case measure => simp [intOf]; omega
    · obtain rfl : j = l.length := by omega
      go_wp2
      go_ret
      have h := hr.out
      rw [List.take_length, Nat.sub_self, List.replicate_zero, List.append_nil] at h
      exact ⟨_, rfl, h, hb⟩

end Go.Proofs.Ytemfnbcebgflmaa.LawsUint64
