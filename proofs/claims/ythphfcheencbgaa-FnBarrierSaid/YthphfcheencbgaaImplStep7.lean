/- Walk of the program's operations: is a free refused? -/
import Derived.Test.YthphfcheencbgaaImplStep6
namespace Go.Proofs.Ythphfcheencbgaa.Mmu
open Go.RowKit Go.Proofs.Ythphfcheencbgaa.Base Go.Proofs.Ythphfcheencbgaa.Kinds Go.Proofs.Ythphfcheencbgaa.DecMath Go.Proofs.Ythphfcheencbgaa.L1
set_option linter.unusedVariables false
set_option linter.unusedSimpArgs false
theorem keep2c {w w' : World} {row : Option Nat} {q : Nat} {u0 u1 : Value} (h : w.cell? ⟨q, 0, none⟩ = some u0 ∧ w.cell? ⟨q, 1, none⟩ = some u1) (hg : w.grownBy w' row) (h2 : some q ≠ row) :
    w'.cell? ⟨q, 0, none⟩ = some u0 ∧ w'.cell? ⟨q, 1, none⟩ = some u1 := ⟨hg.cell h.1 h2, hg.cell h.2 h2⟩
/-- What is met after k memories. -/
def usedTo (b0 : Bool) (p1 p2 : List SPlace) (a : Int) : Nat → Bool
  | 0 => b0
  | 1 => b0 || p1.any (frameB a)
  | _ => b0 || (p1.any (frameB a) || p2.any (frameB a))
theorem genXS {w0 w : World} {l : List (Nat × Array Value × Nat)} {base p : Nat} {v0 v1 v2 v3 v4 : Value} {m : SM} {ls : List Int} (X : OwnX base w p v0 v1 v2 v3 v4 m ls) (S : St w0 l w) {G : World → Prop} (k : ∀ w', OwnX base w' p v0 v1 v2 v3 v4 m ls → St w0 l w' → G w') : G w := k w X S
theorem any_snoc {α : Type} {p : α → Bool} {l : List α} {k : Nat} {x : α} (h : l[k]? = some x) : (l.take (k + 1)).any p = ((l.take k).any p || p x) := by
  rw [List.take_add_one, h, List.any_append]
  simp
set_option maxRecDepth 100000 in
set_option maxHeartbeats 16000000 in
theorem freeRefused_b (base p : Nat) (v0 v1 v2 v3 v4 : Value) (m : SM) (kd a bb wd : Int) (w : World) (x : OwnX base w p v0 v1 v2 v3 v4 m (latestOf m)) (hv : Valid m) (hw : WfM m) (b : Bool) (h : usedB m a = b) :
    Calls Try.prog 79 #[.agg #[.int .i64 kd, .int .i64 a, .int .i64 bb, .int .u64 wd], .pointer (some ⟨p, 0, none⟩)] w fun e w' => e = .returned (.int .i64 (if b = true then 4 else 0)) ∧ Below w.heap.size w w' := by
  obtain ⟨A4, c4, hv4⟩ := x.wc.shape
  obtain ⟨A0, c0, hv0⟩ := x.ws.shape
  obtain ⟨A1, c1, hv1⟩ := x.ls.shape
  subst hv4 hv0 hv1
  have V := Lib.hid hv
  have hnw : m.wc.length ≤ 256 := hv.nwc
  have LW : Hid (WfW (latestOf m)) := Lib.hid (latest_wfI hv hw).2.1
  have WW : Hid (WfW m.ws) := Lib.hid ⟨hw.1, hv.frames⟩
  obtain ⟨p1, hp1⟩ : ∃ l, placesP m.ws 2 ⟨0, 1, 0⟩ = l := ⟨_, rfl⟩
  obtain ⟨p2, hp2⟩ : ∃ l, placesP (latestOf m) 2 ⟨0, 1, 0⟩ = l := ⟨_, rfl⟩
  have hl1 : p1.length ≤ 273 := by rw [← hp1]; exact Nat.le_trans (placesP_len _ _ _) (maxP_le (by omega))
  have hl2 : p2.length ≤ 273 := by rw [← hp2]; exact Nat.le_trans (placesP_len _ _ _) (maxP_le (by omega))
  have H : Hid ((decide (a = 0) || (p1.any (frameB a) || (p2.any (frameB a) || m.wc.any (tableB a)))) = b) := Lib.hid (by rw [← h, ← hp1, ← hp2]; rfl)
  obtain ⟨ls, hls⟩ : ∃ l, latestOf m = l := ⟨_, rfl⟩
  rw [hls] at x LW hp2
  obtain ⟨n0, hn0⟩ : ∃ n, m.ws.length = n := ⟨_, rfl⟩
  obtain ⟨n1, hn1⟩ : ∃ n, ls.length = n := ⟨_, rfl⟩
  rw [hn0, hn1] at x
  have X := Lib.hid x
  have HP1 := Lib.hid hp1
  have HP2 := Lib.hid hp2
  clear x hv hw h hls hp1 hp2 hn0 hn1
  obtain ⟨b0, hb0⟩ : ∃ c, decide (a = 0) = c := ⟨_, rfl⟩
  have hbe : (a == 0) = b0 := by rw [← hb0]; by_cases h : a = 0 <;> simp [h]
  rw [hb0] at H
  clear hb0
  obtain ⟨cd, hcd⟩ : ∃ c : Int, (if b = true then (4 : Int) else 0) = c := ⟨_, rfl⟩
  rw [hcd]
  have HCD := Lib.hid hcd
  clear hcd
  go_enter Try.func79, Try.ntmps79
  go_upto_region 1 with fail
  refine ((St.start w).push _ _).gen (fun w1 S1' _ => ?_)
  have S1 := Lib.hid S1'
  have X1 := Lib.hid (X.out.below S1'.b)
  clear S1'
  have sT0 := S1.out
  obtain ⟨p0_0, p0_1, p0_2, p0_3⟩ := sT0.c4
  have sT1 := sT0.tail
  clear sT0 sT1
  go_upto_region 2 with fail
  clear p0_0 p0_1 p0_2 p0_3
  clear hbe
  have XD := Lib.hid X1.out.drew
  have SD := Lib.hid S1.out.drew
  have hp3 : p < w1.heap.size := X1.out.lt
  have f0 := X1.out.cell.1
  have f1 := X1.out.cell.2.1
  go_region_held3 (fun w' => (w'.cell? ⟨p, 0, none⟩ = some (.slice A0 n0 c0) ∧ w'.cell? ⟨p, 1, none⟩ = some (.slice A1 n1 c1)) ∧ Below w1.heap.size w1 w')
    (first
      | exact keepS hp3 f0 f1 (below_drewN (Below.refl _ _) 1)
      | exact keepS hp3 f0 f1 (allocB (And.right (by assumption)) _))
    (fail)
  have X2' := XD.out.below (allocB (Below.refl _ _) (.cells #[.slice A0 n0 c0, .slice A1 n1 c1] 25))
  have S2' := SD.out.push #[.slice A0 n0 c0, .slice A1 n1 c1] 25
  clear f0 f1 S1 X1
  refine genXS X2' S2' (fun w3 X3' S3' => ?_)
  change St w ((w1.heap.size, #[.slice A0 n0 c0, .slice A1 n1 c1], 25) :: _) w3 at S3'
  have X3 := Lib.hid X3'
  have S3 := Lib.hid S3'
  clear X2' S2' X3' S3' XD SD
  go_wp2
  go_loopw [5, 26] (fun u i wr => ∃ (k : Nat) (cu : Bool), k ≤ 2 ∧ i = .int .i64 k ∧ u = .bool cu ∧ cu = usedTo b0 p1 p2 a k ∧ Below w3.heap.size w3 wr) (fun _ i _ => 2 - (intOf i).toNat)
  case atStart => exact ⟨0, b0, by omega, rfl, rfl, rfl, Below.refl _ _⟩
  case round =>
    obtain ⟨k, cu, hk, rfl, rfl, hcu, hb⟩ := hrel
    have HCU := Lib.hid hcu
    have HB := Lib.hid hb
    have S4 := Lib.hid (S3.out.below hb)
    have X4 := Lib.hid (X3.out.below hb)
    clear hcu hb
    by_cases hk2 : k = 2
    · subst hk2
      have hcu2 : (cu || m.wc.any (tableB a)) = b := by rw [HCU.out, ← H.out]; simp [usedTo, Bool.or_assoc]
      have HC2 := Lib.hid hcu2
      clear hcu2
      have k4 := X4.out.cell.2.2.2.2
      generalize wr = w4 at *
      go_wp2
      clear k4
      go_loopw [5, 53] (fun u i wr => ∃ (k : Nat) (c2 : Bool), k ≤ m.wc.length ∧ i = .int .i64 k ∧ u = .bool c2 ∧ c2 = (cu || (m.wc.take k).any (tableB a)) ∧ Below w4.heap.size w4 wr) (fun _ i _ => m.wc.length - (intOf i).toNat)
      case atStart => exact ⟨0, cu, Nat.zero_le _, rfl, rfl, by simp, Below.refl _ _⟩
      case round =>
        obtain ⟨k, c2, hk, rfl, rfl, hc2, hb⟩ := hrel
        have HC3 := Lib.hid hc2
        have HB4 := Lib.hid hb
        have S5 := Lib.hid (S4.out.below hb)
        have X5 := Lib.hid (X4.out.below hb)
        clear hc2 hb
        by_cases hlt : k < m.wc.length
        rotate_left
        · have hlt' : ¬ (k : Int) < (m.wc.length : Int) := by omega
          have HE : Hid (c2 = b) := Lib.hid (by rw [HC3.out, ← HC2.out, List.take_of_length_le (by omega)])
          cases c2
          all_goals
            go_wp2
            go_ret
            exact ⟨ret_int (by rw [← HCD.out, ← HE.out]; rfl), S5.out.b⟩
        have hlt' : (k : Int) < (m.wc.length : Int) := by omega
        obtain ⟨a0, e0, ea, g0, u0, u1, u2, u3, u4⟩ := step_at (X5.out.wc.rd stepLen) hlt
        cases ea
        have G0 := Lib.hid g0
        have k4 := X5.out.cell.2.2.2.2
        go_upto_region 14 with fail
        refine st_genBI (S5.out.push _ _) (allocB HB4.out _) (fun w6 S6' hb6 => ?_)
        have S6 := Lib.hid S6'
        have HB6 := Lib.hid hb6
        clear S6' hb6 g0 u0 u1 u2 u3 u4 k4
        have sT0 := S6.out
        obtain ⟨p0_0, p0_1, p0_2, p0_3, p0_4⟩ := sT0.c5
        have sT1 := sT0.tail
        obtain ⟨p1_0, p1_1⟩ := sT1.c2
        have sT2 := sT1.tail
        obtain ⟨p2_0, p2_1, p2_2, p2_3⟩ := sT2.c4
        have sT3 := sT2.tail
        clear sT0 sT1 sT2 sT3
        have HN : Hid ((c2 || tableB a e0) = (cu || (m.wc.take (k + 1)).any (tableB a))) := Lib.hid (by rw [any_snoc G0.out, ← Bool.or_assoc, ← HC3.out])
        cases c2
        · rcases Bool.eq_false_or_eq_true (e0.Table == a) with g1 | g1
          all_goals
            go_wp2
            go_roundw
            case rel => exact ⟨k + 1, _, by omega, by go_num, rfl, by rw [← HN.out]; simp [tableB] at *; try exact g1, HB6.out⟩
            case measure => simp [intOf]; omega
        · go_wp2
          go_roundw
          case rel => exact ⟨k + 1, true, by omega, by go_num, rfl, by rw [← HN.out]; rfl, HB6.out⟩
          case measure => simp [intOf]; omega
    by_cases hk0 : k = 0
    · subst hk0
      have hcu0 : cu = b0 := HCU.out
      have HCK := Lib.hid hcu0
      clear hcu0
      have sT0 := S4.out
      obtain ⟨p0_0, p0_1⟩ := sT0.c2
      have sT1 := sT0.tail
      obtain ⟨p1_0, p1_1, p1_2, p1_3⟩ := sT1.c4
      have sT2 := sT1.tail
      clear sT0 sT1 sT2
      go_upto_region 5 with fail
      refine st_genBI (S4.out.push _ _) (allocB HB.out _) (fun w5 S5' hb5 => ?_)
      have S5 := Lib.hid S5'
      have HB5 := Lib.hid hb5
      have X5 := Lib.hid (X3.out.below hb5)
      clear S5' hb5
      clear p0_0 p0_1 p1_0 p1_1 p1_2 p1_3
      have sT0 := S5.out
      have p0_0 := sT0.c1
      have sT1 := sT0.tail
      obtain ⟨p1_0, p1_1⟩ := sT1.c2
      have sT2 := sT1.tail
      obtain ⟨p2_0, p2_1, p2_2, p2_3⟩ := sT2.c4
      have sT3 := sT2.tail
      clear sT0 sT1 sT2 sT3
      go_wp2_with fail
      refine (implPlaces_any _ m.ws _ (X5.out.ws.rd wLen) WW.out).mono ?_
      rw [HP1.out]
      rintro e w6 ⟨vp, rfl, op, hb6⟩
      obtain ⟨Ap, cp, hvp⟩ := op.shape
      subst hvp
      have OP := Lib.hid (op.rd SPlace.len)
      have S6 := Lib.hid (S5.out.below hb6)
      have HB6 := Lib.hid (thenB HB5.out hb6)
      clear op hb6
      clear p0_0 p1_0 p1_1 p2_0 p2_1 p2_2 p2_3
      go_wp2
      go_loopw [5, 33] (fun u i wr => ∃ (j : Nat) (c2 : Bool), j ≤ p1.length ∧ i = .int .i64 j ∧ u = .bool c2 ∧ c2 = (cu || (p1.take j).any (frameB a)) ∧ Below w6.heap.size w6 wr) (fun _ i _ => p1.length - (intOf i).toNat)
      case atStart => exact ⟨0, cu, Nat.zero_le _, rfl, rfl, by simp, Below.refl _ _⟩
      case round =>
        obtain ⟨j, c2, hj, rfl, rfl, hc2, hb⟩ := hrel
        have HC3 := Lib.hid hc2
        have HB7 := Lib.hid hb
        have S7 := Lib.hid (S6.out.below hb)
        clear hc2 hb
        by_cases hlt : j < p1.length
        rotate_left
        · have hlt' : ¬ (j : Int) < (p1.length : Int) := by omega
          go_wp2
          go_roundw
          case rel => exact ⟨1, c2, by omega, by go_num, rfl, by rw [HC3.out, List.take_of_length_le (by omega), HCK.out]; rfl, thenB HB6.out HB7.out⟩
          case measure => simp [intOf]
        have hlt' : (j : Int) < (p1.length : Int) := by omega
        obtain ⟨a0, e0, ea, g0, u0, u1, u2⟩ := SPlace.at (OP.out.below HB7.out) hlt
        cases ea
        have G0 := Lib.hid g0
        go_upto_region 8 with fail
        refine st_genBI (S7.out.push _ _) (allocB HB7.out _) (fun w8 S8' hb8 => ?_)
        have S8 := Lib.hid S8'
        have HB8 := Lib.hid hb8
        clear S8' hb8 g0 u0 u1 u2
        have sT0 := S8.out
        obtain ⟨p0_0, p0_1, p0_2⟩ := sT0.c3
        have sT1 := sT0.tail
        have p1_0 := sT1.c1
        have sT2 := sT1.tail
        obtain ⟨p2_0, p2_1⟩ := sT2.c2
        have sT3 := sT2.tail
        obtain ⟨p3_0, p3_1, p3_2, p3_3⟩ := sT3.c4
        have sT4 := sT3.tail
        clear sT0 sT1 sT2 sT3 sT4
        have HN : Hid ((c2 || frameB a e0) = (cu || (p1.take (j + 1)).any (frameB a))) := Lib.hid (by rw [any_snoc G0.out, ← Bool.or_assoc, ← HC3.out])
        cases c2
        · rcases Bool.eq_false_or_eq_true (e0.Frame == a) with g1 | g1
          all_goals
            go_wp2
            go_roundw
            case rel => exact ⟨j + 1, _, by omega, by go_num, rfl, by rw [← HN.out]; simp [frameB] at *; try exact g1, HB8.out⟩
            case measure => simp [intOf]; omega
        · go_wp2
          go_roundw
          case rel => exact ⟨j + 1, true, by omega, by go_num, rfl, by rw [← HN.out]; rfl, HB8.out⟩
          case measure => simp [intOf]; omega
    obtain rfl : k = 1 := by omega
    have hcu1 : cu = (b0 || p1.any (frameB a)) := HCU.out
    have HCK := Lib.hid hcu1
    clear hcu1
    have sT0 := S4.out
    obtain ⟨p0_0, p0_1⟩ := sT0.c2
    have sT1 := sT0.tail
    obtain ⟨p1_0, p1_1, p1_2, p1_3⟩ := sT1.c4
    have sT2 := sT1.tail
    clear sT0 sT1 sT2
    go_upto_region 5 with fail
    refine st_genBI (S4.out.push _ _) (allocB HB.out _) (fun w5 S5' hb5 => ?_)
    have S5 := Lib.hid S5'
    have HB5 := Lib.hid hb5
    have X5 := Lib.hid (X3.out.below hb5)
    clear S5' hb5
    clear p0_0 p0_1 p1_0 p1_1 p1_2 p1_3
    have sT0 := S5.out
    have p0_0 := sT0.c1
    have sT1 := sT0.tail
    obtain ⟨p1_0, p1_1⟩ := sT1.c2
    have sT2 := sT1.tail
    obtain ⟨p2_0, p2_1, p2_2, p2_3⟩ := sT2.c4
    have sT3 := sT2.tail
    clear sT0 sT1 sT2 sT3
    go_wp2_with fail
    refine (implPlaces_any _ ls _ (X5.out.ls.rd wLen) LW.out).mono ?_
    rw [HP2.out]
    rintro e w6 ⟨vp, rfl, op, hb6⟩
    obtain ⟨Ap, cp, hvp⟩ := op.shape
    subst hvp
    have OP := Lib.hid (op.rd SPlace.len)
    have S6 := Lib.hid (S5.out.below hb6)
    have HB6 := Lib.hid (thenB HB5.out hb6)
    clear op hb6
    clear p0_0 p1_0 p1_1 p2_0 p2_1 p2_2 p2_3
    go_wp2
    go_loopw [5, 33] (fun u i wr => ∃ (j : Nat) (c2 : Bool), j ≤ p2.length ∧ i = .int .i64 j ∧ u = .bool c2 ∧ c2 = (cu || (p2.take j).any (frameB a)) ∧ Below w6.heap.size w6 wr) (fun _ i _ => p2.length - (intOf i).toNat)
    case atStart => exact ⟨0, cu, Nat.zero_le _, rfl, rfl, by simp, Below.refl _ _⟩
    case round =>
      obtain ⟨j, c2, hj, rfl, rfl, hc2, hb⟩ := hrel
      have HC3 := Lib.hid hc2
      have HB7 := Lib.hid hb
      have S7 := Lib.hid (S6.out.below hb)
      clear hc2 hb
      by_cases hlt : j < p2.length
      rotate_left
      · have hlt' : ¬ (j : Int) < (p2.length : Int) := by omega
        go_wp2
        go_roundw
        case rel => exact ⟨2, c2, by omega, by go_num, rfl, by rw [HC3.out, List.take_of_length_le (by omega), HCK.out]; simp [usedTo, Bool.or_assoc], thenB HB6.out HB7.out⟩
        case measure => simp [intOf]
      have hlt' : (j : Int) < (p2.length : Int) := by omega
      obtain ⟨a0, e0, ea, g0, u0, u1, u2⟩ := SPlace.at (OP.out.below HB7.out) hlt
      cases ea
      have G0 := Lib.hid g0
      go_upto_region 8 with fail
      refine st_genBI (S7.out.push _ _) (allocB HB7.out _) (fun w8 S8' hb8 => ?_)
      have S8 := Lib.hid S8'
      have HB8 := Lib.hid hb8
      clear S8' hb8 g0 u0 u1 u2
      have sT0 := S8.out
      obtain ⟨p0_0, p0_1, p0_2⟩ := sT0.c3
      have sT1 := sT0.tail
      have p1_0 := sT1.c1
      have sT2 := sT1.tail
      obtain ⟨p2_0, p2_1⟩ := sT2.c2
      have sT3 := sT2.tail
      obtain ⟨p3_0, p3_1, p3_2, p3_3⟩ := sT3.c4
      have sT4 := sT3.tail
      clear sT0 sT1 sT2 sT3 sT4
      have HN : Hid ((c2 || frameB a e0) = (cu || (p2.take (j + 1)).any (frameB a))) := Lib.hid (by rw [any_snoc G0.out, ← Bool.or_assoc, ← HC3.out])
      cases c2
      · rcases Bool.eq_false_or_eq_true (e0.Frame == a) with g1 | g1
        all_goals
          go_wp2
          go_roundw
          case rel => exact ⟨j + 1, _, by omega, by go_num, rfl, by rw [← HN.out]; simp [frameB] at *; try exact g1, HB8.out⟩
          case measure => simp [intOf]; omega
      · go_wp2
        go_roundw
        case rel => exact ⟨j + 1, true, by omega, by go_num, rfl, by rw [← HN.out]; rfl, HB8.out⟩
        case measure => simp [intOf]; omega
end Go.Proofs.Ythphfcheencbgaa.Mmu
