/- Plain facts for one operation, the program's side. Walks of the program's operations: is a write, a free refused? -/
import Derived.Test.YthphfcheencbgaaSpecPlaces
import Derived.Test.YthphfcheencbgaaMachG
import Derived.Test.YthphfcheencbgaaImplStep3
import Derived.Test.YthphfcheencbgaaImplPlaces
namespace Go.Proofs.Ythphfcheencbgaa.Mmu
open Go.RowKit Go.Proofs.Ythphfcheencbgaa.Base Go.Proofs.Ythphfcheencbgaa.Kinds Go.Proofs.Ythphfcheencbgaa.DecMath
theorem latest_wfI {m : SM} (hv : Valid m) (hw : WfM m) : (∀ x ∈ latestOf m, 0 ≤ x ∧ x < 18446744073709551616) ∧ WfW (latestOf m) ∧ okLen (latestOf m) := by
  have h1 := writes_range _ _ hw.1 hw.2
  have := hv.frames
  refine ⟨h1, ⟨h1, ?_⟩, ?_⟩
  · unfold latestOf
    rw [writes_len]
    exact this
  · unfold okLen latestOf
    rw [writes_len]
    exact this
end Go.Proofs.Ythphfcheencbgaa.Mmu

namespace Go.Proofs.Ythphfcheencbgaa.Mmu
open Go.RowKit Go.Proofs.Ythphfcheencbgaa.Base Go.Proofs.Ythphfcheencbgaa.Kinds Go.Proofs.Ythphfcheencbgaa.DecMath Go.Proofs.Ythphfcheencbgaa.L1 Go.Proofs.Ythphfcheencbgaa.BitsMath
set_option linter.unusedVariables false
set_option linter.unusedSimpArgs false
theorem st_genBI {w0 w W : World} {B : Nat} {l : List (Nat × Array Value × Nat)} (S : St w0 l W) (b : Below B w W) {G : World → Prop} (k : ∀ w', St w0 l w' → Below B w w' → G w') : G W := k W S b
set_option maxRecDepth 100000 in
set_option maxHeartbeats 8000000 in
theorem writeRefused_b (base p : Nat) (v0 v1 v2 v3 v4 : Value) (m : SM) (kd a bb wd rest : Int) (w : World) (x : OwnX base w p v0 v1 v2 v3 v4 m (latestOf m)) (hv : Valid m) (hw : WfM m) (ho : 0 ≤ wd ∧ wd < 18446744073709551616) (ha : 0 ≤ a ∧ a < (m.ws.length : Int)) (c : Int) (h : writeCode m ⟨kd, a, bb, wd⟩ = c) :
    Calls Try.prog 88 #[.agg #[.int .i64 a, .int .u64 wd, .int .i64 rest], .pointer (some ⟨p, 0, none⟩)] w fun e w' => e = .returned (.int .i64 c) ∧ Below w.heap.size w w' := by
  obtain ⟨A1, c1, hv1⟩ := x.ls.shape
  subst hv1
  have X := Lib.hid x
  have V := Lib.hid hv
  have LW := Lib.hid (latest_wfI hv hw)
  obtain ⟨ha0, ha1⟩ := ha
  obtain ⟨ho0, ho1⟩ := ho
  have hfr := hv.frames.2.2
  have hal : a < 8192 := by omega
  clear x hv hw
  by_cases k0 : wd % 2 = 0
  · have HC : Hid (c = 0) := Lib.hid (by rw [← h]; exact if_pos k0)
    have m0 : Go.bits .and .u64 wd 1 = 0 := by rw [and1 _ ho0 ho1]; exact k0
    clear h k0
    go_enter Try.func88, Try.ntmps88
    go_upto_region 1 with fail
    refine ((St.start w).push _ _).gen (fun w1 S1' _ => ?_)
    have S1 := Lib.hid S1'
    clear S1'
    have sT0 := S1.out
    obtain ⟨p0_0, p0_1, p0_2⟩ := sT0.c3
    have sT1 := sT0.tail
    clear sT0 sT1
    go_wp2
    go_ret
    exact ⟨by rw [HC.out]; rfl, S1.out.b⟩
  have m0 : Go.bits .and .u64 wd 1 = 1 := by rw [and1 _ ho0 ho1]; omega
  obtain ⟨ps, hps⟩ : ∃ l, placesP (latestOf m) 2 ⟨0, 1, 0⟩ = l := ⟨_, rfl⟩
  obtain ⟨old, hold⟩ : ∃ x, (latestOf m).getD a.toNat 0 = x := ⟨_, rfl⟩
  have HC : Hid (codeB m ⟨kd, a, bb, wd⟩ old ps false = c) := Lib.hid (by rw [← h, ← hps, ← hold]; exact (if_neg k0).symm)
  have HIN : Hid (∀ q ∈ ps, inP (latestOf m) q) := Lib.hid (by rw [← hps]; exact placesP_in _ 2 _ (by simp) (root_in LW.out.2.2).1 (root_in LW.out.2.2).2)
  have hpl : ps.length ≤ 273 := by rw [← hps]; exact Nat.le_trans (placesP_len _ _ _) (maxP_le (by omega))
  have hln : (latestOf m).length = m.ws.length := writes_len _ _
  have HOL : Hid ((latestOf m)[a.toNat]? = some old ∧ 0 ≤ old ∧ old < 18446744073709551616) := Lib.hid (by
    have hlt : a.toNat < (latestOf m).length := by omega
    rw [List.getD_eq_getElem?_getD, List.getElem?_eq_getElem hlt] at hold
    simp only [Option.getD_some] at hold
    rw [List.getElem?_eq_getElem hlt, hold]
    have := LW.out.1 _ (List.getElem_mem hlt)
    rw [hold] at this
    exact ⟨rfl, this⟩)
  have HPS := Lib.hid hps
  obtain ⟨ls, hls⟩ : ∃ l, latestOf m = l := ⟨_, rfl⟩
  rw [hls] at HOL hln HIN LW HPS X
  have hal2 : a < (ls.length : Int) := by omega
  have HLN := Lib.hid hln
  obtain ⟨aw, hOa, hOx⟩ : ∃ ad, A1 = some ad ∧ w.cell? (ad.add a.toNat) = some (.int .u64 old) := by
    obtain ⟨ad, x, ea, hx, hc⟩ := word_at (X.out.ls.rd wLen) (k := a.toNat) (by omega)
    obtain rfl := Option.some.inj (HOL.out.1.symm.trans hx)
    exact ⟨ad, ea, hc⟩
  subst hOa
  clear h hps hold k0 hls hln ha1
  go_enter Try.func88, Try.ntmps88
  go_upto_region 1 with fail
  refine ((St.start w).push _ _).gen (fun w1 S1' _ => ?_)
  have S1 := Lib.hid S1'
  have X1 := Lib.hid (X.out.below S1'.b)
  have y0 := bC S1'.b hOx
  clear S1' hOx
  have sT0 := S1.out
  obtain ⟨p0_0, p0_1, p0_2⟩ := sT0.c3
  have sT1 := sT0.tail
  clear sT0 sT1
  go_upto_region 3 with fail
  clear p0_0 p0_1 p0_2
  have sT0 := S1.out
  obtain ⟨p0_0, p0_1, p0_2⟩ := sT0.c3
  have sT1 := sT0.tail
  have pB0_0 := BW.cell p0_0
  have pB0_1 := BW.cell p0_1
  have pB0_2 := BW.cell p0_2
  clear p0_0 p0_1 p0_2
  clear sT0 sT1
  have b1 := BW.cell X1.out.cell.2.1
  have x0 := BW.cell y0
  (refine wp_region_below (by kernel_rfl) (by kernel_rfl) ?_; (repeat (first | (go_big_quiet_step (fail)) | ((with_reducible refine wpQuiet_step ?_); intro K hK; go_simp; first | ((with_reducible refine hK _ ?_); clear hK K) | (apply Exists.intro; refine ⟨fun _ => ?_, hK _ ?_⟩; (fail); clear hK K)))); (with_reducible refine wpQuiet_nil ?_); intro wq hw'; obtain ⟨⟨wy, hbq⟩, hw''⟩ := hw'; subst hw'')
  have S2 := Lib.hid (S1.out.below hbq)
  have X2 := Lib.hid (X1.out.below hbq)
  clear hbq b1 x0 y0 S1 X1
  clear pB0_0 pB0_1 pB0_2
  rename_i wq2
  have k1 := X2.out.cell.2.1
  have hob := HOL.out.2
  obtain ⟨hob0, hob1⟩ := hob
  go_wp2_with fail
  refine (implPlaces_any _ ls _ (X2.out.ls.rd wLen) LW.out.2.1).mono ?_
  rw [HPS.out]
  rintro e w4 ⟨vp, rfl, op, hb4⟩
  obtain ⟨Ap, cp, hvp⟩ := op.shape
  subst hvp
  have OP := Lib.hid (op.rd SPlace.len)
  have S4 := Lib.hid (S2.out.below hb4)
  have X4 := Lib.hid (X2.out.below hb4)
  clear op hb4 S2 X2 k1
  go_wp2
  go_loopw [6, 29] (fun v i wr => ∃ (k : Nat) (cc : Bool), k ≤ ps.length ∧ v = .bool cc ∧ i = .int .i64 k ∧ codeB m ⟨kd, a, bb, wd⟩ old (ps.drop k) cc = c ∧ Below w4.heap.size w4 wr) (fun _ i _ => ps.length - (intOf i).toNat)
  case atStart => exact ⟨0, false, Nat.zero_le _, rfl, rfl, HC.out, Below.refl _ _⟩
  case round =>
    obtain ⟨k, cc, hk, rfl, rfl, hco, hb⟩ := hrel
    have HCO := Lib.hid hco
    have HB := Lib.hid hb
    have S5 := Lib.hid (S4.out.below hb)
    clear hco hb
    by_cases hlt : k < ps.length
    rotate_left
    · have hlt' : ¬ (k : Int) < (ps.length : Int) := by omega
      have HE : Hid ((if cc = true then (3 : Int) else 0) = c) := Lib.hid (by rw [← HCO.out, List.drop_eq_nil_of_le (by omega)]; rfl)
      cases cc
      all_goals
        go_wp2
        go_ret
        exact ⟨ret_int HE.out, S5.out.b⟩
    have hlt' : (k : Int) < (ps.length : Int) := by omega
    obtain ⟨a0, e0, ea, g0, u0, u1, u2⟩ := SPlace.at (OP.out.below HB.out) hlt
    cases ea
    have G0 := Lib.hid g0
    have HI := HIN.out e0 (List.mem_of_getElem? g0)
    obtain ⟨fr, lv, pg⟩ := e0
    simp only at u0 u1 u2
    obtain ⟨⟨hl1', hl2'⟩, ⟨hf0, hf1⟩, hg0, hg1⟩ := HI
    simp only at hl1' hl2' hf0 hf1 hg0 hg1
    obtain ⟨n, hn⟩ : ∃ n, cov lv = n := ⟨_, rfl⟩
    have hnn : 1 ≤ n ∧ n ≤ 256 := by rw [← hn]; unfold cov; split <;> (try split) <;> omega
    obtain ⟨hn0, hn1⟩ := hnn
    have HN := Lib.hid hn
    have htd : a.tdiv 16 = a / 16 := Int.tdiv_eq_ediv_of_nonneg ha0
    have htm : a.tmod 16 = a % 16 := Int.tmod_eq_emod_of_nonneg ha0
    have hm0 : 0 ≤ a % 16 * n := Int.mul_nonneg (by omega) (by omega)
    have hm1 : a % 16 * n ≤ 15 * 256 := Int.mul_le_mul (by omega) hn1 (by omega) (by omega)
    have hw1 : IntKind.i64.wrap (a % 16 * n) = a % 16 * n := by rw [IntKind.wrap_i64]; omega
    have hw2 : IntKind.i64.wrap (pg + a % 16 * n) = pg + a % 16 * n := by rw [IntKind.wrap_i64]; omega
    clear g0 hn
    go_upto_region 8 with fail
    refine st_genBI (S5.out.push _ _) (allocB HB.out _) (fun w6 S6' hb6 => ?_)
    have S6 := Lib.hid S6'
    have HB6 := Lib.hid hb6
    clear S6' hb6 u0 u1 u2
    have sT0 := S6.out
    obtain ⟨p0_0, p0_1, p0_2⟩ := sT0.c3
    have sT1 := sT0.tail
    obtain ⟨p1_0, p1_1, p1_2⟩ := sT1.c3
    have sT2 := sT1.tail
    clear sT0 sT1 sT2
    rcases Bool.eq_false_or_eq_true (fr != a / 16) with g1 | g1
    · have HE : Hid (codeB m ⟨kd, a, bb, wd⟩ old (ps.drop (k + 1)) cc = c) := Lib.hid (by
        rw [← HCO.out, drop_at G0.out]
        simp only [codeB]
        rw [if_neg (by simpa using g1)])
      go_wp2
      go_roundw
      case rel => exact ⟨k + 1, cc, by omega, rfl, by go_num, HE.out, HB6.out⟩
      case measure => simp [intOf]; omega
    by_cases hod : old % 2 = 1
    · have mo : Go.bits .and .u64 old 1 = 1 := by rw [and1 _ hob0 hob1]; exact hod
      have HO1 := Lib.hid hod
      clear hod
      rcases Bool.eq_false_or_eq_true (old != wd) with g2 | g2
      · have HE : Hid (c = 2) := Lib.hid (by
          rw [← HCO.out, drop_at G0.out]
          simp only [codeB]
          rw [if_pos (by simpa using g1), if_pos HO1.out, if_neg (by simpa using g2)])
        go_wp2
        go_ret
        exact ⟨by rw [HE.out]; rfl, S6.out.b⟩
      · have HE : Hid (codeB m ⟨kd, a, bb, wd⟩ old (ps.drop (k + 1)) cc = c) := Lib.hid (by
          rw [← HCO.out, drop_at G0.out]
          simp only [codeB]
          rw [if_pos (by simpa using g1), if_pos HO1.out, if_pos (by simpa using g2)])
        go_wp2
        go_roundw
        case rel => exact ⟨k + 1, cc, by omega, rfl, by go_num, HE.out, HB6.out⟩
        case measure => simp [intOf]; omega
    · have hod0 : old % 2 = 0 := by omega
      have mo : Go.bits .and .u64 old 1 = 0 := by rw [and1 _ hob0 hob1]; exact hod0
      have HO0 := Lib.hid hod0
      clear hod hod0
      obtain ⟨cb, hcb⟩ : ∃ b, cachedB m lv (pg + a % 16 * n) n = b := ⟨_, rfl⟩
      have HCB := Lib.hid hcb
      have HE : Hid (codeB m ⟨kd, a, bb, wd⟩ old (ps.drop (k + 1)) (cc || cb) = c) := Lib.hid (by
        rw [← HCO.out, drop_at G0.out]
        simp only [codeB]
        rw [if_pos (by simpa using g1), if_neg (by have := HO0.out; omega), HN.out, hcb])
      have X6 := Lib.hid (X4.out.below (HB6.out))
      clear hcb
      cases cc
      · rw [Bool.false_or] at HE
        go_wp2_with (first | (go_at_call 43; refine (coverQ_b _ n HN.out _).mono ?_; rintro e w7 ⟨rfl, rfl⟩) | (go_at_call 76; refine (holds_b base p _ _ _ _ _ m ls lv (pg + a % 16 * n) n _ X6.out V.out (by omega) (by omega) cb HCB.out).mono ?_; rintro e w8 ⟨rfl, hb8⟩; have HB8 := Lib.hid (thenB HB6.out hb8); clear hb8))
        go_roundw
        case rel => exact ⟨k + 1, cb, by omega, rfl, by go_num, HE.out, HB8.out⟩
        case measure => simp [intOf]; omega
      · rw [Bool.true_or] at HE
        go_wp2_with (first | (go_at_call 43; refine (coverQ_b _ n HN.out _).mono ?_; rintro e w7 ⟨rfl, rfl⟩))
        go_roundw
        case rel => exact ⟨k + 1, true, by omega, rfl, by go_num, HE.out, HB6.out⟩
        case measure => simp [intOf]; omega
end Go.Proofs.Ythphfcheencbgaa.Mmu
