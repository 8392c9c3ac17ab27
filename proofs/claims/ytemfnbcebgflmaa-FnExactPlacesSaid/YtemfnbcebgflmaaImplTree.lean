/- Walk of the program's tree. -/
import Derived.Test.YtemfnbcebgflmaaImplPlace2
import Derived.Test.YtemfnbcebgflmaaSeen
namespace Go.Proofs.Ytemfnbcebgflmaa.Mmu
open Go.RowKit Go.Maps Go.Proofs.Ytemfnbcebgflmaa.Base Go.Proofs.Ytemfnbcebgflmaa.Kinds Go.Proofs.Ytemfnbcebgflmaa.DecMath Go.Proofs.Ytemfnbcebgflmaa.L1
set_option linter.unusedVariables false
set_option linter.unusedSimpArgs false
/-- Some earlier place has the frame. -/
def seenP (ps : List SPlace) (n : Nat) (x : Int) : Bool := (ps.take n).any (fun q => decide (q.Frame = x))
theorem seen_succ {ps : List SPlace} {n : Nat} {p : SPlace} (h : ps[n]? = some p) (x : Int) : seenP ps (n + 1) x = (decide (x = p.Frame) || seenP ps n x) := by
  unfold seenP
  rw [List.take_add_one, h]
  simp only [Option.toList_some, List.any_append, List.any_cons, List.any_nil, Bool.or_false]
  rw [Bool.or_comm]
  congr 1
  simp [eq_comm]
theorem seen_fresh {ps : List SPlace} {n : Nat} {p : SPlace} (hn : n ≤ ps.length) (h : seenP ps n p.Frame = false) : freshP ps n n p := by
  intro j hj q hq e
  have hm : q ∈ ps.take n := List.mem_iff_getElem?.2 ⟨j, by rw [List.getElem?_take_of_lt hj]; exact hq⟩
  unfold seenP at h
  rw [List.any_eq_false] at h
  exact absurd (h q hm) (by simp [e])
theorem seen_not {ps : List SPlace} {n : Nat} {p : SPlace} (h : seenP ps n p.Frame = true) : ∃ j q, j < n ∧ ps[j]? = some q ∧ q.Frame = p.Frame := by
  unfold seenP at h
  rw [List.any_eq_true] at h
  obtain ⟨q, hm, he⟩ := h
  obtain ⟨j, hj⟩ := List.mem_iff_getElem?.1 hm
  have hjn : j < n := by
    have h2 := (List.getElem?_eq_some_iff.1 hj).1
    rw [List.length_take] at h2
    omega
  rw [List.getElem?_take_of_lt hjn] at hj
  exact ⟨j, q, hjn, hj, by simpa using he⟩
/-- The box of the memory and the map of what was seen. -/
structure TrB (w0 : World) (bm : Nat) (v0 : Value) (n : Nat) (fs : Int → Bool) (w : World) : Prop where
  le : w0.heap.size = bm
  b : Below w0.heap.size w0 w
  m : w.heap[bm]? = some (.cells #[v0] 50)
  s : Seen w (bm + 1) n fs
theorem TrB.below {w0 w w1 : World} {bm n : Nat} {v0 : Value} {fs : Int → Bool} (h : TrB w0 bm v0 n fs w) (hb : Below w.heap.size w w1) : TrB w0 bm v0 n fs w1 :=
  ⟨h.le, thenB h.b hb, (hb.block _ (Array.getElem?_eq_some_iff.1 h.m).1).trans h.m, h.s.below hb⟩
/-- The map has grown. -/
theorem TrB.put {w0 w w1 : World} {bm n n' : Nat} {v0 : Value} {fs fs' : Int → Bool} (h : TrB w0 bm v0 n fs w) (hs : Seen w1 (bm + 1) n' fs') (hg : w.grownBy w1 (some (bm + 1))) : TrB w0 bm v0 n' fs' w1 := by
  have hle := h.le
  refine ⟨h.le, h.b.trans ⟨hg.os, hg.tape, hg.output, hg.size, fun k hk => hg.block k (Nat.lt_of_lt_of_le hk h.b.size) (by simp only [ne_eq, Option.some.injEq]; omega)⟩, ?_, hs⟩
  exact (hg.block _ (Array.getElem?_eq_some_iff.1 h.m).1 (by simp only [ne_eq, Option.some.injEq]; omega)).trans h.m
set_option maxRecDepth 100000 in
set_option maxHeartbeats 8000000 in
theorem tree_any (v0 vp : Value) (ws : List Int) (ps : List SPlace) (w : World) (r : Rd wEnc 1 w v0 ws) (hw : WfW ws) (rp : Rd SPlace.enc 3 w vp ps) (hin : ∀ q ∈ ps, inP ws q) (hl : ps.length ≤ 1000) :
    Calls Try.prog 82 #[.agg #[v0], vp] w fun e w' => e = .returned (.bool (treeP ws ps)) ∧ Below w.heap.size w w' := by
  have hmm := @run_makeMap Try.prog
  have R := Lib.hid r
  have HW := Lib.hid hw
  have RP := Lib.hid rp
  have HIN := Lib.hid hin
  obtain ⟨A0, c0, e0, hc1, hc2⟩ := r.shape
  obtain ⟨A1, c1, e1, hd1, hd2⟩ := rp.shape
  subst e0 e1
  clear r hw rp hin
  go_enter Try.func82, Try.ntmps82
  go_upto_region 2 with fail
  have T1' : TrB w w.heap.size (.slice A0 ws.length c0) 0 (fun _ => false) ((w.alloc (.cells #[.slice A0 ws.length c0] 50)).alloc (.map #[] 0)) := by
    have h1 : Below w.heap.size w (w.alloc (.cells #[.slice A0 ws.length c0] 50)) := allocB (Below.refl _ _) _
    have h2 := seen_made (w.alloc (.cells #[.slice A0 ws.length c0] 50))
    have hz : (w.alloc (.cells #[.slice A0 ws.length c0] 50)).heap.size = w.heap.size + 1 := by simp
    rw [hz] at h2
    have h3 : Below (w.alloc (.cells #[.slice A0 ws.length c0] 50)).heap.size (w.alloc (.cells #[.slice A0 ws.length c0] 50)) ((w.alloc (.cells #[.slice A0 ws.length c0] 50)).alloc (.map #[] 0)) := allocB (Below.refl _ _) _
    exact ⟨rfl, thenB h1 h3, (h3.block _ (by rw [hz]; omega)).trans (heap_alloc_new w _), h2⟩
  have T1 := Lib.hid T1'
  clear T1'
  generalize (w.alloc (.cells #[.slice A0 ws.length c0] 50)).alloc (.map #[] 0) = w1 at *
  obtain ⟨bm, hbm⟩ : ∃ b, w.heap.size = b := ⟨_, rfl⟩
  rw [hbm] at T1 ⊢
  have HBM := Lib.hid hbm
  clear hbm
  go_wp2
  go_loopw [14] (fun v wr => ∃ i : Nat, i ≤ ps.length ∧ v = .int .i64 i ∧ treeTo ws ps i ∧ TrB w bm (.slice A0 ws.length c0) i (seenP ps i) wr) (fun v _ => ps.length - (intOf v).toNat)
  case atStart => exact ⟨0, by omega, rfl, fun i hi => by omega, T1.out⟩
  case round =>
    obtain ⟨i, hi, rfl, hto, t⟩ := hrel
    have HTO := Lib.hid hto
    have T2 := Lib.hid t
    clear hto t
    by_cases hlt : i < ps.length
    rotate_left
    · have hlt' : ¬ (i : Int) < (ps.length : Int) := by omega
      obtain rfl : i = ps.length := by omega
      have HTT := Lib.hid (tree_true HTO.out)
      go_wp2
      go_ret
      exact ⟨by rw [HTT.out]; rfl, T2.out.b⟩
    have hlt' : (i : Int) < (ps.length : Int) := by omega
    obtain ⟨ad, ⟨fr, lv, pg⟩, ea, g1, u0, u1, u2⟩ := SPlace.at (RP.out.below T2.out.b) hlt
    cases ea
    have G1 := Lib.hid g1
    have HPI := Lib.hid (HIN.out _ (List.mem_of_getElem? g1))
    clear g1
    go_upto_region 5 with fail
    have T3 := Lib.hid (T2.out.below (allocB (Below.refl _ _) (.cells #[.int .i64 fr, .int .i64 lv, .int .i64 pg] 116)))
    have x3 : (wr.alloc (.cells #[.int .i64 fr, .int .i64 lv, .int .i64 pg] 116)).heap[wr.heap.size]? = some (.cells #[.int .i64 fr, .int .i64 lv, .int .i64 pg] 116) := heap_alloc_new wr _
    have hsz := T2.out.s
    obtain ⟨D2, hD2, _⟩ := hsz
    have hlt2 := hD2.lt
    clear hD2 u0 u1 u2
    generalize wr.alloc (.cells #[.int .i64 fr, .int .i64 lv, .int .i64 pg] 116) = w3 at *
    obtain ⟨bp, hbp⟩ : ∃ b, wr.heap.size = b := ⟨_, rfl⟩
    rw [hbp] at x3 hlt2 ⊢
    have X3 := Lib.hid x3
    have hfr : 0 ≤ fr ∧ fr < 65536 := by
      have h1 := HPI.out.2.1
      have h2 := HW.out.2.2.2
      simp only at h1
      omega
    have hkw := key_wf hfr.1 hfr.2
    have p0 : w3.cell? ⟨bp, 0, none⟩ = some (.int .i64 fr) := by simp [World.cell?, x3]
    have HLK := Lib.hid (T3.out.s.look hkw)
    clear x3 hbp
    cases hsn : seenP ps i fr with
    | true =>
      obtain ⟨j, q, hj, hq, he⟩ := seen_not (p := ⟨fr, lv, pg⟩) hsn
      have HTF := Lib.hid (tree_not_fresh (ws := ws) G1.out hj hq he)
      rw [hsn] at HLK
      have hlk := HLK.out
      clear hsn hkw hq he
      go_wp2
      go_ret
      exact ⟨by rw [HTF.out]; rfl, T3.out.b⟩
    | false =>
      have HFR := Lib.hid (seen_fresh (p := ⟨fr, lv, pg⟩) hi hsn)
      rw [hsn] at HLK
      have hlk := HLK.out
      obtain ⟨w4, hup, hs4, hg4⟩ := T3.out.s.put hkw (by unfold maxLen; omega)
      have T4 := Lib.hid (T3.out.put hs4 hg4)
      have X4 : Hid (w4.heap[bp]? = some (.cells #[.int .i64 fr, .int .i64 lv, .int .i64 pg] 116)) := Lib.hid ((hg4.block _ (Array.getElem?_eq_some_iff.1 X3.out).1 (by simp only [ne_eq, Option.some.injEq]; omega)).trans X3.out)
      clear hsn hkw hs4 hg4
      go_upto_region 8 with fail
      have p1 : w4.cell? ⟨bp, 0, none⟩ = some (.int .i64 fr) := by simp [World.cell?, X4.out]
      have q1 : w4.cell? ⟨bm, 0, none⟩ = some (.slice A0 ws.length c0) := by simp [World.cell?, T4.out.m]
      have hf1 := HPI.out.2.1
      simp only at hf1
      clear hlk hup p0
      go_wp2_with (go_at_call 129; refine (table_any _ ws fr _ (R.out.below T4.out.b) HW.out hf1).mono ?_; rintro e w5 ⟨rfl, hb5⟩)
      have T5 := Lib.hid (T4.out.below hb5)
      have X5 : Hid (w5.heap[bp]? = some (.cells #[.int .i64 fr, .int .i64 lv, .int .i64 pg] 116)) := Lib.hid ((hb5.block _ (Array.getElem?_eq_some_iff.1 X4.out).1).trans X4.out)
      clear hb5 p1 q1
      go_loopw [29] (fun v wr => ∃ k : Nat, k ≤ 16 ∧ v = .int .i64 k ∧ wordsOk ws ⟨fr, lv, pg⟩ k ∧ Below w5.heap.size w5 wr) (fun v _ => 16 - (intOf v).toNat)
      case atStart => exact ⟨0, by omega, rfl, fun i hi => by omega, Below.refl _ _⟩
      case round =>
        obtain ⟨k, hk, rfl, hwo, hb⟩ := hrel
        have T6 := Lib.hid (T5.out.below hb)
        have HB6 := Lib.hid hb
        have HWO := Lib.hid hwo
        clear hwo hb
        by_cases hkt : k < 16
        rotate_left
        · have hkt' : ¬ (k : Int) < 16 := by omega
          obtain rfl : k = 16 := by omega
          go_wp2
          go_roundw
          case rel =>
            refine ⟨i + 1, by omega, by go_num, tree_step HTO.out G1.out HFR.out HWO.out, ?_⟩
            have hse : seenP ps (i + 1) = fun y => decide (y = fr) || seenP ps i y := funext fun y => seen_succ G1.out y
            rw [hse]
            exact T6.out
          case measure => simp [intOf]; omega
        have hkt' : (k : Int) < 16 := by omega
        obtain ⟨aw, cw, hv, hcw1, hcw2, hcell, hx0, hx1, hax⟩ := wordP_at R.out HW.out fr k hf1 (by omega)
        simp only [Value.slice.injEq] at hv
        obtain ⟨rfl, _, rfl⟩ := hv
        obtain ⟨x, hx⟩ : ∃ x, wordP ws fr k = x := ⟨_, rfl⟩
        have HIX := Lib.hid (index_tab hkt hx)
        rw [hx] at hcell hx0 hx1
        have HX := Lib.hid hx
        have x6 := Lib.hid ((T6.out.b).size)
        have hb6 : Hid (wr.heap[bp]? = some (.cells #[.int .i64 fr, .int .i64 lv, .int .i64 pg] 116)) := Lib.hid ((HB6.out.block _ (Array.getElem?_eq_some_iff.1 X5.out).1).trans X5.out)
        have p1 : wr.cell? ⟨bp, 1, none⟩ = some (.int .i64 lv) := by simp [World.cell?, hb6.out]
        have q1 : wr.cell? ⟨bm, 0, none⟩ = some (.slice (some aw) ws.length c0) := by simp [World.cell?, T6.out.m]
        obtain ⟨kd, hkd⟩ : ∃ c, (dec lv x).1 = c := ⟨_, rfl⟩
        have HKD := Lib.hid hkd
        clear hx hkd hcell
        by_cases h4 : kd = 4
        · have HTF := Lib.hid (tree_not_word (ws := ws) G1.out hkt (by simp only [HX.out]; unfold wordOk; rw [HKD.out]; exact fun h => h.1 h4))
          subst h4
          go_wp2
          rw [HIX.out]
          go_wp2_with (go_at_call 58; refine (kindOf_any _ _ _ hx0 hx1).mono ?_; rw [HKD.out]; rintro e w' ⟨rfl, rfl⟩)
          go_ret
          exact ⟨by rw [HTF.out]; rfl, T6.out.b⟩
        have hd4 : (kd == 4) = false := by simpa using h4
        by_cases h1 : kd = 1
        rotate_left
        · have hd1 : (kd == 1) = false := by simpa using h1
          have HWN := Lib.hid (words_step HWO.out (by simp only [HX.out]; unfold wordOk; rw [HKD.out]; exact ⟨h4, fun h => absurd h h1⟩))
          clear h1 h4
          go_wp2
          rw [HIX.out]
          go_wp2_with (go_at_call 58; refine (kindOf_any _ _ _ hx0 hx1).mono ?_; rw [HKD.out]; rintro e w' ⟨rfl, rfl⟩)
          go_roundw
          case rel => exact ⟨k + 1, by omega, by go_num, HWN.out, HB6.out⟩
          case measure => simp [intOf]; omega
        clear h4 hd4
        subst h1
        obtain ⟨ch, hch⟩ : ∃ c, childP ws.length lv x = c := ⟨_, rfl⟩
        have HCH := Lib.hid hch
        clear hch
        by_cases ht : (dec lv x).2.1 < ((ws.length / 16 : Nat) : Int)
        · have hch0 : ch = (dec lv x).2.1 := by rw [← HCH.out]; exact if_pos ⟨HKD.out, ht⟩
          have hdc : decide (ch < 0) = false := by have := (dec_out lv x).1; simp; omega
          have HWN := Lib.hid (words_step HWO.out (by simp only [HX.out]; unfold wordOk; rw [HKD.out]; exact ⟨by decide, fun _ => ht⟩))
          clear ht hch0
          go_wp2
          rw [HIX.out]
          go_wp2_with (first | (go_at_call 58; refine (kindOf_any _ _ _ hx0 hx1).mono ?_; rw [HKD.out]; rintro e w' ⟨rfl, rfl⟩) | (go_at_call 130; refine (child_any (some aw) ws.length c0 lv x _ hc1 hc2 hx0 hx1).mono ?_; rw [HCH.out]; rintro e w7 ⟨rfl, hb7⟩))
          go_roundw
          case rel => exact ⟨k + 1, by omega, by go_num, HWN.out, thenB HB6.out hb7⟩
          case measure => simp [intOf]; omega
        · have hch0 : ch = -1 := by rw [← HCH.out]; exact if_neg fun h => ht h.2
          have HTF := Lib.hid (tree_not_word (ws := ws) G1.out hkt (by simp only [HX.out]; unfold wordOk; rw [HKD.out]; exact fun h => ht (h.2 rfl)))
          have hdc : decide (ch < 0) = true := by rw [hch0]; rfl
          clear ht hch0
          go_wp2
          rw [HIX.out]
          go_wp2_with (first | (go_at_call 58; refine (kindOf_any _ _ _ hx0 hx1).mono ?_; rw [HKD.out]; rintro e w' ⟨rfl, rfl⟩) | (go_at_call 130; refine (child_any (some aw) ws.length c0 lv x _ hc1 hc2 hx0 hx1).mono ?_; rw [HCH.out]; rintro e w7 ⟨rfl, hb7⟩))
          go_ret
          exact ⟨by rw [HTF.out]; rfl, thenB T6.out.b hb7⟩
end Go.Proofs.Ytemfnbcebgflmaa.Mmu
