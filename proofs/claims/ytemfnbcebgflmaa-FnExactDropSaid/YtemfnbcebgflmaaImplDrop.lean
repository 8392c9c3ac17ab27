/- Walk of the program's Drop. -/
import Derived.Test.YtemfnbcebgflmaaMachine
import Derived.Test.YtemfnbcebgflmaaImplMach2
import Derived.Test.YtemfnbcebgflmaaRegionF
namespace Go.Proofs.Ytemfnbcebgflmaa.Mmu
open Go.RowKit Go.Proofs.Ytemfnbcebgflmaa.Base Go.Proofs.Ytemfnbcebgflmaa.Kinds Go.Proofs.Ytemfnbcebgflmaa.DecMath Go.Proofs.Ytemfnbcebgflmaa.L1
set_option linter.unusedVariables false
set_option linter.unusedSimpArgs false
theorem ownLit {α : Type} {enc : α → List Value} {sz E base : Nat} {w : World} {v : Value} {l : List α} (o : Own enc sz E base w v l) : l ≠ [] → ∃ g c, v = .slice (some ⟨g, 0, none⟩) l.length c := by
  intro h
  rcases o.2 with ⟨_, h0⟩ | ⟨g, cap, cur, hv, _⟩
  · exact absurd (List.length_eq_zero_iff.1 h0) h
  · exact ⟨g, cap, hv⟩
set_option maxRecDepth 100000 in
set_option maxHeartbeats 4000000 in
theorem implDrop_any (v0 v1 v2 v3 : Value) (m : SM) (which i : Int) (w : World) (r : RdM w v0 v1 v2 v3 m) :
    Calls Try.prog 48 #[.agg #[v0, v1, v2, v3], .int .i64 which, .int .i64 i] w fun e w' => ∃ u0 u1 u2 u3, e = .returned (.agg #[u0, u1, u2, u3]) ∧ OwnM w.heap.size w' u0 u1 u2 u3 (dropS m which i) ∧ Below w.heap.size w w' := by
  obtain ⟨A0, c0, A1, c1, A2, c2, A3, c3, rfl, rfl, rfl, rfl, hl0, hk0, hl1, hk1, hl2, hk2, hl3, hk3⟩ := r.shape
  have R := Lib.hid r
  clear r
  by_cases hv : Valid m
  rotate_left
  · have HV : Hid (decide (Valid m) = false) := Lib.hid (decide_eq_false hv)
    have HD : Hid (dropS m which i = ⟨[], [], [], []⟩) := Lib.hid (if_neg hv)
    clear hv
    go_enter Try.func48, Try.ntmps48
    go_wp2_with (first | (go_at_call 94; refine (machineOK_any _ _ _ _ m _ (R.out.below (allocB (allocB (Below.refl _ _) _) _))).mono ?_; rw [HV.out]; rintro e w1 ⟨rfl, hb1⟩; have HB1 := Lib.hid (thenB (allocB (allocB (Below.refl w.heap.size w) _) _) hb1); have z0 : w1.cell? ⟨w.heap.size + 1, 0, none⟩ = some (.slice none 0 0) := (hb1.cell (by simp)).trans (by go_simp); have g0 : w1.frozen? ⟨w.heap.size + 1, 0, none⟩ = false := (hb1.frozen (by simp)).trans (by go_simp); have z1 : w1.cell? ⟨w.heap.size + 1, 1, none⟩ = some (.slice none 0 0) := (hb1.cell (by simp)).trans (by go_simp); have g1 : w1.frozen? ⟨w.heap.size + 1, 1, none⟩ = false := (hb1.frozen (by simp)).trans (by go_simp); have z2 : w1.cell? ⟨w.heap.size + 1, 2, none⟩ = some (.slice none 0 0) := (hb1.cell (by simp)).trans (by go_simp); have g2 : w1.frozen? ⟨w.heap.size + 1, 2, none⟩ = false := (hb1.frozen (by simp)).trans (by go_simp); have z3 : w1.cell? ⟨w.heap.size + 1, 3, none⟩ = some (.slice none 0 0) := (hb1.cell (by simp)).trans (by go_simp); have g3 : w1.frozen? ⟨w.heap.size + 1, 3, none⟩ = false := (hb1.frozen (by simp)).trans (by go_simp); clear hb1))
    refine bodyPost_ret (v := .agg #[.slice none 0 0, .slice none 0 0, .slice none 0 0, .slice none 0 0]) (by simp [results, Try.results48, go_sem, *]) rfl ⟨_, _, _, _, rfl, by rw [HD.out]; exact ⟨Own.nil _ _ _ _ _, Own.nil _ _ _ _ _, Own.nil _ _ _ _ _, Own.nil _ _ _ _ _⟩, ?_⟩
    repeat (refine Below.setCell ?_ (by simp) _)
    exact HB1.out
  have HV : Hid (decide (Valid m) = true) := Lib.hid (decide_eq_true hv)
  have V := Lib.hid hv
  have HD : Hid (dropS m which i = { m with tlb := dropIf (decide (which = 0)) m.tlb i, wc := dropIf (decide (which = 1)) m.wc i }) := Lib.hid (if_pos hv)
  have n2 : m.tlb.length ≤ 256 := hv.ntlb
  have n3 : m.wc.length ≤ 256 := hv.nwc
  have hbl : m.ws.length ≤ 1048576 ∧ m.pend.length ≤ 1048576 := by have := hv.frames; have := hv.npend; omega
  obtain ⟨n0, n1⟩ := hbl
  have HL : Hid ((dropS m which i).ws.length ≤ 1048576 ∧ (dropS m which i).pend.length ≤ 1048576 ∧ (dropS m which i).tlb.length ≤ 1048576 ∧ (dropS m which i).wc.length ≤ 1048576) := Lib.hid (by
    rw [HD.out]
    have h1 := dropIf_len (decide (which = 0)) m.tlb i
    have h2 := dropIf_len (decide (which = 1)) m.wc i
    simp only
    omega)
  clear hv
  by_cases hw0 : which = 0
  rotate_left
  · by_cases hw1 : which = 1
    rotate_left
    · have HDM : Hid (dropS m which i = m) := Lib.hid (by rw [HD.out]; simp [dropIf, hw0, hw1])
      have hb0 : (which == 0) = false := by simpa using hw0
      have hb1' : (which == 1) = false := by simpa using hw1
      clear hw0 hw1
      go_enter Try.func48, Try.ntmps48
      go_upto_region 9 with (first
        | (go_at_call 94; refine (machineOK_any _ _ _ _ m _ (R.out.below (allocB (allocB (Below.refl _ _) _) _))).mono ?_; rw [HV.out]; rintro e w1 ⟨rfl, hb1⟩; have HB1 := Lib.hid (thenB (allocB (allocB (Below.refl w.heap.size w) _) _) hb1); have y0 : w1.cell? ⟨w.heap.size, 0, none⟩ = some (.slice A0 m.ws.length c0) := (hb1.cell (by simp <;> omega)).trans (by go_simp); have y1 : w1.cell? ⟨w.heap.size, 1, none⟩ = some (.slice A1 m.pend.length c1) := (hb1.cell (by simp <;> omega)).trans (by go_simp); have y2 : w1.cell? ⟨w.heap.size, 2, none⟩ = some (.slice A2 m.tlb.length c2) := (hb1.cell (by simp <;> omega)).trans (by go_simp); have y3 : w1.cell? ⟨w.heap.size, 3, none⟩ = some (.slice A3 m.wc.length c3) := (hb1.cell (by simp <;> omega)).trans (by go_simp); have z0 : w1.cell? ⟨w.heap.size + 1, 0, none⟩ = some (.slice none 0 0) := (hb1.cell (by simp)).trans (by go_simp); have g0 : w1.frozen? ⟨w.heap.size + 1, 0, none⟩ = false := (hb1.frozen (by simp)).trans (by go_simp); have z1 : w1.cell? ⟨w.heap.size + 1, 1, none⟩ = some (.slice none 0 0) := (hb1.cell (by simp)).trans (by go_simp); have g1 : w1.frozen? ⟨w.heap.size + 1, 1, none⟩ = false := (hb1.frozen (by simp)).trans (by go_simp); have z2 : w1.cell? ⟨w.heap.size + 1, 2, none⟩ = some (.slice none 0 0) := (hb1.cell (by simp)).trans (by go_simp); have g2 : w1.frozen? ⟨w.heap.size + 1, 2, none⟩ = false := (hb1.frozen (by simp)).trans (by go_simp); have z3 : w1.cell? ⟨w.heap.size + 1, 3, none⟩ = some (.slice none 0 0) := (hb1.cell (by simp)).trans (by go_simp); have g3 : w1.frozen? ⟨w.heap.size + 1, 3, none⟩ = false := (hb1.frozen (by simp)).trans (by go_simp); clear hb1)
        | (go_at_call 95; refine (machOf_any _ _ _ _ m _ (R.out.below HB1.out) V.out).mono ?_; rintro e w2 ⟨p, u0, u1, u2, u3, u4, rfl, hX, hb2⟩; have HX := Lib.hid hX; have HB2 := Lib.hid hb2; clear hX hb2))
      have hz1 : w.heap.size + 1 < w1.heap.size := World.block_lt_of_cell? _ _ z0
      have Z0 := Lib.hid ((HB2.out.cell hz1).trans z0)
      have G0 := Lib.hid ((HB2.out.frozen hz1).trans g0)
      have Z1 := Lib.hid ((HB2.out.cell hz1).trans z1)
      have G1 := Lib.hid ((HB2.out.frozen hz1).trans g1)
      have Z2 := Lib.hid ((HB2.out.cell hz1).trans z2)
      have G2 := Lib.hid ((HB2.out.frozen hz1).trans g2)
      have Z3 := Lib.hid ((HB2.out.cell hz1).trans z3)
      have G3 := Lib.hid ((HB2.out.frozen hz1).trans g3)
      have hz2 : w.heap.size + 1 < w2.heap.size := Nat.lt_of_lt_of_le hz1 HB2.out.size
      have HBW := Lib.hid (thenB HB1.out HB2.out)
      clear y0 y1 y2 y3 z0 z1 z2 z3 g0 g1 g2 g3
      have RX := Lib.hid (OwnX.rd HX.out)
      have HBM := HBW
      have hzm := hz2
      have HLM : Hid (m.ws.length ≤ 1048576 ∧ m.pend.length ≤ 1048576 ∧ m.tlb.length ≤ 1048576 ∧ m.wc.length ≤ 1048576) := Lib.hid (by omega)
      have ZM0 := Z0
      have GM0 := G0
      have ZM1 := Z1
      have GM1 := G1
      have ZM2 := Z2
      have GM2 := G2
      have ZM3 := Z3
      have GM3 := G3
      go_wp2_with (first | (go_at_call 104; refine (machine_any p _ _ _ _ _ _ _ RX.out HLM.out).mono ?_; rintro e w9 ⟨q0, q1, q2, q3, rfl, o9, hb9⟩; obtain ⟨B0, d0, B1, d1, B2, d2, B3, d3, rfl, rfl, rfl, rfl⟩ := o9.shape; have a0 := (hb9.cell hzm).trans ZM0.out; have b0 := (hb9.frozen hzm).trans GM0.out; have a1 := (hb9.cell hzm).trans ZM1.out; have b1 := (hb9.frozen hzm).trans GM1.out; have a2 := (hb9.cell hzm).trans ZM2.out; have b2 := (hb9.frozen hzm).trans GM2.out; have a3 := (hb9.cell hzm).trans ZM3.out; have b3 := (hb9.frozen hzm).trans GM3.out; have O9 := Lib.hid o9; have HB9 := Lib.hid hb9; clear o9 hb9))
      refine bodyPost_ret (v := .agg #[.slice B0 m.ws.length d0, .slice B1 m.pend.length d1, .slice B2 m.tlb.length d2, .slice B3 m.wc.length d3]) (by simp [results, Try.results48, go_sem, *]) rfl ⟨_, _, _, _, rfl, ?_, ?_⟩
      · rw [HDM.out]
        refine OwnM.lower (base := w2.heap.size) ?_ HBM.out.size
        exact OwnM.setBelow (OwnM.setBelow (OwnM.setBelow (OwnM.setBelow O9.out hzm _) hzm _) hzm _) hzm _
      · exact Below.setCell (Below.setCell (Below.setCell (Below.setCell (thenB HBM.out HB9.out) (Nat.le_succ _) _) (Nat.le_succ _) _) (Nat.le_succ _) _) (Nat.le_succ _) _
    have HDM : Hid (dropS m which i = { m with wc := dropAt m.wc i }) := Lib.hid (by rw [HD.out]; simp [dropIf, hw1])
    have hb0 : (which == 0) = false := by simpa using hw0
    have hb1' : (which == 1) = true := by simpa using hw1
    clear hw0 hw1
    go_enter Try.func48, Try.ntmps48
    go_upto_region 8 with (first
      | (go_at_call 94; refine (machineOK_any _ _ _ _ m _ (R.out.below (allocB (allocB (Below.refl _ _) _) _))).mono ?_; rw [HV.out]; rintro e w1 ⟨rfl, hb1⟩; have HB1 := Lib.hid (thenB (allocB (allocB (Below.refl w.heap.size w) _) _) hb1); have y0 : w1.cell? ⟨w.heap.size, 0, none⟩ = some (.slice A0 m.ws.length c0) := (hb1.cell (by simp <;> omega)).trans (by go_simp); have y1 : w1.cell? ⟨w.heap.size, 1, none⟩ = some (.slice A1 m.pend.length c1) := (hb1.cell (by simp <;> omega)).trans (by go_simp); have y2 : w1.cell? ⟨w.heap.size, 2, none⟩ = some (.slice A2 m.tlb.length c2) := (hb1.cell (by simp <;> omega)).trans (by go_simp); have y3 : w1.cell? ⟨w.heap.size, 3, none⟩ = some (.slice A3 m.wc.length c3) := (hb1.cell (by simp <;> omega)).trans (by go_simp); have z0 : w1.cell? ⟨w.heap.size + 1, 0, none⟩ = some (.slice none 0 0) := (hb1.cell (by simp)).trans (by go_simp); have g0 : w1.frozen? ⟨w.heap.size + 1, 0, none⟩ = false := (hb1.frozen (by simp)).trans (by go_simp); have z1 : w1.cell? ⟨w.heap.size + 1, 1, none⟩ = some (.slice none 0 0) := (hb1.cell (by simp)).trans (by go_simp); have g1 : w1.frozen? ⟨w.heap.size + 1, 1, none⟩ = false := (hb1.frozen (by simp)).trans (by go_simp); have z2 : w1.cell? ⟨w.heap.size + 1, 2, none⟩ = some (.slice none 0 0) := (hb1.cell (by simp)).trans (by go_simp); have g2 : w1.frozen? ⟨w.heap.size + 1, 2, none⟩ = false := (hb1.frozen (by simp)).trans (by go_simp); have z3 : w1.cell? ⟨w.heap.size + 1, 3, none⟩ = some (.slice none 0 0) := (hb1.cell (by simp)).trans (by go_simp); have g3 : w1.frozen? ⟨w.heap.size + 1, 3, none⟩ = false := (hb1.frozen (by simp)).trans (by go_simp); clear hb1)
      | (go_at_call 95; refine (machOf_any _ _ _ _ m _ (R.out.below HB1.out) V.out).mono ?_; rintro e w2 ⟨p, u0, u1, u2, u3, u4, rfl, hX, hb2⟩; have HX := Lib.hid hX; have HB2 := Lib.hid hb2; clear hX hb2))
    have hz1 : w.heap.size + 1 < w1.heap.size := World.block_lt_of_cell? _ _ z0
    have Z0 := Lib.hid ((HB2.out.cell hz1).trans z0)
    have G0 := Lib.hid ((HB2.out.frozen hz1).trans g0)
    have Z1 := Lib.hid ((HB2.out.cell hz1).trans z1)
    have G1 := Lib.hid ((HB2.out.frozen hz1).trans g1)
    have Z2 := Lib.hid ((HB2.out.cell hz1).trans z2)
    have G2 := Lib.hid ((HB2.out.frozen hz1).trans g2)
    have Z3 := Lib.hid ((HB2.out.cell hz1).trans z3)
    have G3 := Lib.hid ((HB2.out.frozen hz1).trans g3)
    have hz2 : w.heap.size + 1 < w2.heap.size := Nat.lt_of_lt_of_le hz1 HB2.out.size
    have HBW := Lib.hid (thenB HB1.out HB2.out)
    clear y0 y1 y2 y3 z0 z1 z2 z3 g0 g1 g2 g3
    have f3 : w2.cell? ⟨p, 4, none⟩ = some u4 := HX.out.cell.2.2.2.2
    have hpz : w1.heap.size ≤ p := HX.out.low
    obtain ⟨A5, c5, e5⟩ := HX.out.wc.shape
    subst e5
    go_upto_region 9 with (first | (go_at_call 103; refine (withoutS_any _ m.wc i _ ((OwnX.rd HX.out).wc) (by omega) (ownLit HX.out.wc)).mono ?_; rintro e w6 ⟨v', rfl, r6, hv6, hb6⟩; obtain ⟨A6, c6, rfl, _, _⟩ := id r6.shape; have f6 := (HX.out.below hb6).cell.2.2.2.2; have f7 := (HX.out.below hb6).frozen 4; have R6 := Lib.hid r6; have HV6 := Lib.hid hv6; have HB6 := Lib.hid hb6; clear r6 hv6 hb6))
    have r6 := R6.out
    have hv6 := HV6.out
    have hb6 := HB6.out
    have hb26 : Below w2.heap.size w2 w6 := hb6
    have hX6 := HX.out.below hb26
    have hpw : p < w2.heap.size := HX.out.lt
    have W1 : Within p (p + 1) w6 (w6.setCell ⟨p, 4, none⟩ (.slice A6 (dropAt m.wc i).length c6)) := ⟨rfl, rfl, rfl, by simp, fun k hk hr => Below.heap_setCell _ _ _ _ (by show k ≠ p; omega)⟩
    have nb : ∀ {v : Value}, some p ≠ v.ownBlock → ∀ k, v.ownBlock = some k → k < p ∨ p + 1 ≤ k := fun h k e => by have : k ≠ p := fun q => h (by rw [e, q]); omega
    have rN : Rd stepEnc 5 (w6.setCell ⟨p, 4, none⟩ (.slice A6 (dropAt m.wc i).length c6)) (.slice A6 (dropAt m.wc i).length c6) (dropAt m.wc i) := r6.within W1 (fun k e => by
      have hne : k ≠ p := by
        rcases hv6 k e with h | h
        · exact fun q => HX.out.off HX.out.wc (by decide) (by rw [h, q])
        · have h2 : w2.heap.size ≤ k := h
          omega
      omega)
    have k0 : (w6.setCell ⟨p, 4, none⟩ (.slice A6 (dropAt m.wc i).length c6)).heap[p]? = _ := box_set hX6.box 4 _
    have RX0 : RdX (w6.setCell ⟨p, 4, none⟩ (.slice A6 (dropAt m.wc i).length c6)) p u0 u1 u2 u3 (.slice A6 (dropAt m.wc i).length c6) { m with wc := dropAt m.wc i } := ⟨(by simp [World.cell?, k0]), (by simp [World.cell?, k0]), (by simp [World.cell?, k0]), (by simp [World.cell?, k0]), ((hX6.ws.rd wLen).within W1 (nb (hX6.off hX6.ws (by decide)))), ((hX6.pend.rd SWrite.len).within W1 (nb (hX6.off hX6.pend (by decide)))), ((hX6.tlb.rd wholeLen).within W1 (nb (hX6.off hX6.tlb (by decide)))), rN⟩
    have hzp : p ≠ w.heap.size + 1 := by omega
    have zm0 : (w6.setCell ⟨p, 4, none⟩ (.slice A6 (dropAt m.wc i).length c6)).cell? ⟨w.heap.size + 1, 0, none⟩ = some (.slice none 0 0) := (World.cell?_of_block (Below.heap_setCell _ _ _ _ (by show w.heap.size + 1 ≠ p; omega))).trans ((hb26.cell hz2).trans Z0.out)
    have gm0 : (w6.setCell ⟨p, 4, none⟩ (.slice A6 (dropAt m.wc i).length c6)).frozen? ⟨w.heap.size + 1, 0, none⟩ = false := (World.frozen?_of_block (Below.heap_setCell _ _ _ _ (by show w.heap.size + 1 ≠ p; omega))).trans ((hb26.frozen hz2).trans G0.out)
    have zm1 : (w6.setCell ⟨p, 4, none⟩ (.slice A6 (dropAt m.wc i).length c6)).cell? ⟨w.heap.size + 1, 1, none⟩ = some (.slice none 0 0) := (World.cell?_of_block (Below.heap_setCell _ _ _ _ (by show w.heap.size + 1 ≠ p; omega))).trans ((hb26.cell hz2).trans Z1.out)
    have gm1 : (w6.setCell ⟨p, 4, none⟩ (.slice A6 (dropAt m.wc i).length c6)).frozen? ⟨w.heap.size + 1, 1, none⟩ = false := (World.frozen?_of_block (Below.heap_setCell _ _ _ _ (by show w.heap.size + 1 ≠ p; omega))).trans ((hb26.frozen hz2).trans G1.out)
    have zm2 : (w6.setCell ⟨p, 4, none⟩ (.slice A6 (dropAt m.wc i).length c6)).cell? ⟨w.heap.size + 1, 2, none⟩ = some (.slice none 0 0) := (World.cell?_of_block (Below.heap_setCell _ _ _ _ (by show w.heap.size + 1 ≠ p; omega))).trans ((hb26.cell hz2).trans Z2.out)
    have gm2 : (w6.setCell ⟨p, 4, none⟩ (.slice A6 (dropAt m.wc i).length c6)).frozen? ⟨w.heap.size + 1, 2, none⟩ = false := (World.frozen?_of_block (Below.heap_setCell _ _ _ _ (by show w.heap.size + 1 ≠ p; omega))).trans ((hb26.frozen hz2).trans G2.out)
    have zm3 : (w6.setCell ⟨p, 4, none⟩ (.slice A6 (dropAt m.wc i).length c6)).cell? ⟨w.heap.size + 1, 3, none⟩ = some (.slice none 0 0) := (World.cell?_of_block (Below.heap_setCell _ _ _ _ (by show w.heap.size + 1 ≠ p; omega))).trans ((hb26.cell hz2).trans Z3.out)
    have gm3 : (w6.setCell ⟨p, 4, none⟩ (.slice A6 (dropAt m.wc i).length c6)).frozen? ⟨w.heap.size + 1, 3, none⟩ = false := (World.frozen?_of_block (Below.heap_setCell _ _ _ _ (by show w.heap.size + 1 ≠ p; omega))).trans ((hb26.frozen hz2).trans G3.out)
    have hbm : Below w.heap.size w (w6.setCell ⟨p, 4, none⟩ (.slice A6 (dropAt m.wc i).length c6)) := (thenB HBW.out hb26).setCell (by show w.heap.size ≤ p; omega) _
    have hzm : w.heap.size + 1 < (w6.setCell ⟨p, 4, none⟩ (.slice A6 (dropAt m.wc i).length c6)).heap.size := World.block_lt_of_cell? _ _ zm0
    have RX := Lib.hid RX0
    have HBM := Lib.hid hbm
    have ZM0 := Lib.hid zm0
    have GM0 := Lib.hid gm0
    have ZM1 := Lib.hid zm1
    have GM1 := Lib.hid gm1
    have ZM2 := Lib.hid zm2
    have GM2 := Lib.hid gm2
    have ZM3 := Lib.hid zm3
    have GM3 := Lib.hid gm3
    have HLM := HL
    rw [HDM.out] at HLM
    clear zm0 zm1 zm2 zm3 gm0 gm1 gm2 gm3 hbm RX0 k0 rN W1 f6 f7 hX6 r6 hv6 hb6 hb26 f3
    generalize (w6.setCell ⟨p, 4, none⟩ (.slice A6 (dropAt m.wc i).length c6)) = wm at *
    go_wp2_with (first | (go_at_call 104; refine (machine_any p _ _ _ _ _ _ _ RX.out HLM.out).mono ?_; rintro e w9 ⟨q0, q1, q2, q3, rfl, o9, hb9⟩; obtain ⟨B0, d0, B1, d1, B2, d2, B3, d3, rfl, rfl, rfl, rfl⟩ := o9.shape; have a0 := (hb9.cell hzm).trans ZM0.out; have b0 := (hb9.frozen hzm).trans GM0.out; have a1 := (hb9.cell hzm).trans ZM1.out; have b1 := (hb9.frozen hzm).trans GM1.out; have a2 := (hb9.cell hzm).trans ZM2.out; have b2 := (hb9.frozen hzm).trans GM2.out; have a3 := (hb9.cell hzm).trans ZM3.out; have b3 := (hb9.frozen hzm).trans GM3.out; have O9 := Lib.hid o9; have HB9 := Lib.hid hb9; clear o9 hb9))
    refine bodyPost_ret (v := .agg #[.slice B0 m.ws.length d0, .slice B1 m.pend.length d1, .slice B2 m.tlb.length d2, .slice B3 (dropAt m.wc i).length d3]) (by simp [results, Try.results48, go_sem, *]) rfl ⟨_, _, _, _, rfl, ?_, ?_⟩
    · rw [HDM.out]
      refine OwnM.lower (base := wm.heap.size) ?_ HBM.out.size
      exact OwnM.setBelow (OwnM.setBelow (OwnM.setBelow (OwnM.setBelow O9.out hzm _) hzm _) hzm _) hzm _
    · exact Below.setCell (Below.setCell (Below.setCell (Below.setCell (thenB HBM.out HB9.out) (Nat.le_succ _) _) (Nat.le_succ _) _) (Nat.le_succ _) _) (Nat.le_succ _) _
  have HDM : Hid (dropS m which i = { m with tlb := dropAt m.tlb i }) := Lib.hid (by rw [HD.out]; simp [dropIf, hw0])
  have hb0 : (which == 0) = true := by simpa using hw0
  clear hw0
  go_enter Try.func48, Try.ntmps48
  go_upto_region 6 with (first
    | (go_at_call 94; refine (machineOK_any _ _ _ _ m _ (R.out.below (allocB (allocB (Below.refl _ _) _) _))).mono ?_; rw [HV.out]; rintro e w1 ⟨rfl, hb1⟩; have HB1 := Lib.hid (thenB (allocB (allocB (Below.refl w.heap.size w) _) _) hb1); have y0 : w1.cell? ⟨w.heap.size, 0, none⟩ = some (.slice A0 m.ws.length c0) := (hb1.cell (by simp <;> omega)).trans (by go_simp); have y1 : w1.cell? ⟨w.heap.size, 1, none⟩ = some (.slice A1 m.pend.length c1) := (hb1.cell (by simp <;> omega)).trans (by go_simp); have y2 : w1.cell? ⟨w.heap.size, 2, none⟩ = some (.slice A2 m.tlb.length c2) := (hb1.cell (by simp <;> omega)).trans (by go_simp); have y3 : w1.cell? ⟨w.heap.size, 3, none⟩ = some (.slice A3 m.wc.length c3) := (hb1.cell (by simp <;> omega)).trans (by go_simp); have z0 : w1.cell? ⟨w.heap.size + 1, 0, none⟩ = some (.slice none 0 0) := (hb1.cell (by simp)).trans (by go_simp); have g0 : w1.frozen? ⟨w.heap.size + 1, 0, none⟩ = false := (hb1.frozen (by simp)).trans (by go_simp); have z1 : w1.cell? ⟨w.heap.size + 1, 1, none⟩ = some (.slice none 0 0) := (hb1.cell (by simp)).trans (by go_simp); have g1 : w1.frozen? ⟨w.heap.size + 1, 1, none⟩ = false := (hb1.frozen (by simp)).trans (by go_simp); have z2 : w1.cell? ⟨w.heap.size + 1, 2, none⟩ = some (.slice none 0 0) := (hb1.cell (by simp)).trans (by go_simp); have g2 : w1.frozen? ⟨w.heap.size + 1, 2, none⟩ = false := (hb1.frozen (by simp)).trans (by go_simp); have z3 : w1.cell? ⟨w.heap.size + 1, 3, none⟩ = some (.slice none 0 0) := (hb1.cell (by simp)).trans (by go_simp); have g3 : w1.frozen? ⟨w.heap.size + 1, 3, none⟩ = false := (hb1.frozen (by simp)).trans (by go_simp); clear hb1)
    | (go_at_call 95; refine (machOf_any _ _ _ _ m _ (R.out.below HB1.out) V.out).mono ?_; rintro e w2 ⟨p, u0, u1, u2, u3, u4, rfl, hX, hb2⟩; have HX := Lib.hid hX; have HB2 := Lib.hid hb2; clear hX hb2))
  have hz1 : w.heap.size + 1 < w1.heap.size := World.block_lt_of_cell? _ _ z0
  have Z0 := Lib.hid ((HB2.out.cell hz1).trans z0)
  have G0 := Lib.hid ((HB2.out.frozen hz1).trans g0)
  have Z1 := Lib.hid ((HB2.out.cell hz1).trans z1)
  have G1 := Lib.hid ((HB2.out.frozen hz1).trans g1)
  have Z2 := Lib.hid ((HB2.out.cell hz1).trans z2)
  have G2 := Lib.hid ((HB2.out.frozen hz1).trans g2)
  have Z3 := Lib.hid ((HB2.out.cell hz1).trans z3)
  have G3 := Lib.hid ((HB2.out.frozen hz1).trans g3)
  have hz2 : w.heap.size + 1 < w2.heap.size := Nat.lt_of_lt_of_le hz1 HB2.out.size
  have HBW := Lib.hid (thenB HB1.out HB2.out)
  clear y0 y1 y2 y3 z0 z1 z2 z3 g0 g1 g2 g3
  have f3 : w2.cell? ⟨p, 3, none⟩ = some u3 := HX.out.cell.2.2.2.1
  have hpz : w1.heap.size ≤ p := HX.out.low
  obtain ⟨A5, c5, e5⟩ := HX.out.tlb.shape
  subst e5
  go_upto_region 9 with (first | (go_at_call 102; refine (withoutW_any _ m.tlb i _ ((OwnX.rd HX.out).tlb) (by omega) (ownLit HX.out.tlb)).mono ?_; rintro e w6 ⟨v', rfl, r6, hv6, hb6⟩; obtain ⟨A6, c6, rfl, _, _⟩ := id r6.shape; have f6 := (HX.out.below hb6).cell.2.2.2.1; have f7 := (HX.out.below hb6).frozen 3; have R6 := Lib.hid r6; have HV6 := Lib.hid hv6; have HB6 := Lib.hid hb6; clear r6 hv6 hb6))
  have r6 := R6.out
  have hv6 := HV6.out
  have hb6 := HB6.out
  have hb26 : Below w2.heap.size w2 w6 := hb6
  have hX6 := HX.out.below hb26
  have hpw : p < w2.heap.size := HX.out.lt
  have W1 : Within p (p + 1) w6 (w6.setCell ⟨p, 3, none⟩ (.slice A6 (dropAt m.tlb i).length c6)) := ⟨rfl, rfl, rfl, by simp, fun k hk hr => Below.heap_setCell _ _ _ _ (by show k ≠ p; omega)⟩
  have nb : ∀ {v : Value}, some p ≠ v.ownBlock → ∀ k, v.ownBlock = some k → k < p ∨ p + 1 ≤ k := fun h k e => by have : k ≠ p := fun q => h (by rw [e, q]); omega
  have rN : Rd wholeEnc 5 (w6.setCell ⟨p, 3, none⟩ (.slice A6 (dropAt m.tlb i).length c6)) (.slice A6 (dropAt m.tlb i).length c6) (dropAt m.tlb i) := r6.within W1 (fun k e => by
    have hne : k ≠ p := by
      rcases hv6 k e with h | h
      · exact fun q => HX.out.off HX.out.tlb (by decide) (by rw [h, q])
      · have h2 : w2.heap.size ≤ k := h
        omega
    omega)
  have k0 : (w6.setCell ⟨p, 3, none⟩ (.slice A6 (dropAt m.tlb i).length c6)).heap[p]? = _ := box_set hX6.box 3 _
  have RX0 : RdX (w6.setCell ⟨p, 3, none⟩ (.slice A6 (dropAt m.tlb i).length c6)) p u0 u1 u2 (.slice A6 (dropAt m.tlb i).length c6) u4 { m with tlb := dropAt m.tlb i } := ⟨(by simp [World.cell?, k0]), (by simp [World.cell?, k0]), (by simp [World.cell?, k0]), (by simp [World.cell?, k0]), ((hX6.ws.rd wLen).within W1 (nb (hX6.off hX6.ws (by decide)))), ((hX6.pend.rd SWrite.len).within W1 (nb (hX6.off hX6.pend (by decide)))), rN, ((hX6.wc.rd stepLen).within W1 (nb (hX6.off hX6.wc (by decide))))⟩
  have hzp : p ≠ w.heap.size + 1 := by omega
  have zm0 : (w6.setCell ⟨p, 3, none⟩ (.slice A6 (dropAt m.tlb i).length c6)).cell? ⟨w.heap.size + 1, 0, none⟩ = some (.slice none 0 0) := (World.cell?_of_block (Below.heap_setCell _ _ _ _ (by show w.heap.size + 1 ≠ p; omega))).trans ((hb26.cell hz2).trans Z0.out)
  have gm0 : (w6.setCell ⟨p, 3, none⟩ (.slice A6 (dropAt m.tlb i).length c6)).frozen? ⟨w.heap.size + 1, 0, none⟩ = false := (World.frozen?_of_block (Below.heap_setCell _ _ _ _ (by show w.heap.size + 1 ≠ p; omega))).trans ((hb26.frozen hz2).trans G0.out)
  have zm1 : (w6.setCell ⟨p, 3, none⟩ (.slice A6 (dropAt m.tlb i).length c6)).cell? ⟨w.heap.size + 1, 1, none⟩ = some (.slice none 0 0) := (World.cell?_of_block (Below.heap_setCell _ _ _ _ (by show w.heap.size + 1 ≠ p; omega))).trans ((hb26.cell hz2).trans Z1.out)
  have gm1 : (w6.setCell ⟨p, 3, none⟩ (.slice A6 (dropAt m.tlb i).length c6)).frozen? ⟨w.heap.size + 1, 1, none⟩ = false := (World.frozen?_of_block (Below.heap_setCell _ _ _ _ (by show w.heap.size + 1 ≠ p; omega))).trans ((hb26.frozen hz2).trans G1.out)
  have zm2 : (w6.setCell ⟨p, 3, none⟩ (.slice A6 (dropAt m.tlb i).length c6)).cell? ⟨w.heap.size + 1, 2, none⟩ = some (.slice none 0 0) := (World.cell?_of_block (Below.heap_setCell _ _ _ _ (by show w.heap.size + 1 ≠ p; omega))).trans ((hb26.cell hz2).trans Z2.out)
  have gm2 : (w6.setCell ⟨p, 3, none⟩ (.slice A6 (dropAt m.tlb i).length c6)).frozen? ⟨w.heap.size + 1, 2, none⟩ = false := (World.frozen?_of_block (Below.heap_setCell _ _ _ _ (by show w.heap.size + 1 ≠ p; omega))).trans ((hb26.frozen hz2).trans G2.out)
  have zm3 : (w6.setCell ⟨p, 3, none⟩ (.slice A6 (dropAt m.tlb i).length c6)).cell? ⟨w.heap.size + 1, 3, none⟩ = some (.slice none 0 0) := (World.cell?_of_block (Below.heap_setCell _ _ _ _ (by show w.heap.size + 1 ≠ p; omega))).trans ((hb26.cell hz2).trans Z3.out)
  have gm3 : (w6.setCell ⟨p, 3, none⟩ (.slice A6 (dropAt m.tlb i).length c6)).frozen? ⟨w.heap.size + 1, 3, none⟩ = false := (World.frozen?_of_block (Below.heap_setCell _ _ _ _ (by show w.heap.size + 1 ≠ p; omega))).trans ((hb26.frozen hz2).trans G3.out)
  have hbm : Below w.heap.size w (w6.setCell ⟨p, 3, none⟩ (.slice A6 (dropAt m.tlb i).length c6)) := (thenB HBW.out hb26).setCell (by show w.heap.size ≤ p; omega) _
  have hzm : w.heap.size + 1 < (w6.setCell ⟨p, 3, none⟩ (.slice A6 (dropAt m.tlb i).length c6)).heap.size := World.block_lt_of_cell? _ _ zm0
  have RX := Lib.hid RX0
  have HBM := Lib.hid hbm
  have ZM0 := Lib.hid zm0
  have GM0 := Lib.hid gm0
  have ZM1 := Lib.hid zm1
  have GM1 := Lib.hid gm1
  have ZM2 := Lib.hid zm2
  have GM2 := Lib.hid gm2
  have ZM3 := Lib.hid zm3
  have GM3 := Lib.hid gm3
  have HLM := HL
  rw [HDM.out] at HLM
  clear zm0 zm1 zm2 zm3 gm0 gm1 gm2 gm3 hbm RX0 k0 rN W1 f6 f7 hX6 r6 hv6 hb6 hb26 f3
  generalize (w6.setCell ⟨p, 3, none⟩ (.slice A6 (dropAt m.tlb i).length c6)) = wm at *
  go_wp2_with (first | (go_at_call 104; refine (machine_any p _ _ _ _ _ _ _ RX.out HLM.out).mono ?_; rintro e w9 ⟨q0, q1, q2, q3, rfl, o9, hb9⟩; obtain ⟨B0, d0, B1, d1, B2, d2, B3, d3, rfl, rfl, rfl, rfl⟩ := o9.shape; have a0 := (hb9.cell hzm).trans ZM0.out; have b0 := (hb9.frozen hzm).trans GM0.out; have a1 := (hb9.cell hzm).trans ZM1.out; have b1 := (hb9.frozen hzm).trans GM1.out; have a2 := (hb9.cell hzm).trans ZM2.out; have b2 := (hb9.frozen hzm).trans GM2.out; have a3 := (hb9.cell hzm).trans ZM3.out; have b3 := (hb9.frozen hzm).trans GM3.out; have O9 := Lib.hid o9; have HB9 := Lib.hid hb9; clear o9 hb9))
  refine bodyPost_ret (v := .agg #[.slice B0 m.ws.length d0, .slice B1 m.pend.length d1, .slice B2 (dropAt m.tlb i).length d2, .slice B3 m.wc.length d3]) (by simp [results, Try.results48, go_sem, *]) rfl ⟨_, _, _, _, rfl, ?_, ?_⟩
  · rw [HDM.out]
    refine OwnM.lower (base := wm.heap.size) ?_ HBM.out.size
    exact OwnM.setBelow (OwnM.setBelow (OwnM.setBelow (OwnM.setBelow O9.out hzm _) hzm _) hzm _) hzm _
  · exact Below.setCell (Below.setCell (Below.setCell (Below.setCell (thenB HBM.out HB9.out) (Nat.le_succ _) _) (Nat.le_succ _) _) (Nat.le_succ _) _) (Nat.le_succ _) _
end Go.Proofs.Ytemfnbcebgflmaa.Mmu
