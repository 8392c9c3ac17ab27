/- The law FnExactPlaces. -/
import Derived.Test.YtemfnbcebgflmaaImplPlace3
import Derived.Test.YtemfnbcebgflmaaLawPlace
import Derived.Test.YtemfnbcebgflmaaLawMem
namespace Go.Proofs.Ytemfnbcebgflmaa.Mmu
open Go.RowKit Go.Maps Go.Proofs.Ytemfnbcebgflmaa.Base Go.Proofs.Ytemfnbcebgflmaa.Kinds Go.Proofs.Ytemfnbcebgflmaa.DecMath Go.Proofs.Ytemfnbcebgflmaa.L1
set_option linter.unusedVariables false
set_option linter.unusedSimpArgs false
theorem st_within {w0 w w1 : World} {l : List (Nat × Array Value × Nat)} {lo hi : Nat} (h : St w0 l w) (hw : Within lo hi w w1) (h0 : w0.heap.size ≤ lo) (hl : ∀ x ∈ l, x.1 < lo ∨ hi ≤ x.1) : St w0 l w1 :=
  ⟨h.b.trans ⟨hw.os, hw.tape, hw.output, hw.size, fun k hk => hw.block k (by have := h.b.size; omega) (Or.inl (by omega))⟩, fun x hx => (hw.block x.1 (h.lt x hx) (hl x hx)).trans (h.blk x hx), h.up, h.ord⟩
theorem keep2 {w wb : World} {a1 a2 : Addr} {u1 u2 : Value} (m : w.cell? a1 = some u1 ∧ w.cell? a2 = some u2) (hb : Below w.heap.size w wb) : wb.cell? a1 = some u1 ∧ wb.cell? a2 = some u2 := ⟨bC hb m.1, bC hb m.2⟩
theorem st_genO2' {w0 w : World} {l : List (Nat × Array Value × Nat)} {α β : Type} {e1 : α → List Value} {e2 : β → List Value} {s1 s2 E1 E2 b1 b2 : Nat} {v1 v2 : Value} {l1 : List α} {l2 : List β} (S : St w0 l w) (h1 : Own e1 s1 E1 b1 w v1 l1) (h2 : Own e2 s2 E2 b2 w v2 l2) {G : World → Prop} (k : ∀ w', St w0 l w' → Own e1 s1 E1 b1 w' v1 l1 → Own e2 s2 E2 b2 w' v2 l2 → G w') : G w := k w S h1 h2
set_option maxRecDepth 100000 in
set_option maxHeartbeats 8000000 in
theorem lawPlaces (v0 : Value) (ws : List Int) (w : World) (r : Rd wEnc 1 w v0 ws) (hr : ∀ x ∈ ws, 0 ≤ x ∧ x < 18446744073709551616) :
    Calls Try.prog 10 #[.agg #[v0]] w fun e w' => e = .returned (.bool true) ∧ Below w.heap.size w w' := by
  obtain ⟨A0, c0, e0, hc1, hc2⟩ := r.shape
  subst e0
  have R := Lib.hid r
  have HR := Lib.hid hr
  clear r hr
  go_enter Try.func10, Try.ntmps10
  go_upto_region 2 with fail
  refine ((St.start w).push _ _).gen (fun w1 S1' _ => ?_)
  have S1 := Lib.hid S1'
  clear S1'
  have sT0 := S1.out
  have p0_0 := sT0.c1
  have sT1 := sT0.tail
  clear sT0 sT1
  go_upto_region 3 with (go_at_call 29; refine (LawsMem.sz_any A0 ws.length c0 1048576 _ hc1 hc2 (by omega) (by omega)).mono ?_; rintro e w2 ⟨rfl, hb2⟩; have S2 := Lib.hid (S1.out.below hb2); clear hb2)
  by_cases hbig : 1048576 - (ws.length : Int) < 0
  · rw [if_pos hbig]
    clear hbig
    clear p0_0
    go_wp2
    go_ret
    exact ⟨rfl, S2.out.b⟩
  rw [if_neg hbig]
  have hl : ws.length ≤ 1048576 := by omega
  clear p0_0
  have sT0 := S2.out
  have p0_0 := sT0.c1
  have sT1 := sT0.tail
  clear sT0 sT1
  go_upto_region 6 with (first
    | (go_at_call 31; refine (LawsMem.to_any _ ws _ (R.out.below S2.out.b) hl).mono ?_; rintro e w3 ⟨va, rfl, oa, hb3⟩; have S3 := Lib.hid (S2.out.below hb3); have OA := Lib.hid oa; clear hb3 oa)
    | (go_at_call 36; refine (specPlaces_any va ws _ (OA.out.rd (fun _ => rfl)) HR.out).mono ?_; rintro e w4 ⟨v4, rfl, o4, hb4⟩; have S4 := Lib.hid (S3.out.below hb4); have O4 := Lib.hid o4; have HB4 := Lib.hid hb4; clear hb4 o4))
  clear p0_0
  obtain ⟨⟨ps, bb⟩, hps⟩ : ∃ q, placesS ws = q := ⟨_, rfl⟩
  rw [hps] at O4 ⊢
  have HPS := Lib.hid hps
  simp only at O4
  obtain ⟨A4, c4, hv4⟩ := O4.out.shape
  subst hv4
  have HLP : Hid (ps.length ≤ 1000) := Lib.hid (by
    have : ps = (placesS ws).1 := by rw [hps]
    rw [this]
    unfold placesS
    split
    · exact Nat.le_trans (placesP_len ws 2 _) (Nat.le_trans (maxP_le (by omega)) (by omega))
    · simp)
  clear hps
  have sT0 := S4.out
  have p0_0 := sT0.c1
  have sT1 := sT0.tail
  clear sT0 sT1
  go_upto_region 7 with (go_at_call 31; refine (LawsMem.to_any _ ws _ (R.out.below S4.out.b) hl).mono ?_; rintro e w5 ⟨v6, rfl, o6, hb5⟩; obtain ⟨A6, c6, hv6⟩ := o6.shape; subst hv6; have S5 := Lib.hid (S4.out.below hb5); have O6 := Lib.hid o6; have O45 := Lib.hid (O4.out.below hb5); have HB5 := Lib.hid hb5; clear hb5 o6)
  clear p0_0
  refine st_genO2' (S5.out.push _ _) (O45.out.alloc _) (O6.out.alloc _) (fun w6 S6' O46' O66' => ?_)
  have S6 := Lib.hid S6'
  have O46 := Lib.hid O46'
  have O66 := Lib.hid O66'
  have z56 : w5.heap.size < w6.heap.size := S6'.lt _ (List.mem_cons_self ..)
  clear S6' O46' O66'
  have sT0 := S6.out
  have p0_0 := sT0.c1
  have sT1 := sT0.tail
  have p1_0 := sT1.c1
  have sT2 := sT1.tail
  clear sT0 sT1 sT2
  go_upto_region 8 with (go_at_call 37; refine (implPlacesF_any _ ws _ (O66.out.rd (fun _ => rfl)) HR.out).mono ?_; rw [HPS.out]; rintro e w7 ⟨v7, rfl, o7, hb7⟩; obtain ⟨A7, c7, hv7⟩ := o7.shape; subst hv7; have S7 := Lib.hid (S6.out.below hb7); have O47 := Lib.hid (O46.out.below hb7); have O67 := Lib.hid (O66.out.below hb7); have O77 := Lib.hid o7; clear hb7 o7)
  clear p0_0 p1_0
  have hbb : (bb != bb) = false := by cases bb <;> rfl
  have sT0 := S7.out
  have p0_0 := sT0.c1
  have sT1 := sT0.tail
  have p1_0 := sT1.c1
  have sT2 := sT1.tail
  clear sT0 sT1 sT2
  go_upto_region 10 with (go_at_call 38; refine (LawsPlace.eqS_any _ _ ps ps _ (O77.out.rd SPlace.len) (O47.out.rd SPlace.len)).mono ?_; rw [decide_eq_true (rfl : ps = ps)]; rintro e w8 ⟨rfl, hb8⟩; have S8 := Lib.hid (S7.out.below hb8); have O48 := Lib.hid (O47.out.below hb8); have O68 := Lib.hid (O67.out.below hb8); have O78 := Lib.hid (O77.out.below hb8); clear hb8)
  clear p0_0 p1_0
  have sT0 := S8.out
  have p0_0 := sT0.c1
  have sT1 := sT0.tail
  have p1_0 := sT1.c1
  have sT2 := sT1.tail
  clear sT0 sT1 sT2
  go_region_held3 (fun w' => w'.cell? ⟨w5.heap.size, 0, none⟩ = some (.slice A6 ws.length c6) ∧ w'.cell? ⟨w.heap.size, 0, none⟩ = some (.slice A0 ws.length c0))
    (first
      | exact keep2 ⟨p0_0, p1_0⟩ (below_drewN (Below.refl _ _) 1)
      | exact keep2 (by assumption) hb10
      | exact keep2 (by assumption) hb9)
    (first
      | (go_at_call 31; refine (LawsMem.to_any _ ws _ (R.out.below (below_drewN S8.out.b 1)) hl).mono ?_; rintro e w9 ⟨v9, rfl, o9, hb9⟩; obtain ⟨A9, c9, hv9⟩ := o9.shape; subst hv9)
      | (go_at_call 33; refine (LawsMem.eq_any _ _ ws ws _ ((O68.out.below (below_drewN (Below.refl _ _) 1)).below hb9 |>.rd (fun _ => rfl)) (o9.rd (fun _ => rfl))).mono ?_; rw [decide_eq_true (rfl : ws = ws)]; rintro e w10 ⟨rfl, hb10⟩))
  have h10 : Below w8.heap.size w8 w10 := thenB (thenB (below_drewN (Below.refl _ _) 1) hb9) hb10
  have S10 := Lib.hid (S8.out.below h10)
  have O410 := Lib.hid (O48.out.below h10)
  have O610 := Lib.hid (O68.out.below h10)
  have O710 := Lib.hid (O78.out.below h10)
  clear h10 hb9 hb10 o9
  clear p0_0 p1_0
  go_upto_region 13 with fail
  have sT0 := S10.out
  have p0_0 := sT0.c1
  have sT1 := sT0.tail
  have p1_0 := sT1.c1
  have sT2 := sT1.tail
  clear sT0 sT1 sT2
  have hn6 : ∀ j, (Value.slice A6 ws.length c6).ownBlock = some j → w4.heap.size ≤ j ∧ j < w5.heap.size := fun j e => O6.out.lt j e
  have hn4 : ∀ j, (Value.slice A4 ps.length c4).ownBlock = some j → j < w4.heap.size := fun j e => (O4.out.lt j e).2
  have hn7 : ∀ j, (Value.slice A7 ps.length c7).ownBlock = some j → w6.heap.size ≤ j := fun j e => (O77.out.lt j e).1
  have HN6 := Lib.hid hn6
  have HN4 := Lib.hid hn4
  have HN7 := Lib.hid hn7
  clear hn6 hn4 hn7
  have h04 : w.heap.size < w4.heap.size := S4.out.lt _ (List.mem_cons_self ..)
  go_upto_region 14 with (go_at_call 39; refine (LawsMem.mark_any w4.heap.size _ ws 1 _ O610.out hl (by omega) (by omega)).mono ?_; rintro e w11 ⟨rfl, o11, hg11⟩)
  have hw11 := Within.of_grown hg11 HN6.out
  have z45 := HB5.out.size
  have S11 := Lib.hid (st_within S10.out hw11 (by omega) (by simp only [List.mem_cons, List.not_mem_nil, or_false, forall_eq_or_imp, forall_eq]; omega))
  have O411 := Lib.hid (O410.out.within hw11 (fun j e => .inl (HN4.out j e)))
  have O711 := Lib.hid (O710.out.within hw11 (fun j e => .inr (by have := HN7.out j e; omega)))
  clear hw11 hg11 o11
  clear p0_0 p1_0
  have hn1 : ¬ (1 + (ws.length : Int)) < 0 := by omega
  go_upto_region 17 with (go_at_call 38; refine (LawsPlace.eqS_any _ _ ps ps _ (O711.out.rd SPlace.len) (O411.out.rd SPlace.len)).mono ?_; rw [decide_eq_true (rfl : ps = ps)]; rintro e w12 ⟨rfl, hb12⟩; have S12 := Lib.hid (S11.out.below hb12); have O412 := Lib.hid (O411.out.below hb12); have O712 := Lib.hid (O711.out.below hb12); clear hb12)
  have hl1 := HLP.out
  go_upto_region 19 with (go_at_call 40; refine (LawsPlace.markS_any w6.heap.size _ ps 1 _ O712.out (by omega) (by omega) (by omega)).mono ?_; rintro e w13 ⟨rfl, o13, hg13⟩)
  have hw13 : Within w6.heap.size w7.heap.size w12 w13 := Within.of_grown hg13 (fun j e => O77.out.lt j e)
  have S13 := Lib.hid (st_within S12.out hw13 (by omega) (by simp only [List.mem_cons, List.not_mem_nil, or_false, forall_eq_or_imp, forall_eq]; omega))
  have O413 := Lib.hid (O412.out.within hw13 (fun j e => .inl (by have := HN4.out j e; omega)))
  have O713 := Lib.hid o13
  clear hw13 hg13 o13
  have hn3 : ¬ (1 + 3 * (ps.length : Int)) < 0 := by omega
  have hnn : ((1 + 3 * (ps.length : Int)) != (1 + 3 * (ps.length : Int))) = false := by simp
  go_upto_region 24 with (go_at_call 41; refine (LawsPlace.heldS_any _ ps.length 1 _ (O713.out.rd SPlace.len) (by omega) (by omega) (by omega)).mono ?_; rintro e w14 ⟨rfl, rfl⟩)
  have sT0 := S13.out
  have p0_0 := sT0.c1
  have sT1 := sT0.tail
  have p1_0 := sT1.c1
  have sT2 := sT1.tail
  clear sT0 sT1 sT2
  go_upto_region 25 with (first
    | (go_at_call 31; refine (LawsMem.to_any _ ws _ (R.out.below S13.out.b) hl).mono ?_; rintro e w15 ⟨vb, rfl, ob, hb15⟩; have S15 := Lib.hid (S13.out.below hb15); have OB := Lib.hid ob; have O415 := Lib.hid (O413.out.below hb15); have O715 := Lib.hid (O713.out.below hb15); clear hb15 ob)
    | (go_at_call 37; refine (implPlacesF_any _ ws _ (OB.out.rd (fun _ => rfl)) HR.out).mono ?_; rw [HPS.out]; rintro e w16 ⟨v12, rfl, o12, hb16⟩; obtain ⟨A12, c12, hv12⟩ := o12.shape; subst hv12; have S16 := Lib.hid (S15.out.below hb16); have O416 := Lib.hid (O415.out.below hb16); have O716 := Lib.hid (O715.out.below hb16); have O12 := Lib.hid o12; clear hb16 o12))
  clear p0_0 p1_0
  go_wp2_with (first
    | (go_at_call 38; refine (LawsPlace.eqS_any _ _ ps ps _ (O12.out.rd SPlace.len) (O416.out.rd SPlace.len)).mono ?_; rw [decide_eq_true (rfl : ps = ps)]; rintro e w17 ⟨rfl, hb17⟩; have S17 := Lib.hid (S16.out.below hb17); have O717 := Lib.hid (O716.out.below hb17); clear hb17)
    | (go_at_call 41; refine (LawsPlace.heldS_any _ ps.length 1 _ (O717.out.rd SPlace.len) (by omega) (by omega) (by omega)).mono ?_; rintro e w18 ⟨rfl, rfl⟩))
  go_ret
  exact ⟨rfl, S17.out.b⟩
end Go.Proofs.Ytemfnbcebgflmaa.Mmu
