/- Walk of the reference's Places. -/
import Derived.Test.YtemfnbcebgflmaaSpecPlace
import Derived.Test.YtemfnbcebgflmaaQuietB
namespace Go.Proofs.Ytemfnbcebgflmaa.Mmu
open Go.RowKit Go.Proofs.Ytemfnbcebgflmaa.Base Go.Proofs.Ytemfnbcebgflmaa.Kinds Go.Proofs.Ytemfnbcebgflmaa.DecMath Go.Proofs.Ytemfnbcebgflmaa.L1
set_option linter.unusedVariables false
set_option linter.unusedSimpArgs false
/-- A memory's size is a valid one. -/
def okLen (ws : List Int) : Prop := ws.length % 16 = 0 ∧ 16 ≤ ws.length ∧ ws.length ≤ 8192
instance (ws : List Int) : Decidable (okLen ws) := by unfold okLen; infer_instance
/-- The tables of a memory, and whether it is a tree. -/
noncomputable def placesS (ws : List Int) : List SPlace × Bool := if okLen ws then (placesP ws 2 ⟨0, 1, 0⟩, treeP ws (placesP ws 2 ⟨0, 1, 0⟩)) else ([], false)
/-- The answer is a list of places, the call's own, and a bool. -/
def P2Post (w : World) (r : List SPlace × Bool) (e : Ending) (w' : World) : Prop := ∃ v, e = .returned (.tuple #[v, .bool r.2]) ∧ Own SPlace.enc 3 116 w.heap.size w' v r.1 ∧ Below w.heap.size w w'
theorem root_in {ws : List Int} (h : okLen ws) : inP ws ⟨0, 1, 0⟩ ∧ alignP ⟨0, 1, 0⟩ := by
  obtain ⟨h1, h2, h3⟩ := h
  refine ⟨⟨⟨by simp, by simp⟩, ⟨by simp, ?_⟩, by simp, by simp⟩, by simp [alignP]⟩
  simp only
  omega

set_option maxRecDepth 100000 in
set_option maxHeartbeats 8000000 in
theorem specPlaces_any (v0 : Value) (ws : List Int) (w : World) (r : Rd wEnc 1 w v0 ws) (hr : ∀ x ∈ ws, 0 ≤ x ∧ x < 18446744073709551616) :
    Calls Try.prog 36 #[.agg #[v0]] w (P2Post w (placesS ws)) := by
  obtain ⟨A0, c0, e0, hc1, hc2⟩ := r.shape
  subst e0
  have R := Lib.hid r
  clear r
  by_cases hok : okLen ws
  rotate_left
  · have HF : Hid (framesOf ws.length = 0) := Lib.hid (by unfold framesOf; exact if_neg hok)
    have HS : Hid (placesS ws = ([], false)) := Lib.hid (if_neg hok)
    clear hok hr
    go_enter Try.func36, Try.ntmps36
    go_upto_region 1 with fail
    refine ((St.start w).push _ _).gen (fun w1 S1' _ => ?_)
    have S1 := Lib.hid S1'
    clear S1'
    have sT0 := S1.out
    have p0_0 := sT0.c1
    have sT1 := sT0.tail
    clear sT0 sT1
    go_wp2_with (go_at_call 71; refine (framesP_b A0 ws.length c0 0 _ hc1 hc2 HF.out).mono ?_; rintro e w2 ⟨rfl, hb2⟩; have S2 := Lib.hid (S1.out.below hb2); clear hb2)
    go_ret2
    rw [HS.out]
    exact ⟨_, rfl, (Own.made SPlace.enc 3 116 w2 S2.out.b.size), allocB S2.out.b _⟩
  have hlen : ws.length ≤ 8192 := hok.2.2
  have HWF : Hid (WfW ws) := Lib.hid ⟨hr, hok.1, hok.2.1, hok.2.2⟩
  obtain ⟨nf, hnf⟩ : ∃ x : Int, ((ws.length / 16 : Nat) : Int) = x := ⟨_, rfl⟩
  have HNF := Lib.hid hnf
  have HF : Hid (framesOf ws.length = nf) := Lib.hid (by rw [← hnf]; unfold framesOf; exact if_pos hok)
  have hnf0 : (nf == 0) = false := by have := hok.2.1; rw [beq_eq_false_iff_ne]; omega
  obtain ⟨ps, hps⟩ : ∃ l, placesP ws 2 ⟨0, 1, 0⟩ = l := ⟨_, rfl⟩
  have HS : Hid (placesS ws = (ps, treeP ws ps)) := Lib.hid (by unfold placesS; rw [if_pos hok, hps])
  have hpl : ps.length ≤ 273 := by rw [← hps]; exact Nat.le_trans (placesP_len _ _ _) (maxP_le (by omega))
  have HIN : Hid (∀ q ∈ ps, inP ws q) := Lib.hid (by rw [← hps]; exact placesP_in ws 2 _ (by simp) (root_in hok).1 (root_in hok).2)
  have HRT := Lib.hid (root_in hok)
  have HPS := Lib.hid hps
  clear hnf hps hok hr
  go_enter Try.func36, Try.ntmps36
  go_upto_region 1 with fail
  refine ((St.start w).push _ _).gen (fun w1 S1' _ => ?_)
  have S1 := Lib.hid S1'
  clear S1'
  have sT0 := S1.out
  have p0_0 := sT0.c1
  have sT1 := sT0.tail
  clear sT0 sT1
  go_upto_region 4 with (go_at_call 71; refine (framesP_b A0 ws.length c0 nf _ hc1 hc2 HF.out).mono ?_; rintro e w2 ⟨rfl, hb2⟩; have S2 := Lib.hid (S1.out.below hb2); clear hb2)
  clear p0_0
  have sT0 := S2.out
  have p0_0 := sT0.c1
  have sT1 := sT0.tail
  clear sT0 sT1
  go_wp2_with fail
  refine (below_all 3 _ ws ⟨0, 1, 0⟩ _ (R.out.below S2.out.b) HWF.out (by simp) (by omega) HRT.out.1 HRT.out.2).mono ?_
  rw [show 3 - 1 = 2 from rfl, HPS.out]
  rintro e w3 ⟨vp, rfl, op, hb3⟩
  obtain ⟨Ap, cp, hvp⟩ := op.shape
  subst hvp
  have OP := Lib.hid (op.lower S2.out.b.size)
  have RP := Lib.hid (op.rd SPlace.len)
  have S3 := Lib.hid (S2.out.below hb3)
  clear op hb3 S2
  clear p0_0
  go_wp2
  go_loopw [6] (fun i wr => ∃ k : Nat, k ≤ ps.length ∧ i = .int .i64 k ∧ treeTo ws ps k ∧ Below w3.heap.size w3 wr) (fun i _ => ps.length - (intOf i).toNat)
  case atStart => exact ⟨0, Nat.zero_le _, rfl, fun i hi => by omega, Below.refl _ _⟩
  case round =>
    obtain ⟨i, hi, rfl, hto, hb⟩ := hrel
    have HTO := Lib.hid hto
    have HB := Lib.hid hb
    clear hto hb
    by_cases hlt : i < ps.length
    rotate_left
    · have hlt' : ¬ (i : Int) < (ps.length : Int) := by omega
      obtain rfl : i = ps.length := by omega
      go_wp2
      go_ret2
      rw [HS.out, tree_true HTO.out]
      exact ⟨_, rfl, OP.out.below HB.out, thenB S3.out.b HB.out⟩
    have hlt' : (i : Int) < (ps.length : Int) := by omega
    obtain ⟨pi, hpi⟩ : ∃ p, ps[i]? = some p := ⟨_, List.getElem?_eq_getElem hlt⟩
    have HPI := Lib.hid hpi
    have hin := HIN.out pi (List.mem_of_getElem? hpi)
    have HINI := Lib.hid hin
    clear hin hpi
    go_wp2
    generalize wr = w4 at *
    go_loopw [7] (fun x wr => ∃ k : Nat, k ≤ i ∧ x = .int .i64 k ∧ freshP ps i k pi ∧ Below w3.heap.size w3 wr) (fun x _ => i - (intOf x).toNat)
    case atStart => exact ⟨0, Nat.zero_le _, rfl, fun j hj => by omega, HB.out⟩
    case round =>
      obtain ⟨j, hj, rfl, hfr, hb⟩ := hrel
      have HFR := Lib.hid hfr
      have HB2 := Lib.hid hb
      clear hfr hb
      by_cases hjt : j < i
      · have hjt' : (j : Int) < (i : Int) := by omega
        have hjl : j < ps.length := by omega
        have hjl' : (j : Int) < (ps.length : Int) := by omega
        obtain ⟨a0, e0, ea, g0, u0, u1, u2⟩ := SPlace.at (RP.out.below HB2.out) hlt
        obtain ⟨a1, e1, ea1, g1, t0, t1, t2⟩ := SPlace.at (RP.out.below HB2.out) hjl
        subst ea
        obtain rfl : a0 = a1 := by simpa using ea1
        obtain rfl : pi = e0 := Option.some.inj (HPI.out.symm.trans g0)
        have G1 := Lib.hid g1
        clear g0 g1 ea1
        obtain ⟨sb, hsb⟩ : ∃ b, (pi.Frame == e1.Frame) = b := ⟨_, rfl⟩
        have HSB := Lib.hid hsb
        go_wp2
        have b0 := BW.cell u0
        have b1 := BW.cell t0
        (refine wp_region_below (by kernel_rfl) (by kernel_rfl) ?_; (repeat (first | (go_big_quiet_step (fail)) | ((with_reducible refine wpQuiet_step ?_); intro K hK; go_simp; first | ((with_reducible refine hK _ ?_); clear hK K) | (apply Exists.intro; refine ⟨fun _ => ?_, hK _ ?_⟩; (fail); clear hK K)))); (with_reducible refine wpQuiet_nil ?_); intro wq hw'; obtain ⟨⟨wy, hbq⟩, hw''⟩ := hw'; subst hw'')
        clear b0 b1
        cases sb
        · go_wp2
          go_roundw
          case rel =>
            refine ⟨j + 1, by omega, by go_num, fun j' hj' q hq => ?_, thenB HB2.out hbq⟩
            by_cases e : j' = j
            · subst e; obtain rfl := Option.some.inj (G1.out.symm.trans hq); have := HSB.out; rw [beq_eq_false_iff_ne] at this; exact fun h => this h.symm
            · exact HFR.out j' (by omega) q hq
          case measure => simp [intOf]; omega
        · go_wp2
          go_ret2
          rw [HS.out, tree_not_fresh HPI.out hjt G1.out (by have := HSB.out; rw [beq_iff_eq] at this; exact this.symm)]
          exact ⟨_, rfl, (OP.out.below HB2.out).below hbq, thenB S3.out.b (thenB HB2.out hbq)⟩
      · have hjt' : ¬ (j : Int) < (i : Int) := by omega
        obtain rfl : j = i := by omega
        go_wp2
        generalize wr = w5 at *
        go_loopw [8] (fun x wr => ∃ k : Nat, k ≤ 16 ∧ x = .int .i64 k ∧ wordsOk ws pi k ∧ Below w3.heap.size w3 wr) (fun x _ => 16 - (intOf x).toNat)
        case atStart => exact ⟨0, Nat.zero_le _, rfl, fun j hj => by omega, HB2.out⟩
        case round =>
          obtain ⟨k, hk, rfl, hws, hb⟩ := hrel
          have HWS := Lib.hid hws
          have HB3 := Lib.hid hb
          have S4 := Lib.hid (S3.out.below hb)
          clear hws hb
          by_cases hkt : k < 16
          rotate_left
          · have hkt' : ¬ (k : Int) < 16 := by omega
            obtain rfl : k = 16 := by omega
            go_wp2
            go_roundw
            case rel => exact ⟨j + 1, by omega, by go_num, tree_step HTO.out HPI.out HFR.out HWS.out, HB3.out⟩
            case measure => simp [intOf]; omega
          have hkt' : (k : Int) < 16 := by omega
          obtain ⟨⟨hl1, hl2⟩, ⟨hf0, hf1⟩, _, _⟩ := id HINI.out
          obtain ⟨ad, cw, hv, hcw1, hcw2, hcell, hx0, hx1, hax⟩ := wordP_at R.out HWF.out pi.Frame k ⟨hf0, hf1⟩ (by omega)
          simp only [Value.slice.injEq] at hv
          obtain ⟨rfl, _, rfl⟩ := hv
          obtain ⟨x, hx⟩ : ∃ x, wordP ws pi.Frame k = x := ⟨_, rfl⟩
          rw [hx] at hcell hx0 hx1
          have HX := Lib.hid hx
          obtain ⟨dk, dout, dpm, hdd⟩ : ∃ a b c, dec pi.Level x = (a, b, c) := ⟨_, _, _, rfl⟩
          have HD2 := Lib.hid hdd
          have hw1 : IntKind.i64.wrap (pi.Frame * 16) = pi.Frame * 16 := by rw [IntKind.wrap_i64]; omega
          have hw2 : IntKind.i64.wrap (pi.Frame * 16 + k) = pi.Frame * 16 + k := by rw [IntKind.wrap_i64]; omega
          have ha0 : 0 ≤ pi.Frame * 16 + (k : Int) := by omega
          have hac : (((pi.Frame * 16 + (k : Int)).toNat : Nat) : Int) = pi.Frame * 16 + k := by omega
          have hat : (pi.Frame * 16 + (k : Int)).toNat < ws.length := by omega
          obtain ⟨a0, e0, ea, g0, u0, u1, u2⟩ := SPlace.at (RP.out.below HB3.out) hlt
          subst ea
          obtain rfl : pi = e0 := Option.some.inj (HPI.out.symm.trans g0)
          have hcell2 := bC S4.out.b hcell
          have hz1 := World.block_lt_of_cell? _ _ hcell2
          have hz2 := World.block_lt_of_cell? _ _ u0
          have hz3 : w.heap.size < wr.heap.size := S4.out.lt _ (List.mem_cons_self ..)
          have n1 : ¬ (wr.heap.size = w.heap.size) := by omega
          have n2 : ¬ (wr.heap.size = (a0.add (j * 3)).block) := by omega
          have n3 : ¬ (wr.heap.size = (ad.add (pi.Frame * 16 + (k : Int)).toNat).block) := by omega
          clear hx hdd g0 u2 hz1 hz2 hz3
          have sT0 := S4.out
          have p0_0 := sT0.c1
          have sT1 := sT0.tail
          clear sT0 sT1
          go_wp2
          go_region_held3 (fun w' => w'.cell? (a0.add (j * 3)) = some (.int .i64 pi.Frame) ∧ w'.cell? ⟨(a0.add (j * 3)).block, (a0.add (j * 3)).off + 1, none⟩ = some (.int .i64 pi.Level) ∧ w'.cell? ⟨w.heap.size, 0, none⟩ = some (.slice (some ad) ws.length c0) ∧ w'.cell? (ad.add (pi.Frame * 16 + (k : Int)).toNat) = some (.int .u64 x))
            (first | go_keep | (with_reducible exact ⟨z0, z1, z2, z3⟩))
            ((go_at_call 15; refine (specDecode_any pi.Level x _ hx0 hx1).mono ?_; rw [HD2.out]; rintro e w6 ⟨rfl, hb6⟩; first
              | (have S6 := Lib.hid ((S4.out.push _ _).drew.below hb6); have HB6 : Hid (Below wr.heap.size wr w6) := Lib.hid (thenB (allocB (Below.refl _ _) _).drew hb6); clear hb6; have sT0 := S6.out; obtain ⟨y0_0, y0_1, y0_2⟩ := sT0.c3; have yF0_0 := sT0.f 0; have yF0_1 := sT0.f 1; have yF0_2 := sT0.f 2; have sT1 := sT0.tail; have y1_0 := sT1.c1; have sT2 := sT1.tail; clear sT0 sT1 sT2; have z0 := bC HB6.out u0; have z1 := bC HB6.out u1; have z2 := y1_0; have z3 := bC HB6.out hcell2)
              | (have S6 := Lib.hid (S4.out.drew.below hb6); have HB6 : Hid (Below wr.heap.size wr w6) := Lib.hid (thenB (below_drewN (Below.refl _ _) 1) hb6); clear hb6; have sT0 := S6.out; have y0_0 := sT0.c1; have sT1 := sT0.tail; clear sT0 sT1; have z0 := bC HB6.out u0; have z1 := bC HB6.out u1; have z2 := y0_0; have z3 := bC HB6.out hcell2)))
          refine st_genB (S6.out.push _ _) (allocB HB6.out _) (fun w7 S7' b7' => ?_)
          obtain ⟨bd, hbd⟩ : ∃ b, w6.heap.size = b := ⟨_, rfl⟩
          rw [hbd] at S7' ⊢
          rotate_left
          refine st_genB (st_set3 S6.out _ _ _) (((HB6.out.setCell (p := ⟨wr.heap.size, 0, none⟩) (Nat.le_refl _) _).setCell (p := ⟨wr.heap.size, 1, none⟩) (Nat.le_refl _) _).setCell (p := ⟨wr.heap.size, 2, none⟩) (Nat.le_refl _) _) (fun w7 S7' b7' => ?_)
          obtain ⟨bd, hbd⟩ : ∃ b, wr.heap.size = b := ⟨_, rfl⟩
          rw [hbd] at S7' ⊢
          all_goals
            have S7 := Lib.hid S7'
            have HB7 := Lib.hid (thenB HB3.out b7')
            clear S7' b7' S6 HB6 hbd z0 z1 z2 z3 n1 n2 n3 hcell hcell2 u0 u1
            by_cases h4 : dk = 4
            · have hb4 : (dk == 4) = true := by simpa using h4
              have HBAD : Hid (¬ wordOk ws pi.Level (wordP ws pi.Frame k)) := Lib.hid (by rw [HX.out]; unfold wordOk; rw [HD2.out]; exact fun h => h.1 h4)
              clear h4
              have sT0 := S7.out
              obtain ⟨p0_0, p0_1, p0_2⟩ := sT0.c3
              have sT1 := sT0.tail
              clear sT0 sT1
              go_wp2
              go_ret2
              rw [HS.out, tree_not_word HPI.out hkt HBAD.out]
              exact ⟨_, rfl, OP.out.below HB7.out, S7.out.b⟩
            have hb4 : (dk == 4) = false := by simpa using h4
            by_cases h1 : dk = 1
            rotate_left
            · have hb1 : (dk == 1) = false := by simpa using h1
              have HOK : Hid (wordOk ws pi.Level (wordP ws pi.Frame k)) := Lib.hid (by rw [HX.out]; unfold wordOk; rw [HD2.out]; exact ⟨h4, fun h => absurd h h1⟩)
              clear h4 h1
              have sT0 := S7.out
              obtain ⟨p0_0, p0_1, p0_2⟩ := sT0.c3
              have sT1 := sT0.tail
              clear sT0 sT1
              go_wp2
              go_roundw
              case rel => exact ⟨k + 1, by omega, by go_num, words_step HWS.out HOK.out, HB7.out⟩
              case measure => simp [intOf]; omega
            subst h1
            by_cases hlt2 : dout < nf
            · have hb5 : ¬ nf ≤ dout := by omega
              have HOK : Hid (wordOk ws pi.Level (wordP ws pi.Frame k)) := Lib.hid (by rw [HX.out]; unfold wordOk; rw [HD2.out, HNF.out]; exact ⟨h4, fun _ => hlt2⟩)
              clear h4 hlt2
              have sT0 := S7.out
              obtain ⟨p0_0, p0_1, p0_2⟩ := sT0.c3
              have sT1 := sT0.tail
              clear sT0 sT1
              go_wp2
              go_roundw
              case rel => exact ⟨k + 1, by omega, by go_num, words_step HWS.out HOK.out, HB7.out⟩
              case measure => simp [intOf]; omega
            · have hb5 : nf ≤ dout := by omega
              have HBAD : Hid (¬ wordOk ws pi.Level (wordP ws pi.Frame k)) := Lib.hid (by rw [HX.out]; unfold wordOk; rw [HD2.out, HNF.out]; exact fun h => hlt2 (h.2 rfl))
              clear h4 hlt2
              have sT0 := S7.out
              obtain ⟨p0_0, p0_1, p0_2⟩ := sT0.c3
              have sT1 := sT0.tail
              clear sT0 sT1
              go_wp2
              go_ret2
              rw [HS.out, tree_not_word HPI.out hkt HBAD.out]
              exact ⟨_, rfl, OP.out.below HB7.out, S7.out.b⟩
end Go.Proofs.Ytemfnbcebgflmaa.Mmu
