/- Fill of the program answers as the reference's, at every machine, page and choice that the law asks (lists of at most 2^20 entries in all: the law itself answers true for more), writes into none of its arguments, and keeps nothing of them. -/
import Derived.Test.YtemfnbcebgflmaaRows
import Derived.Test.YtemfnbcebgflmaaOpenRd
import Derived.Test.YtemfnbcebgflmaaLawMore
import Derived.Test.YtemfnbcebgflmaaSpecFill
import Derived.Test.YtemfnbcebgflmaaImplFill
import Derived.WalkKit
import Derived.ProofKit
import Derived.OpenShut
import Derived.ShutString
import Derived.ChangeOld
import Derived.ChangeArms
import Derived.Below
import Derived.SizedLaws
import Derived.Lib.SmallJoins
namespace Go.Proofs.Ytemfnbcebgflmaa.Mmu
open Go.RowKit Go.Proofs.Ytemfnbcebgflmaa.Base Go.Proofs.Ytemfnbcebgflmaa.Kinds Go.Proofs.Ytemfnbcebgflmaa.LawsMach
set_option linter.unusedVariables false
set_option linter.unusedSimpArgs false

theorem zBelow {w w' : World} {b : Nat} {x : Obj} (hb : Below w.heap.size w w') (hz : w.heap[b]? = some x) : w'.heap[b]? = some x := (hb.block b (Array.getElem?_eq_some_iff.1 hz).1).trans hz
theorem zWithin {w w' : World} {lo hi b : Nat} {x : Obj} (hw : Within lo hi w w') (hz : w.heap[b]? = some x) (h : b < lo ∨ hi ≤ b) : w'.heap[b]? = some x := (hw.block b (Array.getElem?_eq_some_iff.1 hz).1 h).trans hz
theorem zLt {w : World} {b : Nat} {x : Obj} (hz : w.heap[b]? = some x) : b < w.heap.size := (Array.getElem?_eq_some_iff.1 hz).1
theorem InM.mono {a b : Nat} {v0 v1 v2 v3 : Value} (h : InM a v0 v1 v2 v3) (k : a ≤ b) : InM b v0 v1 v2 v3 := ⟨fun j e => Nat.lt_of_lt_of_le (h.ws j e) k, fun j e => Nat.lt_of_lt_of_le (h.pend j e) k, fun j e => Nat.lt_of_lt_of_le (h.tlb j e) k, fun j e => Nat.lt_of_lt_of_le (h.wc j e) k⟩
theorem markEnd_pos (m : SM) : ¬ markEnd 1 m < 0 := by unfold markEnd; omega

set_option maxRecDepth 100000 in
set_option maxHeartbeats 8000000 in
theorem lawFill (v0 v1 v2 v3 : Value) (m : SM) (a1 a2 : Int) (w : World) (r : RdM w v0 v1 v2 v3 m) (hwf : WfM m) :
    Calls Try.prog 13 #[.agg #[v0, v1, v2, v3], .int .i64 a1, .int .i64 a2] w fun e w' => e = .returned (.bool true) ∧ Below w.heap.size w w' := by
  obtain ⟨A0, c0, A1, c1, A2, c2, A3, c3, rfl, rfl, rfl, rfl, hl0, hk0, hl1, hk1, hl2, hk2, hl3, hk3⟩ := r.shape
  have R := Lib.hid r
  clear r
  have HWF := Lib.hid hwf
  clear hwf
  by_cases hl : bulk m ≤ 1048576
  rotate_left
  · go_enter Try.func13, Try.ntmps13
    go_wp2_with (first | (go_at_call 42; refine (sz_bad m _ (R.out.below (allocB (Below.refl _ _) _)) hl).mono ?_; rintro e w1 ⟨x, hx3, rfl, hb1⟩; have HB1 := Lib.hid (thenB (allocB (Below.refl w.heap.size w) _) hb1)))
    go_ret
    exact ⟨rfl, HB1.out⟩
  have hn : bulk (fillS m a1 a2) ≤ 1048576 := (by have := fillS_small m a1 a2; unfold bulk; omega)
  have hme := markEnd_pos m
  obtain ⟨n, hnn⟩ : ∃ n, fillS m a1 a2 = n := ⟨_, rfl⟩
  have HN := Lib.hid hnn
  rw [hnn] at hn
  clear hnn
  have hmn := markEnd_pos n
  go_enter Try.func13, Try.ntmps13
  go_upto_region 5 with (first | (go_at_call 42; refine (sz_good m _ (R.out.below (allocB (Below.refl _ _) _)) hl).mono ?_; rintro e w1 ⟨x, hx3, rfl, hb1⟩; have HB1 := Lib.hid (thenB (allocB (Below.refl w.heap.size w) _) hb1); have Z3a := Lib.hid (zBelow hb1 (heap_alloc_new w (.cells #[.slice A0 m.ws.length c0, .slice A1 m.pend.length c1, .slice A2 m.tlb.length c2, .slice A3 m.wc.length c3] 66))); clear hb1))
  have hx4 : decide (x < 0) = false := decide_eq_false (by omega)
  have s1 := zLt Z3a.out
  obtain ⟨y0, y1, y2, y3, _, _, _, _⟩ := zCells Z3a.out
  go_upto_region 6 with (first
    | (go_at_call 44; refine (to_any _ _ _ _ m _ (R.out.below HB1.out) hl).mono ?_; rintro e w2 ⟨u0, u1, u2, u3, rfl, o1, hb2⟩; obtain ⟨B0, d0, B1, d1, B2, d2, B3, d3, rfl, rfl, rfl, rfl⟩ := o1.shape; have O1 := Lib.hid o1; have HB2 := Lib.hid hb2; clear o1 hb2 y0 y1 y2 y3)
    | (go_at_call 51; refine (specFill_any _ _ _ _ m a1 a2 _ O1.out.rd HWF.out).mono ?_; rw [HN.out]; rintro e w3 ⟨r0, r1, r2, r3, rfl, o3, hb3⟩; obtain ⟨R0, e0, R1, e1, R2, e2, R3, e3, rfl, rfl, rfl, rfl⟩ := o3.shape; have O3 := Lib.hid o3; have HB3 := Lib.hid (thenB HB2.out hb3); clear o3 hb3))
  have Z8 := Lib.hid (heap_alloc_new w3 (.cells #[.slice R0 (n).ws.length e0, .slice R1 (n).pend.length e1, .slice R2 (n).tlb.length e2, .slice R3 (n).wc.length e3] 73))
  have Z3 := Lib.hid (zBelow (allocB HB3.out (.cells #[.slice R0 (n).ws.length e0, .slice R1 (n).pend.length e1, .slice R2 (n).tlb.length e2, .slice R3 (n).wc.length e3] 73)) Z3a.out)
  have OA := Lib.hid (O3.out.below (allocB (Below.refl _ _) (.cells #[.slice R0 (n).ws.length e0, .slice R1 (n).pend.length e1, .slice R2 (n).tlb.length e2, .slice R3 (n).wc.length e3] 73)))
  have IA : Hid (InM w3.heap.size _ _ _ _) := Lib.hid O3.out.inM
  have HBA : Hid (Below w.heap.size w (w3.alloc (.cells #[.slice R0 (n).ws.length e0, .slice R1 (n).pend.length e1, .slice R2 (n).tlb.length e2, .slice R3 (n).wc.length e3] 73))) := Lib.hid (allocB (thenB HB1.out HB3.out) _)
  have HAA : Hid (Below w1.heap.size w1 (w3.alloc (.cells #[.slice R0 (n).ws.length e0, .slice R1 (n).pend.length e1, .slice R2 (n).tlb.length e2, .slice R3 (n).wc.length e3] 73))) := Lib.hid (allocB HB3.out _)
  have sA : w3.heap.size < (w3.alloc (.cells #[.slice R0 (n).ws.length e0, .slice R1 (n).pend.length e1, .slice R2 (n).tlb.length e2, .slice R3 (n).wc.length e3] 73)).heap.size := by simp
  generalize (w3.alloc (.cells #[.slice R0 (n).ws.length e0, .slice R1 (n).pend.length e1, .slice R2 (n).tlb.length e2, .slice R3 (n).wc.length e3] 73)) = wA at *
  have sA1 : w1.heap.size ≤ wA.heap.size := HAA.out.size
  obtain ⟨y0, y1, y2, y3, _, _, _, _⟩ := zCells Z3.out
  go_upto_region 7 with (first
    | (go_at_call 44; refine (to_any _ _ _ _ m _ (R.out.below HBA.out) hl).mono ?_; rintro e w4 ⟨x0, x1, x2, x3, rfl, o4, hb4⟩; obtain ⟨X0, f0, X1, f1, X2, f2, X3, f3, rfl, rfl, rfl, rfl⟩ := o4.shape; have O4 := Lib.hid o4; have HB4 := Lib.hid hb4; clear o4 hb4 y0 y1 y2 y3))
  have Z9 := Lib.hid (heap_alloc_new w4 (.cells #[.slice X0 (m).ws.length f0, .slice X1 (m).pend.length f1, .slice X2 (m).tlb.length f2, .slice X3 (m).wc.length f3] 73))
  have hAB : Below wA.heap.size wA (w4.alloc (.cells #[.slice X0 (m).ws.length f0, .slice X1 (m).pend.length f1, .slice X2 (m).tlb.length f2, .slice X3 (m).wc.length f3] 73)) := allocB HB4.out _
  have Z3b := Lib.hid (zBelow hAB Z3.out)
  have Z8b := Lib.hid (zBelow hAB Z8.out)
  have OB := Lib.hid (OA.out.below hAB)
  have OX := Lib.hid (O4.out.below (allocB (Below.refl _ _) (.cells #[.slice X0 (m).ws.length f0, .slice X1 (m).pend.length f1, .slice X2 (m).tlb.length f2, .slice X3 (m).wc.length f3] 73)))
  have IX : Hid (InM w4.heap.size _ _ _ _) := Lib.hid O4.out.inM
  have HBB : Hid (Below w.heap.size w (w4.alloc (.cells #[.slice X0 (m).ws.length f0, .slice X1 (m).pend.length f1, .slice X2 (m).tlb.length f2, .slice X3 (m).wc.length f3] 73))) := Lib.hid (thenB HBA.out hAB)
  have HAB : Hid (Below w1.heap.size w1 (w4.alloc (.cells #[.slice X0 (m).ws.length f0, .slice X1 (m).pend.length f1, .slice X2 (m).tlb.length f2, .slice X3 (m).wc.length f3] 73))) := Lib.hid (thenB HAA.out hAB)
  have sB : w4.heap.size < (w4.alloc (.cells #[.slice X0 (m).ws.length f0, .slice X1 (m).pend.length f1, .slice X2 (m).tlb.length f2, .slice X3 (m).wc.length f3] 73)).heap.size := by simp
  have sB4 : wA.heap.size ≤ w4.heap.size := HB4.out.size
  clear hAB
  generalize (w4.alloc (.cells #[.slice X0 (m).ws.length f0, .slice X1 (m).pend.length f1, .slice X2 (m).tlb.length f2, .slice X3 (m).wc.length f3] 73)) = wB at *
  obtain ⟨y0, y1, y2, y3, _, _, _, _⟩ := zCells Z9.out
  go_upto_region 8 with (first
    | (go_at_call 52; refine (implFill_any _ _ _ _ m a1 a2 _ OX.out.rd HWF.out).mono ?_; rw [HN.out]; rintro e w5 ⟨g0, g1, g2, g3, rfl, o5, hb5⟩; obtain ⟨G0, j0, G1, j1, G2, j2, G3, j3, rfl, rfl, rfl, rfl⟩ := o5.shape; have O5 := Lib.hid o5; have HB5 := Lib.hid hb5; clear o5 hb5 y0 y1 y2 y3))
  have Z10 := Lib.hid (heap_alloc_new w5 (.cells #[.slice G0 (n).ws.length j0, .slice G1 (n).pend.length j1, .slice G2 (n).tlb.length j2, .slice G3 (n).wc.length j3] 73))
  have hBC : Below wB.heap.size wB (w5.alloc (.cells #[.slice G0 (n).ws.length j0, .slice G1 (n).pend.length j1, .slice G2 (n).tlb.length j2, .slice G3 (n).wc.length j3] 73)) := allocB HB5.out _
  have Z3c := Lib.hid (zBelow hBC Z3b.out)
  have Z8c := Lib.hid (zBelow hBC Z8b.out)
  have Z9c := Lib.hid (zBelow hBC Z9.out)
  have OC := Lib.hid (OB.out.below hBC)
  have OXc := Lib.hid (OX.out.below hBC)
  have OG := Lib.hid (O5.out.below (allocB (Below.refl _ _) (.cells #[.slice G0 (n).ws.length j0, .slice G1 (n).pend.length j1, .slice G2 (n).tlb.length j2, .slice G3 (n).wc.length j3] 73)))
  have IG : Hid (InM w5.heap.size _ _ _ _) := Lib.hid O5.out.inM
  have HBC : Hid (Below w.heap.size w (w5.alloc (.cells #[.slice G0 (n).ws.length j0, .slice G1 (n).pend.length j1, .slice G2 (n).tlb.length j2, .slice G3 (n).wc.length j3] 73))) := Lib.hid (thenB HBB.out hBC)
  have HAC : Hid (Below w1.heap.size w1 (w5.alloc (.cells #[.slice G0 (n).ws.length j0, .slice G1 (n).pend.length j1, .slice G2 (n).tlb.length j2, .slice G3 (n).wc.length j3] 73))) := Lib.hid (thenB HAB.out hBC)
  have sC5 : wB.heap.size ≤ w5.heap.size := HB5.out.size
  clear hBC
  generalize (w5.alloc (.cells #[.slice G0 (n).ws.length j0, .slice G1 (n).pend.length j1, .slice G2 (n).tlb.length j2, .slice G3 (n).wc.length j3] 73)) = wC at *
  clear Z3a Z3 Z3b Z8 Z8b Z9 OA OB OX O1 O3 O4 O5
  obtain ⟨y0, y1, y2, y3, _, _, _, _⟩ := zCells Z10.out
  obtain ⟨z0, z1, z2, z3, _, _, _, _⟩ := zCells Z8c.out
  go_upto_region 10 with (first
    | (go_at_call 46; refine (eq_any _ _ _ _ _ _ _ _ n n _ OG.out.rd OC.out.rd).mono ?_; rw [decide_eq_true rfl]; rintro e w6 ⟨rfl, hb6⟩; have HB6 := Lib.hid hb6; clear hb6 y0 y1 y2 y3 z0 z1 z2 z3))
  have Z3d := Lib.hid (zBelow HB6.out Z3c.out)
  have Z8d := Lib.hid (zBelow HB6.out Z8c.out)
  have Z9d := Lib.hid (zBelow HB6.out Z9c.out)
  have Z10d := Lib.hid (zBelow HB6.out Z10.out)
  have OCd := Lib.hid (OC.out.below HB6.out)
  have OXd := Lib.hid (OXc.out.below HB6.out)
  have OGd := Lib.hid (OG.out.below HB6.out)
  have HBD := Lib.hid (thenB HBC.out HB6.out)
  have HAD := Lib.hid (thenB HAC.out HB6.out)
  clear Z3c Z8c Z9c Z10 OC OXc OG
  obtain ⟨y0, y1, y2, y3, _, _, _, _⟩ := zCells Z3d.out
  obtain ⟨z0, z1, z2, z3, _, _, _, _⟩ := zCells Z9d.out
  go_region_held3 (fun w' => (w'.cell? ⟨w.heap.size, 0, none⟩ = some (.slice A0 m.ws.length c0) ∧ w'.cell? ⟨w.heap.size, 1, none⟩ = some (.slice A1 m.pend.length c1) ∧ w'.cell? ⟨w.heap.size, 2, none⟩ = some (.slice A2 m.tlb.length c2) ∧ w'.cell? ⟨w.heap.size, 3, none⟩ = some (.slice A3 m.wc.length c3)) ∧ (w'.cell? ⟨w4.heap.size, 0, none⟩ = some (.slice X0 m.ws.length f0) ∧ w'.cell? ⟨w4.heap.size, 1, none⟩ = some (.slice X1 m.pend.length f1) ∧ w'.cell? ⟨w4.heap.size, 2, none⟩ = some (.slice X2 m.tlb.length f2) ∧ w'.cell? ⟨w4.heap.size, 3, none⟩ = some (.slice X3 m.wc.length f3)))
    (first
      | exact keepR ⟨⟨y0, y1, y2, y3⟩, z0, z1, z2, z3⟩ (below_drewN (Below.refl _ _) 1)
      | exact keepR (by assumption) hb8
      | exact keepR (by assumption) hb7)
    (first
      | (go_at_call 44; refine (to_any _ _ _ _ m _ (R.out.below (below_drewN HBD.out 1)) hl).mono ?_; rintro e w7 ⟨t0, t1, t2, t3, rfl, o7, hb7⟩; obtain ⟨F0, k0, F1, k1, F2, k2, F3, k3, rfl, rfl, rfl, rfl⟩ := o7.shape)
      | (go_at_call 46; refine (eq_any _ _ _ _ _ _ _ _ m m _ ((OXd.out.below (below_drewN (Below.refl _ _) 1)).below hb7).rd o7.rd).mono ?_; rw [decide_eq_true rfl]; rintro e w8 ⟨rfl, hb8⟩))
  have h68 : Below w6.heap.size w6 w8 := thenB (thenB (below_drewN (Below.refl _ _) 1) hb7) hb8
  have Z3e := Lib.hid (zBelow h68 Z3d.out)
  have Z8e := Lib.hid (zBelow h68 Z8d.out)
  have Z9e := Lib.hid (zBelow h68 Z9d.out)
  have Z10e := Lib.hid (zBelow h68 Z10d.out)
  have OCe := Lib.hid (OCd.out.below h68)
  have OXe := Lib.hid (OXd.out.below h68)
  have OGe := Lib.hid (OGd.out.below h68)
  have HBE := Lib.hid (thenB HBD.out h68)
  have HAE := Lib.hid (thenB HAD.out h68)
  clear h68 hb7 hb8 o7 y0 y1 y2 y3 z0 z1 z2 z3 Z3d Z8d Z9d Z10d OCd OXd OGd
  go_upto_region 13 with fail
  obtain ⟨y0, y1, y2, y3, _, _, _, _⟩ := zCells Z9e.out
  go_upto_region 14 with (first
    | (go_at_call 49; refine (mark_any wA.heap.size w4.heap.size _ _ _ _ m _ OXe.out IX.out hl).mono ?_; rintro e w9 ⟨rfl, _, hw9⟩; have HW9 := Lib.hid hw9; clear hw9 y0 y1 y2 y3))
  have Z3f := Lib.hid (zWithin HW9.out Z3e.out (Or.inl (by omega)))
  have Z8f := Lib.hid (zWithin HW9.out Z8e.out (Or.inl sA))
  have Z9f := Lib.hid (zWithin HW9.out Z9e.out (Or.inr (Nat.le_refl _)))
  have Z10f := Lib.hid (zWithin HW9.out Z10e.out (Or.inr (by omega)))
  have OCf := Lib.hid (OCe.out.within_under HW9.out (InM.mono IA.out (by omega)))
  have OGf := Lib.hid (OGe.out.within_above HW9.out (by omega))
  have sE : w1.heap.size ≤ w8.heap.size := HAE.out.size
  have HBF := Lib.hid (HW9.out.below HBE.out (by omega) HBE.out.size)
  clear Z3e Z8e Z9e Z10e OCe OXe OGe
  obtain ⟨y0, y1, y2, y3, _, _, _, _⟩ := zCells Z10f.out
  obtain ⟨z0, z1, z2, z3, _, _, _, _⟩ := zCells Z8f.out
  have hme2 : decide (markEnd 1 m < 0) = false := decide_eq_false (by omega)
  go_upto_region 17 with (first
    | (go_at_call 46; refine (eq_any _ _ _ _ _ _ _ _ n n _ OGf.out.rd OCf.out.rd).mono ?_; rw [decide_eq_true rfl]; rintro e w10 ⟨rfl, hb10⟩; have HB10 := Lib.hid hb10; clear hb10 y0 y1 y2 y3 z0 z1 z2 z3))
  have Z3g := Lib.hid (zBelow HB10.out Z3f.out)
  have Z8g := Lib.hid (zBelow HB10.out Z8f.out)
  have Z10g := Lib.hid (zBelow HB10.out Z10f.out)
  have OCg := Lib.hid (OCf.out.below HB10.out)
  have OGg := Lib.hid (OGf.out.below HB10.out)
  have HBG := Lib.hid (thenB HBF.out HB10.out)
  clear Z3f Z8f Z9f Z10f OCf OGf
  obtain ⟨y0, y1, y2, y3, _, _, _, _⟩ := zCells Z10g.out
  go_upto_region 18 with (first
    | (go_at_call 49; refine (mark_any wB.heap.size w5.heap.size _ _ _ _ n _ OGg.out IG.out hn).mono ?_; rintro e w11 ⟨rfl, o11, hw11⟩; have OM := Lib.hid o11; have HW11 := Lib.hid hw11; clear hw11 o11 y0 y1 y2 y3))
  have Z3h := Lib.hid (zWithin HW11.out Z3g.out (Or.inl (by omega)))
  have Z8h := Lib.hid (zWithin HW11.out Z8g.out (Or.inl (by omega)))
  have Z10h := Lib.hid (zWithin HW11.out Z10g.out (Or.inr (Nat.le_refl _)))
  have OCh := Lib.hid (OCg.out.within_under HW11.out (InM.mono IA.out (by omega)))
  have HBH := Lib.hid (HW11.out.below HBG.out (by omega) HBG.out.size)
  clear Z3g Z8g Z10g OCg OGg
  obtain ⟨y0, y1, y2, y3, _, _, _, _⟩ := zCells Z10h.out
  have hmn2 : decide (markEnd 1 n < 0) = false := decide_eq_false (by omega)
  go_upto_region 24 with (first
    | (go_at_call 50; refine (held_any _ _ _ _ n _ OM.out.rd hn).mono ?_; rintro e w12 ⟨rfl, hb12⟩; have HB12 := Lib.hid hb12; clear hb12 y0 y1 y2 y3))
  have Z3i := Lib.hid (zBelow HB12.out Z3h.out)
  have Z8i := Lib.hid (zBelow HB12.out Z8h.out)
  have Z10i := Lib.hid (zBelow HB12.out Z10h.out)
  have OCi := Lib.hid (OCh.out.below HB12.out)
  have OMi := Lib.hid (OM.out.below HB12.out)
  have HBI := Lib.hid (thenB HBH.out HB12.out)
  clear Z3h Z8h Z10h OCh OM
  obtain ⟨y0, y1, y2, y3, _, _, _, _⟩ := zCells Z3i.out
  go_upto_region 25 with (first
    | (go_at_call 44; refine (to_any _ _ _ _ m _ (R.out.below HBI.out) hl).mono ?_; rintro e w13 ⟨p0, p1, p2, p3, rfl, o13, hb13⟩; obtain ⟨P0, s0, P1, s1', P2, s2, P3, s3, rfl, rfl, rfl, rfl⟩ := o13.shape; have O13 := Lib.hid o13; have HB13 := Lib.hid hb13; clear o13 hb13 y0 y1 y2 y3)
    | (go_at_call 52; refine (implFill_any _ _ _ _ m a1 a2 _ O13.out.rd HWF.out).mono ?_; rw [HN.out]; rintro e w14 ⟨q0, q1, q2, q3, rfl, o14, hb14⟩; obtain ⟨Q0, t0, Q1, t1, Q2, t2, Q3, t3, rfl, rfl, rfl, rfl⟩ := o14.shape; have O14 := Lib.hid o14; have HB14 := Lib.hid (thenB HB13.out hb14); clear o14 hb14))
  have Z14 := Lib.hid (heap_alloc_new w14 (.cells #[.slice Q0 (n).ws.length t0, .slice Q1 (n).pend.length t1, .slice Q2 (n).tlb.length t2, .slice Q3 (n).wc.length t3] 73))
  have hDD : Below w12.heap.size w12 (w14.alloc (.cells #[.slice Q0 (n).ws.length t0, .slice Q1 (n).pend.length t1, .slice Q2 (n).tlb.length t2, .slice Q3 (n).wc.length t3] 73)) := allocB HB14.out _
  have Z8j := Lib.hid (zBelow hDD Z8i.out)
  have Z10j := Lib.hid (zBelow hDD Z10i.out)
  have OCj := Lib.hid (OCi.out.below hDD)
  have OMj := Lib.hid (OMi.out.below hDD)
  have OH := Lib.hid (O14.out.below (allocB (Below.refl _ _) (.cells #[.slice Q0 (n).ws.length t0, .slice Q1 (n).pend.length t1, .slice Q2 (n).tlb.length t2, .slice Q3 (n).wc.length t3] 73)))
  have HBJ : Hid (Below w.heap.size w (w14.alloc (.cells #[.slice Q0 (n).ws.length t0, .slice Q1 (n).pend.length t1, .slice Q2 (n).tlb.length t2, .slice Q3 (n).wc.length t3] 73))) := Lib.hid (thenB HBI.out hDD)
  clear hDD Z3i Z8i Z10i OCi OMi O14 O13
  generalize (w14.alloc (.cells #[.slice Q0 (n).ws.length t0, .slice Q1 (n).pend.length t1, .slice Q2 (n).tlb.length t2, .slice Q3 (n).wc.length t3] 73)) = wD at *
  obtain ⟨y0, y1, y2, y3, _, _, _, _⟩ := zCells Z14.out
  obtain ⟨z0, z1, z2, z3, _, _, _, _⟩ := zCells Z8j.out
  go_upto_region 28 with (first
    | (go_at_call 46; refine (eq_any _ _ _ _ _ _ _ _ n n _ OH.out.rd OCj.out.rd).mono ?_; rw [decide_eq_true rfl]; rintro e w15 ⟨rfl, hb15⟩; have HB15 := Lib.hid hb15; clear hb15 y0 y1 y2 y3 z0 z1 z2 z3))
  have Z10k := Lib.hid (zBelow HB15.out Z10j.out)
  have OMk := Lib.hid (OMj.out.below HB15.out)
  have HBK := Lib.hid (thenB HBJ.out HB15.out)
  clear Z8j Z10j OCj OMj OH
  obtain ⟨y0, y1, y2, y3, _, _, _, _⟩ := zCells Z10k.out
  go_wp2_with (first
    | (go_at_call 50; refine (held_any _ _ _ _ n _ OMk.out.rd hn).mono ?_; rintro e w16 ⟨rfl, hb16⟩; have HB16 := Lib.hid hb16; clear hb16))
  go_ret
  exact ⟨rfl, thenB HBK.out HB16.out⟩
end Go.Proofs.Ytemfnbcebgflmaa.Mmu
namespace Go.Proofs.Ytemfnbcebgflmaa.fnExactFill
open Go.ChangeShapes Go.WideShapes Go.ChangeAt Go.RowKit Go.Joins
open Go.ChangeMaps (open_string shut_string)
set_option linter.unusedVariables false
theorem own : ownKnob Try.prog.godebug = none := by kernel_rfl
theorem laidOut : laidOutB Try.prog = true := by kernel_rfl
set_option maxRecDepth 100000 in
theorem lifted (os : Os) (started : os.Started) (H : Type) (enc : TypeId × Value → H) :
    ReturnsInHanded {} Try.checked os 13 .any (Rows.fnExactFillSpec.pre6 enc Try.prog Try.f13 Rows.fnExactFillRow.domain false) (Rows.fnExactFillSpec.post enc Try.prog Try.f13 false true false false) := by
  refine returnsInHanded_of_change_sized (C := Try.checked) own started (by kernel_rfl) Try.func13
    (ChangeSpec.witness6 (enc := enc) (C := Try.checked) false ⟨#[], #[.agg #[.slice none 0 0, .slice none 0 0, .slice none 0 0, .slice none 0 0], .int .i64 0, .int .i64 0], []⟩ 8 (by kernel_rfl) (by kernel_rfl) (by kernel_rfl) (by kernel_rfl)) ?_
  intro W base args ds gs before hval0 hW hcnd hsz0 _
  have hsz : (DataW.weightsEach Try.prog (Try.f13.params.toList ++ Rows.fnExactFillSpec.plain.varTypes Try.prog) (ds ++ gs)).all (· ≤ reachBytes) = true := hsz0
  have hval : ∀ (j : Nat) t v, Try.f13.params[j]? = some t → args[j]? = some v → Value.okWide Try.prog W .any base t v := hval0
  have hW' := hW
  obtain ⟨p, q, hA0, hV, rfl, hfz, hnd⟩ := hW
  have hA : DataW.TrodAll enc Try.prog W 0 (fun _ => true) true Try.f13.params.toList args.toList ds p := hA0
  rw [Try.params13] at hA hval hsz
  obtain ⟨v0, vs0, d0, ds0, p0, q0, hargs, rfl, rfl, h0, r0⟩ := trodAll_cons hA
  obtain ⟨v1, vs1, d1, ds1, p1, q1, rfl, rfl, rfl, h1, r1⟩ := trodAll_cons r0
  obtain ⟨v2, vs2, d2, ds2, p2, q2, rfl, rfl, rfl, h2, r2⟩ := trodAll_cons r1
  obtain ⟨rfl, rfl, rfl⟩ := trodAll_nil r2
  obtain rfl : args = #[v0, v1, v2] := by cases args; simp_all
  obtain ⟨rfl, rfl⟩ := trodVars_none hV
  have lt0 : ∀ x ∈ p0, x.block < W.heap.size := by obtain ⟨m, hm⟩ := h0; exact DataW.trod_lt m _ _ _ hm
  have k0 := h0
  obtain ⟨u0, u1, u2, u3, m, rfl, hr0, hw0, hp0⟩ := OpenRd.open_machine (hval 0 66 v0 rfl rfl) h0
  obtain ⟨a1, rfl, rfl, rfl, w1⟩ := open_int Try.underlying3 (hval 1 3 v1 rfl rfl) h1
  obtain ⟨a2, rfl, rfl, rfl, w2⟩ := open_int Try.underlying3 (hval 2 3 v2 rfl rfl) h2
  clear hA0 hval0 hsz0 hsz
  refine (Mmu.lawFill u0 u1 u2 u3 m a1 a2 W hr0 ⟨hw0, hp0⟩).mono fun e W' ⟨he, bel⟩ => ?_
  subst he
  exact ⟨_, rfl, _, _, _, [], _, [], hW', trodAll_mk1 (shut_bool Try.underlying4 _), (trodAll_cons_mk (Below.trod laidOut (by kernel_rfl) (of_decide_eq_true (by kernel_rfl)) k0 bel lt0) (trodAll_cons_mk (shut_int Try.underlying3 w1) (trodAll_cons_mk (shut_int Try.underlying3 w2) trodAll_mk0))), rfl, bel.frame _, fun h => by cases h⟩
theorem over : Rows.fnExactFillRow.holds Try.pinned (OpenSpec.ofChange Rows.fnExactFillSpec) :=
  OpenClaim.holds_of_wide 13 Try.f13 rfl rfl rfl rfl rfl rfl rfl ⟨rfl, rfl, rfl, rfl, rfl⟩ rfl rfl rfl rfl rfl (by kernel_rfl) Try.func13 (by kernel_rfl)
    (of_decide_eq_true (by kernel_rfl)) (by unfold Func.isWrapper; first | (rw [if_pos (by decide +kernel)]; kernel_rfl) | (rw [if_neg (by decide +kernel)]; exact ⟨rfl, rfl⟩))
    (fun os started H enc _ => lifted os started H enc)
theorem proved : Rows.FnExactFillSaid := over
#print axioms proved
end Go.Proofs.Ytemfnbcebgflmaa.fnExactFill
namespace Go.Proofs.Ytemfnbcebgflmaa
/-- The row, under a short name, for the claim. -/
theorem fnExactFill_holds : Rows.FnExactFillSaid := fnExactFill.proved
end Go.Proofs.Ytemfnbcebgflmaa
