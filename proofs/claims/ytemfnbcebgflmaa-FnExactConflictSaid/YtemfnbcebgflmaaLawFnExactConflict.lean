/- Conflict of the program answers as the reference's, at every machine that the law asks (lists of at most 2^20 entries in all: the law itself answers true for more), and writes into none. -/
import Derived.Test.YtemfnbcebgflmaaRows
import Derived.Test.YtemfnbcebgflmaaOpenRd
import Derived.Test.YtemfnbcebgflmaaLawMore
import Derived.Test.YtemfnbcebgflmaaSpecConf
import Derived.Test.YtemfnbcebgflmaaImplConf
import Derived.WalkKit
import Derived.ProofKit
import Derived.OpenShut
import Derived.ShutString
import Derived.ChangeOld
import Derived.ChangeArms
import Derived.Below
import Derived.SizedLaws
import Derived.Lib.SmallJoins
namespace Go.Proofs.Ytemfnbcebgflmaa.Mmu
open Go.RowKit Go.Proofs.Ytemfnbcebgflmaa.Base Go.Proofs.Ytemfnbcebgflmaa.Kinds Go.Proofs.Ytemfnbcebgflmaa.LawsMach
set_option linter.unusedVariables false
set_option linter.unusedSimpArgs false

set_option maxRecDepth 100000 in
set_option maxHeartbeats 4000000 in
theorem lawConflict (v0 v1 v2 v3 : Value) (m : SM) (w : World) (r : RdM w v0 v1 v2 v3 m) :
    Calls Try.prog 11 #[.agg #[v0, v1, v2, v3]] w fun e w' => e = .returned (.bool true) ∧ Below w.heap.size w w' := by
  obtain ⟨A0, c0, A1, c1, A2, c2, A3, c3, rfl, rfl, rfl, rfl, hl0, hk0, hl1, hk1, hl2, hk2, hl3, hk3⟩ := r.shape
  have R := Lib.hid r
  clear r
  by_cases hl : bulk m ≤ 1048576
  rotate_left
  · go_enter Try.func11, Try.ntmps11
    go_wp2_with (first | (go_at_call 42; refine (sz_bad m _ (R.out.below (allocB (Below.refl _ _) _)) hl).mono ?_; rintro e w1 ⟨x, hx3, rfl, hb1⟩; have HB1 := Lib.hid (thenB (allocB (Below.refl w.heap.size w) _) hb1)))
    go_ret
    exact ⟨rfl, HB1.out⟩
  go_enter Try.func11, Try.ntmps11
  go_wp2_with (first
    | (go_at_call 42; refine (sz_good m _ (R.out.below (allocB (Below.refl _ _) _)) hl).mono ?_; rintro e w1 ⟨x, hx3, rfl, hb1⟩; have HB1 := Lib.hid (thenB (allocB (Below.refl w.heap.size w) _) hb1); obtain ⟨hc1, hf1⟩ := bcell hb1; have y0 : w1.cell? ⟨w.heap.size, 0, none⟩ = some (.slice A0 m.ws.length c0) := (hc1 _ _ (by simp)).trans (by go_simp); have y1 : w1.cell? ⟨w.heap.size, 1, none⟩ = some (.slice A1 m.pend.length c1) := (hc1 _ _ (by simp)).trans (by go_simp); have y2 : w1.cell? ⟨w.heap.size, 2, none⟩ = some (.slice A2 m.tlb.length c2) := (hc1 _ _ (by simp)).trans (by go_simp); have y3 : w1.cell? ⟨w.heap.size, 3, none⟩ = some (.slice A3 m.wc.length c3) := (hc1 _ _ (by simp)).trans (by go_simp); have hz1 : w.heap.size < w1.heap.size := (by have := hb1.size; simp at this; omega); have Y0 := Lib.hid y0; have Y1 := Lib.hid y1; have Y2 := Lib.hid y2; have Y3 := Lib.hid y3; clear hc1 hf1 hb1)
    | (go_at_call 44; first
        | (have hq := HB3; clear hq; refine (to_any _ _ _ _ m _ (R.out.below HB3.out) hl).mono ?_; rintro e w4 ⟨x0, x1, x2, x3, rfl, o2, hb4⟩; obtain ⟨E0, g0, E1, g1, E2, g2, E3, g3, rfl, rfl, rfl, rfl⟩ := o2.shape; have O2 := Lib.hid o2; have HB4 := Lib.hid (thenB HB3.out hb4); have y0 : w4.cell? ⟨w.heap.size, 0, none⟩ = some (.slice A0 m.ws.length c0) := ((thenB HH3.out hb4).cell hz1).trans Y0.out; have y1 : w4.cell? ⟨w.heap.size, 1, none⟩ = some (.slice A1 m.pend.length c1) := ((thenB HH3.out hb4).cell hz1).trans Y1.out; have y2 : w4.cell? ⟨w.heap.size, 2, none⟩ = some (.slice A2 m.tlb.length c2) := ((thenB HH3.out hb4).cell hz1).trans Y2.out; have y3 : w4.cell? ⟨w.heap.size, 3, none⟩ = some (.slice A3 m.wc.length c3) := ((thenB HH3.out hb4).cell hz1).trans Y3.out; have HH4 := Lib.hid (thenB HH3.out hb4); clear o2 hb4)
        | (refine (to_any _ _ _ _ m _ (R.out.below HB1.out) hl).mono ?_; rintro e w2 ⟨u0, u1, u2, u3, rfl, o1, hb2⟩; obtain ⟨B0, d0, B1, d1, B2, d2, B3, d3, rfl, rfl, rfl, rfl⟩ := o1.shape; have O1 := Lib.hid o1; have HB2 := Lib.hid (thenB HB1.out hb2); have HH2 := Lib.hid hb2; clear o1 hb2 y0 y1 y2 y3))
    | (go_at_call 43; refine (specConflict_any _ _ _ _ m _ O1.out.rd).mono ?_; rintro e w3 ⟨rfl, hb3⟩; have HB3 := Lib.hid (thenB HB2.out hb3); have HH3 := Lib.hid (thenB HH2.out hb3); have y0 : w3.cell? ⟨w.heap.size, 0, none⟩ = some (.slice A0 m.ws.length c0) := (HH3.out.cell hz1).trans Y0.out; have y1 : w3.cell? ⟨w.heap.size, 1, none⟩ = some (.slice A1 m.pend.length c1) := (HH3.out.cell hz1).trans Y1.out; have y2 : w3.cell? ⟨w.heap.size, 2, none⟩ = some (.slice A2 m.tlb.length c2) := (HH3.out.cell hz1).trans Y2.out; have y3 : w3.cell? ⟨w.heap.size, 3, none⟩ = some (.slice A3 m.wc.length c3) := (HH3.out.cell hz1).trans Y3.out; clear hb3)
    | (go_at_call 45; refine (implConflict_any _ _ _ _ m _ (O2.out.rd.below (allocB (Below.refl _ _) _))).mono ?_; rintro e w5 ⟨rfl, hb5⟩; have HB5 := Lib.hid (thenB (allocB HB4.out _) hb5); have HH5 := Lib.hid (thenB (allocB HH4.out _) hb5); have HI5 := Lib.hid (thenB (allocB (Below.refl _ _) _) hb5); have HJ5 := Lib.hid hb5))
  have s0 : w5.cell? ⟨w.heap.size, 0, none⟩ = some (.slice A0 m.ws.length c0) := (HH5.out.cell hz1).trans Y0.out
  have s1 : w5.cell? ⟨w.heap.size, 1, none⟩ = some (.slice A1 m.pend.length c1) := (HH5.out.cell hz1).trans Y1.out
  have s2 : w5.cell? ⟨w.heap.size, 2, none⟩ = some (.slice A2 m.tlb.length c2) := (HH5.out.cell hz1).trans Y2.out
  have s3 : w5.cell? ⟨w.heap.size, 3, none⟩ = some (.slice A3 m.wc.length c3) := (HH5.out.cell hz1).trans Y3.out
  have t0 : w5.cell? ⟨w4.heap.size, 0, none⟩ = some (.slice E0 m.ws.length g0) := (HJ5.out.cell (by simp)).trans (by go_simp)
  have t1 : w5.cell? ⟨w4.heap.size, 1, none⟩ = some (.slice E1 m.pend.length g1) := (HJ5.out.cell (by simp)).trans (by go_simp)
  have t2 : w5.cell? ⟨w4.heap.size, 2, none⟩ = some (.slice E2 m.tlb.length g2) := (HJ5.out.cell (by simp)).trans (by go_simp)
  have t3 : w5.cell? ⟨w4.heap.size, 3, none⟩ = some (.slice E3 m.wc.length g3) := (HJ5.out.cell (by simp)).trans (by go_simp)
  have O5 := Lib.hid (O2.out.below HI5.out)
  have zz : w.heap.size < w5.heap.size ∧ w4.heap.size < w5.heap.size := ⟨World.block_lt_of_cell? _ _ s0, World.block_lt_of_cell? _ _ t0⟩
  go_region_held3 (fun w' => (w'.cell? ⟨w.heap.size, 0, none⟩ = some (.slice A0 m.ws.length c0) ∧ w'.cell? ⟨w.heap.size, 1, none⟩ = some (.slice A1 m.pend.length c1) ∧ w'.cell? ⟨w.heap.size, 2, none⟩ = some (.slice A2 m.tlb.length c2) ∧ w'.cell? ⟨w.heap.size, 3, none⟩ = some (.slice A3 m.wc.length c3)) ∧ (w'.cell? ⟨w4.heap.size, 0, none⟩ = some (.slice E0 m.ws.length g0) ∧ w'.cell? ⟨w4.heap.size, 1, none⟩ = some (.slice E1 m.pend.length g1) ∧ w'.cell? ⟨w4.heap.size, 2, none⟩ = some (.slice E2 m.tlb.length g2) ∧ w'.cell? ⟨w4.heap.size, 3, none⟩ = some (.slice E3 m.wc.length g3)))
    (first
      | exact keepR ⟨⟨s0, s1, s2, s3⟩, t0, t1, t2, t3⟩ (below_drewN (Below.refl _ _) 1)
      | exact keepR (by assumption) hb7
      | exact keepR (by assumption) hb6)
    (first
      | (go_at_call 44; refine (to_any _ _ _ _ m _ (R.out.below (below_drewN HB5.out 1)) hl).mono ?_; rintro e w6 ⟨x0, x1, x2, x3, rfl, o6, hb6⟩; obtain ⟨F0, k0, F1, k1, F2, k2, F3, k3, rfl, rfl, rfl, rfl⟩ := o6.shape)
      | (go_at_call 46; refine (eq_any _ _ _ _ _ _ _ _ m m _ ((O5.out.below (below_drewN (Below.refl _ _) 1)).below hb6).rd o6.rd).mono ?_; rintro e w7 ⟨rfl, hb7⟩))
  go_wp2
  go_ret
  exact ⟨rfl, thenB (thenB (below_drewN HB5.out 1) hb6) hb7⟩
end Go.Proofs.Ytemfnbcebgflmaa.Mmu
namespace Go.Proofs.Ytemfnbcebgflmaa.fnExactConflict
open Go.ChangeShapes Go.WideShapes Go.ChangeAt Go.RowKit Go.Joins
open Go.ChangeMaps (open_string shut_string)
set_option linter.unusedVariables false
theorem own : ownKnob Try.prog.godebug = none := by kernel_rfl
theorem laidOut : laidOutB Try.prog = true := by kernel_rfl
set_option maxRecDepth 100000 in
theorem lifted (os : Os) (started : os.Started) (H : Type) (enc : TypeId × Value → H) :
    ReturnsInHanded {} Try.checked os 11 .any (Rows.fnExactConflictSpec.pre6 enc Try.prog Try.f11 Rows.fnExactConflictRow.domain false) (Rows.fnExactConflictSpec.post enc Try.prog Try.f11 false true false false) := by
  refine returnsInHanded_of_change_sized (C := Try.checked) own started (by kernel_rfl) Try.func11
    (ChangeSpec.witness6 (enc := enc) (C := Try.checked) false ⟨#[], #[.agg #[.slice none 0 0, .slice none 0 0, .slice none 0 0, .slice none 0 0]], []⟩ 8 (by kernel_rfl) (by kernel_rfl) (by kernel_rfl) (by kernel_rfl)) ?_
  intro W base args ds gs before hval0 hW hcnd hsz0 _
  have hsz : (DataW.weightsEach Try.prog (Try.f11.params.toList ++ Rows.fnExactConflictSpec.plain.varTypes Try.prog) (ds ++ gs)).all (· ≤ reachBytes) = true := hsz0
  have hval : ∀ (j : Nat) t v, Try.f11.params[j]? = some t → args[j]? = some v → Value.okWide Try.prog W .any base t v := hval0
  have hW' := hW
  obtain ⟨p, q, hA0, hV, rfl, hfz, hnd⟩ := hW
  have hA : DataW.TrodAll enc Try.prog W 0 (fun _ => true) true Try.f11.params.toList args.toList ds p := hA0
  rw [Try.params11] at hA hval hsz
  obtain ⟨v0, vs0, d0, ds0, p0, q0, hargs, rfl, rfl, h0, r0⟩ := trodAll_cons hA
  obtain ⟨rfl, rfl, rfl⟩ := trodAll_nil r0
  obtain rfl : args = #[v0] := by cases args; simp_all
  obtain ⟨rfl, rfl⟩ := trodVars_none hV
  have lt0 : ∀ x ∈ p0, x.block < W.heap.size := by obtain ⟨m, hm⟩ := h0; exact DataW.trod_lt m _ _ _ hm
  have k0 := h0
  obtain ⟨u0, u1, u2, u3, m, rfl, hr0, hw0, hp0⟩ := OpenRd.open_machine (hval 0 66 v0 rfl rfl) h0
  clear hA0 hval0 hsz0 hsz
  refine (Mmu.lawConflict u0 u1 u2 u3 m W hr0).mono fun e W' ⟨he, bel⟩ => ?_
  subst he
  exact ⟨_, rfl, _, _, _, [], _, [], hW', trodAll_mk1 (shut_bool Try.underlying4 _), (trodAll_cons_mk (Below.trod laidOut (by kernel_rfl) (of_decide_eq_true (by kernel_rfl)) k0 bel lt0) trodAll_mk0), rfl, bel.frame _, fun h => by cases h⟩
theorem over : Rows.fnExactConflictRow.holds Try.pinned (OpenSpec.ofChange Rows.fnExactConflictSpec) :=
  OpenClaim.holds_of_wide 11 Try.f11 rfl rfl rfl rfl rfl rfl rfl ⟨rfl, rfl, rfl, rfl, rfl⟩ rfl rfl rfl rfl rfl (by kernel_rfl) Try.func11 (by kernel_rfl)
    (of_decide_eq_true (by kernel_rfl)) (by unfold Func.isWrapper; first | (rw [if_pos (by decide +kernel)]; kernel_rfl) | (rw [if_neg (by decide +kernel)]; exact ⟨rfl, rfl⟩))
    (fun os started H enc _ => lifted os started H enc)
theorem proved : Rows.FnExactConflictSaid := over
#print axioms proved
end Go.Proofs.Ytemfnbcebgflmaa.fnExactConflict
namespace Go.Proofs.Ytemfnbcebgflmaa
/-- The row, under a short name, for the claim. -/
theorem fnExactConflict_holds : Rows.FnExactConflictSaid := fnExactConflict.proved
end Go.Proofs.Ytemfnbcebgflmaa
