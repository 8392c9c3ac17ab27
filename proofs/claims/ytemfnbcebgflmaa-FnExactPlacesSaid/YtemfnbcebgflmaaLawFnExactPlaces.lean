/- Places of the program answers as the reference's, at every memory that the law asks (at most 2^20 words: the law itself answers true for more), writes into none of its arguments, and keeps nothing of them. -/
import Derived.Test.YtemfnbcebgflmaaRows
import Derived.Test.YtemfnbcebgflmaaOpenRd
import Derived.Test.YtemfnbcebgflmaaLawPlaces
import Derived.WalkKit
import Derived.ProofKit
import Derived.OpenShut
import Derived.ShutString
import Derived.ChangeOld
import Derived.ChangeArms
import Derived.Below
import Derived.SizedLaws
import Derived.Lib.SmallJoins
namespace Go.Proofs.Ytemfnbcebgflmaa.OpenMem
set_option linter.unusedVariables false
set_option linter.unusedSimpArgs false
open Go.ChangeShapes Go.WideShapes Go.Deep Go.RowKit Go.Joins Go.Proofs.Ytemfnbcebgflmaa.Base Go.Proofs.Ytemfnbcebgflmaa.Kinds Go.Proofs.Ytemfnbcebgflmaa.OpenRd
set_option maxRecDepth 100000 in
/-- A memory of the law, opened. -/
theorem open_mem {H : Type} {enc : TypeId × Value → H} {w : World} {base : Nat} {held : Bool} {r : Reach} {b0 : Nat} {v : Value} {d : DataW H} {p : List MemPlace}
    (hv : Value.okWide Try.prog w r b0 47 v) (h : DataW.Trod enc Try.prog w base (fun _ => true) held 47 v d p) :
    ∃ (v0 : Value) (l : List Int), v = .agg #[v0] ∧ Rd wEnc 1 w v0 l ∧ ∀ x ∈ l, 0 ≤ x ∧ x < 18446744073709551616 := by
  obtain ⟨cs, rfl, hl, hf⟩ := open_struct Try.underlying47 hv h
  have hc : Try.prog.cellsOf 47 = 1 := by kernel_rfl
  rw [hc] at hl
  obtain ⟨c0, rfl⟩ : ∃ a, cs = [a] := by
    match cs, hl with
    | [a], _ => exact ⟨a, rfl⟩
  have kw : Try.prog.cellsOf 45 = 1 := by kernel_rfl
  obtain ⟨n0, y0, h0⟩ := hf 0 _ rfl
  change DataW.trod enc Try.prog w base (fun _ => true) held n0 45 ((List.drop 0 [c0]).take (Try.prog.cellsOf 45)) = some y0 at h0
  rw [kw] at h0
  change DataW.trod enc Try.prog w base (fun _ => true) held n0 45 [c0] = some y0 at h0
  obtain ⟨l, hr, hb⟩ := openWords h0
  exact ⟨c0, l, rfl, hr, hb⟩
end Go.Proofs.Ytemfnbcebgflmaa.OpenMem
namespace Go.Proofs.Ytemfnbcebgflmaa.fnExactPlaces
open Go.ChangeShapes Go.WideShapes Go.ChangeAt Go.RowKit Go.Joins
open Go.ChangeMaps (open_string shut_string)
set_option linter.unusedVariables false
theorem own : ownKnob Try.prog.godebug = none := by kernel_rfl
theorem laidOut : laidOutB Try.prog = true := by kernel_rfl
set_option maxRecDepth 100000 in
theorem lifted (os : Os) (started : os.Started) (H : Type) (enc : TypeId × Value → H) :
    ReturnsInHanded {} Try.checked os 10 .any (Rows.fnExactPlacesSpec.pre6 enc Try.prog Try.f10 Rows.fnExactPlacesRow.domain false) (Rows.fnExactPlacesSpec.post enc Try.prog Try.f10 false true false false) := by
  refine returnsInHanded_of_change_sized (C := Try.checked) own started (by kernel_rfl) Try.func10
    (ChangeSpec.witness6 (enc := enc) (C := Try.checked) false ⟨#[], #[.agg #[.slice none 0 0]], []⟩ 8 (by kernel_rfl) (by kernel_rfl) (by kernel_rfl) (by kernel_rfl)) ?_
  intro W base args ds gs before hval0 hW hcnd hsz0 _
  have hsz : (DataW.weightsEach Try.prog (Try.f10.params.toList ++ Rows.fnExactPlacesSpec.plain.varTypes Try.prog) (ds ++ gs)).all (· ≤ reachBytes) = true := hsz0
  have hval : ∀ (j : Nat) t v, Try.f10.params[j]? = some t → args[j]? = some v → Value.okWide Try.prog W .any base t v := hval0
  have hW' := hW
  obtain ⟨p, q, hA0, hV, rfl, hfz, hnd⟩ := hW
  have hA : DataW.TrodAll enc Try.prog W 0 (fun _ => true) true Try.f10.params.toList args.toList ds p := hA0
  rw [Try.params10] at hA hval hsz
  obtain ⟨v0, vs0, d0, ds0, p0, q0, hargs, rfl, rfl, h0, r0⟩ := trodAll_cons hA
  obtain ⟨rfl, rfl, rfl⟩ := trodAll_nil r0
  obtain rfl : args = #[v0] := by cases args; simp_all
  obtain ⟨rfl, rfl⟩ := trodVars_none hV
  have lt0 : ∀ x ∈ p0, x.block < W.heap.size := by obtain ⟨m, hm⟩ := h0; exact DataW.trod_lt m _ _ _ hm
  have k0 := h0
  obtain ⟨u0, l0, rfl, hr0, hw0⟩ := OpenMem.open_mem (hval 0 47 v0 rfl rfl) h0
  clear hA0 hval0 hsz0 hsz
  refine (Mmu.lawPlaces u0 l0 W hr0 hw0).mono fun e W' ⟨he, bel⟩ => ?_
  subst he
  exact ⟨_, rfl, _, _, _, [], _, [], hW', trodAll_mk1 (shut_bool Try.underlying4 _), (trodAll_cons_mk (Below.trod laidOut (by kernel_rfl) (of_decide_eq_true (by kernel_rfl)) k0 bel lt0) trodAll_mk0), rfl, bel.frame _, fun h => by cases h⟩
theorem over : Rows.fnExactPlacesRow.holds Try.pinned (OpenSpec.ofChange Rows.fnExactPlacesSpec) :=
  OpenClaim.holds_of_wide 10 Try.f10 rfl rfl rfl rfl rfl rfl rfl ⟨rfl, rfl, rfl, rfl, rfl⟩ rfl rfl rfl rfl rfl (by kernel_rfl) Try.func10 (by kernel_rfl)
    (of_decide_eq_true (by kernel_rfl)) (by unfold Func.isWrapper; first | (rw [if_pos (by decide +kernel)]; kernel_rfl) | (rw [if_neg (by decide +kernel)]; exact ⟨rfl, rfl⟩))
    (fun os started H enc _ => lifted os started H enc)
theorem proved : Rows.FnExactPlacesSaid := over
#print axioms proved
end Go.Proofs.Ytemfnbcebgflmaa.fnExactPlaces
namespace Go.Proofs.Ytemfnbcebgflmaa
/-- The row, under a short name, for the claim. -/
theorem fnExactPlaces_holds : Rows.FnExactPlacesSaid := fnExactPlaces.proved
end Go.Proofs.Ytemfnbcebgflmaa
