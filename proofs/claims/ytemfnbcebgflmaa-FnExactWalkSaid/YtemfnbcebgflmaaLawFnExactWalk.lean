/- Walk of the program answers as the reference's, at every page and every memory that the law asks (at most 2^20 words: the law itself answers true for more), and writes into none. -/
import Derived.Test.YtemfnbcebgflmaaRows
import Derived.Test.YtemfnbcebgflmaaOpen
import Derived.Test.YtemfnbcebgflmaaWalkPureFnExactWalk
import Derived.Test.YtemfnbcebgflmaaMemPureFnExactWalk
import Derived.WalkKit
import Derived.ProofKit
import Derived.OpenShut
import Derived.ShutString
import Derived.ChangeOld
import Derived.ChangeArms
import Derived.Below
import Derived.SizedLaws
import Derived.Lib.SmallJoins
namespace Go.Proofs.Ytemfnbcebgflmaa.PureFnExactWalk
open Go.ChangeShapes Go.WideShapes Go.Deep Go.Joins
open Go.RowKit Go.Proofs.Ytemfnbcebgflmaa.PFnExactWalk Go.Proofs.YtemfnbcebgflmaaW.PrintWords Go.Proofs.YtemfnbcebgflmaaW.PrintLast Go.Proofs.YtemfnbcebgflmaaW.PrintMore
open Go.Proofs.Ytemfnbcebgflmaa.DecMath Go.Proofs.Ytemfnbcebgflmaa.Open

theorem eqHit_self (h : Int × Int × Int × Int) : laws_eqHit.f h.1 h.2.1 h.2.2.1 h.2.2.2 h.1 h.2.1 h.2.2.1 h.2.2.2 = some true := by
  simp [laws_eqHit.f]

theorem law (l : List Int) (p : Int) (hl : l.length ≤ 9223372036854775807) (hw : Words l) : ∃ k, laws_FnExactWalk.f k l p = some true := by
  by_cases hs : l.length ≤ 1048576
  · refine Ev.rounds (g := fun k => laws_FnExactWalk.f k l p) ?_
    unfold laws_FnExactWalk.f
    have hz : laws_szMem.f l 1048576 = some (1048576 - (l.length : Int)) := by
      unfold laws_szMem.f laws_szUint64S.f
      rw [show wrap64 (1048576 - (l.length : Int)) = 1048576 - (l.length : Int) by unfold wrap64; omega, if_neg (by omega)]
      simp only [Option.bind_some]
      rw [if_neg (by omega)]
    simp only [hz, Option.bind_some]
    simp only [if_neg (show ¬ (1048576 - (l.length : Int)) < 0 by omega)]
    have hc := mem_f l (by omega)
    refine Ev.bind hc (Ev.bind (spec_walk l p hw) (Ev.bind hc (Ev.bind (impl_walk l p hw) ?_)))
    simp only [eqHit_self, Option.bind_some, if_true]
    refine Ev.bind hc (Ev.bind (eqm_f _ (by omega)) ?_)
    simpa using Ev.now true
  · refine ⟨0, ?_⟩
    unfold laws_FnExactWalk.f
    have hz : laws_szMem.f l 1048576 = some (-1) := by
      unfold laws_szMem.f laws_szUint64S.f
      rw [show wrap64 (1048576 - (l.length : Int)) = 1048576 - (l.length : Int) by unfold wrap64; omega, if_pos (by omega)]
      simp
    simp [hz]

set_option maxRecDepth 100000 in
theorem open_mem {H : Type} {enc : TypeId × Value → H} {w : World} {base : Nat} {held : Bool} {r : Reach} {b0 : Nat} {v : Value} {d : DataW H} {p : List MemPlace}
    (hv : Value.okWide Try.prog w r b0 47 v) (h : DataW.Trod enc Try.prog w base (fun _ => true) held 47 v d p) :
    ∃ (A : Option Addr) (c : Nat) (l : List Int), v = .agg #[.slice A l.length c] ∧ Kd.C (Kd.int .u64) w A l.length l ∧ l.length ≤ c ∧ Words l := by
  obtain ⟨cs, rfl, hl, hf⟩ := open_struct Try.underlying47 hv h
  have hc : Try.prog.cellsOf 47 = 1 := by kernel_rfl
  rw [hc] at hl
  obtain ⟨c0, rfl⟩ : ∃ c, cs = [c] := by
    match cs, hl with
    | [c], _ => exact ⟨c, rfl⟩
  obtain ⟨n, y, h0⟩ := hf 0 _ rfl
  have hc2 : Try.prog.cellsOf 45 = 1 := by kernel_rfl
  change DataW.trod enc Try.prog w base (fun _ => true) held n 45 ((List.drop 0 [c0]).take (Try.prog.cellsOf 45)) = some y at h0
  rw [hc2] at h0
  change DataW.trod enc Try.prog w base (fun _ => true) held n 45 [c0] = some y at h0
  obtain ⟨A, cap, l, rfl, hr, hle, hwf⟩ := ints_row Try.underlying45 Try.underlying23 (by kernel_rfl) h0
  refine ⟨A, cap, l, rfl, hr, hle, fun x hx => ?_⟩
  have := hwf x hx
  simp [Lit.wf, IntKind.min, IntKind.max, IntKind.signed, IntKind.bits] at this
  omega

end Go.Proofs.Ytemfnbcebgflmaa.PureFnExactWalk
namespace Go.Proofs.Ytemfnbcebgflmaa.fnExactWalk
open Go.ChangeShapes Go.WideShapes Go.ChangeAt Go.RowKit Go.Joins
open Go.ChangeMaps (open_string shut_string)
set_option linter.unusedVariables false
theorem own : ownKnob Try.prog.godebug = none := by kernel_rfl
theorem laidOut : laidOutB Try.prog = true := by kernel_rfl
set_option maxRecDepth 100000 in
theorem lifted (os : Os) (started : os.Started) (H : Type) (enc : TypeId × Value → H) :
    ReturnsInHanded {} Try.checked os 8 .any (Rows.fnExactWalkSpec.pre6 enc Try.prog Try.f8 Rows.fnExactWalkRow.domain false) (Rows.fnExactWalkSpec.post enc Try.prog Try.f8 false true false false) := by
  refine returnsInHanded_of_change_sized (C := Try.checked) own started (by kernel_rfl) Try.func8
    (ChangeSpec.witness6 (enc := enc) (C := Try.checked) false ⟨#[], #[.agg #[.slice none 0 0], .int .i64 0], []⟩ 8 (by kernel_rfl) (by kernel_rfl) (by kernel_rfl) (by kernel_rfl)) ?_
  intro W base args ds gs before hval0 hW hcnd hsz0 _
  have hsz : (DataW.weightsEach Try.prog (Try.f8.params.toList ++ Rows.fnExactWalkSpec.plain.varTypes Try.prog) (ds ++ gs)).all (· ≤ reachBytes) = true := hsz0
  have hval : ∀ (j : Nat) t v, Try.f8.params[j]? = some t → args[j]? = some v → Value.okWide Try.prog W .any base t v := hval0
  have hW' := hW
  obtain ⟨p, q, hA0, hV, rfl, hfz, hnd⟩ := hW
  have hA : DataW.TrodAll enc Try.prog W 0 (fun _ => true) true Try.f8.params.toList args.toList ds p := hA0
  rw [Try.params8] at hA hval hsz
  obtain ⟨v0, vs0, d0, ds0, p0, q0, hargs, rfl, rfl, h0, r0⟩ := trodAll_cons hA
  obtain ⟨v1, vs1, d1, ds1, p1, q1, rfl, rfl, rfl, h1, r1⟩ := trodAll_cons r0
  obtain ⟨rfl, rfl, rfl⟩ := trodAll_nil r1
  obtain rfl : args = #[v0, v1] := by cases args; simp_all
  obtain ⟨rfl, rfl⟩ := trodVars_none hV
  have lt0 : ∀ x ∈ p0, x.block < W.heap.size := by obtain ⟨m, hm⟩ := h0; exact DataW.trod_lt m _ _ _ hm
  have k0 := h0
  obtain ⟨A0, c0, l0, rfl, hr0, hc0, hw0⟩ := PureFnExactWalk.open_mem (hval 0 47 v0 rfl rfl) h0
  obtain ⟨a1, rfl, rfl, rfl, w1⟩ := open_int Try.underlying3 (hval 1 3 v1 rfl rfl) h1
  clear hA0 hval0 hsz0 hsz
  obtain ⟨k, hk⟩ := PureFnExactWalk.law l0 a1 hr0.2.1 hw0
  refine (PFnExactWalk.laws_FnExactWalk.calls k A0 c0 l0 a1 true W hr0 hc0 hk).mono fun e W' ⟨he, bel⟩ => ?_
  subst he
  exact ⟨_, rfl, _, _, _, [], _, [], hW', trodAll_mk1 (shut_bool Try.underlying4 _), (trodAll_cons_mk (Below.trod laidOut (by kernel_rfl) (of_decide_eq_true (by kernel_rfl)) k0 bel lt0) (trodAll_cons_mk (shut_int Try.underlying3 w1) trodAll_mk0)), rfl, bel.frame _, fun h => by cases h⟩
theorem over : Rows.fnExactWalkRow.holds Try.pinned (OpenSpec.ofChange Rows.fnExactWalkSpec) :=
  OpenClaim.holds_of_wide 8 Try.f8 rfl rfl rfl rfl rfl rfl rfl ⟨rfl, rfl, rfl, rfl, rfl⟩ rfl rfl rfl rfl rfl (by kernel_rfl) Try.func8 (by kernel_rfl)
    (of_decide_eq_true (by kernel_rfl)) (by unfold Func.isWrapper; first | (rw [if_pos (by decide +kernel)]; kernel_rfl) | (rw [if_neg (by decide +kernel)]; exact ⟨rfl, rfl⟩))
    (fun os started H enc _ => lifted os started H enc)
theorem proved : Rows.FnExactWalkSaid := over
#print axioms proved
end Go.Proofs.Ytemfnbcebgflmaa.fnExactWalk
namespace Go.Proofs.Ytemfnbcebgflmaa
/-- The row, under a short name, for the claim. -/
theorem fnExactWalk_holds : Rows.FnExactWalkSaid := fnExactWalk.proved
end Go.Proofs.Ytemfnbcebgflmaa
