/- At of the program answers as the reference's, at every page and every list of spans that the law asks (at most 2^20 of them: the law itself answers true for more), and writes into none. -/
import Derived.Test.YtemfnbcebgflmaaOpenSpansFnExactAt
import Derived.Test.YtemfnbcebgflmaaAtPureFnExactAt
import Derived.WalkKit
import Derived.ProofKit
import Derived.OpenShut
import Derived.ShutString
import Derived.ChangeOld
import Derived.Below
import Derived.SizedLaws
namespace Go.Proofs.Ytemfnbcebgflmaa.PureFnExactAt
open Go.RowKit Go.Proofs.Ytemfnbcebgflmaa.PFnExactAt Go.Proofs.YtemfnbcebgflmaaW.PrintWords Go.Proofs.YtemfnbcebgflmaaW.PrintLast Go.Proofs.YtemfnbcebgflmaaW.PrintMore

theorem eqHit_self (h : Int × Int × Int × Int) : laws_eqHit.f h.1 h.2.1 h.2.2.1 h.2.2.2 h.1 h.2.1 h.2.2.1 h.2.2.2 = some true := by
  simp [laws_eqHit.f]

theorem law (l : List S95) (p : Int) (hl : l.length ≤ 9223372036854775807) : ∃ k, laws_FnExactAt.f k l p = some true := by
  by_cases hs : l.length ≤ 1048576
  · refine Ev.rounds (g := fun k => laws_FnExactAt.f k l p) ?_
    unfold laws_FnExactAt.f
    have hz : laws_szSpanS.f l 1048576 = some (1048576 - (l.length : Int)) := by
      unfold laws_szSpanS.f
      rw [show wrap64 (1048576 - (l.length : Int)) = 1048576 - (l.length : Int) by unfold wrap64; omega, if_neg (by omega)]
    simp only [hz, Option.bind_some]
    simp only [if_neg (show ¬ (1048576 - (l.length : Int)) < 0 by omega)]
    have hc := conv_f l (by omega)
    have hm : (l.map conv).length < 9223372036854775807 := by simp; omega
    refine Ev.bind hc (Ev.bind (spec_at _ p hm) (Ev.bind hc (Ev.bind (impl_at _ p hm) ?_)))
    simp only [eqHit_self, Option.bind_some, if_true]
    refine Ev.bind hc (Ev.bind (eq_f _ hm) ?_)
    simpa using Ev.now true
  · refine ⟨0, ?_⟩
    unfold laws_FnExactAt.f
    have hz : laws_szSpanS.f l 1048576 = some (-1) := by
      unfold laws_szSpanS.f
      rw [show wrap64 (1048576 - (l.length : Int)) = 1048576 - (l.length : Int) by unfold wrap64; omega, if_pos (by omega)]
    simp [hz]

end Go.Proofs.Ytemfnbcebgflmaa.PureFnExactAt
namespace Go.Proofs.Ytemfnbcebgflmaa.fnExactAt
open Go.ChangeShapes Go.WideShapes Go.ChangeAt Go.RowKit
open Go.ChangeMaps (open_string shut_string)
set_option linter.unusedVariables false
theorem own : ownKnob Try.prog.godebug = none := by kernel_rfl
theorem laidOut : laidOutB Try.prog = true := by kernel_rfl
set_option maxRecDepth 100000 in
theorem lifted (os : Os) (started : os.Started) (H : Type) (enc : TypeId × Value → H) :
    ReturnsInHanded {} Try.checked os 7 .any (Rows.fnExactAtSpec.pre6 enc Try.prog Try.f7 Rows.fnExactAtRow.domain false) (Rows.fnExactAtSpec.post enc Try.prog Try.f7 false true false false) := by
  refine returnsInHanded_of_change_sized (C := Try.checked) own started (by kernel_rfl) Try.func7
    (ChangeSpec.witness6 (enc := enc) (C := Try.checked) false ⟨#[], #[.slice none 0 0, .int .i64 0], []⟩ 8 (by kernel_rfl) (by kernel_rfl) (by kernel_rfl) (by kernel_rfl)) ?_
  intro W base args ds gs before hval0 hW hcnd hsz0 _
  have hval : ∀ (j : Nat) t v, Try.f7.params[j]? = some t → args[j]? = some v → Value.okWide Try.prog W .any base t v := hval0
  have hW' := hW
  obtain ⟨p, q, hA0, hV, rfl, hfz, hnd⟩ := hW
  have hA : DataW.TrodAll enc Try.prog W 0 (fun _ => true) true Try.f7.params.toList args.toList ds p := hA0
  rw [Try.params7] at hA hval
  obtain ⟨v0, vs0, d0, ds0, p0, q0, hargs, rfl, rfl, h0, r0⟩ := trodAll_cons hA
  obtain ⟨v1, vs1, d1, ds1, p1, q1, rfl, rfl, rfl, h1, r1⟩ := trodAll_cons r0
  obtain ⟨rfl, rfl, rfl⟩ := trodAll_nil r1
  obtain rfl : args = #[v0, v1] := by cases args; simp_all
  obtain ⟨rfl, rfl⟩ := trodVars_none hV
  have lt0 : ∀ x ∈ p0, x.block < W.heap.size := by obtain ⟨m, hm⟩ := h0; exact DataW.trod_lt m _ _ _ hm
  obtain ⟨A0, c0, l0, rfl, hr0, hc0⟩ := OpenSpansFnExactAt.open_spans (hval 0 29 v0 rfl rfl) h0
  obtain ⟨a1, rfl, rfl, rfl, w1⟩ := open_int Try.underlying3 (hval 1 3 v1 rfl rfl) h1
  clear hA0 hval0 hsz0
  obtain ⟨k, hk⟩ := PureFnExactAt.law l0 a1 hr0.2.1
  refine (PFnExactAt.laws_FnExactAt.calls k A0 c0 l0 a1 true W hr0 hc0 hk).mono fun e W' ⟨he, bel⟩ => ?_
  subst he
  exact ⟨_, rfl, _, _, _, [], _, [], hW', trodAll_mk1 (shut_bool Try.underlying4 _), (trodAll_cons_mk (Below.trod laidOut (by kernel_rfl) (of_decide_eq_true (by kernel_rfl)) h0 bel lt0) (trodAll_cons_mk (shut_int Try.underlying3 w1) trodAll_mk0)), rfl, bel.frame _, fun h => by cases h⟩
theorem over : Rows.fnExactAtRow.holds Try.pinned (OpenSpec.ofChange Rows.fnExactAtSpec) :=
  OpenClaim.holds_of_wide 7 Try.f7 rfl rfl rfl rfl rfl rfl rfl ⟨rfl, rfl, rfl, rfl, rfl⟩ rfl rfl rfl rfl rfl (by kernel_rfl) Try.func7 (by kernel_rfl)
    (of_decide_eq_true (by kernel_rfl)) (by unfold Func.isWrapper; first | (rw [if_pos (by decide +kernel)]; kernel_rfl) | (rw [if_neg (by decide +kernel)]; exact ⟨rfl, rfl⟩))
    (fun os started H enc _ => lifted os started H enc)
theorem proved : Rows.FnExactAtSaid := over
#print axioms proved
end Go.Proofs.Ytemfnbcebgflmaa.fnExactAt
namespace Go.Proofs.Ytemfnbcebgflmaa
/-- The row, under a short name, for the claim. -/
theorem fnExactAt_holds : Rows.FnExactAtSaid := fnExactAt.proved
end Go.Proofs.Ytemfnbcebgflmaa
