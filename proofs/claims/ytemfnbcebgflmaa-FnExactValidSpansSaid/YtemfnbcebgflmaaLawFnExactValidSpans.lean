/- ValidSpans of the program answers as the reference's, at every list of spans that the law asks (at most 2^20 of them: the law itself answers true for more), and writes into none. -/
import Derived.Test.YtemfnbcebgflmaaOpenSpansFnExactValidSpans
import Derived.WalkKit
import Derived.ProofKit
import Derived.OpenShut
import Derived.ShutString
import Derived.ChangeOld
import Derived.Below
import Derived.SizedLaws
namespace Go.Proofs.Ytemfnbcebgflmaa.PureFnExactValidSpans
open Go.RowKit Go.Proofs.Ytemfnbcebgflmaa.PFnExactValidSpans Go.Proofs.YtemfnbcebgflmaaW.PrintWords Go.Proofs.YtemfnbcebgflmaaW.PrintLast Go.Proofs.YtemfnbcebgflmaaW.PrintMore

theorem law (l : List S95) (hl : l.length ≤ 9223372036854775807) : ∃ k, laws_FnExactValidSpans.f k l = some true := by
  by_cases hs : l.length ≤ 1048576
  · refine Ev.rounds (g := fun k => laws_FnExactValidSpans.f k l) ?_
    unfold laws_FnExactValidSpans.f
    have hz : laws_szSpanS.f l 1048576 = some (1048576 - (l.length : Int)) := by
      unfold laws_szSpanS.f
      rw [show wrap64 (1048576 - (l.length : Int)) = 1048576 - (l.length : Int) by unfold wrap64; omega, if_neg (by omega)]
    simp only [hz, Option.bind_some]
    simp only [if_neg (show ¬ (1048576 - (l.length : Int)) < 0 by omega)]
    have hc := conv_f l (by omega)
    have hm : (l.map conv).length < 9223372036854775807 := by simp; omega
    refine Ev.bind hc (Ev.bind (spec_valid _ hm) (Ev.bind hc (Ev.bind (impl_valid _ hm) ?_)))
    simp only [bne_self_eq_false, Bool.false_eq_true, if_false]
    refine Ev.bind hc (Ev.bind (eq_f _ hm) ?_)
    simpa using Ev.now true
  · refine ⟨0, ?_⟩
    unfold laws_FnExactValidSpans.f
    have hz : laws_szSpanS.f l 1048576 = some (-1) := by
      unfold laws_szSpanS.f
      rw [show wrap64 (1048576 - (l.length : Int)) = 1048576 - (l.length : Int) by unfold wrap64; omega, if_pos (by omega)]
    simp [hz]

end Go.Proofs.Ytemfnbcebgflmaa.PureFnExactValidSpans
namespace Go.Proofs.Ytemfnbcebgflmaa.fnExactValidSpans
open Go.ChangeShapes Go.WideShapes Go.ChangeAt Go.RowKit
open Go.ChangeMaps (open_string shut_string)
set_option linter.unusedVariables false
theorem own : ownKnob Try.prog.godebug = none := by kernel_rfl
theorem laidOut : laidOutB Try.prog = true := by kernel_rfl
set_option maxRecDepth 100000 in
theorem lifted (os : Os) (started : os.Started) (H : Type) (enc : TypeId × Value → H) :
    ReturnsInHanded {} Try.checked os 5 .any (Rows.fnExactValidSpansSpec.pre6 enc Try.prog Try.f5 Rows.fnExactValidSpansRow.domain false) (Rows.fnExactValidSpansSpec.post enc Try.prog Try.f5 false true false false) := by
  refine returnsInHanded_of_change_sized (C := Try.checked) own started (by kernel_rfl) Try.func5
    (ChangeSpec.witness6 (enc := enc) (C := Try.checked) false ⟨#[], #[.slice none 0 0], []⟩ 8 (by kernel_rfl) (by kernel_rfl) (by kernel_rfl) (by kernel_rfl)) ?_
  intro W base args ds gs before hval0 hW hcnd hsz0 _
  have hval : ∀ (j : Nat) t v, Try.f5.params[j]? = some t → args[j]? = some v → Value.okWide Try.prog W .any base t v := hval0
  have hW' := hW
  obtain ⟨p, q, hA0, hV, rfl, hfz, hnd⟩ := hW
  have hA : DataW.TrodAll enc Try.prog W 0 (fun _ => true) true Try.f5.params.toList args.toList ds p := hA0
  rw [Try.params5] at hA hval
  obtain ⟨v0, vs0, d0, ds0, p0, q0, hargs, rfl, rfl, h0, r0⟩ := trodAll_cons hA
  obtain ⟨rfl, rfl, rfl⟩ := trodAll_nil r0
  obtain rfl : args = #[v0] := by cases args; simp_all
  obtain ⟨rfl, rfl⟩ := trodVars_none hV
  have lt0 : ∀ x ∈ p0, x.block < W.heap.size := by obtain ⟨m, hm⟩ := h0; exact DataW.trod_lt m _ _ _ hm
  obtain ⟨A0, c0, l0, rfl, hr0, hc0⟩ := OpenSpansFnExactValidSpans.open_spans (hval 0 29 v0 rfl rfl) h0
  clear hA0 hval0 hsz0
  obtain ⟨k, hk⟩ := PureFnExactValidSpans.law l0 hr0.2.1
  refine (PFnExactValidSpans.laws_FnExactValidSpans.calls k A0 c0 l0 true W hr0 hc0 hk).mono fun e W' ⟨he, bel⟩ => ?_
  subst he
  exact ⟨_, rfl, _, _, _, [], _, [], hW', trodAll_mk1 (shut_bool Try.underlying4 _), (trodAll_cons_mk (Below.trod laidOut (by kernel_rfl) (of_decide_eq_true (by kernel_rfl)) h0 bel lt0) trodAll_mk0), rfl, bel.frame _, fun h => by cases h⟩
theorem over : Rows.fnExactValidSpansRow.holds Try.pinned (OpenSpec.ofChange Rows.fnExactValidSpansSpec) :=
  OpenClaim.holds_of_wide 5 Try.f5 rfl rfl rfl rfl rfl rfl rfl ⟨rfl, rfl, rfl, rfl, rfl⟩ rfl rfl rfl rfl rfl (by kernel_rfl) Try.func5 (by kernel_rfl)
    (of_decide_eq_true (by kernel_rfl)) (by unfold Func.isWrapper; first | (rw [if_pos (by decide +kernel)]; kernel_rfl) | (rw [if_neg (by decide +kernel)]; exact ⟨rfl, rfl⟩))
    (fun os started H enc _ => lifted os started H enc)
theorem proved : Rows.FnExactValidSpansSaid := over
#print axioms proved
end Go.Proofs.Ytemfnbcebgflmaa.fnExactValidSpans
namespace Go.Proofs.Ytemfnbcebgflmaa
/-- The row, under a short name, for the claim. -/
theorem fnExactValidSpans_holds : Rows.FnExactValidSpansSaid := fnExactValidSpans.proved
end Go.Proofs.Ytemfnbcebgflmaa
