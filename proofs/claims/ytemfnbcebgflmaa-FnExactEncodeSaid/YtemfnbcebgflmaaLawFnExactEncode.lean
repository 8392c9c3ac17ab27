/- Encode of the program answers as the reference's, at every level and every descriptor. No condition. -/
import Derived.Test.YtemfnbcebgflmaaRows
import Derived.Test.YtemfnbcebgflmaaEncFnExactEncode
import Derived.Lib.SmallJoins
import Derived.WalkKit
import Derived.ProofKit
import Derived.OpenShut
import Derived.ShutString
import Derived.ChangeOld
import Derived.ChangeArms
import Derived.Below
import Derived.SizedLaws
namespace Go.Proofs.Ytemfnbcebgflmaa.PureFnExactEncode
open Go.RowKit Go.Proofs.Ytemfnbcebgflmaa.PFnExactEncode Go.Proofs.YtemfnbcebgflmaaW.PrintWords Go.Proofs.YtemfnbcebgflmaaW.PrintLast Go.Proofs.YtemfnbcebgflmaaW.PrintMore

theorem law (l d o p : Int) : ∃ k, laws_FnExactEncode.f k l d o p = some true := by
  refine ⟨7, ?_⟩
  unfold laws_FnExactEncode.f
  simp only [laws_toDesc.f, Option.bind_some]
  rw [spec_enc l d o p 0, impl_enc l d o p 3]
  simp

end Go.Proofs.Ytemfnbcebgflmaa.PureFnExactEncode
namespace Go.Proofs.Ytemfnbcebgflmaa.fnExactEncode
open Go.ChangeShapes Go.WideShapes Go.ChangeAt Go.RowKit Go.Joins
set_option linter.unusedVariables false
theorem own : ownKnob Try.prog.godebug = none := by kernel_rfl
theorem laidOut : laidOutB Try.prog = true := by kernel_rfl
set_option maxRecDepth 100000 in
theorem lifted (os : Os) (started : os.Started) (H : Type) (enc : TypeId × Value → H) :
    ReturnsInHanded {} Try.checked os 6 .any (Rows.fnExactEncodeSpec.pre6 enc Try.prog Try.f6 Rows.fnExactEncodeRow.domain false) (Rows.fnExactEncodeSpec.post enc Try.prog Try.f6 false true false false) := by
  refine returnsInHanded_of_change_sized (C := Try.checked) own started (by kernel_rfl) Try.func6
    (ChangeSpec.witness6 (enc := enc) (C := Try.checked) false ⟨#[], #[.int .i64 0, .agg #[.int .i64 0, .int .i64 0, .int .i64 0]], []⟩ 8 (by kernel_rfl) (by kernel_rfl) (by kernel_rfl) (by kernel_rfl)) ?_
  intro W base args ds gs before hval0 hW hcnd hsz0 _
  have hval : ∀ (j : Nat) t v, Try.f6.params[j]? = some t → args[j]? = some v → Value.okWide Try.prog W .any base t v := hval0
  have hW' := hW
  obtain ⟨p, q, hA0, hV, rfl, hfz, hnd⟩ := hW
  have hA : DataW.TrodAll enc Try.prog W 0 (fun _ => true) true Try.f6.params.toList args.toList ds p := hA0
  rw [Try.params6] at hA hval
  obtain ⟨v0, vs0, d0, ds0, p0, q0, hargs, rfl, rfl, h0, r0⟩ := trodAll_cons hA
  obtain ⟨v1, vs1, d1, ds1, p1, q1, rfl, rfl, rfl, h1, r1⟩ := trodAll_cons r0
  obtain ⟨rfl, rfl, rfl⟩ := trodAll_nil r1
  obtain rfl : args = #[v0, v1] := by cases args; simp_all
  obtain ⟨rfl, rfl⟩ := trodVars_none hV
  obtain ⟨a0, rfl, rfl, rfl, w0⟩ := open_int Try.underlying3 (hval 0 3 v0 rfl rfl) h0
  have lt1 : ∀ x ∈ p1, x.block < W.heap.size := by obtain ⟨m, hm⟩ := h1; exact DataW.trod_lt m _ _ _ hm
  have k1 := h1
  obtain ⟨u0, u1, u2, y0, y1, y2, n, rfl, _, _, e0, e1, e2⟩ := open_agg3 Try.underlying36 (by kernel_rfl) (by kernel_rfl) (hval 1 36 v1 rfl rfl) h1
  obtain ⟨n0, z0, _, _⟩ := DataW.trod_int Try.underlying3 e0
  obtain ⟨n1, z1, _, _⟩ := DataW.trod_int Try.underlying3 e1
  obtain ⟨n2, z2, _, _⟩ := DataW.trod_int Try.underlying3 e2
  simp only [List.cons.injEq, and_true] at z0 z1 z2
  subst z0 z1 z2
  clear hA0 hval0 hsz0
  obtain ⟨k, hk⟩ := PureFnExactEncode.law a0 n0 n1 n2
  refine (PFnExactEncode.laws_FnExactEncode.calls k a0 n0 n1 n2 true W hk).mono fun e W' ⟨he, bel⟩ => ?_
  subst he
  exact ⟨_, rfl, _, _, _, [], _, [], hW', trodAll_mk1 (shut_bool Try.underlying4 _), (trodAll_cons_mk (shut_int Try.underlying3 w0) (trodAll_cons_mk (Below.trod laidOut (by kernel_rfl) (of_decide_eq_true (by kernel_rfl)) k1 bel lt1) trodAll_mk0)), rfl, bel.frame _, fun h => by cases h⟩
theorem over : Rows.fnExactEncodeRow.holds Try.pinned (OpenSpec.ofChange Rows.fnExactEncodeSpec) :=
  OpenClaim.holds_of_wide 6 Try.f6 rfl rfl rfl rfl rfl rfl rfl ⟨rfl, rfl, rfl, rfl, rfl⟩ rfl rfl rfl rfl rfl (by kernel_rfl) Try.func6 (by kernel_rfl)
    (of_decide_eq_true (by kernel_rfl)) (by unfold Func.isWrapper; first | (rw [if_pos (by decide +kernel)]; kernel_rfl) | (rw [if_neg (by decide +kernel)]; exact ⟨rfl, rfl⟩))
    (fun os started H enc _ => lifted os started H enc)
theorem proved : Rows.FnExactEncodeSaid := over
#print axioms proved
end Go.Proofs.Ytemfnbcebgflmaa.fnExactEncode
namespace Go.Proofs.Ytemfnbcebgflmaa
/-- The row, under a short name, for the claim. -/
theorem fnExactEncode_holds : Rows.FnExactEncodeSaid := fnExactEncode.proved
end Go.Proofs.Ytemfnbcebgflmaa
