/- The law's copying and comparing of memories, in numbers; over the printed functions of the law FnExactWalk. -/
import Derived.Test.YtemfnbcebgflmaaQFnExactWalkx6
import Derived.Test.YtemfnbcebgflmaaWalkMath
namespace Go.Proofs.Ytemfnbcebgflmaa.PureFnExactWalk
set_option linter.unusedVariables false
set_option linter.unusedSimpArgs false
open Go.RowKit Go.Proofs.Ytemfnbcebgflmaa.PFnExactWalk Go.Proofs.YtemfnbcebgflmaaW.PrintWords Go.Proofs.YtemfnbcebgflmaaW.PrintLast Go.Proofs.YtemfnbcebgflmaaW.PrintMore

theorem wrap_natW (n : Nat) (h : n < 9223372036854775807) : wrap64 ((n : Int) + 1) = ((n + 1 : Nat) : Int) := by unfold wrap64; omega

theorem set_same (l : List Int) (i : Nat) (h : i < l.length) : (l.take i ++ List.replicate (l.length - i) 0).set i (rd l i) = l.take (i + 1) ++ List.replicate (l.length - (i + 1)) 0 := by
  have e : l.length - i = (l.length - (i + 1)) + 1 := by omega
  have hr : rd l i = l[i] := by unfold rd; simp [h]
  rw [hr, List.take_succ_eq_append_getElem h, e, List.replicate_succ, List.set_append]
  rw [if_neg (by simp; omega)]
  simp only [List.length_take, Nat.min_eq_left (Nat.le_of_lt h), Nat.sub_self, List.set_cons_zero, List.append_assoc, List.singleton_append]

theorem words_l0 (l : List Int) (hl : l.length ≤ 35184372088832) (d : Nat) : ∀ i : Nat, i + d = l.length → Ev (fun k => laws_toUint64S.l0 k l (l.take i ++ List.replicate (l.length - i) 0) i) l := by
  induction d with
  | zero =>
    intro i hd
    refine Ev.step (f := fun _ => some l) (fun k => ?_) (Ev.now _)
    simp only [laws_toUint64S.l0]; rw [if_neg (by omega)]
    rw [show l.length - i = 0 by omega, List.take_of_length_le (by omega)]; simp
  | succ d ih =>
    intro i hd
    refine Ev.step (f := fun k => laws_toUint64S.l0 k l (l.take (i + 1) ++ List.replicate (l.length - (i + 1)) 0) ((i + 1 : Nat) : Int)) (fun k => ?_) (ih (i + 1) (by omega))
    simp only [laws_toUint64S.l0]
    rw [if_pos (by omega), if_pos (by omega), if_pos (by simp; omega), wrap_natW i (by omega)]
    simp only [Int.toNat_natCast]
    rw [set_same l i (by omega)]

theorem words_f (l : List Int) (hl : l.length ≤ 35184372088832) : Ev (fun k => laws_toUint64S.f k l) l := by
  have := words_l0 l hl l.length 0 (by omega)
  refine Ev.congr (fun k => ?_) this
  unfold laws_toUint64S.f
  rw [if_pos (by omega), if_pos (by omega)]
  simp

theorem mem_f (l : List Int) (hl : l.length ≤ 35184372088832) : Ev (fun k => laws_toMem.f k l) l := by
  unfold laws_toMem.f
  exact Ev.bind (words_f l hl) (Ev.now _)

theorem eqw_l0 (l : List Int) (hl : l.length < 9223372036854775807) (d : Nat) : ∀ i : Nat, i + d = l.length → Ev (fun k => laws_eqUint64S.l0 k l l i) true := by
  induction d with
  | zero =>
    intro i hd
    refine Ev.step (f := fun _ => some true) (fun k => ?_) (Ev.now _)
    simp only [laws_eqUint64S.l0]; rw [if_neg (by omega)]
  | succ d ih =>
    intro i hd
    refine Ev.step (f := fun k => laws_eqUint64S.l0 k l l ((i + 1 : Nat) : Int)) (fun k => ?_) (ih (i + 1) (by omega))
    simp only [laws_eqUint64S.l0]
    rw [if_pos (by omega), if_pos (by omega), wrap_natW i (by omega)]
    simp [show (i : Int) < (l.length : Int) by omega]

theorem eqm_f (l : List Int) (hl : l.length < 9223372036854775807) : Ev (fun k => laws_eqMem.f k l l) true := by
  unfold laws_eqMem.f
  refine Ev.bind (a := true) (Ev.congr (fun k => ?_) (eqw_l0 l hl l.length 0 (by omega))) (by simpa using Ev.now true)
  unfold laws_eqUint64S.f
  simp

end Go.Proofs.Ytemfnbcebgflmaa.PureFnExactWalk
