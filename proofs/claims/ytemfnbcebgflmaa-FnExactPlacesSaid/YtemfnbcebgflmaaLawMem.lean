/- Walks of the laws' helper functions on memories: counting, copying, comparing, marking, holding. -/
import Derived.Test.YtemfnbcebgflmaaLawUint64
namespace Go.Proofs.Ytemfnbcebgflmaa.LawsMem
open Go.RowKit Go.Proofs.Ytemfnbcebgflmaa.Base Go.Proofs.Ytemfnbcebgflmaa.Kinds
set_option linter.unusedVariables false
set_option linter.unusedSimpArgs false

theorem sz_any (A : Option Addr) (n c : Nat) (q : Int) (w : World) (hn : n ≤ c) (hc : c ≤ 9223372036854775807) (hq : 0 ≤ q) (hq' : q ≤ 1048576) :
    Calls Try.prog 29 #[.agg #[.slice A n c], .int .i64 q] w fun e w' => e = .returned (.int .i64 (if q - n < 0 then -1 else q - n)) ∧ Below w.heap.size w w' := by
  by_cases h : q - (n : Int) < 0
  · rw [if_pos h]
    go_enter Try.func29, Try.ntmps29
    go_wp2_with (go_at_call 70; refine (LawsUint64.sz_any A n c q _ hn hc hq hq').mono ?_; rw [if_pos h]; rintro e w' ⟨rfl, rfl⟩)
    go_ret
    exact ⟨rfl, allocB (Below.refl _ _) _⟩
  · rw [if_neg h]
    go_enter Try.func29, Try.ntmps29
    go_wp2_with (go_at_call 70; refine (LawsUint64.sz_any A n c q _ hn hc hq hq').mono ?_; rw [if_neg h]; rintro e w' ⟨rfl, rfl⟩)
    go_ret
    exact ⟨rfl, allocB (Below.refl _ _) _⟩

theorem eq_any (v0 v1 : Value) (l0 l1 : List Int) (w : World) (r0 : Rd wEnc 1 w v0 l0) (r1 : Rd wEnc 1 w v1 l1) :
    Calls Try.prog 33 #[.agg #[v0], .agg #[v1]] w fun e w' => e = .returned (.bool (decide (l0 = l1))) ∧ Below w.heap.size w w' := by
  obtain ⟨A0, c0, rfl, hc0, hn0⟩ := r0.shape
  obtain ⟨A1, c1, rfl, hc1, hn1⟩ := r1.shape
  have R0 := Lib.hid r0
  have R1 := Lib.hid r1
  clear r0 r1
  go_enter Try.func33, Try.ntmps33
  go_wp2_with (go_at_call 76; refine (LawsUint64.eqS_any _ _ l0 l1 _ (R0.out.below (allocB (allocB (Below.refl _ _) _) _)) (R1.out.below (allocB (allocB (Below.refl _ _) _) _))).mono ?_; rintro e w1 ⟨rfl, hb1⟩)
  all_goals (go_ret; exact ⟨ret_bool (by simp_all), thenB (allocB (allocB (Below.refl _ _) _) _) hb1⟩)

theorem to_any (v : Value) (l : List Int) (w : World) (r : Rd wEnc 1 w v l) (hl : l.length ≤ 1048576) :
    Calls Try.prog 31 #[.agg #[v]] w fun e w' => ∃ v', e = .returned (.agg #[v']) ∧ Own wEnc 1 23 w.heap.size w' v' l ∧ Below w.heap.size w w' := by
  obtain ⟨A, c, rfl, _, _⟩ := r.shape
  have HR := Lib.hid r
  clear r
  go_enter Try.func31, Try.ntmps31
  go_wp2_with (go_at_call 73; refine (LawsUint64.toS_any _ l _ (HR.out.below (allocB (allocB (allocB (Below.refl _ _) _) _) _)) hl).mono ?_; rintro e w1 ⟨v1, rfl, ho1, hb1⟩; obtain ⟨A1, c1, rfl⟩ := ho1.shape; obtain ⟨hc1, hf1⟩ := bcell hb1)
  exact bodyPost_ret (v := .agg #[.slice A1 l.length c1]) (by simp [results, Try.results31, go_sem, hc1, hf1]) rfl ⟨_, rfl, ((ho1.setBelow (by simp) _).setBelow (by simp) _).lower (by simp; omega), ((thenB (allocB (allocB (allocB (Below.refl _ _) _) _) _) hb1).setCell (by simp <;> omega) _).setCell (by simp <;> omega) _⟩

theorem mark_any (base : Nat) (v : Value) (l : List Int) (k : Int) (w : World) (ho : Own wEnc 1 23 base w v l) (hl : l.length ≤ 1048576) (hk : 0 ≤ k) (hk' : k ≤ 1000000000) :
    Calls Try.prog 39 #[.agg #[v], .int .i64 k] w fun e w' => e = .returned (.int .i64 (k + l.length)) ∧ Own wEnc 1 23 base w' v (LawsUint64.marks k l.length) ∧ w.grownBy w' v.ownBlock := by
  obtain ⟨A, c, rfl⟩ := ho.shape
  have HO := Lib.hid ho
  clear ho
  go_enter Try.func39, Try.ntmps39
  go_wp2_with (go_at_call 84; refine (LawsUint64.markS_any base _ l k _ (HO.out.alloc _) hl hk hk').mono ?_; rintro e w1 ⟨rfl, ho1, hg1⟩)
  go_ret
  exact ⟨rfl, ho1, World.grownBy.trans (World.grownBy_alloc w _ _) hg1⟩

theorem held_any (v : Value) (n : Nat) (k : Int) (w : World) (r : Rd wEnc 1 w v (LawsUint64.marks k n)) (hl : n ≤ 1048576) (hk : 0 ≤ k) (hk' : k ≤ 1000000000) :
    Calls Try.prog 108 #[.agg #[v], .int .i64 k] w fun e w' => e = .returned (.int .i64 (k + n)) ∧ Below w.heap.size w w' := by
  obtain ⟨A, c, rfl, _, _⟩ := r.shape
  have HR := Lib.hid r
  clear r
  go_enter Try.func108, Try.ntmps108
  go_wp2_with (go_at_call 142; refine (LawsUint64.heldS_any _ n k _ (HR.out.below (allocB (Below.refl _ _) _)) hl hk hk').mono ?_; rintro e w1 ⟨rfl, rfl⟩)
  go_ret
  exact ⟨rfl, allocB (Below.refl _ _) _⟩

end Go.Proofs.Ytemfnbcebgflmaa.LawsMem
