/- Walk of the program's places. -/
import Derived.Test.YtemfnbcebgflmaaImplPlace
import Derived.Test.YtemfnbcebgflmaaSpecPlace2
namespace Go.Proofs.Ytemfnbcebgflmaa.Mmu
open Go.RowKit Go.Proofs.Ytemfnbcebgflmaa.Base Go.Proofs.Ytemfnbcebgflmaa.Kinds Go.Proofs.Ytemfnbcebgflmaa.DecMath Go.Proofs.Ytemfnbcebgflmaa.L1
set_option linter.unusedVariables false
set_option linter.unusedSimpArgs false
set_option maxRecDepth 100000 in
set_option maxHeartbeats 4000000 in
theorem implPlaces_any (v0 : Value) (ws : List Int) (w : World) (r : Rd wEnc 1 w v0 ws) (hw : WfW ws) :
    Calls Try.prog 81 #[.agg #[v0]] w (PPost w (placesP ws 2 ⟨0, 1, 0⟩)) := by
  have hmf : ∀ (fn : Fn) (first cap : Array Value) (w : World), (Instr.makeFunc fn first cap).run Try.prog w = .ok (.func fn first cap) w := fun _ _ _ _ => rfl
  go_enter Try.func81, Try.ntmps81
  go_upto_region 3 with fail
  refine ((St.start w).push4 _ _ _ _ _ _ _ _).gen (fun w1 S1 _ => ?_)
  have x3 : w1.heap[w.heap.size + 1 + 1 + 1]? = some (.cells #[.nilFunc] 167) := S1.head
  have x2 : w1.heap[w.heap.size + 1 + 1]? = some (.cells #[.slice (some ⟨w.heap.size + 1, 0, none⟩) 0 0] 55) := S1.tail.head
  have x1 : w1.heap[w.heap.size + 1]? = some (.cells #[] 116) := S1.tail.tail.head
  have x0 : w1.heap[w.heap.size]? = some (.cells #[v0] 50) := S1.tail.tail.tail.head
  have hb1 := S1.b
  obtain ⟨bm, hbm⟩ : ∃ b, w.heap.size = b := ⟨_, rfl⟩
  obtain ⟨bo, hbo⟩ : ∃ b, bm + 1 + 1 = b := ⟨_, rfl⟩
  obtain ⟨bw, hbw⟩ : ∃ b, bm + 1 + 1 + 1 = b := ⟨_, rfl⟩
  rw [hbm] at x0 x1 x2 x3 ⊢
  rw [hbo] at x2
  rw [hbw] at x3
  rw [hbw, hbo]
  have hb2 : w1.cell? ⟨bw, 0, none⟩ = some .nilFunc := by simp [World.cell?, x3]
  have hb3 : w1.frozen? ⟨bw, 0, none⟩ = false := by simp [World.frozen?, x3]
  have HBM := Lib.hid hbm
  have HBO := Lib.hid hbo
  have HBW := Lib.hid hbw
  have B1' : PlB w bm bo bw v0 (.slice (some ⟨bm + 1, 0, none⟩) 0 0) [] (w1.setCell ⟨bw, 0, none⟩ (.func (.func 128) #[] #[.pointer (some ⟨bo, 0, none⟩), .pointer (some ⟨bm, 0, none⟩), .pointer (some ⟨bw, 0, none⟩)])) := by
    refine ⟨by omega, hb1.setCell (p := ⟨bw, 0, none⟩) (by show w.heap.size ≤ bw; omega) _, ?_, ?_, st_set x3 0 _, ?_, ?_⟩
    · rw [Below.heap_setCell _ _ _ _ (by show bm ≠ bw; omega)]; exact x0
    · rw [Below.heap_setCell _ _ _ _ (by show bo ≠ bw; omega)]; exact x2
    · refine ⟨rfl, Or.inr ⟨bm + 1, 0, #[], rfl, Nat.le_refl _, ?_, Nat.le_refl _, by unfold maxLen; omega, rfl, rfl⟩⟩
      rw [Below.heap_setCell _ _ _ _ (by show bm + 1 ≠ bw; omega)]; exact x1
    · constructor
      · show some (bm + 1) ≠ some bo
        simp only [ne_eq, Option.some.injEq]; omega
      · show some (bm + 1) ≠ some bw
        simp only [ne_eq, Option.some.injEq]; omega
  have B1 := Lib.hid B1'
  clear B1' x0 x1 x2 x3 S1 hb1 hbm hbo hbw
  have hst : ∀ u : Value, u.oneCell' = true → (store ⟨bw, 0, none⟩ u).run Try.prog w1 = .ok () (w1.setCell ⟨bw, 0, none⟩ u) := fun u hu => by
    rw [run_store _ _ _ _ _ hu]
    simp [hb2, hb3]
  go_wp2
  rw [hst _ rfl]
  clear hst
  go_upto_region 4 with fail
  generalize w1.setCell ⟨bw, 0, none⟩ (.func (.func 128) #[] #[.pointer (some ⟨bo, 0, none⟩), .pointer (some ⟨bm, 0, none⟩), .pointer (some ⟨bw, 0, none⟩)]) = w2 at *
  have c0 : w2.cell? ⟨bw, 0, none⟩ = some (.func (.func 128) #[] #[.pointer (some ⟨bo, 0, none⟩), .pointer (some ⟨bm, 0, none⟩), .pointer (some ⟨bw, 0, none⟩)]) := by simp [World.cell?, B1.out.f]
  clear hb2 hb3
  have HW := Lib.hid hw
  have R := Lib.hid r
  have HRT := Lib.hid (root_in hw.2)
  clear hw r
  go_wp2_with (go_at_call 128; refine (pc_all 3 w bm bo bw v0 (.slice (some ⟨bm + 1, 0, none⟩) 0 0) ws [] ⟨0, 1, 0⟩ _ R.out B1.out HW.out (by simp) (by decide) HRT.out.1 HRT.out.2 (by decide)).mono ?_; rintro e w3 ⟨v3, rfl, b3, _⟩; obtain ⟨A3, c3, hv3⟩ := b3.own.shape; subst hv3; have B3 := Lib.hid b3; have d0 : w3.cell? ⟨bo, 0, none⟩ = some (.slice A3 ([] ++ placesP ws (3 - 1) ⟨0, 1, 0⟩ : List SPlace).length c3) := (by simp [World.cell?, B3.out.o]); clear b3)
  go_ret
  refine ⟨_, rfl, ?_, B3.out.b⟩
  have o := B3.out.own.lower (base' := w.heap.size) (by have := HBM.out; omega)
  simpa using o
end Go.Proofs.Ytemfnbcebgflmaa.Mmu
