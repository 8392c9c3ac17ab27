/- Walks of the program's copyMem and machineOK. -/
import Derived.Test.YtemfnbcebgflmaaSpecMach1
import Derived.Test.YtemfnbcebgflmaaQuietB
import Derived.Test.YtemfnbcebgflmaaAppendAll
import Derived.Deep.Cut
import Derived.Deep.CutRange
namespace Go.Proofs.Ytemfnbcebgflmaa.Mmu
open Go.RowKit Go.Proofs.Ytemfnbcebgflmaa.Base Go.Proofs.Ytemfnbcebgflmaa.Kinds Go.Proofs.Ytemfnbcebgflmaa.DecMath Go.Proofs.Ytemfnbcebgflmaa.L1
set_option linter.unusedVariables false
set_option linter.unusedSimpArgs false

theorem infoW : (Try.prog.info? 23).map (fun i => (i.zero, i.size, i.bytes)) = some (some (.int .u64 0), 1, 8) := by kernel_rfl
set_option maxRecDepth 100000 in
set_option maxHeartbeats 4000000 in
theorem copyMem_any (v0 : Value) (l : List Int) (w : World) (r : Rd wEnc 1 w v0 l) (hn : l.length ≤ 1048576) :
    Calls Try.prog 137 #[.agg #[v0]] w fun e w' => ∃ v, e = .returned (.agg #[v]) ∧ Own wEnc 1 23 w.heap.size w' v l ∧ Below w.heap.size w w' := by
  obtain ⟨A0, c0, rfl, hc0, hn0⟩ := id r.shape
  have R := Lib.hid r
  clear r
  go_enter Try.func137, Try.ntmps137
  have O : Hid (Own wEnc 1 23 (w.heap.size + 2) (((w.alloc (.cells #[.slice A0 l.length c0] 50)).alloc (.cells #[.slice none 0 0] 50)).alloc (.cells #[] 23)) (.slice (some ⟨w.heap.size + 1 + 1, 0, none⟩) 0 0) []) :=
    Lib.hid (by simpa using Own.made wEnc 1 23 (base := w.heap.size + 2) ((w.alloc (.cells #[.slice A0 l.length c0] 50)).alloc (.cells #[.slice none 0 0] 50)) (by simp))
  go_wp2_with (at_builtin; refine appendAll 23 1 8 45 (.int .u64 0) Try.underlying45 infoW rfl (by decide) wLen wOne rfl (.tmp 3) (.tmp 5) rfl (w.heap.size + 2) (.slice (some ⟨w.heap.size + 1 + 1, 0, none⟩) 0 0) (.slice A0 l.length c0) [] l rfl rfl O.out (R.out.below (allocB (allocB (allocB (Below.refl _ _) _) _) _)) (by simp; omega) (by decide) (by simp) ?_)
  intro v1 w1 ho1 hg1
  have hb1 : Below (w.heap.size + 2) _ w1 := Own.grown O.out (Below.refl _ _) (by simp) hg1
  have q0 : w1.cell? ⟨w.heap.size + 1, 0, none⟩ = some (.slice none 0 0) := (hb1.cell (by simp)).trans (by go_simp)
  have q1 : w1.frozen? ⟨w.heap.size + 1, 0, none⟩ = false := (hb1.frozen (by simp)).trans (by go_simp)
  have hbw : Below w.heap.size w w1 := Below.trans (allocB (allocB (allocB (Below.refl _ _) _) _) _) (hb1.mono (by omega))
  obtain ⟨A1, c1, rfl⟩ := ho1.shape
  have HO := Lib.hid ho1
  have HB := Lib.hid hbw
  clear ho1 hg1 hb1 hbw O
  go_wp2
  exact bodyPost_ret (v := .agg #[.slice A1 l.length c1]) (by simp [results, Try.results137, go_sem, q0, q1]) rfl ⟨_, rfl, (HO.out.setBelow (by simp) _).lower (by omega), HB.out.setCell (by simp) _⟩
end Go.Proofs.Ytemfnbcebgflmaa.Mmu
