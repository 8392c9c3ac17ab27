/- The answer that is a machine. -/
import Derived.Test.YtomomaoncmgfpaaMachG
namespace Go.Proofs.Ytomomaoncmgfpaa.Mmu
open Go.RowKit Go.Proofs.Ytomomaoncmgfpaa.Base Go.Proofs.Ytomomaoncmgfpaa.Kinds Go.Proofs.Ytomomaoncmgfpaa.DecMath
set_option linter.unusedVariables false
set_option linter.unusedSimpArgs false
theorem nilM (base : Nat) (w : World) : OwnM base w (.slice none 0 0) (.slice none 0 0) (.slice none 0 0) (.slice none 0 0) ⟨[], [], [], []⟩ := ⟨Own.nil _ _ _ _ _, Own.nil _ _ _ _ _, Own.nil _ _ _ _ _, Own.nil _ _ _ _ _⟩
theorem Valid.le {m : SM} (hv : Valid m) : m.ws.length ≤ 1048576 ∧ m.pend.length ≤ 1048576 ∧ m.tlb.length ≤ 1048576 ∧ m.wc.length ≤ 1048576 := by
  have := hv.frames; have := hv.npend; have := hv.ntlb; have := hv.nwc; omega
/-- The answer is a machine whose lists are the call's own. -/
def MPost (w : World) (m : SM) (e : Ending) (w' : World) : Prop := ∃ u0 u1 u2 u3, e = .returned (.agg #[u0, u1, u2, u3]) ∧ OwnM w.heap.size w' u0 u1 u2 u3 m ∧ Below w.heap.size w w'
end Go.Proofs.Ytomomaoncmgfpaa.Mmu
