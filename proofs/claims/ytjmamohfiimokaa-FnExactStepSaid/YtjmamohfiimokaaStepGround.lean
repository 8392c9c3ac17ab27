/- Plain facts for one operation, the program's side. -/
import Derived.Test.YtjmamohfiimokaaSpecPlaces
import Derived.Test.YtjmamohfiimokaaMachG
namespace Go.Proofs.Ytjmamohfiimokaa.Mmu
open Go.RowKit Go.Proofs.Ytjmamohfiimokaa.Base Go.Proofs.Ytjmamohfiimokaa.Kinds Go.Proofs.Ytjmamohfiimokaa.DecMath
theorem latest_wfI {m : SM} (hv : Valid m) (hw : WfM m) : (∀ x ∈ latestOf m, 0 ≤ x ∧ x < 18446744073709551616) ∧ WfW (latestOf m) ∧ okLen (latestOf m) := by
  have h1 := writes_range _ _ hw.1 hw.2
  have := hv.frames
  refine ⟨h1, ⟨h1, ?_⟩, ?_⟩
  · unfold latestOf
    rw [writes_len]
    exact this
  · unfold okLen latestOf
    rw [writes_len]
    exact this
end Go.Proofs.Ytjmamohfiimokaa.Mmu
