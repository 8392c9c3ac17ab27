/- Plain facts on one operation: what it leaves is valid. No program in sight. -/
import Derived.Test.YthphfcheencbgaaMachG
namespace Go.Proofs.Ythphfcheencbgaa.Kinds
open Go.RowKit Go.Proofs.Ythphfcheencbgaa.Base Go.Proofs.Ythphfcheencbgaa.DecMath
set_option linter.unusedVariables false
set_option linter.unusedSimpArgs false
theorem latest_len (m : SM) : (latestOf m).length = m.ws.length := writes_len _ _
theorem dsb_valid {m : SM} (hv : Valid m) (hw : WfM m) : Valid (dsbS m) ∧ WfM (dsbS m) := by
  refine ⟨⟨?_, Nat.zero_le _, Nat.le_trans (List.length_filter_le _ _) hv.ntlb, Nat.le_trans (List.length_filter_le _ _) hv.nwc, ?_, ?_, ?_⟩, writes_range _ _ hw.1 hw.2, ?_⟩
  · show (latestOf m).length % 16 = 0 ∧ 16 ≤ (latestOf m).length ∧ (latestOf m).length ≤ 8192
    rw [latest_len]; exact hv.frames
  · intro e he; simp [dsbS] at he
  · intro e he; exact hv.tlb e (List.mem_filter.1 he).1
  · intro e he
    show okWc (((latestOf m).length / 16 : Nat) : Int) e
    rw [latest_len]; exact hv.wc e (List.mem_filter.1 he).1
  · intro e he; simp [dsbS] at he
theorem tlbi_valid {m : SM} (a b : Int) (hv : Valid m) (hw : WfM m) : Valid (tlbiS m a b) ∧ WfM (tlbiS m a b) := by
  refine ⟨⟨hv.frames, hv.npend, ?_, ?_, hv.pend, ?_, ?_⟩, hw⟩
  · show (m.tlb.map _).length ≤ 256
    rw [List.length_map]; exact hv.ntlb
  · show (m.wc.map _).length ≤ 256
    rw [List.length_map]; exact hv.nwc
  · intro e he
    obtain ⟨x, hx, rfl⟩ := List.mem_map.1 (show e ∈ m.tlb.map (doomT a b) from he)
    have := hv.tlb x hx
    unfold doomT
    split
    · exact this
    · exact this
  · intro e he
    obtain ⟨x, hx, rfl⟩ := List.mem_map.1 (show e ∈ m.wc.map (doomW a b) from he)
    have := hv.wc x hx
    unfold doomW
    split
    · exact this
    · exact this
theorem stepS_valid {m : SM} {o : SOp} (hv : Valid m) (hw : WfM m) (ho : o.ok) : Valid (stepS m o).1 ∧ WfM (stepS m o).1 := by
  unfold stepS
  split
  · rename_i hok
    split
    · rename_i h1
      split
      · have hA : 0 ≤ o.A ∧ o.A < (m.ws.length : Int) ∧ m.pend.length < 10000 := by unfold opOk at hok; omega
        refine ⟨⟨hv.frames, by show (m.pend ++ [_]).length ≤ 10000; simp; omega, hv.ntlb, hv.nwc, ?_, hv.tlb, hv.wc⟩, hw.1, ?_⟩
        · intro e he
          rcases List.mem_append.1 (show e ∈ m.pend ++ [_] from he) with h | h
          · exact hv.pend e h
          · simp at h
            subst h
            exact ⟨hA.1, hA.2.1⟩
        · intro e he
          rcases List.mem_append.1 (show e ∈ m.pend ++ [_] from he) with h | h
          · exact hw.2 e h
          · simp at h
            subst h
            exact ho
      · exact ⟨hv, hw⟩
    · split
      · exact dsb_valid hv hw
      · split
        · exact tlbi_valid _ _ hv hw
        · exact ⟨hv, hw⟩
  · exact ⟨hv, hw⟩
theorem valid_sizes {m : SM} (hv : Valid m) : m.ws.length ≤ 1048576 ∧ m.pend.length ≤ 1048576 ∧ m.tlb.length ≤ 1048576 ∧ m.wc.length ≤ 1048576 := by
  have := hv.frames; have := hv.npend; have := hv.ntlb; have := hv.nwc; omega
/-- The answer of Step. -/
def stepAll (m : SM) (o : SOp) : SM × Int := if Valid m then stepS m o else (⟨[], [], [], []⟩, 9)
end Go.Proofs.Ythphfcheencbgaa.Kinds
