/- A fill keeps a machine valid. No program in sight. -/
import Derived.Test.YthphfcheencbgaaGoMath
namespace Go.Proofs.Ythphfcheencbgaa.Mmu
open Go.RowKit Go.Proofs.Ythphfcheencbgaa.Base Go.Proofs.Ythphfcheencbgaa.Kinds Go.Proofs.Ythphfcheencbgaa.DecMath
set_option linter.unusedVariables false
set_option linter.unusedSimpArgs false
theorem dec_leaf (l w : Int) : ((dec l w).1 = 2 → l = 2 ∧ (dec l w).2.1 % 16 = 0 ∧ 1 ≤ (dec l w).2.2) ∧ ((dec l w).1 = 3 → 1 ≤ (dec l w).2.2) := by
  unfold dec
  repeat' split
  all_goals simp_all
  all_goals omega
theorem mem_addL {α : Type} [DecidableEq α] {l : List α} {e x : α} (h : x ∈ addL l e) : x ∈ l ∨ x = e := by
  unfold addL at h
  split at h
  · exact Or.inl h
  · simpa using h
theorem addStep_valid {m : SM} (hv : Valid m) (on : Bool) (level page frame : Int) (d : Bool) (hl : level = 1 ∨ level = 2) (hp : 0 ≤ page ∧ page < 4096) (hf : 0 ≤ frame ∧ frame < ((m.ws.length / 16 : Nat) : Int)) : Valid (addStepP m on level page frame d) := by
  unfold addStepP
  split
  · refine ⟨hv.frames, hv.npend, hv.ntlb, addL_256 _ _ hv.nwc, hv.pend, hv.tlb, fun e he => ?_⟩
    rcases mem_addL he with h | h
    · exact hv.wc e h
    · subst h
      rcases hl with rfl | rfl <;> refine ⟨by simp, ?_, ?_, hf⟩ <;> simp [cov] <;> omega
  · exact hv
theorem addWhole_valid {m : SM} (hv : Valid m) (on : Bool) (page size out perm : Int) (d : Bool) (hs : size = 1 ∨ size = 16) (hp : 0 ≤ page ∧ page < 4096) (ho : 0 ≤ out ∧ out < 65536) (hos : out % size = 0) (hpm : 1 ≤ perm ∧ perm ≤ 7) : Valid (addWholeP m on page size out perm d) := by
  unfold addWholeP
  split
  · refine ⟨hv.frames, hv.npend, addL_256 _ _ hv.ntlb, hv.nwc, hv.pend, fun e he => ?_, hv.wc⟩
    rcases mem_addL he with h | h
    · exact hv.tlb e h
    · subst h
      refine ⟨hs, ?_, ?_, hpm.1, hpm.2, ho.1, ho.2, hos⟩
      · rcases hs with rfl | rfl <;> simp <;> omega
      · rcases hs with rfl | rfl <;> simp <;> omega
  · exact hv
theorem goP_valid (page choice : Int) (hp : 0 ≤ page ∧ page < 4096) (n : Nat) (m : SM) (level frame : Int) (doomed : Bool) (hv : Valid m) : Valid (goP page choice n m level frame doomed).1 := by
  induction n generalizing m level frame with
  | zero => exact hv
  | succ n ih =>
    simp only [goP]
    have ht := dec_table level (readP m (frame * 16 + idx level page) (bitB choice level.toNat))
    have ho := dec_out level (readP m (frame * 16 + idx level page) (bitB choice level.toNat))
    have hlf := dec_leaf level (readP m (frame * 16 + idx level page) (bitB choice level.toNat))
    split
    · exact hv
    · split
      · rename_i h
        exact ih _ _ _ (addStep_valid hv _ _ _ _ _ (ht h.1) hp ⟨ho.1, h.2⟩)
      · split
        · rename_i h
          refine addWhole_valid hv _ _ _ _ _ _ ?_ hp ⟨ho.1, ho.2.1⟩ ?_ ?_
          · split <;> simp
          · split
            · rename_i h2; exact (hlf.1 h2).2.1
            · exact Int.emod_one _
          · rcases h with h | h
            · exact ⟨(hlf.1 h).2.2, by omega⟩
            · exact ⟨hlf.2 h, by omega⟩
        · exact hv
theorem walkP_valid {m : SM} (hv : Valid m) (page choice : Int) (hp : 0 ≤ page ∧ page < 4096) : Valid (walkP m page choice).1 := goP_valid page choice hp _ m _ _ _ hv
theorem walkP_keeps {m : SM} (hv : Valid m) (page choice : Int) : (walkP m page choice).1.ws = m.ws ∧ (walkP m page choice).1.pend = m.pend := by
  have := goP_keeps page choice (4 - (beginP m page choice).1).toNat m (beginP m page choice).1 (beginP m page choice).2.1 (beginP m page choice).2.2 hv.ntlb hv.nwc
  exact ⟨this.1, this.2.1⟩
theorem walkP_wf {m : SM} (hv : Valid m) (hw : WfM m) (page choice : Int) : WfM (walkP m page choice).1 := by
  obtain ⟨h1, h2⟩ := walkP_keeps hv page choice
  unfold WfM; rw [h1, h2]; exact hw
end Go.Proofs.Ythphfcheencbgaa.Mmu
