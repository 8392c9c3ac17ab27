/- The law on barriers, in plain words: what a step, a barrier and a second barrier leave. No program in sight. What the law on barriers asks of what is drawn: words are words. -/
import Derived.Test.YthphfcheencbgaaStepLaws
import Derived.Test.YthphfcheencbgaaDraw9
namespace Go.Proofs.Ythphfcheencbgaa.Mmu
open Go.RowKit Go.Proofs.Ythphfcheencbgaa.Base Go.Proofs.Ythphfcheencbgaa.Kinds Go.Proofs.Ythphfcheencbgaa.DecMath
set_option linter.unusedVariables false
set_option linter.unusedSimpArgs false
theorem codeB_small (m : SM) (o : SOp) (x : Int) : ∀ (l : List SPlace) (b : Bool), codeB m o x l b ≠ 9 := by
  intro l
  induction l with
  | nil => intro b; simp only [codeB]; try split <;> simp
  | cons p l ih => intro b; simp only [codeB]; repeat' (first | exact ih _ | (simp; done) | split)
theorem step_nine {m : SM} {o : SOp} (h : (stepAll m o).2 = 9) : (stepAll m o).1 = ⟨[], [], [], []⟩ := by
  unfold stepAll at h ⊢
  split at h
  · exfalso
    unfold stepS at h
    split at h
    · split at h
      · split at h
        · cases h
        · unfold writeCode at h
          split at h
          · cases h
          · exact codeB_small _ _ _ _ _ h
      · split at h
        · cases h
        · split at h
          · cases h
          · simp only at h; split at h <;> cases h
    · cases h
  · rename_i hv; rw [if_neg hv]
theorem step_refused {m : SM} {o : SOp} (h9 : (stepAll m o).2 ≠ 9) (h0 : (stepAll m o).2 ≠ 0) : (stepAll m o).1 = m := by
  unfold stepAll at h9 h0 ⊢
  split
  · rename_i hv
    rw [if_pos hv] at h0
    unfold stepS at h0 ⊢
    split
    · rename_i ho
      rw [if_pos ho] at h0
      split
      · rename_i h1
        rw [if_pos h1] at h0
        split
        · rename_i hc; rw [if_pos hc] at h0; exact absurd rfl h0
        · rfl
      · rename_i h1
        rw [if_neg h1] at h0
        split
        · rename_i h2; rw [if_pos h2] at h0; exact absurd rfl h0
        · rename_i h2
          rw [if_neg h2] at h0
          split
          · rename_i h3; rw [if_pos h3] at h0; exact absurd rfl h0
          · rfl
    · rfl
  · rename_i hv; rw [if_neg hv] at h9; exact absurd rfl h9
theorem step_valid {m : SM} {o : SOp} (h : (stepAll m o).2 = 0) : Valid m := by
  unfold stepAll at h
  split at h
  · rename_i hv; exact hv
  · cases h
theorem dsb_step {m : SM} (hv : Valid m) : stepAll m ⟨2, 0, 0, 0⟩ = (dsbS m, 0) := by
  unfold stepAll stepS
  have h : opOk m ⟨2, 0, 0, 0⟩ := Or.inr (Or.inl ⟨rfl, rfl, rfl, rfl⟩)
  rw [if_pos hv, if_pos h]
  rfl
theorem dsb_twice (m : SM) : dsbS (dsbS m) = dsbS m := by
  unfold dsbS latestOf
  simp [writes, List.filter_filter]
theorem dsb_tlb {m : SM} {e : STlb} (h : e ∈ (dsbS m).tlb) : e ∈ m.tlb ∧ e.Doomed = false := by
  unfold dsbS at h
  simpa using h
theorem dsb_wc {m : SM} {e : SWc} (h : e ∈ (dsbS m).wc) : e ∈ m.wc ∧ e.Doomed = false := by
  unfold dsbS at h
  simpa using h
theorem tlbi_step {m : SM} {o : SOp} (h : (stepAll m o).2 = 0) (hk : o.Kind = 3) : (stepAll m o).1 = tlbiS m o.A o.B := by
  have hv := step_valid h
  unfold stepAll at h ⊢
  rw [if_pos hv] at h ⊢
  unfold stepS at h ⊢
  split
  · simp [hk]
  · rename_i ho; rw [if_neg ho] at h; cases h
theorem tlbi_tlb {m : SM} {a b : Int} {e : STlb} (h : e ∈ (dsbS (tlbiS m a b)).tlb) : ¬ (e.Page < a + b ∧ a < e.Page + e.Size) := by
  obtain ⟨h1, h2⟩ := dsb_tlb h
  unfold tlbiS at h1
  simp only [List.mem_map] at h1
  obtain ⟨x, _, rfl⟩ := h1
  unfold doomT at h2 ⊢
  split at h2
  · cases h2
  · rename_i hn
    rw [if_neg hn]
    intro hh
    exact hn (by unfold tlbMeet meetQ; exact decide_eq_true ⟨hh.2, hh.1⟩)
theorem tlbi_wc {m : SM} {a b : Int} {e : SWc} (h : e ∈ (dsbS (tlbiS m a b)).wc) : ¬ (e.Page < a + b ∧ a < e.Page + cov (e.Level - 1)) := by
  obtain ⟨h1, h2⟩ := dsb_wc h
  unfold tlbiS at h1
  simp only [List.mem_map] at h1
  obtain ⟨x, _, rfl⟩ := h1
  unfold doomW at h2 ⊢
  split at h2
  · cases h2
  · rename_i hn
    rw [if_neg hn]
    intro hh
    exact hn (by unfold wcMeet meetQ; exact decide_eq_true ⟨hh.2, hh.1⟩)
end Go.Proofs.Ythphfcheencbgaa.Mmu

namespace Go.Proofs.Ythphfcheencbgaa.Draw
open Go.RowKit Go.Proofs.Ythphfcheencbgaa.Base Go.Proofs.Ythphfcheencbgaa.Kinds Go.Proofs.Ythphfcheencbgaa.DecMath Go.Proofs.Ythphfcheencbgaa.L1 Go.Proofs.Ythphfcheencbgaa.Mmu
set_option linter.unusedVariables false
set_option linter.unusedSimpArgs false
theorem opWord_range (c : List Int) (p : Nat) {m : SM} (h : WfM m) : 0 ≤ opWord c p m ∧ opWord c p m < 18446744073709551616 := by
  unfold opWord
  simp only
  split
  · exact enc_range _ _
  · split
    · exact getD_range _ _ h.1
    · split
      · exact enc_range _ _
      · simp
theorem opD_ok (c : List Int) (p : Nat) {m : SM} (h : WfM m) : (opD c p m).ok := by
  unfold opD SOp.ok
  simp only
  split
  · simp
  · split
    · simp
    · split
      · simp
      · split
        · simp only; omega
        · exact opWord_range c p h
theorem stepAll_keep {m : SM} {o : SOp} (hv : Valid m) (hw : WfM m) (ho : o.ok) : Valid (stepAll m o).1 ∧ WfM (stepAll m o).1 := by
  unfold stepAll
  rw [if_pos hv]
  exact stepS_valid hv hw ho
theorem brokenM_keep {m : SM} {ad : Int} {b : Bool} (hv : Valid m) (hw : WfM m) : Valid (brokenM m ad b) ∧ WfM (brokenM m ad b) := by
  have d : (⟨2, 0, 0, 0⟩ : SOp).ok := ⟨by simp, by simp⟩
  have t : (⟨3, 0, 4096, 0⟩ : SOp).ok := ⟨by simp, by simp⟩
  have h1 := stepAll_keep (o := ⟨1, ad, 0, 0⟩) hv hw opOk9
  have h2 := stepAll_keep h1.1 h1.2 d
  have h3 := stepAll_keep h2.1 h2.2 t
  have h4 := stepAll_keep h3.1 h3.2 d
  unfold brokenM
  simp only
  split
  · exact h4
  · exact h2
theorem stepD_ok {c : List Int} (hc : Bytes c) : WfM (stepD c).1 ∧ (stepD c).2.ok := by
  have hm := (machD_ok hc 1 (by omega)).1.wf
  have hw : ∀ b : Prop, [Decidable b] → WfM (if b then spoilM c (machD c 1).2 (machD c 1).1 else (machD c 1).1) := by
    intro b _
    split
    · exact spoilM_wf hm
    · exact hm
  unfold stepD
  simp only
  have h1 := hw (takeP c 0 12 = 11)
  generalize (if takeP c 0 12 = 11 then spoilM c (machD c 1).2 (machD c 1).1 else (machD c 1).1) = m at h1 ⊢
  split
  · split
    · split
      · split
        · rename_i hs
          exact ⟨(brokenM_keep (step_valid hs) h1).2, enc_range _ _⟩
        · exact ⟨h1, opD_ok c _ h1⟩
      · exact ⟨h1, opD_ok c _ h1⟩
    · exact ⟨h1, opD_ok c _ h1⟩
  · exact ⟨h1, by simp, by simp⟩
theorem wc_cov {e : SWc} {f : Int} (h : okWc f e) : cov (e.Level - 1) = if e.Level = 2 then 256 else 16 := by
  rcases h.1 with e2 | e2 <;> rw [e2] <;> rfl
/-- What is left behind a barrier, of one operation that was done. -/
structure AfterB (o : SOp) (n : SM) : Prop where
  pend : n.pend = []
  tlb : ∀ e ∈ n.tlb, e.Doomed = false ∧ (0 ≤ e.Page ∧ e.Page < 4096 ∧ 0 ≤ e.Size ∧ e.Size ≤ 16) ∧ (o.Kind = 3 → ¬ (e.Page < o.A + o.B ∧ o.A < e.Page + e.Size))
  wc : ∀ e ∈ n.wc, e.Doomed = false ∧ (0 ≤ e.Page ∧ e.Page < 4096) ∧ (e.Level = 2 ∨ e.Level = 3) ∧ (o.Kind = 3 → ¬ (e.Page < o.A + o.B ∧ o.A < e.Page + if e.Level = 2 then 256 else 16))
  small : o.Kind = 3 → 0 ≤ o.A ∧ o.A ≤ 4096 ∧ 0 ≤ o.B ∧ o.B ≤ 4096
theorem afterB {m : SM} {o : SOp} (hw : WfM m) (ho : o.ok) (h : (stepAll m o).2 = 0) : AfterB o (dsbS (stepAll m o).1) := by
  have hv := step_valid h
  have hk := stepAll_keep hv hw ho
  have hd := dsb_valid hk.1 hk.2
  refine ⟨rfl, fun e he => ⟨(dsb_tlb he).2, ?_, fun h3 => ?_⟩, fun e he => ⟨(dsb_wc he).2, ?_, ?_, fun h3 => ?_⟩, fun h3 => ?_⟩
  · have := hd.1.tlb e he
    obtain ⟨h1, h2, _⟩ := this
    exact ⟨h2.1, h2.2, by omega, by omega⟩
  · rw [tlbi_step h h3] at he
    exact tlbi_tlb he
  · exact (hd.1.wc e he).2.1
  · exact (hd.1.wc e he).1
  · rw [← wc_cov (hd.1.wc e he)]
    rw [tlbi_step h h3] at he
    exact tlbi_wc he
  · unfold stepAll stepS at h
    rw [if_pos hv] at h
    split at h
    · rename_i hop
      unfold opOk at hop
      rw [h3] at hop
      simp at hop
      omega
    · cases h
end Go.Proofs.Ythphfcheencbgaa.Draw
