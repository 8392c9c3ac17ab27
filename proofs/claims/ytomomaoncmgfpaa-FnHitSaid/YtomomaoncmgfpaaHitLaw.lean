/- After a fill on a machine with nothing pending or cached, every access to the group of 16 pages sees what the memory says. No program in sight. -/
import Derived.Test.YtomomaoncmgfpaaFillValid
import Derived.Test.YtomomaoncmgfpaaAccMath
namespace Go.Proofs.Ytomomaoncmgfpaa.Mmu
open Go.RowKit Go.Proofs.Ytomomaoncmgfpaa.Base Go.Proofs.Ytomomaoncmgfpaa.Kinds Go.Proofs.Ytomomaoncmgfpaa.DecMath
set_option linter.unusedVariables false
set_option linter.unusedSimpArgs false
theorem readP_calm {m : SM} {ws : List Int} (h : m.ws = ws) (hp : m.pend = []) (a : Int) (late : Bool) : readP m a late = ws.getD a.toNat 0 := by
  unfold readP latestOf
  rw [hp, h]
  split <;> rfl
theorem addStep_calm {m : SM} {ws : List Int} (h : m.ws = ws) (hp : m.pend = []) (on : Bool) (l p f : Int) (d : Bool) : (addStepP m on l p f d).ws = ws ∧ (addStepP m on l p f d).pend = [] := by
  have := addStepP_ws m on l p f d
  exact ⟨this.1.trans h, this.2.trans hp⟩
/-- With nothing pending a walk sees what the memory says, whatever the choice. -/
theorem goP_walkAt (ws : List Int) (page choice : Int) (n : Nat) : ∀ (m : SM) (level frame : Int) (d : Bool), m.ws = ws → m.pend = [] → (goP page choice n m level frame d).2 = walkAt ws ((ws.length / 16 : Nat) : Int) page n level frame := by
  induction n with
  | zero => intros; rfl
  | succ n ih =>
    intro m level frame d h hp
    simp only [goP, walkAt]
    rw [readP_calm h hp, h]
    split
    · rfl
    · by_cases h1 : (dec level (ws.getD (frame * 16 + idx level page).toNat 0)).1 = 1
      · rw [if_pos h1]
        by_cases h2 : (dec level (ws.getD (frame * 16 + idx level page).toNat 0)).2.1 < ((ws.length / 16 : Nat) : Int)
        · rw [if_pos ⟨h1, h2⟩, if_pos h2]
          obtain ⟨e1, e2⟩ := addStep_calm h hp (bitB choice (level + 3).toNat) level page (dec level (ws.getD (frame * 16 + idx level page).toNat 0)).2.1 d
          exact ih _ _ _ _ e1 e2
        · rw [if_neg (fun e => h2 e.2), if_neg h2, if_neg (by omega)]
      · rw [if_neg (fun e => h1 e.1), if_neg h1]
        by_cases h2 : (dec level (ws.getD (frame * 16 + idx level page).toNat 0)).1 = 2
        · rw [if_pos (Or.inl h2), if_pos h2, if_pos h2]
        · by_cases h3 : (dec level (ws.getD (frame * 16 + idx level page).toNat 0)).1 = 3
          · rw [if_pos (Or.inr h3)]
            simp only [if_neg h2, if_pos h3, Int.emod_one, Int.add_zero]
          · rw [if_neg (fun e => e.elim h2 h3), if_neg h2, if_neg h3]
/-- What a machine caches of the group of 16 pages agrees with its memory. -/
structure Agrees (ws : List Int) (page : Int) (m : SM) : Prop where
  mem : m.ws = ws
  pend : m.pend = []
  wc : ∀ e ∈ m.wc, ∀ p, p / 16 = page / 16 → walkAt ws ((ws.length / 16 : Nat) : Int) p 3 1 0 = walkAt ws ((ws.length / 16 : Nat) : Int) p (4 - e.Level).toNat e.Level e.Table
  tlb : m.tlb = [] ∨ ∃ e, m.tlb = [e] ∧ ∀ p, p / 16 = page / 16 → tcovP e p → walkAt ws ((ws.length / 16 : Nat) : Int) p 3 1 0 = (1, e.Out + p - e.Page, e.Perm, e.Size)
theorem goP_agrees (ws : List Int) (page choice : Int) (k : Nat) : ∀ (m : SM) (level frame : Int) (d : Bool), (4 - level).toNat = k → 1 ≤ level → Agrees ws page m → m.tlb = [] →
    (∀ p, p / 16 = page / 16 → walkAt ws ((ws.length / 16 : Nat) : Int) p 3 1 0 = walkAt ws ((ws.length / 16 : Nat) : Int) p k level frame) → Agrees ws page (goP page choice k m level frame d).1 := by
  induction k with
  | zero => intro m level frame d _ _ h _ _; exact h
  | succ k ih =>
    intro m level frame d hk hl ha ht hw
    simp only [goP]
    rw [readP_calm ha.mem ha.pend]
    split
    · exact ha
    · split
      · rename_i h0 h1
        have htb := dec_table level (ws.getD (frame * 16 + idx level page).toNat 0) h1.1
        have hix : ∀ p, p / 16 = page / 16 → idx level p = idx level page := fun p hp => by
          rcases htb with rfl | rfl
          · unfold idx; simp [cov]; omega
          · unfold idx; simp [cov]; omega
        have hnext : ∀ p, p / 16 = page / 16 → walkAt ws ((ws.length / 16 : Nat) : Int) p 3 1 0 = walkAt ws ((ws.length / 16 : Nat) : Int) p k (level + 1) (dec level (ws.getD (frame * 16 + idx level page).toNat 0)).2.1 := fun p hp => by
          rw [hw p hp]
          simp only [walkAt]
          rw [hix p hp, if_neg h0, if_pos h1.1, if_pos (by have := h1.2; rw [ha.mem] at this; exact this)]
        refine ih _ _ _ _ (by omega) (by omega) ?_ ?_ hnext
        · unfold addStepP
          split
          · refine ⟨ha.mem, ha.pend, fun e he p hp => ?_, ha.tlb⟩
            rcases mem_addL he with h | h
            · exact ha.wc e h p hp
            · subst h
              rw [hnext p hp, show (4 - (level + 1)).toNat = k by omega]
          · exact ha
        · unfold addStepP; split <;> exact ht
      · split
        · rename_i h0 h1 h2
          unfold addWholeP
          split
          · refine ⟨ha.mem, ha.pend, ha.wc, Or.inr ⟨_, by simp only [ht]; unfold addL; rw [if_neg (by simp)]; rfl, fun p hp hc => ?_⟩⟩
            rw [hw p hp]
            simp only [walkAt]
            rcases h2 with h2 | h2
            · have hl2 := ((dec_leaf level (ws.getD (frame * 16 + idx level page).toNat 0)).1 h2).1
              subst hl2
              have hix : idx 2 p = idx 2 page := by unfold idx; simp [cov]; omega
              rw [hix, if_neg h0, if_neg (by omega), if_pos h2]
              simp only [h2, if_true]
              simp only [Prod.mk.injEq, and_true, true_and]
              omega
            · have hc' := hc
              simp only [tcovP, h2, show ¬ (3 : Int) = 2 by decide, if_false, Int.emod_one] at hc'
              have e : p = page := by omega
              subst e
              rw [if_neg h0, if_neg (by omega), if_neg (by omega), if_pos h2]
              simp only [h2, show ¬ (3 : Int) = 2 by decide, if_false, Int.emod_one]
              simp only [Prod.mk.injEq, and_true, true_and]
              omega
          · exact ha
        · exact ha
/-- After the fill. -/
theorem fill_agrees (ws : List Int) (page choice : Int) (hb : bitB choice 0 = false) : Agrees ws page (walkP ⟨ws, [], [], []⟩ page choice).1 := by
  unfold walkP
  have e : beginP ⟨ws, [], [], []⟩ page choice = (1, 0, false) := by unfold beginP; rw [if_neg (by simp [hb])]
  rw [e]
  exact goP_agrees ws page choice 3 _ 1 0 false rfl (by decide) ⟨rfl, rfl, fun e he => (by cases he), Or.inl rfl⟩ rfl (fun p _ => rfl)
/-- An access to the group sees what the memory says. -/
theorem acc_agrees {ws : List Int} {page : Int} {m : SM} (h : Agrees ws page m) (p choice : Int) (hp : p / 16 = page / 16) : (accP m p choice).2 = walkAt ws ((ws.length / 16 : Nat) : Int) p 3 1 0 := by
  have hwalk : (walkP m p choice).2 = walkAt ws ((ws.length / 16 : Nat) : Int) p 3 1 0 := by
    unfold walkP
    rw [goP_walkAt ws p choice _ m _ _ _ h.mem h.pend]
    unfold beginP
    split
    · split
      · rename_i e he
        have h1 := List.find?_some he
        have h2 := List.mem_of_find?_eq_some he
        have h3 : e.Level = 3 := (of_decide_eq_true h1).1
        have h4 := h.wc e h2 p hp
        rw [h3] at h4
        exact h4.symm
      · split
        · rename_i e he
          have h1 := List.find?_some he
          have h2 := List.mem_of_find?_eq_some he
          have h3 : e.Level = 2 := (of_decide_eq_true h1).1
          have h4 := h.wc e h2 p hp
          rw [h3] at h4
          exact h4.symm
        · rfl
    · rfl
  unfold accP
  split
  · rename_i hh he
    split at he
    · unfold cacheP at he
      rcases h.tlb with ht | ⟨e, ht, hc⟩
      · rw [ht] at he; simp [covL] at he
      · rw [ht] at he
        by_cases hcov : tcovP e p
        · have : covL [e] p = [e] := by simp [covL, hcov]
          rw [this] at he
          simp only at he
          rw [if_pos (show allSame e [e] from fun x hx => by rw [List.mem_singleton.1 hx]; exact sameP_refl e)] at he
          obtain rfl := Option.some.inj he
          exact (hc p hp hcov).symm
        · have : covL [e] p = [] := by simp [covL, hcov]
          rw [this] at he
          simp at he
    · cases he
  · exact hwalk
theorem fill_valid {ws : List Int} (hw : ws.length % 16 = 0 ∧ 16 ≤ ws.length ∧ ws.length ≤ 8192) : Valid ⟨ws, [], [], []⟩ :=
  ⟨hw, by simp, by simp, by simp, fun e he => (by cases he), fun e he => (by cases he), fun e he => (by cases he)⟩
end Go.Proofs.Ytomomaoncmgfpaa.Mmu
