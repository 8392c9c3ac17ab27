/- Plain law: the reference's list of needed tables is as long as the program's counts say. No program in sight. -/
import Derived.Test.YtkdclihnmocepaaNeedMath
import Derived.Test.YtkdclihnmocepaaSpecTabs
namespace Go.Proofs.Ytkdclihnmocepaa.Mmu
open Go.RowKit Go.Proofs.Ytkdclihnmocepaa.Base Go.Proofs.Ytkdclihnmocepaa.Kinds
set_option linter.unusedVariables false
set_option linter.unusedSimpArgs false

theorem wantTo_count (H : List SHit) (k : Nat) : (wantTo H k).length = 1 + (List.range k).countP (fun g => decide (g % 16 = 0 ∧ needS H 2 (16 * g))) + (List.range k).countP (fun g => decide (needS H 3 (16 * g))) := by
  induction k with
  | zero => simp [wantTo]
  | succ k ih =>
    rw [wantTo_step, List.length_append, ih, List.range_succ, List.countP_append, List.countP_append]
    unfold grpS
    rw [List.length_append]
    by_cases a : k % 16 = 0 ∧ needS H 2 (16 * k) <;> by_cases b : needS H 3 (16 * k) <;> simp [a, b] <;> omega
theorem count16 (P : Nat → Prop) [DecidablePred P] (i : Nat) : (List.range (16 * i)).countP (fun g => decide (g % 16 = 0 ∧ P g)) = (List.range i).countP (fun j => decide (P (16 * j))) := by
  induction i with
  | zero => rfl
  | succ i ih =>
    rw [show 16 * (i + 1) = 16 * i + 16 by omega, List.range_add, List.countP_append, ih, show List.range (i + 1) = List.range i ++ [i] from List.range_succ, List.countP_append]
    congr 1
    rw [List.countP_map, show List.range 16 = [0, 1, 2, 3, 4, 5, 6, 7, 8, 9, 10, 11, 12, 13, 14, 15] from rfl]
    have e : ∀ k : Nat, k < 16 → (16 * i + k) % 16 = k := fun k hk => by omega
    simp [List.countP_cons, e]
theorem need3_mark (H : List SHit) (hl : H.length = 4096) (g : Nat) (hg : g < 256) : needS H 3 (16 * g) ↔ ∃ (q : Nat) (h : SHit), q < 4096 ∧ q / 16 = g ∧ H[q]? = some h ∧ fSmall h = true := by
  constructor
  · rintro ⟨k, h, hk, hh, h1, h2⟩
    rw [if_neg (by decide)] at hk
    have h3 : h.Size = 1 := by rcases h2 with e | e; (exact absurd e (by decide)); exact e
    exact ⟨16 * g + k, h, by omega, by omega, hh, by simp [fSmall, h1, h3]⟩
  · rintro ⟨q, h, hq, hd, hh, hf⟩
    unfold fSmall at hf
    have hf := of_decide_eq_true hf
    exact ⟨q % 16, h, by rw [if_neg (by decide)]; omega, by rw [show 16 * g + q % 16 = q by omega]; exact hh, hf.1, Or.inr hf.2⟩
theorem need2_mark (H : List SHit) (hl : H.length = 4096) (g : Nat) (hg : g < 16) : needS H 2 (16 * (16 * g)) ↔ ∃ (q : Nat) (h : SHit), q < 4096 ∧ q / 256 = g ∧ H[q]? = some h ∧ fBig h = true := by
  constructor
  · rintro ⟨k, h, hk, hh, h1, h2⟩
    rw [if_pos rfl] at hk
    exact ⟨16 * (16 * g) + k, h, by omega, by omega, hh, by simp [fBig, h1]⟩
  · rintro ⟨q, h, hq, hd, hh, hf⟩
    unfold fBig at hf
    have hf := of_decide_eq_true hf
    exact ⟨q % 256, h, by rw [if_pos rfl]; omega, by rw [show 16 * (16 * g) + q % 256 = q by omega]; exact hh, hf, Or.inl rfl⟩
theorem tab_eq (H : List SHit) (hl : H.length = 4096) : ((wantTo H 256).length : Int) = 1 + (cntT (markS fBig 256 H 4096) : Int) + (cntT (markS fSmall 16 H 4096) : Int) := by
  have h1 : (List.range 256).countP (fun g => decide (g % 16 = 0 ∧ needS H 2 (16 * g))) = cntT (markS fBig 256 H 4096) := by
    have := count16 (fun g => needS H 2 (16 * g)) 16
    rw [show 16 * 16 = 256 from rfl] at this
    rw [this]
    unfold cntT markS
    rw [List.countP_map]
    refine List.countP_congr (fun g hg => ?_)
    have hg16 : g < 16 := by simpa using hg
    simp only [Function.comp_apply, decide_eq_true_iff]
    exact need2_mark H hl g hg16
  have h2 : (List.range 256).countP (fun g => decide (needS H 3 (16 * g))) = cntT (markS fSmall 16 H 4096) := by
    unfold cntT markS
    rw [List.countP_map]
    refine List.countP_congr (fun g hg => ?_)
    have hg16 : g < 256 := by simpa using hg
    simp only [Function.comp_apply, decide_eq_true_iff]
    exact need3_mark H hl g hg16
  rw [wantTo_count, h1, h2]
  omega
end Go.Proofs.Ytkdclihnmocepaa.Mmu
