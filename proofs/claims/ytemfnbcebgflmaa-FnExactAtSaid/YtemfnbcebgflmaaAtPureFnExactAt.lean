/- At, in numbers: what At of the program and of the reference say of a page. Over the printed functions of the law FnExactAt. -/
import Derived.Test.YtemfnbcebgflmaaSpansFnExactAt
namespace Go.Proofs.Ytemfnbcebgflmaa.PureFnExactAt
open Go.RowKit Go.Proofs.Ytemfnbcebgflmaa.PFnExactAt Go.Proofs.YtemfnbcebgflmaaW.PrintWords Go.Proofs.YtemfnbcebgflmaaW.PrintLast Go.Proofs.YtemfnbcebgflmaaW.PrintMore

/-- Does the span make the page's group a big one? -/
def bigS (s : S92) (p : Int) : Bool := s.f4 && decide (s.f0 ≤ p - p % 16 ∧ p - p % 16 + 16 ≤ s.f0 + s.f1 ∧ (s.f2 + (p - p % 16) - s.f0) % 16 = 0)
/-- What the span says of a page that it has. -/
def hitS (s : S92) (p : Int) : Int × Int × Int × Int := (1, s.f2 + p - s.f0, s.f3, if bigS s p = true then 16 else 1)
/-- From place i on: what the first span that has the page says. -/
def atFrom (l : List S92) (p : Int) : Nat → Nat → Int × Int × Int × Int
  | 0, _ => (0, 0, 0, 0)
  | d + 1, i => if (at_ l i).f0 ≤ p ∧ p < (at_ l i).f0 + (at_ l i).f1 then hitS (at_ l i) p else atFrom l p d (i + 1)
def atP (l : List S92) (p : Int) : Int × Int × Int × Int :=
  if valid l = true ∧ 0 ≤ p ∧ p < 4096 then atFrom l p l.length 0 else (0, 0, 0, 0)

theorem ok_out {s : S92} (h : okB s = true) : 1 ≤ s.f1 ∧ 0 ≤ s.f0 ∧ s.f0 + s.f1 ≤ 4096 ∧ 0 ≤ s.f2 ∧ s.f2 + s.f1 ≤ 65536 ∧ 1 ≤ s.f3 ∧ s.f3 ≤ 7 := by
  simpa [okB] using h

theorem oks_get (l : List S92) (d : Nat) : ∀ i, oksFrom l d i = true → ∀ j, i ≤ j → j < i + d → okB (at_ l j) = true := by
  induction d with
  | zero => intro i _ j h1 h2; omega
  | succ d ih =>
    intro i h j h1 h2
    simp only [oksFrom, Bool.and_eq_true] at h
    by_cases e : j = i
    · subst e; exact h.1
    · exact ih (i + 1) h.2 j (by omega) (by omega)

theorem valid_get {l : List S92} (h : valid l = true) (j : Nat) (hj : j < l.length) : okB (at_ l j) = true := by
  simp only [valid, Bool.and_eq_true] at h
  exact oks_get l l.length 0 h.1 j (by omega) (by omega)

theorem big_l0 (s : S92) (g : Int) (ho : okB s = true) (hg : 0 ≤ g) (hg' : g < 4096) (d : Nat) : ∀ i : Nat, i + d = 16 → (0 < i → s.f0 ≤ g ∧ g + i ≤ s.f0 + s.f1) →
    Ev (fun k => spec_l4Big.l0 k g i s.f0 s.f1 s.f2 s.f3 s.f4) (decide (s.f0 ≤ g ∧ g + 16 ≤ s.f0 + s.f1 ∧ (s.f2 + g - s.f0) % 16 = 0)) := by
  have o := ok_out ho
  induction d with
  | zero =>
    intro i hd hi
    have hi' := hi (by omega)
    refine Ev.step (f := fun _ => some (decide ((s.f2 + g - s.f0) % 16 = 0))) (fun k => ?_) ?_
    · simp only [spec_l4Big.l0]; rw [if_neg (by omega), show wrap64 (s.f2 + g) = s.f2 + g by unfold wrap64; omega, show wrap64 (s.f2 + g - s.f0) = s.f2 + g - s.f0 by unfold wrap64; omega, Int.tmod_eq_emod_of_nonneg (by omega)]
      rfl
    · rw [show decide (s.f0 ≤ g ∧ g + 16 ≤ s.f0 + s.f1 ∧ (s.f2 + g - s.f0) % 16 = 0) = decide ((s.f2 + g - s.f0) % 16 = 0) by rw [decide_eq_decide]; omega]
      exact Ev.now _
  | succ d ih =>
    intro i hd hi
    by_cases h1 : g + i < s.f0
    · refine Ev.step (f := fun _ => some false) (fun k => ?_) ?_
      · simp only [spec_l4Big.l0]; rw [if_pos (by omega), show wrap64 (g + (i : Int)) = g + i by unfold wrap64; omega, if_pos h1]
      · rw [show decide (s.f0 ≤ g ∧ g + 16 ≤ s.f0 + s.f1 ∧ (s.f2 + g - s.f0) % 16 = 0) = false by rw [decide_eq_false_iff_not]; omega]
        exact Ev.now _
    · by_cases h2 : g + i ≥ s.f0 + s.f1
      · refine Ev.step (f := fun _ => some false) (fun k => ?_) ?_
        · simp only [spec_l4Big.l0]; rw [if_pos (by omega), show wrap64 (g + (i : Int)) = g + i by unfold wrap64; omega, if_neg h1, show wrap64 (s.f0 + s.f1) = s.f0 + s.f1 by unfold wrap64; omega, if_pos h2]
        · rw [show decide (s.f0 ≤ g ∧ g + 16 ≤ s.f0 + s.f1 ∧ (s.f2 + g - s.f0) % 16 = 0) = false by rw [decide_eq_false_iff_not]; omega]
          exact Ev.now _
      · by_cases h3 : s.f0 ≤ g
        · refine Ev.step (f := fun k => spec_l4Big.l0 k g ((i + 1 : Nat) : Int) s.f0 s.f1 s.f2 s.f3 s.f4) (fun k => ?_) (ih (i + 1) (by omega) (fun _ => by omega))
          simp only [spec_l4Big.l0]; rw [if_pos (by omega), show wrap64 (g + (i : Int)) = g + i by unfold wrap64; omega, if_neg h1, show wrap64 (s.f0 + s.f1) = s.f0 + s.f1 by unfold wrap64; omega, if_neg h2, wrap_nat i (by omega)]
        · exfalso
          by_cases h4 : i = 0
          · omega
          · have := hi (by omega); omega

theorem spec_big (s : S92) (p : Int) (ho : okB s = true) (hp : 0 ≤ p) (hp' : p < 4096) : Ev (fun k => spec_l4Big.f k s.f0 s.f1 s.f2 s.f3 s.f4 p) (bigS s p) := by
  unfold spec_l4Big.f bigS
  cases hs : s.f4
  · simpa using Ev.now false
  · simp only [if_true, Bool.true_and]
    rw [Int.tmod_eq_emod_of_nonneg hp, show wrap64 (p - p % 16) = p - p % 16 by unfold wrap64; omega]
    have := big_l0 s (p - p % 16) ho (by omega) (by omega) 16 0 (by omega) (fun h => by omega)
    rw [hs] at this
    exact this

theorem impl_big (s : S92) (p : Int) (ho : okB s = true) (hp : 0 ≤ p) (hp' : p < 4096) : impl_Span_big.f s.f0 s.f1 s.f2 s.f3 s.f4 p = some (bigS s p) := by
  have o := ok_out ho
  unfold impl_Span_big.f bigS
  have e0 : Int.tdiv p 16 = p / 16 := Int.tdiv_eq_ediv_of_nonneg hp
  have e1 : wrap64 (wrap64 (Int.tdiv p 16) * 16) = p - p % 16 := by rw [e0]; unfold wrap64; omega
  rw [e1]
  generalize p - p % 16 = g at *
  have hg : 0 ≤ g ∧ g < 4096 := by unfold wrap64 at e1; rw [e0] at e1; omega
  cases s.f4
  · simp
  · simp only [if_true, Bool.true_and]
    rw [show wrap64 (g + 16) = g + 16 by unfold wrap64; omega, show wrap64 (s.f0 + s.f1) = s.f0 + s.f1 by unfold wrap64; omega, show wrap64 (s.f2 + g) = s.f2 + g by unfold wrap64; omega, show wrap64 (s.f2 + g - s.f0) = s.f2 + g - s.f0 by unfold wrap64; omega]
    by_cases a : g ≥ s.f0
    · rw [if_pos a]
      by_cases b : g + 16 ≤ s.f0 + s.f1
      · rw [if_pos b, Int.tmod_eq_emod_of_nonneg (by omega)]
        congr 1
        rw [Bool.eq_iff_iff]; simp; omega
      · rw [if_neg b]; simp; omega
    · rw [if_neg a]; simp; omega

theorem spec_at0 (l : List S92) (p : Int) (hl : l.length < 9223372036854775807) (hv : valid l = true) (hp : 0 ≤ p) (hp' : p < 4096) (d : Nat) : ∀ i : Nat, i + d = l.length → Ev (fun k => spec_l4At.l0 k l p i) (atFrom l p d i) := by
  induction d with
  | zero =>
    intro i hd
    refine Ev.step (f := fun _ => some (0, 0, 0, 0)) (fun k => ?_) (Ev.now _)
    simp only [spec_l4At.l0]; rw [if_neg (by omega)]
  | succ d ih =>
    intro i hd
    have ho := valid_get hv i (by omega)
    have o := ok_out ho
    unfold atFrom
    refine Ev.step (f := fun k => spec_l4At.j1 k l p i (decide ((at_ l i).f0 ≤ p ∧ p < (at_ l i).f0 + (at_ l i).f1))) (fun k => ?_) ?_
    · simp only [spec_l4At.l0]
      rw [if_pos (by omega), if_pos (by omega)]
      unfold at_ at o ⊢
      rw [show wrap64 ((rd_T92 l i).f0 + (rd_T92 l i).f1) = (rd_T92 l i).f0 + (rd_T92 l i).f1 by unfold wrap64; omega]
      by_cases a : p ≥ (rd_T92 l i).f0
      · rw [if_pos a]; congr 1; rw [decide_eq_decide]; omega
      · rw [if_neg a]; congr 1; symm; rw [decide_eq_false_iff_not]; omega
    · by_cases c : (at_ l i).f0 ≤ p ∧ p < (at_ l i).f0 + (at_ l i).f1
      · rw [if_pos c, decide_eq_true c]
        refine Ev.step (f := fun k => (spec_l4Big.f k (at_ l i).f0 (at_ l i).f1 (at_ l i).f2 (at_ l i).f3 (at_ l i).f4 p).bind fun t => some (1, (at_ l i).f2 + p - (at_ l i).f0, (at_ l i).f3, if t = true then 16 else 1)) (fun k => ?_) ?_
        · simp only [spec_l4At.j1, if_true]
          rw [if_pos (by omega), if_pos (by omega)]
          unfold at_ at o c ⊢
          rw [show wrap64 ((rd_T92 l i).f2 + p) = (rd_T92 l i).f2 + p by unfold wrap64; omega, show wrap64 ((rd_T92 l i).f2 + p - (rd_T92 l i).f0) = (rd_T92 l i).f2 + p - (rd_T92 l i).f0 by unfold wrap64; omega]
          congr 1
          funext t
          cases t <;> rfl
        · exact Ev.bind (spec_big _ p ho hp hp') (Ev.now _)
      · rw [if_neg c, decide_eq_false c]
        refine Ev.step (f := fun k => spec_l4At.l0 k l p ((i + 1 : Nat) : Int)) (fun k => ?_) (ih (i + 1) (by omega))
        simp only [spec_l4At.j1, Bool.false_eq_true, if_false]
        rw [wrap_nat i (by omega)]

theorem impl_at0 (l : List S92) (p : Int) (hl : l.length < 9223372036854775807) (hv : valid l = true) (hp : 0 ≤ p) (hp' : p < 4096) (d : Nat) : ∀ i : Nat, i + d = l.length → Ev (fun k => impl_At.l0 k p l l.length i) (atFrom l p d i) := by
  induction d with
  | zero =>
    intro i hd
    refine Ev.step (f := fun _ => some (0, 0, 0, 0)) (fun k => ?_) (Ev.now _)
    simp only [impl_At.l0]; rw [if_neg (by omega)]
  | succ d ih =>
    intro i hd
    have ho := valid_get hv i (by omega)
    have o := ok_out ho
    unfold atFrom
    have step := ih (i + 1) (by omega)
    refine Ev.step (f := fun k => if (at_ l i).f0 ≤ p ∧ p < (at_ l i).f0 + (at_ l i).f1 then some (hitS (at_ l i) p) else impl_At.l0 k p l l.length ((i + 1 : Nat) : Int)) (fun k => ?_) ?_
    · simp only [impl_At.l0]
      rw [if_pos (by omega), if_pos (by omega), if_pos (by omega), wrap_nat i (by omega)]
      unfold at_ at o ho ⊢
      rw [show wrap64 ((rd_T92 l i).f0 + (rd_T92 l i).f1) = (rd_T92 l i).f0 + (rd_T92 l i).f1 by unfold wrap64; omega]
      unfold impl_Span_at.f
      rw [impl_big _ p ho hp hp']
      by_cases a : p ≥ (rd_T92 l i).f0
      · rw [if_pos a]
        by_cases b : p < (rd_T92 l i).f0 + (rd_T92 l i).f1
        · rw [if_pos b, if_pos ⟨a, b⟩]
          unfold hitS
          simp only [Option.bind_some]
          rw [show wrap64 ((rd_T92 l i).f2 + p) = (rd_T92 l i).f2 + p by unfold wrap64; omega, show wrap64 ((rd_T92 l i).f2 + p - (rd_T92 l i).f0) = (rd_T92 l i).f2 + p - (rd_T92 l i).f0 by unfold wrap64; omega]
          cases bigS (rd_T92 l i) p <;> rfl
        · rw [if_neg b, if_neg (fun h => b h.2)]
      · rw [if_neg a, if_neg (fun h => a h.1)]
    · by_cases c : (at_ l i).f0 ≤ p ∧ p < (at_ l i).f0 + (at_ l i).f1
      · simp only [if_pos c]; exact Ev.now _
      · simp only [if_neg c]; exact step

theorem spec_at (l : List S92) (p : Int) (hl : l.length < 9223372036854775807) : Ev (fun k => spec_At.f k l p) (atP l p) := by
  unfold spec_At.f atP
  refine Ev.bind (spec_valid l hl) ?_
  by_cases hv : valid l = true
  · simp only [hv, if_true]
    unfold spec_l2PageOk.f
    by_cases h0 : p ≥ 0
    · rw [if_pos h0]
      simp only [Option.bind_some]
      by_cases h1 : p < 4096
      · simp only [h1, decide_true, if_true]
        rw [if_pos ⟨trivial, h0, trivial⟩]
        refine Ev.bind (spec_at0 l p hl hv h0 h1 l.length 0 (by omega)) ?_
        exact Ev.now _
      · simpa [h1] using Ev.now (0, 0, 0, 0)
    · rw [if_neg h0, if_neg (fun h => h0 h.2.1)]
      simpa using Ev.now (0, 0, 0, 0)
  · simpa [hv] using Ev.now (0, 0, 0, 0)

theorem impl_at (l : List S92) (p : Int) (hl : l.length < 9223372036854775807) : Ev (fun k => impl_At.f k l p) (atP l p) := by
  have stop : Ev (fun k => impl_At.j0 k l p true) (0, 0, 0, 0) := Ev.step (f := fun _ => some (0, 0, 0, 0)) (fun k => by simp only [impl_At.j0, if_true]) (Ev.now _)
  unfold impl_At.f atP
  refine Ev.bind (impl_valid l hl) ?_
  by_cases hv : valid l = true
  · simp only [hv, if_true]
    unfold impl_pageOK.f
    by_cases h0 : p ≥ 0
    · rw [if_pos h0]
      simp only [Option.bind_some]
      by_cases h1 : p < 4096
      · simp only [h1, decide_true, Bool.not_true]
        rw [if_pos ⟨trivial, h0, trivial⟩]
        refine Ev.step (f := fun k => impl_At.l0 k p l l.length ((0 : Nat) : Int)) (fun k => ?_) (impl_at0 l p hl hv h0 h1 l.length 0 (by omega))
        simp only [impl_At.j0, Bool.false_eq_true, if_false]; rfl
      · simp only [h1, decide_false, Bool.not_false, and_false, if_false]
        exact stop
    · rw [if_neg h0, if_neg (fun h => h0 h.2.1)]
      simpa using stop
  · simp only [hv, if_false, Bool.false_eq_true, false_and]
    exact stop

end Go.Proofs.Ytemfnbcebgflmaa.PureFnExactAt
