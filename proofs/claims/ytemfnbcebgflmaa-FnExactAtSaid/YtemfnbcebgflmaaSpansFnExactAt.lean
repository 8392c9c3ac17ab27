/- Spans, in numbers: what ValidSpans of the program and of the reference say; the copying and comparing of lists of spans. Over the printed functions of the law FnExactAt. -/
import Derived.Test.YtemfnbcebgflmaaQFnExactAtx8
namespace Go.Proofs.Ytemfnbcebgflmaa.PureFnExactAt
open Go.RowKit Go.Proofs.Ytemfnbcebgflmaa.PFnExactAt Go.Proofs.YtemfnbcebgflmaaW.PrintWords Go.Proofs.YtemfnbcebgflmaaW.PrintLast Go.Proofs.YtemfnbcebgflmaaW.PrintMore

/-- One span alone is in order. -/
def okB (s : S92) : Bool := decide (1 ≤ s.f1 ∧ 0 ≤ s.f0 ∧ s.f0 + s.f1 ≤ 4096 ∧ 0 ≤ s.f2 ∧ s.f2 + s.f1 ≤ 65536 ∧ 1 ≤ s.f3 ∧ s.f3 ≤ 7)
/-- The later of two neighbours may not stand so. -/
def badB (a b : S92) : Bool := decide (b.f0 < wrap64 (a.f0 + a.f1)) || (decide (wrap64 (a.f0 + a.f1) = b.f0) && (decide (wrap64 (a.f2 + a.f1) = b.f2) && (decide (a.f3 = b.f3) && (a.f4 == b.f4))))

abbrev at_ (l : List S92) (i : Int) : S92 := rd_T92 l i

theorem spec_ok (s : S92) (k : Nat) : spec_l4SpanOk.f (k + 1) s.f0 s.f1 s.f2 s.f3 s.f4 = some (okB s) := by
  unfold spec_l4SpanOk.f okB
  by_cases a : s.f1 < 1
  · rw [if_pos a]; simp [spec_l4SpanOk.j0]; omega
  rw [if_neg a]
  by_cases b : s.f1 > 4096
  · rw [if_pos b]; simp [spec_l4SpanOk.j0]; try omega
  rw [if_neg b]
  by_cases c : s.f3 < 1
  · rw [if_pos c]; simp [spec_l4SpanOk.j0]; omega
  rw [if_neg c]
  by_cases d : s.f3 > 7
  · simp [spec_l4SpanOk.j0, d]; try omega
  simp only [spec_l4SpanOk.j0, d, decide_false, Bool.false_eq_true, if_false]
  by_cases e : s.f0 < 0
  · rw [if_pos e]; simp; omega
  rw [if_neg e]
  by_cases f : s.f0 ≥ 4096
  · rw [if_pos f]; simp; omega
  rw [if_neg f, show wrap64 (s.f0 + s.f1) = s.f0 + s.f1 by unfold wrap64; omega]
  by_cases g : s.f0 + s.f1 > 4096
  · rw [if_pos g]; simp; omega
  rw [if_neg g]
  by_cases h : s.f2 ≥ 0
  · rw [if_pos h]
    by_cases i : s.f2 < 65536
    · rw [if_pos i, show wrap64 (s.f2 + s.f1) = s.f2 + s.f1 by unfold wrap64; omega]
      congr 1; rw [decide_eq_decide]; omega
    · rw [if_neg i]; simp; omega
  · rw [if_neg h]; simp; omega

theorem impl_ok (s : S92) : impl_spanOK.f s.f0 s.f1 s.f2 s.f3 s.f4 = some (okB s) := by
  unfold impl_spanOK.f okB
  by_cases a : s.f1 ≥ 1
  · rw [if_pos a]
    by_cases b : s.f0 ≥ 0
    · rw [if_pos b]
      by_cases c : s.f0 < 4096
      · rw [if_pos c, show wrap64 (4096 - s.f0) = 4096 - s.f0 by unfold wrap64; omega]
        by_cases d : s.f1 ≤ 4096 - s.f0
        · rw [if_pos d]
          by_cases e : s.f2 ≥ 0
          · rw [if_pos e]
            by_cases f : s.f2 ≤ 65536
            · rw [if_pos f, show wrap64 (65536 - s.f2) = 65536 - s.f2 by unfold wrap64; omega]
              by_cases g : s.f1 ≤ 65536 - s.f2
              · rw [if_pos g]
                by_cases h : s.f3 ≥ 1
                · rw [if_pos h]; congr 1; rw [decide_eq_decide]; omega
                · rw [if_neg h]; simp; omega
              · rw [if_neg g]; simp; omega
            · rw [if_neg f]; simp; omega
          · rw [if_neg e]; simp; omega
        · rw [if_neg d]; simp; omega
      · rw [if_neg c]; simp; omega
    · rw [if_neg b]; simp; omega
  · rw [if_neg a]; simp; omega

/-- From place i on: each span in order. -/
def oksFrom (l : List S92) : Nat → Nat → Bool
  | 0, _ => true
  | d + 1, i => okB (at_ l i) && oksFrom l d (i + 1)
/-- From place i on: no span stands wrongly behind the one before. -/
def goodFrom (l : List S92) : Nat → Nat → Bool
  | 0, _ => true
  | d + 1, i => !badB (at_ l ((i : Int) - 1)) (at_ l i) && goodFrom l d (i + 1)
/-- The list is valid. -/
def valid (l : List S92) : Bool := oksFrom l l.length 0 && goodFrom l (l.length - 1) 1

theorem wrap_nat (n : Nat) (h : n < 9223372036854775807) : wrap64 ((n : Int) + 1) = ((n + 1 : Nat) : Int) := by unfold wrap64; omega
theorem wrap_pred (n : Nat) (h : n < 9223372036854775807) : wrap64 ((n : Int) - 1) = (n : Int) - 1 := by unfold wrap64; omega

theorem spec_l1 (l : List S92) (hl : l.length < 9223372036854775807) (d : Nat) : ∀ i : Nat, 1 ≤ i → l.length - i = d → Ev (fun k => spec_ValidSpans.l1 k l i) (goodFrom l d i) := by
  induction d with
  | zero =>
    intro i hi hd
    refine Ev.step (f := fun _ => some true) (fun k => ?_) (Ev.now _)
    simp only [spec_ValidSpans.l1]; rw [if_neg (by omega)]
  | succ d ih =>
    intro i hi hd
    have step := ih (i + 1) (by omega) (by omega)
    refine Ev.step (f := fun k => if badB (at_ l ((i : Int) - 1)) (at_ l i) = true then some false else spec_ValidSpans.l1 k l ((i + 1 : Nat) : Int)) (fun k => ?_) ?_
    · simp only [spec_ValidSpans.l1]
      rw [if_pos (by omega), if_pos (by omega), wrap_pred i (by omega), if_pos (by omega), if_pos (by omega), wrap_nat i (by omega)]
      unfold badB at_ spec_l4Joins.f
      by_cases a : (rd_T92 l i).f0 < wrap64 ((rd_T92 l ((i : Int) - 1)).f0 + (rd_T92 l ((i : Int) - 1)).f1)
      · simp [a]
      · by_cases b : wrap64 ((rd_T92 l ((i : Int) - 1)).f0 + (rd_T92 l ((i : Int) - 1)).f1) = (rd_T92 l i).f0 <;> by_cases c : wrap64 ((rd_T92 l ((i : Int) - 1)).f2 + (rd_T92 l ((i : Int) - 1)).f1) = (rd_T92 l i).f2 <;> by_cases e : (rd_T92 l ((i : Int) - 1)).f3 = (rd_T92 l i).f3 <;> simp [a, b, c, e]
    · unfold goodFrom
      cases badB (at_ l ((i : Int) - 1)) (at_ l i)
      · simpa using step
      · simpa using Ev.now false

theorem spec_l0 (l : List S92) (hl : l.length < 9223372036854775807) (d : Nat) : ∀ i : Nat, i + d = l.length → Ev (fun k => spec_ValidSpans.l0 k l i) (oksFrom l d i && goodFrom l (l.length - 1) 1) := by
  induction d with
  | zero =>
    intro i hd
    refine Ev.step (f := fun k => spec_ValidSpans.l1 k l ((1 : Nat) : Int)) (fun k => ?_) (by simpa [oksFrom] using spec_l1 l hl (l.length - 1) 1 (by omega) rfl)
    simp only [spec_ValidSpans.l0]; rw [if_neg (by omega)]; rfl
  | succ d ih =>
    intro i hd
    refine Ev.step (f := fun k => (spec_l4SpanOk.f k (at_ l i).f0 (at_ l i).f1 (at_ l i).f2 (at_ l i).f3 (at_ l i).f4).bind fun t => if t = true then spec_ValidSpans.l0 k l ((i + 1 : Nat) : Int) else some false) (fun k => ?_) ?_
    · simp only [spec_ValidSpans.l0]
      rw [if_pos (by omega), if_pos (by omega), wrap_nat i (by omega)]
    · refine Ev.bind (a := okB (at_ l i)) (Ev.step (f := fun _ => some (okB (at_ l i))) (fun k => spec_ok _ k) (Ev.now _)) ?_
      unfold oksFrom
      cases okB (at_ l i)
      · simpa using Ev.now false
      · simpa using ih (i + 1) (by omega)

theorem spec_valid (l : List S92) (hl : l.length < 9223372036854775807) : Ev (fun k => spec_ValidSpans.f k l) (valid l) := by
  have := spec_l0 l hl l.length 0 (by omega)
  exact this

theorem impl_l0 (l : List S92) (hl : l.length < 9223372036854775807) (d : Nat) : ∀ i : Nat, 1 ≤ i → i + d = l.length → Ev (fun k => impl_ValidSpans.l0 k l l l.length i) (oksFrom l d i && goodFrom l d i) := by
  induction d with
  | zero =>
    intro i hi hd
    refine Ev.step (f := fun _ => some true) (fun k => ?_) (by simpa [oksFrom, goodFrom] using Ev.now true)
    simp only [impl_ValidSpans.l0]; rw [if_neg (by omega)]
  | succ d ih =>
    intro i hi hd
    have step := ih (i + 1) (by omega) (by omega)
    refine Ev.step (f := fun k => if okB (at_ l i) = true then (if badB (at_ l ((i : Int) - 1)) (at_ l i) = true then some false else impl_ValidSpans.l0 k l l l.length ((i + 1 : Nat) : Int)) else some false) (fun k => ?_) ?_
    · simp only [impl_ValidSpans.l0]
      rw [if_pos (by omega), if_pos (by omega), if_pos (by omega), wrap_pred i (by omega), wrap_nat i (by omega), impl_ok]
      simp only [Option.bind_some]
      rw [if_pos (show (i : Int) > 0 by omega), if_pos (show (0 : Int) ≤ (i : Int) - 1 by omega), if_pos (show (i : Int) - 1 < (l.length : Int) by omega)]
      unfold badB at_ impl_joins.f
      by_cases a : (rd_T92 l i).f0 < wrap64 ((rd_T92 l ((i : Int) - 1)).f0 + (rd_T92 l ((i : Int) - 1)).f1)
      · simp [a]
      · by_cases b : wrap64 ((rd_T92 l ((i : Int) - 1)).f0 + (rd_T92 l ((i : Int) - 1)).f1) = (rd_T92 l i).f0 <;> by_cases c : wrap64 ((rd_T92 l ((i : Int) - 1)).f2 + (rd_T92 l ((i : Int) - 1)).f1) = (rd_T92 l i).f2 <;> by_cases e : (rd_T92 l ((i : Int) - 1)).f3 = (rd_T92 l i).f3 <;> simp [a, b, c, e]
    · unfold oksFrom goodFrom
      cases okB (at_ l i)
      · simpa using Ev.now false
      · cases badB (at_ l ((i : Int) - 1)) (at_ l i)
        · simpa using step
        · simpa using Ev.now false

theorem impl_valid (l : List S92) (hl : l.length < 9223372036854775807) : Ev (fun k => impl_ValidSpans.f k l) (valid l) := by
  unfold impl_ValidSpans.f
  cases hn : l.length with
  | zero =>
    refine Ev.step (f := fun _ => some true) (fun k => ?_) (by simpa [valid, hn, oksFrom, goodFrom] using Ev.now true)
    simp only [impl_ValidSpans.l0]; rw [if_neg (by omega)]
  | succ n =>
    have step := impl_l0 l hl n 1 (by omega) (by omega)
    refine Ev.step (f := fun k => if okB (at_ l ((0 : Nat) : Int)) = true then impl_ValidSpans.l0 k l l l.length ((1 : Nat) : Int) else some false) (fun k => ?_) ?_
    · simp only [impl_ValidSpans.l0]
      rw [if_pos (by omega), if_pos (by omega), if_pos (by omega), impl_ok]
      simp only [Option.bind_some]
      rw [if_neg (show ¬ (0 : Int) > 0 by omega), hn, show wrap64 ((0 : Int) + 1) = ((1 : Nat) : Int) by unfold wrap64; omega]
      rfl
    · unfold valid
      rw [hn]
      show Ev _ (okB (at_ l ((0 : Nat) : Int)) && oksFrom l n 1 && goodFrom l n 1)
      rw [hn] at step
      cases okB (at_ l ((0 : Nat) : Int))
      · simpa using Ev.now false
      · simpa using step

/-- A span of the law as one of the program. -/
def conv (s : S95) : S92 := ⟨s.f0, s.f1, s.f2, s.f3, s.f4⟩

theorem set_map (l : List S95) (i : Nat) (h : i < l.length) : ((l.take i).map conv ++ List.replicate (l.length - i) z92).set i (conv (rd_T95 l i)) = (l.take (i + 1)).map conv ++ List.replicate (l.length - (i + 1)) z92 := by
  have e : l.length - i = (l.length - (i + 1)) + 1 := by omega
  have hr : rd_T95 l i = l[i] := by unfold rd_T95; simp [h]
  rw [hr, List.take_succ_eq_append_getElem h, List.map_append, e, List.replicate_succ, List.set_append]
  rw [if_neg (by simp; omega)]
  simp [Nat.min_eq_left (Nat.le_of_lt h)]

theorem conv_l0 (l : List S95) (hl : l.length ≤ 7036874417766) (d : Nat) : ∀ i : Nat, i + d = l.length → Ev (fun k => laws_toSpanS.l0 k l ((l.take i).map conv ++ List.replicate (l.length - i) z92) i) (l.map conv) := by
  induction d with
  | zero =>
    intro i hd
    refine Ev.step (f := fun _ => some (l.map conv)) (fun k => ?_) (Ev.now _)
    simp only [laws_toSpanS.l0]; rw [if_neg (by omega)]
    rw [show l.length - i = 0 by omega, List.take_of_length_le (by omega)]; simp
  | succ d ih =>
    intro i hd
    refine Ev.step (f := fun k => laws_toSpanS.l0 k l ((l.take (i + 1)).map conv ++ List.replicate (l.length - (i + 1)) z92) ((i + 1 : Nat) : Int)) (fun k => ?_) (ih (i + 1) (by omega))
    simp only [laws_toSpanS.l0, laws_toSpan.f, Option.bind_some]
    rw [if_pos (by omega), if_pos (by omega), if_pos (by simp; omega), wrap_nat i (by omega)]
    have := set_map l i (by omega)
    unfold conv at this ⊢
    simp only [Int.toNat_natCast]
    rw [this]

theorem conv_f (l : List S95) (hl : l.length ≤ 7036874417766) : Ev (fun k => laws_toSpanS.f k l) (l.map conv) := by
  have := conv_l0 l hl l.length 0 (by omega)
  refine Ev.congr (fun k => ?_) this
  unfold laws_toSpanS.f
  rw [if_pos (by omega), if_pos (by omega)]
  simp

theorem eq_l0 (l : List S92) (hl : l.length < 9223372036854775807) (d : Nat) : ∀ i : Nat, i + d = l.length → Ev (fun k => laws_eqSpanS.l0 k l l i) true := by
  induction d with
  | zero =>
    intro i hd
    refine Ev.step (f := fun _ => some true) (fun k => ?_) (Ev.now _)
    simp only [laws_eqSpanS.l0]; rw [if_neg (by omega)]
  | succ d ih =>
    intro i hd
    refine Ev.step (f := fun k => laws_eqSpanS.l0 k l l ((i + 1 : Nat) : Int)) (fun k => ?_) (ih (i + 1) (by omega))
    simp only [laws_eqSpanS.l0]
    rw [if_pos (by omega), if_pos (by omega), wrap_nat i (by omega)]
    simp [laws_eqSpan.f, show (i : Int) < (l.length : Int) by omega]

theorem eq_f (l : List S92) (hl : l.length < 9223372036854775807) : Ev (fun k => laws_eqSpanS.f k l l) true := by
  refine Ev.congr (fun k => ?_) (eq_l0 l hl l.length 0 (by omega))
  unfold laws_eqSpanS.f
  simp

end Go.Proofs.Ytemfnbcebgflmaa.PureFnExactAt
