/- Walk of the program and Walk of the reference, over the printed functions of the law FnExactWalk: both are 'walkP'. -/
import Derived.Test.YtemfnbcebgflmaaDecFnExactWalk
import Derived.Test.YtemfnbcebgflmaaWalkMath
namespace Go.Proofs.Ytemfnbcebgflmaa.PureFnExactWalk
set_option linter.unusedVariables false
set_option linter.unusedSimpArgs false
open Go.RowKit Go.Proofs.Ytemfnbcebgflmaa.PFnExactWalk Go.Proofs.YtemfnbcebgflmaaW.PrintWords Go.Proofs.YtemfnbcebgflmaaW.PrintLast Go.Proofs.YtemfnbcebgflmaaW.PrintMore
open Go.Proofs.Ytemfnbcebgflmaa.BitsMath Go.Proofs.Ytemfnbcebgflmaa.DecMath

theorem spec_dec_ev (l w : Int) (hw : 0 ≤ w) (hw' : w < 18446744073709551616) : Ev (fun k => spec_Decode.f k l w) (dec l w) :=
  ⟨4, fun k hk => by obtain ⟨j, rfl⟩ : ∃ j, k = j + 4 := ⟨k - 4, by omega⟩; exact spec_dec l w hw hw' j⟩
theorem impl_dec_ev (l w : Int) (hw : 0 ≤ w) (hw' : w < 18446744073709551616) : Ev (fun k => impl_Decode.f k l w) (dec l w) :=
  ⟨3, fun k hk => by obtain ⟨j, rfl⟩ : ∃ j, k = j + 3 := ⟨k - 3, by omega⟩; exact impl_dec l w hw hw' j⟩

theorem spec_idx (l p : Int) (hl : l = 1 ∨ l = 2 ∨ l = 3) (hp : 0 ≤ p) (hp' : p < 4096) : spec_l2Index.f p l = some (idx l p) := by
  unfold spec_l2Index.f idx cov
  rcases hl with rfl | rfl | rfl
  · rw [if_pos rfl, Int.tdiv_eq_ediv_of_nonneg hp, show wrap64 (p / 256) = p / 256 by unfold wrap64; omega]; simp; omega
  · rw [if_neg (by decide), if_pos rfl, Int.tdiv_eq_ediv_of_nonneg hp, show wrap64 (p / 16) = p / 16 by unfold wrap64; omega, Int.tmod_eq_emod_of_nonneg (by omega)]; simp
  · rw [if_neg (by decide), if_neg (by decide), Int.tmod_eq_emod_of_nonneg hp]; simp

theorem impl_idx (l p : Int) (hl : l = 1 ∨ l = 2 ∨ l = 3) (hp : 0 ≤ p) (hp' : p < 4096) : impl_index.f l p = some (idx l p) := by
  unfold impl_index.f impl_cover.f idx cov
  rcases hl with rfl | rfl | rfl
  · simp only [if_true, Option.bind_some]; rw [if_neg (by decide), Int.tdiv_eq_ediv_of_nonneg hp, show wrap64 (p / 256) = p / 256 by unfold wrap64; omega, Int.tmod_eq_emod_of_nonneg (by omega)]
  · rw [if_neg (by decide), if_pos rfl]; simp only [Option.bind_some]; rw [if_neg (by decide), Int.tdiv_eq_ediv_of_nonneg hp, show wrap64 (p / 16) = p / 16 by unfold wrap64; omega, Int.tmod_eq_emod_of_nonneg (by omega)]; simp
  · rw [if_neg (by decide), if_neg (by decide)]; simp only [Option.bind_some]; rw [if_neg (by decide), Int.tdiv_eq_ediv_of_nonneg hp, show wrap64 (p / 1) = p by unfold wrap64; omega, Int.tmod_eq_emod_of_nonneg (by omega)]; simp

theorem addr (ws : List Int) (l f p : Int) (hm : memOk ws) (hf : 0 ≤ f) (hf' : f < (ws.length / 16 : Nat)) (hp : 0 ≤ p) :
    wrap64 (wrap64 (f * 16) + idx l p) = f * 16 + idx l p ∧ 0 ≤ f * 16 + idx l p ∧ f * 16 + idx l p < ws.length := by
  have hi := idx_lt l p hp
  obtain ⟨h1, h2, h3⟩ := hm
  refine ⟨?_, by omega, by omega⟩
  rw [show wrap64 (f * 16) = f * 16 by unfold wrap64; omega]; unfold wrap64; omega

theorem spec_frames (ws : List Int) (hm : memOk ws) : spec_l1Frames.f ws = some ((ws.length / 16 : Nat) : Int) := by
  obtain ⟨h1, h2, h3⟩ := hm
  unfold spec_l1Frames.f
  rw [if_neg (by omega), if_neg (by omega), if_pos (by omega)]
  congr 1; unfold wrap64; omega

theorem spec_frames0 (ws : List Int) (hm : ¬ memOk ws) : spec_l1Frames.f ws = some 0 := by
  unfold memOk at hm
  unfold spec_l1Frames.f
  by_cases a : (ws.length : Int) < 16
  · rw [if_pos a]
  rw [if_neg a]
  by_cases b : (ws.length : Int) > 8192
  · rw [if_pos b]
  rw [if_neg b, if_neg (by omega)]

theorem spec_from (ws : List Int) (p : Int) (hm : memOk ws) (hw : Words ws) (hp : 0 ≤ p) (hp' : p < 4096) (d : Nat) : ∀ (l f : Int), l + d = 4 → 1 ≤ d → d ≤ 3 → 0 ≤ f → f < (ws.length / 16 : Nat) →
    Ev (fun k => spec_l2From.f k ws p l f) (walkAt ws (ws.length / 16 : Nat) p d l f) := by
  induction d with
  | zero => intro l f _ h; omega
  | succ d ih =>
    intro l f hl hd1 hd3 hf hf'
    obtain ⟨ha, ha0, ha1⟩ := addr ws l f p hm hf hf' hp
    have hwd := hw.get (f * 16 + idx l p).toNat
    unfold walkAt
    refine Ev.step (f := fun k => (spec_Decode.f k l (ws.getD (f * 16 + idx l p).toNat 0)).bind fun e => if e.1 = 0 then some (0, 0, 0, 0) else if e.1 = 1 then (if e.2.1 < (ws.length / 16 : Nat) then spec_l2From.j0 k p l (decide (l < 3)) ws e.1 e.2.1 e.2.2 else spec_l2From.j0 k p l false ws e.1 e.2.1 e.2.2) else spec_l2From.j0 k p l false ws e.1 e.2.1 e.2.2) (fun k => ?_) ?_
    · simp only [spec_l2From.f]
      rw [spec_idx l p (by omega) hp hp']
      simp only [Option.bind_some]
      rw [ha, if_pos ha0, if_pos ha1, spec_frames ws hm]
      rfl
    · refine Ev.bind (spec_dec_ev _ _ hwd.1 hwd.2) ?_
      have hk := dec_kind l (ws.getD (f * 16 + idx l p).toNat 0)
      have ho := dec_out l (ws.getD (f * 16 + idx l p).toNat 0)
      have ht := dec_table l (ws.getD (f * 16 + idx l p).toNat 0)
      generalize dec l (ws.getD (f * 16 + idx l p).toNat 0) = e at *
      obtain ⟨ek, eo, ep⟩ := e
      simp only at hk ho ht ⊢
      have fin : ∀ r, (if ek = 2 then some (1, wrap64 (eo + Int.tmod p 16), ep, 16) else if ek = 3 then some (1, eo, ep, 1) else some (3, 0, 0, 0)) = some r → Ev (fun k => spec_l2From.j0 k p l false ws ek eo ep) r := by
        intro r hr
        refine Ev.step (f := fun _ => some r) (fun k => ?_) (Ev.now _)
        simp only [spec_l2From.j0, Bool.false_eq_true, if_false]
        exact hr
      rcases hk with rfl | rfl | rfl | rfl | rfl
      · exact Ev.now _
      · have hl2 := ht rfl
        simp only [show ¬ ((1 : Int) = 0) by decide, if_false, if_true]
        by_cases hlt : eo < (ws.length / 16 : Nat)
        · simp only [if_pos hlt]
          rw [show decide (l < 3) = true by simp; omega]
          refine Ev.step (f := fun k => (spec_l2From.f k ws p (l + 1) eo).bind fun bt => some (bt.1, bt.2.1, bt.2.2.1, bt.2.2.2)) (fun k => ?_) (Ev.bind (ih (l + 1) eo (by omega) (by omega) (by omega) ho.1 hlt) (Ev.now _))
          simp only [spec_l2From.j0, if_true]
          rw [show wrap64 (l + 1) = l + 1 by unfold wrap64; omega]
        · simp only [if_neg hlt]
          exact fin _ (by simp)
      · simp only [show ¬ ((2 : Int) = 0) by decide, show ¬ ((2 : Int) = 1) by decide, if_false, if_true]
        refine fin _ ?_
        rw [if_pos rfl, Int.tmod_eq_emod_of_nonneg hp, show wrap64 (eo + p % 16) = eo + p % 16 by unfold wrap64; omega]
      · simp only [show ¬ ((3 : Int) = 0) by decide, show ¬ ((3 : Int) = 1) by decide, show ¬ ((3 : Int) = 2) by decide, if_false, if_true]
        exact fin _ (by simp)
      · simp only [show ¬ ((4 : Int) = 0) by decide, show ¬ ((4 : Int) = 1) by decide, show ¬ ((4 : Int) = 2) by decide, show ¬ ((4 : Int) = 3) by decide, if_false]
        exact fin _ (by simp)

theorem impl_walk0 (ws : List Int) (p : Int) (hm : memOk ws) (hw : Words ws) (hp : 0 ≤ p) (hp' : p < 4096) (d : Nat) : ∀ (l f : Int), l + d = 4 → 1 ≤ d → d ≤ 3 → 0 ≤ f → f < (ws.length / 16 : Nat) →
    Ev (fun k => impl_Mem_walk.l0 k p f l ws) (walkAt ws (ws.length / 16 : Nat) p d l f) := by
  induction d with
  | zero => intro l f _ h; omega
  | succ d ih =>
    intro l f hl hd1 hd3 hf hf'
    obtain ⟨ha, ha0, ha1⟩ := addr ws l f p hm hf hf' hp
    have hwd := hw.get (f * 16 + idx l p).toNat
    unfold walkAt
    have hfr : impl_Mem_frames.f ws = some ((ws.length / 16 : Nat) : Int) := by
      obtain ⟨h1, h2, h3⟩ := hm
      unfold impl_Mem_frames.f
      congr 1; unfold wrap64; omega
    refine Ev.step (f := fun k => (impl_Decode.f k l (ws.getD (f * 16 + idx l p).toNat 0)).bind fun e => if e.1 = 0 then some (0, 0, 0, 0) else if e.1 = 2 then some (1, wrap64 (e.2.1 + Int.tmod p 16), e.2.2, 16) else if e.1 = 3 then some (1, e.2.1, e.2.2, 1) else if e.1 = 4 then some (3, 0, 0, 0) else if e.2.1 ≥ (ws.length / 16 : Nat) then some (3, 0, 0, 0) else impl_Mem_walk.l0 k p e.2.1 (wrap64 (l + 1)) ws) (fun k => ?_) ?_
    · simp only [impl_Mem_walk.l0]
      rw [impl_idx l p (by omega) hp hp']
      simp only [Option.bind_some]
      rw [ha, if_pos ha0, if_pos ha1, hfr]
      rfl
    · refine Ev.bind (impl_dec_ev _ _ hwd.1 hwd.2) ?_
      have hk := dec_kind l (ws.getD (f * 16 + idx l p).toNat 0)
      have ho := dec_out l (ws.getD (f * 16 + idx l p).toNat 0)
      have ht := dec_table l (ws.getD (f * 16 + idx l p).toNat 0)
      generalize dec l (ws.getD (f * 16 + idx l p).toNat 0) = e at *
      obtain ⟨ek, eo, ep⟩ := e
      simp only at hk ho ht ⊢
      rcases hk with rfl | rfl | rfl | rfl | rfl
      · exact Ev.now _
      · have hl2 := ht rfl
        simp only [show ¬ ((1 : Int) = 0) by decide, show ¬ ((1 : Int) = 2) by decide, show ¬ ((1 : Int) = 3) by decide, show ¬ ((1 : Int) = 4) by decide, if_false, if_true]
        by_cases hlt : eo < (ws.length / 16 : Nat)
        · simp only [if_pos hlt, if_neg (show ¬ eo ≥ (ws.length / 16 : Nat) by omega)]
          rw [show wrap64 (l + 1) = l + 1 by unfold wrap64; omega]
          exact ih (l + 1) eo (by omega) (by omega) (by omega) ho.1 hlt
        · simp only [if_neg hlt, if_pos (show eo ≥ (ws.length / 16 : Nat) by omega)]
          exact Ev.now _
      · simp only [show ¬ ((2 : Int) = 0) by decide, show ¬ ((2 : Int) = 1) by decide, if_false, if_true]
        rw [Int.tmod_eq_emod_of_nonneg hp, show wrap64 (eo + p % 16) = eo + p % 16 by unfold wrap64; omega]
        exact Ev.now _
      · simp only [show ¬ ((3 : Int) = 0) by decide, show ¬ ((3 : Int) = 1) by decide, show ¬ ((3 : Int) = 2) by decide, if_false, if_true]
        exact Ev.now _
      · simp only [show ¬ ((4 : Int) = 0) by decide, show ¬ ((4 : Int) = 1) by decide, show ¬ ((4 : Int) = 2) by decide, show ¬ ((4 : Int) = 3) by decide, if_false, if_true]
        exact Ev.now _

theorem spec_walk (ws : List Int) (p : Int) (hw : Words ws) : Ev (fun k => spec_Walk.f k ws p) (walkP ws p) := by
  unfold spec_Walk.f walkP spec_l2PageOk.f
  by_cases hm : memOk ws
  · have hne : ¬ (((ws.length / 16 : Nat) : Int) = 0) := by obtain ⟨h1, h2, h3⟩ := hm; omega
    simp only [spec_frames ws hm, Option.bind_some, hne, if_false]
    by_cases h0 : p ≥ 0
    · by_cases h1 : p < 4096
      · have hc : memOk ws ∧ 0 ≤ p ∧ p < 4096 := ⟨hm, h0, h1⟩
        simp only [h0, h1, hc, decide_true, if_true, Option.bind_some]
        exact Ev.bind (spec_from ws p hm hw h0 h1 3 1 0 (by omega) (by omega) (by omega) (by omega) (by obtain ⟨_, _, _⟩ := hm; omega)) (Ev.now _)
      · have hc : ¬ (memOk ws ∧ 0 ≤ p ∧ p < 4096) := fun h => h1 h.2.2
        rw [if_neg hc]
        simp only [h0, h1, decide_false, if_true, if_false, Option.bind_some, Bool.false_eq_true]
        exact Ev.now _
    · have hc : ¬ (memOk ws ∧ 0 ≤ p ∧ p < 4096) := fun h => h0 h.2.1
      rw [if_neg hc]
      simp only [h0, if_false, Option.bind_some, Bool.false_eq_true]
      exact Ev.now _
  · have hc : ¬ (memOk ws ∧ 0 ≤ p ∧ p < 4096) := fun h => hm h.1
    simp only [spec_frames0 ws hm, Option.bind_some, if_true, hc, if_false]
    exact Ev.now _

theorem impl_memok (ws : List Int) : impl_memOK.f ws = some (decide (memOk ws)) := by
  unfold impl_memOK.f
  by_cases hm : memOk ws
  · obtain ⟨h1, h2, h3⟩ := id hm
    rw [if_pos (by omega), if_pos (by omega), decide_eq_true hm, decide_eq_true (by omega)]
  · rw [decide_eq_false hm]
    unfold memOk at hm
    by_cases a : (ws.length : Int) % 16 = 0
    · rw [if_pos a]
      by_cases b : (ws.length : Int) ≥ 16
      · rw [if_pos b, decide_eq_false (by omega)]
      · rw [if_neg b]
    · rw [if_neg a]

theorem impl_walk (ws : List Int) (p : Int) (hw : Words ws) : Ev (fun k => impl_Walk.f k ws p) (walkP ws p) := by
  unfold impl_Walk.f walkP impl_pageOK.f
  simp only [impl_memok ws, Option.bind_some]
  by_cases hm : memOk ws
  · by_cases h0 : p ≥ 0
    · by_cases h1 : p < 4096
      · have hc : memOk ws ∧ 0 ≤ p ∧ p < 4096 := ⟨hm, h0, h1⟩
        simp only [hm, h0, h1, hc, decide_true, if_true, Option.bind_some]
        exact Ev.bind (impl_walk0 ws p hm hw h0 h1 3 1 0 (by omega) (by omega) (by omega) (by omega) (by obtain ⟨_, _, _⟩ := hm; omega)) (Ev.now _)
      · have hc : ¬ (memOk ws ∧ 0 ≤ p ∧ p < 4096) := fun h => h1 h.2.2
        rw [if_neg hc]
        simp only [hm, h0, h1, decide_true, decide_false, if_true, if_false, Option.bind_some, Bool.false_eq_true]
        exact Ev.now _
    · have hc : ¬ (memOk ws ∧ 0 ≤ p ∧ p < 4096) := fun h => h0 h.2.1
      rw [if_neg hc]
      simp only [hm, h0, decide_true, if_true, if_false, Option.bind_some, Bool.false_eq_true]
      exact Ev.now _
  · have hc : ¬ (memOk ws ∧ 0 ≤ p ∧ p < 4096) := fun h => hm h.1
    simp only [hm, hc, decide_false, if_false, Bool.false_eq_true]
    exact Ev.now _

end Go.Proofs.Ytemfnbcebgflmaa.PureFnExactWalk
