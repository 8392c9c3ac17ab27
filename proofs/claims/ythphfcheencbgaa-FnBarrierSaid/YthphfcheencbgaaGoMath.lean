/- The walk of a machine with a choice, as a plain function. No program in sight. -/
import Derived.Test.YthphfcheencbgaaAddPure
namespace Go.Proofs.Ythphfcheencbgaa.Mmu
open Go.Proofs.Ythphfcheencbgaa.Kinds Go.Proofs.Ythphfcheencbgaa.DecMath
set_option linter.unusedVariables false
set_option linter.unusedSimpArgs false

/-- What is cached of a table. -/
def addStepP (m : SM) (on : Bool) (level page frame : Int) (doomed : Bool) : SM := if on = true then { m with wc := addL m.wc ⟨level + 1, page - page % cov level, frame, doomed⟩ } else m
/-- What is cached of a translation. -/
def addWholeP (m : SM) (on : Bool) (page size out perm : Int) (doomed : Bool) : SM := if on = true then { m with tlb := addL m.tlb ⟨page - page % size, size, out, perm, doomed⟩ } else m
/-- On from a table of a level (n: the levels that are left): the machine after, and the hit (kind, out, perm, size). -/
def goP (page choice : Int) : Nat → SM → Int → Int → Bool → SM × Int × Int × Int × Int
  | 0, m, _, _, _ => (m, 3, 0, 0, 0)
  | n + 1, m, level, frame, doomed =>
    let d := dec level (readP m (frame * 16 + idx level page) (bitB choice level.toNat))
    if d.1 = 0 then (m, 0, 0, 0, 0)
    else if d.1 = 1 ∧ d.2.1 < ((m.ws.length / 16 : Nat) : Int) then goP page choice n (addStepP m (bitB choice (level + 3).toNat) level page d.2.1 doomed) (level + 1) d.2.1 doomed
    else if d.1 = 2 ∨ d.1 = 3 then
      let size : Int := if d.1 = 2 then 16 else 1
      (addWholeP m (bitB choice 6) page size d.2.1 d.2.2 doomed, 1, d.2.1 + page % size, d.2.2, size)
    else (m, 3, 0, 0, 0)
/-- Where a walk begins: the first entry of level 3, then of level 2, that covers the page. -/
def beginP (m : SM) (page choice : Int) : Int × Int × Bool :=
  if bitB choice 0 = true then
    match m.wc.find? (fun e => decide (e.Level = 3 ∧ wcovP e page)) with
    | some e => (3, e.Table, e.Doomed)
    | none => match m.wc.find? (fun e => decide (e.Level = 2 ∧ wcovP e page)) with
      | some e => (2, e.Table, e.Doomed)
      | none => (1, 0, false)
  else (1, 0, false)
def walkP (m : SM) (page choice : Int) : SM × Int × Int × Int × Int :=
  goP page choice (4 - (beginP m page choice).1).toNat m (beginP m page choice).1 (beginP m page choice).2.1 (beginP m page choice).2.2
/-- The machine after a fill. -/
def fillS (m : SM) (page choice : Int) : SM := if Valid m ∧ (0 ≤ page ∧ page < 4096) ∧ 0 ≤ choice ∧ choice ≤ 65535 then (walkP m page choice).1 else ⟨[], [], [], []⟩

theorem addStepP_ws (m : SM) (on : Bool) (l p f : Int) (d : Bool) : (addStepP m on l p f d).ws = m.ws ∧ (addStepP m on l p f d).pend = m.pend := by unfold addStepP; split <;> exact ⟨rfl, rfl⟩
theorem addWholeP_ws (m : SM) (on : Bool) (p s o q : Int) (d : Bool) : (addWholeP m on p s o q d).ws = m.ws ∧ (addWholeP m on p s o q d).pend = m.pend := by unfold addWholeP; split <;> exact ⟨rfl, rfl⟩
theorem addL_256 {α : Type} [DecidableEq α] (l : List α) (e : α) (h : l.length ≤ 256) : (addL l e).length ≤ 256 := by
  unfold addL
  split
  · exact h
  · rename_i hn
    have : l.length < 256 := by
      rcases Nat.lt_or_ge l.length 256 with h1 | h1
      · exact h1
      · exact absurd (Or.inr (by omega)) hn
    simp; omega
theorem goP_keeps (page choice : Int) (n : Nat) (m : SM) (level frame : Int) (doomed : Bool) (h1 : m.tlb.length ≤ 256) (h2 : m.wc.length ≤ 256) :
    let r := (goP page choice n m level frame doomed).1
    r.ws = m.ws ∧ r.pend = m.pend ∧ r.tlb.length ≤ 256 ∧ r.wc.length ≤ 256 := by
  induction n generalizing m level frame with
  | zero => exact ⟨rfl, rfl, h1, h2⟩
  | succ n ih =>
    simp only [goP]
    split
    · exact ⟨rfl, rfl, h1, h2⟩
    · split
      · generalize hd : (dec level (readP m (frame * 16 + idx level page) (bitB choice level.toNat))).2.1 = f
        have h3 := addStepP_ws m (bitB choice (level + 3).toNat) level page f doomed
        have h4 : (addStepP m (bitB choice (level + 3).toNat) level page f doomed).tlb.length ≤ 256 := by unfold addStepP; split <;> exact h1
        have h5 : (addStepP m (bitB choice (level + 3).toNat) level page f doomed).wc.length ≤ 256 := by
          unfold addStepP; split
          · exact addL_256 _ _ h2
          · exact h2
        have := ih _ (level + 1) f h4 h5
        simp only [h3.1, h3.2] at this
        exact this
      · split
        · have h3 := fun s o q => addWholeP_ws m (bitB choice 6) page s o q doomed
          refine ⟨(h3 _ _ _).1, (h3 _ _ _).2, ?_, ?_⟩
          · unfold addWholeP; split
            · exact addL_256 _ _ h1
            · exact h1
          · unfold addWholeP; split <;> exact h2
        · exact ⟨rfl, rfl, h1, h2⟩
theorem fillS_small (m : SM) (page choice : Int) : ((fillS m page choice).ws.length : Int) + (fillS m page choice).pend.length + (fillS m page choice).tlb.length + (fillS m page choice).wc.length ≤ 1048576 := by
  unfold fillS
  split
  · rename_i h
    obtain ⟨hv, _⟩ := h
    have k := goP_keeps page choice (4 - (beginP m page choice).1).toNat m (beginP m page choice).1 (beginP m page choice).2.1 (beginP m page choice).2.2 hv.ntlb hv.nwc
    obtain ⟨k1, k2, k3, k4⟩ := k
    unfold walkP
    rw [k1, k2]
    have := hv.frames
    have := hv.npend
    omega
  · simp
end Go.Proofs.Ythphfcheencbgaa.Mmu
