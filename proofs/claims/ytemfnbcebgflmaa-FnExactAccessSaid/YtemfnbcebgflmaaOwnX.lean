/- The program's machine inside: a struct of five fields whose lists are the call's own. Nothing of the program's functions. -/
import Derived.Test.YtemfnbcebgflmaaMachMath
import Derived.Test.YtemfnbcebgflmaaAppendAll
namespace Go.Proofs.Ytemfnbcebgflmaa.Kinds
open Go.RowKit Go.Proofs.Ytemfnbcebgflmaa.Base Go.Proofs.Ytemfnbcebgflmaa.DecMath
set_option linter.unusedVariables false
set_option linter.unusedSimpArgs false

def wholeEnc (e : STlb) : List Value := [.int .i64 e.Page, .int .i64 e.Size, .bool e.Doomed, .int .i64 e.Out, .int .i64 e.Perm]
theorem wholeLen (x : STlb) : (wholeEnc x).length = 5 := rfl
theorem wholeOne (x : STlb) : ∀ u ∈ wholeEnc x, u.oneCell' = true := by
  intro u hu
  simp only [wholeEnc, List.mem_cons, List.not_mem_nil, or_false] at hu
  rcases hu with rfl | rfl | rfl | rfl | rfl <;> rfl
theorem whole_at {w : World} {A : Option Addr} {n cap k : Nat} {l : List STlb} (h : Rd wholeEnc 5 w (.slice A n cap) l) (hk : k < l.length) :
    ∃ ad x, A = some ad ∧ l[k]? = some x ∧ w.cell? (ad.add (k * 5)) = some (.int .i64 x.Page) ∧ w.cell? ⟨(ad.add (k * 5)).block, (ad.add (k * 5)).off + 1, none⟩ = some (.int .i64 x.Size) ∧ w.cell? ⟨(ad.add (k * 5)).block, (ad.add (k * 5)).off + 2, none⟩ = some (.bool x.Doomed) ∧ w.cell? ⟨(ad.add (k * 5)).block, (ad.add (k * 5)).off + 3, none⟩ = some (.int .i64 x.Out) ∧ w.cell? ⟨(ad.add (k * 5)).block, (ad.add (k * 5)).off + 4, none⟩ = some (.int .i64 x.Perm) := by
  obtain ⟨ad, x, e, hx, hu⟩ := h.get hk
  exact ⟨ad, x, e, hx, field0 hu rfl, fieldN hu 1 (by decide) rfl, fieldN hu 2 (by decide) rfl, fieldN hu 3 (by decide) rfl, fieldN hu 4 (by decide) rfl⟩

def stepEnc (e : SWc) : List Value := [.int .i64 e.Page, .int .i64 (cov (e.Level - 1)), .bool e.Doomed, .int .i64 e.Level, .int .i64 e.Table]
theorem stepLen (x : SWc) : (stepEnc x).length = 5 := rfl
theorem stepOne (x : SWc) : ∀ u ∈ stepEnc x, u.oneCell' = true := by
  intro u hu
  simp only [stepEnc, List.mem_cons, List.not_mem_nil, or_false] at hu
  rcases hu with rfl | rfl | rfl | rfl | rfl <;> rfl
theorem step_at {w : World} {A : Option Addr} {n cap k : Nat} {l : List SWc} (h : Rd stepEnc 5 w (.slice A n cap) l) (hk : k < l.length) :
    ∃ ad x, A = some ad ∧ l[k]? = some x ∧ w.cell? (ad.add (k * 5)) = some (.int .i64 x.Page) ∧ w.cell? ⟨(ad.add (k * 5)).block, (ad.add (k * 5)).off + 1, none⟩ = some (.int .i64 (cov (x.Level - 1))) ∧ w.cell? ⟨(ad.add (k * 5)).block, (ad.add (k * 5)).off + 2, none⟩ = some (.bool x.Doomed) ∧ w.cell? ⟨(ad.add (k * 5)).block, (ad.add (k * 5)).off + 3, none⟩ = some (.int .i64 x.Level) ∧ w.cell? ⟨(ad.add (k * 5)).block, (ad.add (k * 5)).off + 4, none⟩ = some (.int .i64 x.Table) := by
  obtain ⟨ad, x, e, hx, hu⟩ := h.get hk
  exact ⟨ad, x, e, hx, field0 hu rfl, fieldN hu 1 (by decide) rfl, fieldN hu 2 (by decide) rfl, fieldN hu 3 (by decide) rfl, fieldN hu 4 (by decide) rfl⟩

/-- The words after the writes. -/
def writes (ws : List Int) (l : List SWrite) : List Int := l.foldl (fun ws e => ws.set e.Adr.toNat e.Word) ws
theorem writes_snoc (ws : List Int) (l : List SWrite) (e : SWrite) : writes ws (l ++ [e]) = (writes ws l).set e.Adr.toNat e.Word := by simp [writes]
theorem writes_len (ws : List Int) (l : List SWrite) : (writes ws l).length = ws.length := by
  induction l generalizing ws with
  | nil => rfl
  | cons e l ih => show (writes _ l).length = _; rw [ih, List.length_set]
def latestOf (m : SM) : List Int := writes m.ws m.pend

/-- The machine inside, at block p; its lists the call's own from block base on; ls: the words of 'latest'. -/
structure OwnX (base : Nat) (w : World) (p : Nat) (v0 v1 v2 v3 v4 : Value) (m : SM) (ls : List Int) : Prop where
  low : base ≤ p
  box : w.heap[p]? = some (.cells #[v0, v1, v2, v3, v4] 135)
  ws : Own wEnc 1 23 base w v0 m.ws
  ls : Own wEnc 1 23 base w v1 ls
  apart : v0.ownBlock = none ∨ v0.ownBlock ≠ v1.ownBlock
  pend : Own SWrite.enc 2 173 base w v2 m.pend
  tlb : Own wholeEnc 5 139 base w v3 m.tlb
  wc : Own stepEnc 5 151 base w v4 m.wc

section
variable {base p : Nat} {w w1 : World} {v0 v1 v2 v3 v4 : Value} {m : SM} {ls : List Int}
theorem OwnX.lt (h : OwnX base w p v0 v1 v2 v3 v4 m ls) : p < w.heap.size := (Array.getElem?_eq_some_iff.1 h.box).1
theorem OwnX.cell (h : OwnX base w p v0 v1 v2 v3 v4 m ls) : w.cell? ⟨p, 0, none⟩ = some v0 ∧ w.cell? ⟨p, 1, none⟩ = some v1 ∧ w.cell? ⟨p, 2, none⟩ = some v2 ∧ w.cell? ⟨p, 3, none⟩ = some v3 ∧ w.cell? ⟨p, 4, none⟩ = some v4 := by
  refine ⟨?_, ?_, ?_, ?_, ?_⟩ <;> simp [World.cell?, h.box]
theorem OwnX.frozen (h : OwnX base w p v0 v1 v2 v3 v4 m ls) (i : Nat) : w.frozen? ⟨p, i, none⟩ = false := by simp [World.frozen?, h.box]
theorem OwnX.below (h : OwnX base w p v0 v1 v2 v3 v4 m ls) (hb : Below w.heap.size w w1) : OwnX base w1 p v0 v1 v2 v3 v4 m ls :=
  ⟨h.low, by rw [hb.block p h.lt]; exact h.box, h.ws.below hb, h.ls.below hb, h.apart, h.pend.below hb, h.tlb.below hb, h.wc.below hb⟩
theorem OwnX.drew (h : OwnX base w p v0 v1 v2 v3 v4 m ls) : OwnX base w.drew p v0 v1 v2 v3 v4 m ls := ⟨h.low, h.box, h.ws, h.ls, h.apart, h.pend, h.tlb, h.wc⟩
/-- No row of elements lies in the struct's block. -/
theorem OwnX.off {α : Type} {enc : α → List Value} {sz E b : Nat} {v : Value} {l : List α} (h : OwnX base w p v0 v1 v2 v3 v4 m ls) (o : Own enc sz E b w v l) (hE : E ≠ 135) : some p ≠ v.ownBlock := by
  rcases o.2 with ⟨rfl, _⟩ | ⟨g, cap, cur, rfl, hb, hg, _⟩
  · simp [Value.ownBlock]
  · intro e
    simp only [Value.ownBlock, Option.some.injEq] at e
    rw [← e, h.box] at hg
    simp only [Option.some.injEq, Obj.cells.injEq] at hg
    exact hE hg.2.1.symm
theorem own_setOff {α : Type} {enc : α → List Value} {sz E b : Nat} {v : Value} {l : List α} (o : Own enc sz E b w v l) {a : Addr} (ha : some a.block ≠ v.ownBlock) (u : Value) : Own enc sz E b (w.setCell a u) v l := by
  refine ⟨o.1, ?_⟩
  rcases o.2 with h2 | ⟨g, cap, cur, hv, hg, hh, r⟩
  · exact .inl h2
  · refine .inr ⟨g, cap, cur, hv, hg, ?_, r⟩
    rw [Below.heap_setCell _ _ _ _ (by subst hv; simpa [Value.ownBlock, eq_comm] using ha)]; exact hh
theorem box_set {cs : Array Value} {T : Nat} (h : w.heap[p]? = some (.cells cs T)) (i : Nat) (u : Value) : (w.setCell ⟨p, i, none⟩ u).heap[p]? = some (.cells (cs.setIfInBounds i u) T) := by
  simp [World.setCell, Array.getElem?_modify, h]
/-- A row that grew, put into its field: pend. -/
theorem OwnX.setPend {v' : Value} {l' : List SWrite} (h : OwnX base w p v0 v1 v2 v3 v4 m ls) (hg : w.grownBy w1 v2.ownBlock) (o : Own SWrite.enc 2 173 base w1 v' l') :
    OwnX base (w1.setCell ⟨p, 2, none⟩ v') p v0 v1 v' v3 v4 { m with pend := l' } ls := by
  have hp := h.off h.pend (by decide)
  have hbx : w1.heap[p]? = some (.cells #[v0, v1, v2, v3, v4] 135) := by rw [hg.block p h.lt hp]; exact h.box
  have k0 := h.ws.kept hg (own_apart (by decide) h.ws h.pend)
  have k1 := h.ls.kept hg (own_apart (by decide) h.ls h.pend)
  have k3 := h.tlb.kept hg (own_apart (by decide) h.tlb h.pend)
  have k4 := h.wc.kept hg (own_apart (by decide) h.wc h.pend)
  have X : OwnX base w1 p v0 v1 v2 v3 v4 { m with pend := [] } ls → True := fun _ => trivial
  have off : ∀ {α : Type} {enc : α → List Value} {sz E b : Nat} {v : Value} {l : List α}, Own enc sz E b w1 v l → E ≠ 135 → some p ≠ v.ownBlock := by
    intro α enc sz E b v l o hE
    rcases o.2 with ⟨rfl, _⟩ | ⟨g, cap, cur, rfl, hb, hg, _⟩
    · simp [Value.ownBlock]
    · intro e
      simp only [Value.ownBlock, Option.some.injEq] at e
      rw [← e, hbx] at hg
      simp only [Option.some.injEq, Obj.cells.injEq] at hg
      exact hE hg.2.1.symm
  exact ⟨h.low, by rw [box_set hbx]; rfl, own_setOff k0 (off k0 (by decide)) _, own_setOff k1 (off k1 (by decide)) _, h.apart, own_setOff o (off o (by decide)) _, own_setOff k3 (off k3 (by decide)) _, own_setOff k4 (off k4 (by decide)) _⟩
/-- .. tlb. -/
theorem OwnX.setTlb {v' : Value} {l' : List STlb} (h : OwnX base w p v0 v1 v2 v3 v4 m ls) (hg : w.grownBy w1 v3.ownBlock) (o : Own wholeEnc 5 139 base w1 v' l') :
    OwnX base (w1.setCell ⟨p, 3, none⟩ v') p v0 v1 v2 v' v4 { m with tlb := l' } ls := by
  have hp := h.off h.tlb (by decide)
  have hbx : w1.heap[p]? = some (.cells #[v0, v1, v2, v3, v4] 135) := by rw [hg.block p h.lt hp]; exact h.box
  have k0 := h.ws.kept hg (own_apart (by decide) h.ws h.tlb)
  have k1 := h.ls.kept hg (own_apart (by decide) h.ls h.tlb)
  have k3 := h.pend.kept hg (own_apart (by decide) h.pend h.tlb)
  have k4 := h.wc.kept hg (own_apart (by decide) h.wc h.tlb)
  have off : ∀ {α : Type} {enc : α → List Value} {sz E b : Nat} {v : Value} {l : List α}, Own enc sz E b w1 v l → E ≠ 135 → some p ≠ v.ownBlock := by
    intro α enc sz E b v l o hE
    rcases o.2 with ⟨rfl, _⟩ | ⟨g, cap, cur, rfl, hb, hg, _⟩
    · simp [Value.ownBlock]
    · intro e
      simp only [Value.ownBlock, Option.some.injEq] at e
      rw [← e, hbx] at hg
      simp only [Option.some.injEq, Obj.cells.injEq] at hg
      exact hE hg.2.1.symm
  exact ⟨h.low, by rw [box_set hbx]; rfl, own_setOff k0 (off k0 (by decide)) _, own_setOff k1 (off k1 (by decide)) _, h.apart, own_setOff k3 (off k3 (by decide)) _, own_setOff o (off o (by decide)) _, own_setOff k4 (off k4 (by decide)) _⟩
/-- .. wc. -/
theorem OwnX.setWc {v' : Value} {l' : List SWc} (h : OwnX base w p v0 v1 v2 v3 v4 m ls) (hg : w.grownBy w1 v4.ownBlock) (o : Own stepEnc 5 151 base w1 v' l') :
    OwnX base (w1.setCell ⟨p, 4, none⟩ v') p v0 v1 v2 v3 v' { m with wc := l' } ls := by
  have hp := h.off h.wc (by decide)
  have hbx : w1.heap[p]? = some (.cells #[v0, v1, v2, v3, v4] 135) := by rw [hg.block p h.lt hp]; exact h.box
  have k0 := h.ws.kept hg (own_apart (by decide) h.ws h.wc)
  have k1 := h.ls.kept hg (own_apart (by decide) h.ls h.wc)
  have k3 := h.pend.kept hg (own_apart (by decide) h.pend h.wc)
  have k4 := h.tlb.kept hg (own_apart (by decide) h.tlb h.wc)
  have off : ∀ {α : Type} {enc : α → List Value} {sz E b : Nat} {v : Value} {l : List α}, Own enc sz E b w1 v l → E ≠ 135 → some p ≠ v.ownBlock := by
    intro α enc sz E b v l o hE
    rcases o.2 with ⟨rfl, _⟩ | ⟨g, cap, cur, rfl, hb, hg, _⟩
    · simp [Value.ownBlock]
    · intro e
      simp only [Value.ownBlock, Option.some.injEq] at e
      rw [← e, hbx] at hg
      simp only [Option.some.injEq, Obj.cells.injEq] at hg
      exact hE hg.2.1.symm
  exact ⟨h.low, by rw [box_set hbx]; rfl, own_setOff k0 (off k0 (by decide)) _, own_setOff k1 (off k1 (by decide)) _, h.apart, own_setOff k3 (off k3 (by decide)) _, own_setOff k4 (off k4 (by decide)) _, own_setOff o (off o (by decide)) _⟩
/-- What is written into the struct leaves what lies below base. -/
theorem OwnX.setBelow (h : OwnX base w p v0 v1 v2 v3 v4 m ls) {B : Nat} {w0 wx : World} (hb : Below B w0 wx) (hB : B ≤ base) (i : Nat) (u : Value) : Below B w0 (wx.setCell ⟨p, i, none⟩ u) :=
  hb.setCell (by have := h.low; simp; omega) u
/-- A word of 'latest' is written. -/
theorem OwnX.setWord {g n c : Nat} (h : OwnX base w p v0 (.slice (some ⟨g, 0, none⟩) n c) v2 v3 v4 m ls) (j : Nat) (hj : j < ls.length) (y : Int) :
    OwnX base (w.setCell ⟨g, j, none⟩ (.int .u64 y)) p v0 (.slice (some ⟨g, 0, none⟩) n c) v2 v3 v4 m (ls.set j y) := by
  have hp := h.off h.ls (by decide)
  have f0 : some g ≠ v0.ownBlock := by
    rcases h.apart with e | e
    · rw [e]; simp
    · exact fun q => e (by rw [← q]; rfl)
  have fr : ∀ {α : Type} {enc : α → List Value} {sz E b : Nat} {v : Value} {l : List α}, Own enc sz E b w v l → E ≠ 23 → some g ≠ v.ownBlock := by
    intro α enc sz E b v l o hE e
    rcases own_apart hE o h.ls with q | q
    · rw [q] at e; simp at e
    · exact q e.symm
  refine ⟨h.low, ?_, own_setOff h.ws f0 _, own_set1 wLen h.ls j hj y rfl, h.apart, own_setOff h.pend (fr h.pend (by decide)) _, own_setOff h.tlb (fr h.tlb (by decide)) _, own_setOff h.wc (fr h.wc (by decide)) _⟩
  rw [Below.heap_setCell _ _ _ _ (by simpa [Value.ownBlock] using hp)]; exact h.box
end
end Go.Proofs.Ytemfnbcebgflmaa.Kinds
