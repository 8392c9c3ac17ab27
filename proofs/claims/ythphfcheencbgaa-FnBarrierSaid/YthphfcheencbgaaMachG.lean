/- Plain facts on machines: which are valid, what they say. No program in sight. 'append(own, xs...)' where xs is read: at a list of operations and at a single one. Nothing of the program. The program's machine inside: a struct of five fields whose lists are the call's own. Nothing of the program's functions. Plain facts on fills: bits of a choice, what a walk reads. No program in sight. Boxes beside a machine's lists. Nothing of the program's functions. Boxes of a call's own beside a machine inside that is written: what a method of the machine leaves as it was. Nothing of the program's functions. The tables of a memory, as plain functions. No program in sight. Plain facts on one operation of a machine. No program in sight. -/
import Derived.Test.YthphfcheencbgaaGround
import Derived.Laws.OwnMore
namespace Go.Proofs.Ythphfcheencbgaa.Kinds
open Go.RowKit Go.Proofs.Ythphfcheencbgaa.Base
set_option linter.unusedVariables false
set_option linter.unusedSimpArgs false

/-- A machine: the words of its memory, what is pending, the two caches. -/
structure SM where
  ws : List Int
  pend : List SWrite
  tlb : List STlb
  wc : List SWc
  deriving DecidableEq

/-- The value of a machine, read. -/
structure RdM (w : World) (v0 v1 v2 v3 : Value) (m : SM) : Prop where
  ws : Rd wEnc 1 w v0 m.ws
  pend : Rd SWrite.enc 2 w v1 m.pend
  tlb : Rd STlb.enc 5 w v2 m.tlb
  wc : Rd SWc.enc 4 w v3 m.wc
/-- The value of a machine, its lists the call's own. -/
structure OwnM (base : Nat) (w : World) (v0 v1 v2 v3 : Value) (m : SM) : Prop where
  ws : Own wEnc 1 31 base w v0 m.ws
  pend : Own SWrite.enc 2 60 base w v1 m.pend
  tlb : Own STlb.enc 5 40 base w v2 m.tlb
  wc : Own SWc.enc 4 42 base w v3 m.wc

section
variable {w w1 : World} {v0 v1 v2 v3 : Value} {m : SM} {base : Nat}
theorem RdM.below (h : RdM w v0 v1 v2 v3 m) (hb : Below w.heap.size w w1) : RdM w1 v0 v1 v2 v3 m := ⟨h.ws.below hb, h.pend.below hb, h.tlb.below hb, h.wc.below hb⟩
theorem OwnM.below (h : OwnM base w v0 v1 v2 v3 m) (hb : Below w.heap.size w w1) : OwnM base w1 v0 v1 v2 v3 m := ⟨h.ws.below hb, h.pend.below hb, h.tlb.below hb, h.wc.below hb⟩
theorem OwnM.rd (h : OwnM base w v0 v1 v2 v3 m) : RdM w v0 v1 v2 v3 m := ⟨h.ws.rd wLen, h.pend.rd SWrite.len, h.tlb.rd STlb.len, h.wc.rd SWc.len⟩
theorem OwnM.lower {base' : Nat} (h : OwnM base w v0 v1 v2 v3 m) (hb : base' ≤ base) : OwnM base' w v0 v1 v2 v3 m := ⟨h.ws.lower hb, h.pend.lower hb, h.tlb.lower hb, h.wc.lower hb⟩
theorem OwnM.setBelow (h : OwnM base w v0 v1 v2 v3 m) {a : Addr} (ha : a.block < base) (u : Value) : OwnM base (w.setCell a u) v0 v1 v2 v3 m := ⟨h.ws.setBelow ha u, h.pend.setBelow ha u, h.tlb.setBelow ha u, h.wc.setBelow ha u⟩
theorem RdM.shape (h : RdM w v0 v1 v2 v3 m) : ∃ A0 c0 A1 c1 A2 c2 A3 c3, v0 = .slice A0 m.ws.length c0 ∧ v1 = .slice A1 m.pend.length c1 ∧ v2 = .slice A2 m.tlb.length c2 ∧ v3 = .slice A3 m.wc.length c3 ∧
    m.ws.length ≤ c0 ∧ c0 ≤ 9223372036854775807 ∧ m.pend.length ≤ c1 ∧ c1 ≤ 9223372036854775807 ∧ m.tlb.length ≤ c2 ∧ c2 ≤ 9223372036854775807 ∧ m.wc.length ≤ c3 ∧ c3 ≤ 9223372036854775807 := by
  obtain ⟨A0, c0, e0, l0, h0⟩ := h.ws.shape
  obtain ⟨A1, c1, e1, l1, h1⟩ := h.pend.shape
  obtain ⟨A2, c2, e2, l2, h2⟩ := h.tlb.shape
  obtain ⟨A3, c3, e3, l3, h3⟩ := h.wc.shape
  exact ⟨A0, c0, A1, c1, A2, c2, A3, c3, e0, e1, e2, e3, l0, h0, l1, h1, l2, h2, l3, h3⟩
theorem OwnM.shape (h : OwnM base w v0 v1 v2 v3 m) : ∃ A0 c0 A1 c1 A2 c2 A3 c3, v0 = .slice A0 m.ws.length c0 ∧ v1 = .slice A1 m.pend.length c1 ∧ v2 = .slice A2 m.tlb.length c2 ∧ v3 = .slice A3 m.wc.length c3 := by
  obtain ⟨A0, c0, e0⟩ := h.ws.shape
  obtain ⟨A1, c1, e1⟩ := h.pend.shape
  obtain ⟨A2, c2, e2⟩ := h.tlb.shape
  obtain ⟨A3, c3, e3⟩ := h.wc.shape
  exact ⟨A0, c0, A1, c1, A2, c2, A3, c3, e0, e1, e2, e3⟩
end

/-- Rows of different element types lie in different blocks. -/
theorem own_apart {α β : Type} {enc : α → List Value} {enc' : β → List Value} {sz sz' E E' base base' : Nat} {w : World} {v v' : Value} {l : List α} {l' : List β} (hne : E ≠ E') (h : Own enc sz E base w v l) (h' : Own enc' sz' E' base' w v' l') :
    v.ownBlock = none ∨ v.ownBlock ≠ v'.ownBlock := by
  rcases h.2 with ⟨rfl, _⟩ | ⟨g, cap, cur, rfl, hb, hg, _⟩
  · exact Or.inl rfl
  · rcases h'.2 with ⟨rfl, _⟩ | ⟨g', cap', cur', rfl, hb', hg', _⟩
    · exact Or.inr (by simp [Value.ownBlock])
    · refine Or.inr fun e => hne ?_
      simp only [Value.ownBlock, Option.some.injEq] at e
      rw [e, hg'] at hg
      simp only [Option.some.injEq, Obj.cells.injEq] at hg
      exact hg.2.1.symm

/-- The four lists lie below block hi. -/
structure InM (hi : Nat) (v0 v1 v2 v3 : Value) : Prop where
  ws : ∀ k, v0.ownBlock = some k → k < hi
  pend : ∀ k, v1.ownBlock = some k → k < hi
  tlb : ∀ k, v2.ownBlock = some k → k < hi
  wc : ∀ k, v3.ownBlock = some k → k < hi
section
variable {w w1 : World} {v0 v1 v2 v3 : Value} {m : SM} {base lo hi : Nat}
theorem OwnM.inM (h : OwnM base w v0 v1 v2 v3 m) : InM w.heap.size v0 v1 v2 v3 := ⟨fun k e => (h.ws.lt k e).2, fun k e => (h.pend.lt k e).2, fun k e => (h.tlb.lt k e).2, fun k e => (h.wc.lt k e).2⟩
/-- A machine made from block hi on is as it was when what was written lies below. -/
theorem OwnM.within_above (h : OwnM base w v0 v1 v2 v3 m) (hw : Within lo hi w w1) (hb : hi ≤ base) : OwnM base w1 v0 v1 v2 v3 m :=
  ⟨h.ws.within hw (fun k e => Or.inr (by have := h.ws.lt k e; omega)), h.pend.within hw (fun k e => Or.inr (by have := h.pend.lt k e; omega)), h.tlb.within hw (fun k e => Or.inr (by have := h.tlb.lt k e; omega)), h.wc.within hw (fun k e => Or.inr (by have := h.wc.lt k e; omega))⟩
/-- A machine made below block lo is as it was when what was written lies above. -/
theorem OwnM.within_under (h : OwnM base w v0 v1 v2 v3 m) (hw : Within lo hi w w1) (hi' : InM lo v0 v1 v2 v3) : OwnM base w1 v0 v1 v2 v3 m :=
  ⟨h.ws.within hw (fun k e => Or.inl (hi'.ws k e)), h.pend.within hw (fun k e => Or.inl (hi'.pend k e)), h.tlb.within hw (fun k e => Or.inl (hi'.tlb k e)), h.wc.within hw (fun k e => Or.inl (hi'.wc k e))⟩
end

end Go.Proofs.Ythphfcheencbgaa.Kinds

namespace Go.Proofs.Ythphfcheencbgaa.Kinds
open Go.Proofs.Ythphfcheencbgaa.DecMath
set_option linter.unusedVariables false
set_option linter.unusedSimpArgs false

def okPend (n : Nat) (e : SWrite) : Prop := 0 ≤ e.Adr ∧ e.Adr < n
instance (n : Nat) (e : SWrite) : Decidable (okPend n e) := by unfold okPend; infer_instance
def okTlb (e : STlb) : Prop := (e.Size = 1 ∨ e.Size = 16) ∧ (0 ≤ e.Page ∧ e.Page < 4096) ∧ e.Page % e.Size = 0 ∧ 1 ≤ e.Perm ∧ e.Perm ≤ 7 ∧ 0 ≤ e.Out ∧ e.Out < 65536 ∧ e.Out % e.Size = 0
instance (e : STlb) : Decidable (okTlb e) := by unfold okTlb; infer_instance
def okWc (f : Int) (e : SWc) : Prop := (e.Level = 2 ∨ e.Level = 3) ∧ (0 ≤ e.Page ∧ e.Page < 4096) ∧ e.Page % cov (e.Level - 1) = 0 ∧ 0 ≤ e.Table ∧ e.Table < f
instance (f : Int) (e : SWc) : Decidable (okWc f e) := by unfold okWc; infer_instance
/-- The machine is valid. -/
structure Valid (m : SM) : Prop where
  frames : m.ws.length % 16 = 0 ∧ 16 ≤ m.ws.length ∧ m.ws.length ≤ 8192
  npend : m.pend.length ≤ 10000
  ntlb : m.tlb.length ≤ 256
  nwc : m.wc.length ≤ 256
  pend : ∀ e ∈ m.pend, okPend m.ws.length e
  tlb : ∀ e ∈ m.tlb, okTlb e
  wc : ∀ e ∈ m.wc, okWc ((m.ws.length / 16 : Nat) : Int) e
theorem valid_iff {m : SM} : Valid m ↔ ((m.ws.length % 16 = 0 ∧ 16 ≤ m.ws.length ∧ m.ws.length ≤ 8192) ∧ m.pend.length ≤ 10000 ∧ m.tlb.length ≤ 256 ∧ m.wc.length ≤ 256 ∧ (∀ e ∈ m.pend, okPend m.ws.length e) ∧ (∀ e ∈ m.tlb, okTlb e) ∧ ∀ e ∈ m.wc, okWc ((m.ws.length / 16 : Nat) : Int) e) :=
  ⟨fun h => ⟨h.frames, h.npend, h.ntlb, h.nwc, h.pend, h.tlb, h.wc⟩, fun ⟨a, b, c, d, e, f, g⟩ => ⟨a, b, c, d, e, f, g⟩⟩
instance (m : SM) : Decidable (Valid m) := decidable_of_iff _ valid_iff.symm

theorem all_take {α : Type} {p : α → Prop} {l : List α} {k : Nat} {x : α} (hx : l[k]? = some x) (h : ∀ e ∈ l.take k, p e) (px : p x) : ∀ e ∈ l.take (k + 1), p e := by
  rw [List.take_add_one, hx]
  intro e he
  rcases List.mem_append.1 he with he | he
  · exact h e he
  · simp at he; subst he; exact px

/-- Same but for Doomed. -/
def sameP (a b : STlb) : Prop := a.Page = b.Page ∧ a.Size = b.Size ∧ a.Out = b.Out ∧ a.Perm = b.Perm
instance (a b : STlb) : Decidable (sameP a b) := by unfold sameP; infer_instance
/-- Some page is covered by both. -/
def meetsP (a b : STlb) : Prop := a.Page < b.Page + b.Size ∧ b.Page < a.Page + a.Size
instance (a b : STlb) : Decidable (meetsP a b) := by unfold meetsP; infer_instance
/-- The entry covers the page. -/
def tcovP (e : STlb) (p : Int) : Prop := p - p % e.Size = e.Page
instance (e : STlb) (p : Int) : Decidable (tcovP e p) := by unfold tcovP; infer_instance
theorem tcov_iff {e : STlb} {p : Int} (h : okTlb e) (hp : 0 ≤ p) : tcovP e p ↔ e.Page ≤ p ∧ p < e.Page + e.Size := by
  unfold tcovP
  obtain ⟨h1, h2, h3, _⟩ := h
  rcases h1 with h1 | h1 <;> rw [h1] at h3 ⊢ <;> omega
theorem meets_iff {a b : STlb} (ha : okTlb a) (hb : okTlb b) : meetsP a b ↔ ∃ k : Nat, (k : Int) < a.Size ∧ tcovP b (a.Page + k) := by
  have ha2 := ha.2.1
  constructor
  · rintro ⟨h1, h2⟩
    by_cases h : a.Page ≤ b.Page
    · refine ⟨(b.Page - a.Page).toNat, by omega, (tcov_iff hb (by omega)).2 ⟨by omega, ?_⟩⟩
      rcases hb.1 with h | h <;> omega
    · refine ⟨0, by rcases ha.1 with h | h <;> omega, (tcov_iff hb (by omega)).2 ⟨by omega, by omega⟩⟩
  · rintro ⟨k, h1, h2⟩
    have := (tcov_iff hb (by omega)).1 h2
    unfold meetsP
    omega
/-- Two entries in conflict, by their indexes. -/
def clash (l : List STlb) (i j : Nat) : Prop := ∃ a b, l[i]? = some a ∧ l[j]? = some b ∧ meetsP a b ∧ ¬ sameP a b
def Clashes (l : List STlb) : Prop := ∃ i, ∃ j, j < i ∧ clash l i j
/-- The answer of Conflict. -/
noncomputable def conflictP (m : SM) : Bool := @decide (Valid m ∧ Clashes m.tlb) (Classical.propDecidable _)
theorem conflict_true {m : SM} (hv : Valid m) {i j : Nat} {a b : STlb} (hj : j < i) (hi : m.tlb[i]? = some a) (hj' : m.tlb[j]? = some b) (hm : meetsP a b) (hs : ¬ sameP a b) : conflictP m = true := by
  unfold conflictP; exact @decide_eq_true _ (Classical.propDecidable _) ⟨hv, i, j, hj, a, b, hi, hj', hm, hs⟩
theorem conflict_false {m : SM} (h : ∀ i, i < m.tlb.length → ∀ j, j < i → ¬ clash m.tlb i j) : conflictP m = false := by
  unfold conflictP
  refine @decide_eq_false _ (Classical.propDecidable _) ?_
  rintro ⟨_, i, j, hj, a, b, hi, hr⟩
  exact h i (List.getElem?_eq_some_iff.1 hi).1 j hj ⟨a, b, hi, hr⟩
theorem conflict_bad {m : SM} (h : ¬ Valid m) : conflictP m = false := by
  unfold conflictP; exact @decide_eq_false _ (Classical.propDecidable _) fun hh => h hh.1
end Go.Proofs.Ythphfcheencbgaa.Kinds

namespace Go.Proofs.Ythphfcheencbgaa.Base
open Go.RowKit
set_option linter.unusedVariables false
set_option linter.unusedSimpArgs false

theorem Rd.news {α : Type} {enc : α → List Value} {sz : Nat} {w : World} {ad : Addr} {n c : Nat} {l : List α} (hlen : ∀ x, (enc x).length = sz) (hs0 : 0 < sz) (h : Rd enc sz w (.slice (some ad) n c) l) :
    ∀ j u, (l.flatMap enc)[j]? = some u → w.cell? (ad.add j) = some u := by
  intro j u hu
  obtain ⟨A, cap, e, hc, hl, hr⟩ := h
  simp only [Value.slice.injEq] at e
  obtain ⟨rfl, rfl, rfl⟩ := e
  have hj : j < l.length * sz := by rw [← flat_len hlen]; exact (List.getElem?_eq_some_iff.1 hu).1
  have hd : j / sz < l.length := Nat.div_lt_of_lt_mul (by rw [Nat.mul_comm]; exact hj)
  have hm : j % sz < sz := Nat.mod_lt _ hs0
  have hx := List.getElem?_eq_getElem hd
  have hv := List.getElem?_eq_getElem (l := enc l[j / sz]) (i := j % sz) (by rw [hlen]; exact hm)
  have e := flat_get hlen l (j / sz) _ hx (j % sz) _ hv
  rw [Nat.div_add_mod'] at e
  obtain ⟨ad', ea, hq⟩ := hr (j / sz) _ hx
  cases ea
  have := hq (j % sz) _ hv
  rw [Nat.div_add_mod'] at this
  rw [this, ← e, hu]

/-- One element, just laid in a block of its own. -/
theorem rd_laid {α : Type} {enc : α → List Value} {sz : Nat} (hlen : ∀ x, (enc x).length = sz) (w : World) (E : Nat) (y : α) {cs : Array Value} (hcs : cs = (enc y).toArray) :
    Rd enc sz (w.alloc (.cells cs E)) (.slice (some ⟨w.heap.size, 0, none⟩) 1 1) [y] := by
  refine ⟨_, _, rfl, Nat.le_refl _, by unfold maxLen; omega, fun i x hx => ⟨_, rfl, fun j u hu => ?_⟩⟩
  cases i with
  | succ i => simp at hx
  | zero =>
    simp at hx
    subst hx hcs
    have := World.news_of_block (cs := (enc y).toArray) (t := E) (fr := (0, 0)) (heap_alloc_new w (.cells (enc y).toArray E)) j u (by simpa using hu)
    simpa using this

section
variable {P : Program} {w : World}
theorem run_append_none (t ty e : TypeId) (i : TypeInfo) (size base : Nat) (ht : P.underlying t = some (.slice e)) (hi : P.info? e = some i)
    (v : Value) (n : Nat) (xs : List Value) (c : Nat) (hown : w.ownsRow base e size v n xs) :
    (Builtin.append_ #[t, t] ty #[v, .slice none 0 c]).run P w = .ok v w := by
  rcases hown.2 with ⟨rfl, rfl⟩ | ⟨g, cap, cur, rfl, _, _, hnc, _⟩
  · simp [Builtin.append_, run_underlying ht, sizeOf, typeInfo, hi, Builtin.lenOf, Builtin.firstCells]
  · simp [Builtin.append_, run_underlying ht, sizeOf, typeInfo, hi, Builtin.lenOf, Builtin.firstCells, hnc, storeCells]

/-- The append as a single operation. -/
theorem wp_appendAll {o : Oper} {a : Act} {K : Act → World → Prop} {Q : Exit → Act → World → Prop} {α : Type} {enc : α → List Value}
    (E sz bytes t : Nat) (z : Value) (ht : P.underlying t = some (.slice E)) (hinfo : (P.info? E).map (fun i => (i.zero, i.size, i.bytes)) = some (some z, sz, bytes)) (hz : z.cells.size = sz) (hs0 : 0 < sz)
    (hlen : ∀ x, (enc x).length = sz) (hone : ∀ x, ∀ u ∈ enc x, u.oneCell' = true)
    (s x : Operand) (ho : o.op = .call { callee := .builtin .append, args := #[s, x], argTypes := #[t, t] })
    (base : Nat) (v u : Value) (l l2 : List α) (hs : a.eval s = v) (hx : a.eval x = u)
    (hown : Own enc sz E base w v l) (hrd : Rd enc sz w u l2) (hbytes : (l.length + l2.length) * bytes ≤ 140737488355328) (hb0 : 0 < bytes) (hbase : base ≤ w.heap.size)
    (h : ∀ v' w', Own enc sz E base w' v' (l ++ l2) → w.grownBy w' v.ownBlock → K (a.put o.dst v') w') : o.wp P a w K Q := by
  obtain ⟨i0, hi, hz0, hz1, hz2⟩ := info_parts hinfo
  have hl : l.length + l2.length ≤ 140737488355328 := Nat.le_trans (Nat.le_mul_of_pos_right _ hb0) hbytes
  obtain ⟨A, c, rfl, _, _⟩ := hrd.shape
  cases A with
  | none =>
    obtain rfl : l2 = [] := by
      obtain ⟨A', cap', e, _, _, hr⟩ := hrd
      simp only [Value.slice.injEq] at e
      obtain ⟨rfl, _, rfl⟩ := e
      cases l2 with
      | nil => rfl
      | cons y l2 => obtain ⟨ad, ea, _⟩ := hr 0 y rfl; cases ea
    have hr := run_append_none (P := P) (w := w) t o.type E i0 sz base ht hi v l.length (l.flatMap enc) c hown
    unfold Oper.wp execOp
    simp only [List.length_nil] at hx
    simp only [ho, resolve, invoke, builtin, Sem.run_bind, Sem.run_pure, Result.andThen_ok, List.map_toArray, List.map_cons, List.map_nil, hs, hx, hr]
    exact h v w (by simpa using hown) ⟨rfl, rfl, rfl, Nat.le_refl _, fun _ _ _ => rfl⟩
  | some ad =>
    refine wp_append_own w s x t ho base E i0 z sz bytes ht hi hz0 hz1 hz2 hz hs0 v l.length (l.flatMap enc) hs hown ad l2.length c (l2.flatMap enc) hx (flat_len hlen l2) (hrd.news hlen hs0)
      (fun u hu => by obtain ⟨x, _, hx⟩ := List.mem_flatMap.1 hu; exact hone x u hx) (by unfold maxLen; omega) hbytes hbase ?_
    intro v' w' hown' hg _
    refine h v' w' ?_ hg
    unfold Own
    simpa using hown'

/-- .. at a list of operations. -/
theorem appendAll {ops : Array Oper} {rest : List Oper} {o : Oper} {a : Act} {Q : Exit → Act → World → Prop} {α : Type} {enc : α → List Value}
    (E sz bytes t : Nat) (z : Value) (ht : P.underlying t = some (.slice E)) (hinfo : (P.info? E).map (fun i => (i.zero, i.size, i.bytes)) = some (some z, sz, bytes)) (hz : z.cells.size = sz) (hs0 : 0 < sz)
    (hlen : ∀ x, (enc x).length = sz) (hone : ∀ x, ∀ u ∈ enc x, u.oneCell' = true)
    (hgd : o.guard = none) (s x : Operand) (ho : o.op = .call { callee := .builtin .append, args := #[s, x], argTypes := #[t, t] })
    (base : Nat) (v u : Value) (l l2 : List α) (hs : a.eval s = v) (hx : a.eval x = u)
    (hown : Own enc sz E base w v l) (hrd : Rd enc sz w u l2) (hbytes : (l.length + l2.length) * bytes ≤ 140737488355328) (hb0 : 0 < bytes) (hbase : base ≤ w.heap.size)
    (h : ∀ v' w', Own enc sz E base w' v' (l ++ l2) → w.grownBy w' v.ownBlock → wpList P ops Q rest (a.put o.dst v') w') : wpList P ops Q (o :: rest) a w :=
  wpList_plain hgd fun _ hK => wp_appendAll E sz bytes t z ht hinfo hz hs0 hlen hone s x ho base v u l l2 hs hx hown hrd hbytes hb0 hbase fun v' w' h1 h2 => hK _ _ (h v' w' h1 h2)

/-- .. at a step of a region that draws its order. -/
theorem step_appendAll {ops : Array Oper} {o : Oper} {a : Act} {K : Act → World → Prop} {Q : Exit → Act → World → Prop} {F : Prop} {α : Type} {enc : α → List Value}
    (E sz bytes t : Nat) (z : Value) (ht : P.underlying t = some (.slice E)) (hinfo : (P.info? E).map (fun i => (i.zero, i.size, i.bytes)) = some (some z, sz, bytes)) (hz : z.cells.size = sz) (hs0 : 0 < sz)
    (hlen : ∀ x, (enc x).length = sz) (hone : ∀ x, ∀ u ∈ enc x, u.oneCell' = true)
    (hgd : o.guard = none) (s x : Operand) (ho : o.op = .call { callee := .builtin .append, args := #[s, x], argTypes := #[t, t] })
    (base : Nat) (v u : Value) (l l2 : List α) (hs : a.eval s = v) (hx : a.eval x = u)
    (hown : Own enc sz E base w v l) (hrd : Rd enc sz w u l2) (hbytes : (l.length + l2.length) * bytes ≤ 140737488355328) (hb0 : 0 < bytes) (hbase : base ≤ w.heap.size)
    (h : ∀ v' w', Own enc sz E base w' v' (l ++ l2) → w.grownBy w' v.ownBlock → K (a.put o.dst v') w') :
    if Region.wanted o (yielded ops a.tmps) = true then Oper.wp P o a w K Q else F := by
  have hw : Region.wanted o (yielded ops a.tmps) = true := by simp [Region.wanted, hgd]
  rw [if_pos hw]
  exact wp_appendAll E sz bytes t z ht hinfo hz hs0 hlen hone s x ho base v u l l2 hs hx hown hrd hbytes hb0 hbase h
end
end Go.Proofs.Ythphfcheencbgaa.Base

namespace Go.Proofs.Ythphfcheencbgaa.Kinds
open Go.RowKit Go.Proofs.Ythphfcheencbgaa.Base Go.Proofs.Ythphfcheencbgaa.DecMath
set_option linter.unusedVariables false
set_option linter.unusedSimpArgs false

def wholeEnc (e : STlb) : List Value := [.int .i64 e.Page, .int .i64 e.Size, .bool e.Doomed, .int .i64 e.Out, .int .i64 e.Perm]
theorem wholeLen (x : STlb) : (wholeEnc x).length = 5 := rfl
theorem wholeOne (x : STlb) : ∀ u ∈ wholeEnc x, u.oneCell' = true := by
  intro u hu
  simp only [wholeEnc, List.mem_cons, List.not_mem_nil, or_false] at hu
  rcases hu with rfl | rfl | rfl | rfl | rfl <;> rfl
theorem whole_at {w : World} {A : Option Addr} {n cap k : Nat} {l : List STlb} (h : Rd wholeEnc 5 w (.slice A n cap) l) (hk : k < l.length) :
    ∃ ad x, A = some ad ∧ l[k]? = some x ∧ w.cell? (ad.add (k * 5)) = some (.int .i64 x.Page) ∧ w.cell? ⟨(ad.add (k * 5)).block, (ad.add (k * 5)).off + 1, none⟩ = some (.int .i64 x.Size) ∧ w.cell? ⟨(ad.add (k * 5)).block, (ad.add (k * 5)).off + 2, none⟩ = some (.bool x.Doomed) ∧ w.cell? ⟨(ad.add (k * 5)).block, (ad.add (k * 5)).off + 3, none⟩ = some (.int .i64 x.Out) ∧ w.cell? ⟨(ad.add (k * 5)).block, (ad.add (k * 5)).off + 4, none⟩ = some (.int .i64 x.Perm) := by
  obtain ⟨ad, x, e, hx, hu⟩ := h.get hk
  exact ⟨ad, x, e, hx, field0 hu rfl, fieldN hu 1 (by decide) rfl, fieldN hu 2 (by decide) rfl, fieldN hu 3 (by decide) rfl, fieldN hu 4 (by decide) rfl⟩

def stepEnc (e : SWc) : List Value := [.int .i64 e.Page, .int .i64 (cov (e.Level - 1)), .bool e.Doomed, .int .i64 e.Level, .int .i64 e.Table]
theorem stepLen (x : SWc) : (stepEnc x).length = 5 := rfl
theorem stepOne (x : SWc) : ∀ u ∈ stepEnc x, u.oneCell' = true := by
  intro u hu
  simp only [stepEnc, List.mem_cons, List.not_mem_nil, or_false] at hu
  rcases hu with rfl | rfl | rfl | rfl | rfl <;> rfl
theorem step_at {w : World} {A : Option Addr} {n cap k : Nat} {l : List SWc} (h : Rd stepEnc 5 w (.slice A n cap) l) (hk : k < l.length) :
    ∃ ad x, A = some ad ∧ l[k]? = some x ∧ w.cell? (ad.add (k * 5)) = some (.int .i64 x.Page) ∧ w.cell? ⟨(ad.add (k * 5)).block, (ad.add (k * 5)).off + 1, none⟩ = some (.int .i64 (cov (x.Level - 1))) ∧ w.cell? ⟨(ad.add (k * 5)).block, (ad.add (k * 5)).off + 2, none⟩ = some (.bool x.Doomed) ∧ w.cell? ⟨(ad.add (k * 5)).block, (ad.add (k * 5)).off + 3, none⟩ = some (.int .i64 x.Level) ∧ w.cell? ⟨(ad.add (k * 5)).block, (ad.add (k * 5)).off + 4, none⟩ = some (.int .i64 x.Table) := by
  obtain ⟨ad, x, e, hx, hu⟩ := h.get hk
  exact ⟨ad, x, e, hx, field0 hu rfl, fieldN hu 1 (by decide) rfl, fieldN hu 2 (by decide) rfl, fieldN hu 3 (by decide) rfl, fieldN hu 4 (by decide) rfl⟩

/-- The words after the writes. -/
def writes (ws : List Int) (l : List SWrite) : List Int := l.foldl (fun ws e => ws.set e.Adr.toNat e.Word) ws
theorem writes_snoc (ws : List Int) (l : List SWrite) (e : SWrite) : writes ws (l ++ [e]) = (writes ws l).set e.Adr.toNat e.Word := by simp [writes]
theorem writes_len (ws : List Int) (l : List SWrite) : (writes ws l).length = ws.length := by
  induction l generalizing ws with
  | nil => rfl
  | cons e l ih => show (writes _ l).length = _; rw [ih, List.length_set]
def latestOf (m : SM) : List Int := writes m.ws m.pend

/-- The machine inside, at block p; its lists the call's own from block base on; ls: the words of 'latest'. -/
structure OwnX (base : Nat) (w : World) (p : Nat) (v0 v1 v2 v3 v4 : Value) (m : SM) (ls : List Int) : Prop where
  low : base ≤ p
  box : w.heap[p]? = some (.cells #[v0, v1, v2, v3, v4] 97)
  ws : Own wEnc 1 31 base w v0 m.ws
  ls : Own wEnc 1 31 base w v1 ls
  apart : v0.ownBlock = none ∨ v0.ownBlock ≠ v1.ownBlock
  pend : Own SWrite.enc 2 60 base w v2 m.pend
  tlb : Own wholeEnc 5 101 base w v3 m.tlb
  wc : Own stepEnc 5 103 base w v4 m.wc

section
variable {base p : Nat} {w w1 : World} {v0 v1 v2 v3 v4 : Value} {m : SM} {ls : List Int}
theorem OwnX.lt (h : OwnX base w p v0 v1 v2 v3 v4 m ls) : p < w.heap.size := (Array.getElem?_eq_some_iff.1 h.box).1
theorem OwnX.cell (h : OwnX base w p v0 v1 v2 v3 v4 m ls) : w.cell? ⟨p, 0, none⟩ = some v0 ∧ w.cell? ⟨p, 1, none⟩ = some v1 ∧ w.cell? ⟨p, 2, none⟩ = some v2 ∧ w.cell? ⟨p, 3, none⟩ = some v3 ∧ w.cell? ⟨p, 4, none⟩ = some v4 := by
  refine ⟨?_, ?_, ?_, ?_, ?_⟩ <;> simp [World.cell?, h.box]
theorem OwnX.frozen (h : OwnX base w p v0 v1 v2 v3 v4 m ls) (i : Nat) : w.frozen? ⟨p, i, none⟩ = false := by simp [World.frozen?, h.box]
theorem OwnX.below (h : OwnX base w p v0 v1 v2 v3 v4 m ls) (hb : Below w.heap.size w w1) : OwnX base w1 p v0 v1 v2 v3 v4 m ls :=
  ⟨h.low, by rw [hb.block p h.lt]; exact h.box, h.ws.below hb, h.ls.below hb, h.apart, h.pend.below hb, h.tlb.below hb, h.wc.below hb⟩
theorem OwnX.drew (h : OwnX base w p v0 v1 v2 v3 v4 m ls) : OwnX base w.drew p v0 v1 v2 v3 v4 m ls := ⟨h.low, h.box, h.ws, h.ls, h.apart, h.pend, h.tlb, h.wc⟩
/-- No row of elements lies in the struct's block. -/
theorem OwnX.off {α : Type} {enc : α → List Value} {sz E b : Nat} {v : Value} {l : List α} (h : OwnX base w p v0 v1 v2 v3 v4 m ls) (o : Own enc sz E b w v l) (hE : E ≠ 97) : some p ≠ v.ownBlock := by
  rcases o.2 with ⟨rfl, _⟩ | ⟨g, cap, cur, rfl, hb, hg, _⟩
  · simp [Value.ownBlock]
  · intro e
    simp only [Value.ownBlock, Option.some.injEq] at e
    rw [← e, h.box] at hg
    simp only [Option.some.injEq, Obj.cells.injEq] at hg
    exact hE hg.2.1.symm
theorem own_setOff {α : Type} {enc : α → List Value} {sz E b : Nat} {v : Value} {l : List α} (o : Own enc sz E b w v l) {a : Addr} (ha : some a.block ≠ v.ownBlock) (u : Value) : Own enc sz E b (w.setCell a u) v l := by
  refine ⟨o.1, ?_⟩
  rcases o.2 with h2 | ⟨g, cap, cur, hv, hg, hh, r⟩
  · exact .inl h2
  · refine .inr ⟨g, cap, cur, hv, hg, ?_, r⟩
    rw [Below.heap_setCell _ _ _ _ (by subst hv; simpa [Value.ownBlock, eq_comm] using ha)]; exact hh
theorem box_set {cs : Array Value} {T : Nat} (h : w.heap[p]? = some (.cells cs T)) (i : Nat) (u : Value) : (w.setCell ⟨p, i, none⟩ u).heap[p]? = some (.cells (cs.setIfInBounds i u) T) := by
  simp [World.setCell, Array.getElem?_modify, h]
/-- A row that grew, put into its field: pend. -/
theorem OwnX.setPend {v' : Value} {l' : List SWrite} (h : OwnX base w p v0 v1 v2 v3 v4 m ls) (hg : w.grownBy w1 v2.ownBlock) (o : Own SWrite.enc 2 60 base w1 v' l') :
    OwnX base (w1.setCell ⟨p, 2, none⟩ v') p v0 v1 v' v3 v4 { m with pend := l' } ls := by
  have hp := h.off h.pend (by decide)
  have hbx : w1.heap[p]? = some (.cells #[v0, v1, v2, v3, v4] 97) := by rw [hg.block p h.lt hp]; exact h.box
  have k0 := h.ws.kept hg (own_apart (by decide) h.ws h.pend)
  have k1 := h.ls.kept hg (own_apart (by decide) h.ls h.pend)
  have k3 := h.tlb.kept hg (own_apart (by decide) h.tlb h.pend)
  have k4 := h.wc.kept hg (own_apart (by decide) h.wc h.pend)
  have X : OwnX base w1 p v0 v1 v2 v3 v4 { m with pend := [] } ls → True := fun _ => trivial
  have off : ∀ {α : Type} {enc : α → List Value} {sz E b : Nat} {v : Value} {l : List α}, Own enc sz E b w1 v l → E ≠ 97 → some p ≠ v.ownBlock := by
    intro α enc sz E b v l o hE
    rcases o.2 with ⟨rfl, _⟩ | ⟨g, cap, cur, rfl, hb, hg, _⟩
    · simp [Value.ownBlock]
    · intro e
      simp only [Value.ownBlock, Option.some.injEq] at e
      rw [← e, hbx] at hg
      simp only [Option.some.injEq, Obj.cells.injEq] at hg
      exact hE hg.2.1.symm
  exact ⟨h.low, by rw [box_set hbx]; rfl, own_setOff k0 (off k0 (by decide)) _, own_setOff k1 (off k1 (by decide)) _, h.apart, own_setOff o (off o (by decide)) _, own_setOff k3 (off k3 (by decide)) _, own_setOff k4 (off k4 (by decide)) _⟩
/-- .. tlb. -/
theorem OwnX.setTlb {v' : Value} {l' : List STlb} (h : OwnX base w p v0 v1 v2 v3 v4 m ls) (hg : w.grownBy w1 v3.ownBlock) (o : Own wholeEnc 5 101 base w1 v' l') :
    OwnX base (w1.setCell ⟨p, 3, none⟩ v') p v0 v1 v2 v' v4 { m with tlb := l' } ls := by
  have hp := h.off h.tlb (by decide)
  have hbx : w1.heap[p]? = some (.cells #[v0, v1, v2, v3, v4] 97) := by rw [hg.block p h.lt hp]; exact h.box
  have k0 := h.ws.kept hg (own_apart (by decide) h.ws h.tlb)
  have k1 := h.ls.kept hg (own_apart (by decide) h.ls h.tlb)
  have k3 := h.pend.kept hg (own_apart (by decide) h.pend h.tlb)
  have k4 := h.wc.kept hg (own_apart (by decide) h.wc h.tlb)
  have off : ∀ {α : Type} {enc : α → List Value} {sz E b : Nat} {v : Value} {l : List α}, Own enc sz E b w1 v l → E ≠ 97 → some p ≠ v.ownBlock := by
    intro α enc sz E b v l o hE
    rcases o.2 with ⟨rfl, _⟩ | ⟨g, cap, cur, rfl, hb, hg, _⟩
    · simp [Value.ownBlock]
    · intro e
      simp only [Value.ownBlock, Option.some.injEq] at e
      rw [← e, hbx] at hg
      simp only [Option.some.injEq, Obj.cells.injEq] at hg
      exact hE hg.2.1.symm
  exact ⟨h.low, by rw [box_set hbx]; rfl, own_setOff k0 (off k0 (by decide)) _, own_setOff k1 (off k1 (by decide)) _, h.apart, own_setOff k3 (off k3 (by decide)) _, own_setOff o (off o (by decide)) _, own_setOff k4 (off k4 (by decide)) _⟩
/-- .. wc. -/
theorem OwnX.setWc {v' : Value} {l' : List SWc} (h : OwnX base w p v0 v1 v2 v3 v4 m ls) (hg : w.grownBy w1 v4.ownBlock) (o : Own stepEnc 5 103 base w1 v' l') :
    OwnX base (w1.setCell ⟨p, 4, none⟩ v') p v0 v1 v2 v3 v' { m with wc := l' } ls := by
  have hp := h.off h.wc (by decide)
  have hbx : w1.heap[p]? = some (.cells #[v0, v1, v2, v3, v4] 97) := by rw [hg.block p h.lt hp]; exact h.box
  have k0 := h.ws.kept hg (own_apart (by decide) h.ws h.wc)
  have k1 := h.ls.kept hg (own_apart (by decide) h.ls h.wc)
  have k3 := h.pend.kept hg (own_apart (by decide) h.pend h.wc)
  have k4 := h.tlb.kept hg (own_apart (by decide) h.tlb h.wc)
  have off : ∀ {α : Type} {enc : α → List Value} {sz E b : Nat} {v : Value} {l : List α}, Own enc sz E b w1 v l → E ≠ 97 → some p ≠ v.ownBlock := by
    intro α enc sz E b v l o hE
    rcases o.2 with ⟨rfl, _⟩ | ⟨g, cap, cur, rfl, hb, hg, _⟩
    · simp [Value.ownBlock]
    · intro e
      simp only [Value.ownBlock, Option.some.injEq] at e
      rw [← e, hbx] at hg
      simp only [Option.some.injEq, Obj.cells.injEq] at hg
      exact hE hg.2.1.symm
  exact ⟨h.low, by rw [box_set hbx]; rfl, own_setOff k0 (off k0 (by decide)) _, own_setOff k1 (off k1 (by decide)) _, h.apart, own_setOff k3 (off k3 (by decide)) _, own_setOff k4 (off k4 (by decide)) _, own_setOff o (off o (by decide)) _⟩
/-- What is written into the struct leaves what lies below base. -/
theorem OwnX.setBelow (h : OwnX base w p v0 v1 v2 v3 v4 m ls) {B : Nat} {w0 wx : World} (hb : Below B w0 wx) (hB : B ≤ base) (i : Nat) (u : Value) : Below B w0 (wx.setCell ⟨p, i, none⟩ u) :=
  hb.setCell (by have := h.low; simp; omega) u
/-- A word of 'latest' is written. -/
theorem OwnX.setWord {g n c : Nat} (h : OwnX base w p v0 (.slice (some ⟨g, 0, none⟩) n c) v2 v3 v4 m ls) (j : Nat) (hj : j < ls.length) (y : Int) :
    OwnX base (w.setCell ⟨g, j, none⟩ (.int .u64 y)) p v0 (.slice (some ⟨g, 0, none⟩) n c) v2 v3 v4 m (ls.set j y) := by
  have hp := h.off h.ls (by decide)
  have f0 : some g ≠ v0.ownBlock := by
    rcases h.apart with e | e
    · rw [e]; simp
    · exact fun q => e (by rw [← q]; rfl)
  have fr : ∀ {α : Type} {enc : α → List Value} {sz E b : Nat} {v : Value} {l : List α}, Own enc sz E b w v l → E ≠ 31 → some g ≠ v.ownBlock := by
    intro α enc sz E b v l o hE e
    rcases own_apart hE o h.ls with q | q
    · rw [q] at e; simp at e
    · exact q e.symm
  refine ⟨h.low, ?_, own_setOff h.ws f0 _, own_set1 wLen h.ls j hj y rfl, h.apart, own_setOff h.pend (fr h.pend (by decide)) _, own_setOff h.tlb (fr h.tlb (by decide)) _, own_setOff h.wc (fr h.wc (by decide)) _⟩
  rw [Below.heap_setCell _ _ _ _ (by simpa [Value.ownBlock] using hp)]; exact h.box
end
end Go.Proofs.Ythphfcheencbgaa.Kinds

namespace Go.Proofs.Ythphfcheencbgaa.Kinds
open Go.Proofs.Ythphfcheencbgaa.DecMath
set_option linter.unusedVariables false
set_option linter.unusedSimpArgs false

/-- Bit b of a choice. -/
def bitB (c : Int) (b : Nat) : Bool := decide (c / 2 ^ b % 2 = 1)
theorem half_step (c : Int) (hc : 0 ≤ c) (k : Nat) : c / 2 ^ k / 2 = c / 2 ^ (k + 1) := by
  rw [Int.ediv_ediv_of_nonneg (Int.pow_nonneg (by decide)), Int.pow_succ]
theorem half_nonneg (c : Int) (hc : 0 ≤ c) (k : Nat) : 0 ≤ c / 2 ^ k := Int.ediv_nonneg hc (Int.pow_nonneg (by decide))
theorem half_le (c : Int) (hc : 0 ≤ c) (k : Nat) : c / 2 ^ k ≤ c := Int.ediv_le_self _ hc

/-- What a walk reads at a word. -/
def readP (m : SM) (a : Int) (late : Bool) : Int := if late = true then (latestOf m).getD a.toNat 0 else m.ws.getD a.toNat 0
theorem writes_append (ws : List Int) (l l' : List SWrite) : writes ws (l ++ l') = writes (writes ws l) l' := by simp [writes, List.foldl_append]
theorem writes_none (ws : List Int) (l : List SWrite) (a : Nat) (h : ∀ e ∈ l, e.Adr.toNat ≠ a) : (writes ws l).getD a 0 = ws.getD a 0 := by
  induction l generalizing ws with
  | nil => rfl
  | cons e l ih =>
    show (writes (ws.set e.Adr.toNat e.Word) l).getD a 0 = _
    rw [ih _ (fun e' he' => h e' (List.mem_cons_of_mem _ he'))]
    have := h e (List.mem_cons_self ..)
    simp only [List.getD_eq_getElem?_getD]
    rw [List.getElem?_set_ne this]
/-- The newest write to the word. -/
theorem latest_hit (m : SM) (j : Nat) (e : SWrite) (hj : m.pend[j]? = some e) (a : Int) (ha : e.Adr = a) (hr : a.toNat < m.ws.length) (h0 : ∀ x ∈ m.pend, 0 ≤ x.Adr) (h : ∀ (j' : Nat) (e' : SWrite), j < j' → m.pend[j']? = some e' → e'.Adr ≠ a) : readP m a true = e.Word := by
  unfold readP
  rw [if_pos rfl]
  unfold latestOf
  have hlt : j < m.pend.length := (List.getElem?_eq_some_iff.1 hj).1
  have e1 : m.pend = m.pend.take j ++ (e :: m.pend.drop (j + 1)) := by
    have hg : m.pend[j] = e := (List.getElem?_eq_some_iff.1 hj).2
    rw [← hg, List.getElem_cons_drop, List.take_append_drop]
  rw [e1, writes_append]
  show (writes ((writes m.ws (m.pend.take j)).set e.Adr.toNat e.Word) (m.pend.drop (j + 1))).getD a.toNat 0 = _
  rw [writes_none]
  · rw [ha, List.getD_eq_getElem?_getD, List.getElem?_set_self (by rw [writes_len]; exact hr)]; rfl
  · intro e' he' hq
    obtain ⟨i, hi⟩ := List.getElem?_of_mem he'
    rw [List.getElem?_drop] at hi
    have h1 := h (j + 1 + i) e' (by omega) hi
    have h2 := h0 e' (List.mem_of_getElem? hi)
    have h3 : 0 ≤ a := by rw [← ha]; exact h0 e (List.mem_of_getElem? hj)
    omega
theorem latest_miss (m : SM) (a : Int) (ha : 0 ≤ a) (h0 : ∀ x ∈ m.pend, 0 ≤ x.Adr) (h : ∀ (j' : Nat) (e' : SWrite), m.pend[j']? = some e' → e'.Adr ≠ a) : readP m a true = m.ws.getD a.toNat 0 := by
  unfold readP
  rw [if_pos rfl]
  unfold latestOf
  refine writes_none _ _ _ fun e he hq => ?_
  obtain ⟨i, hi⟩ := List.getElem?_of_mem he
  have h1 := h i e hi
  have h2 := h0 e he
  omega
/-- Words. -/
def WfM (m : SM) : Prop := (∀ x ∈ m.ws, 0 ≤ x ∧ x < 18446744073709551616) ∧ ∀ e ∈ m.pend, 0 ≤ e.Word ∧ e.Word < 18446744073709551616
theorem writes_range (ws : List Int) (l : List SWrite) (hw : ∀ x ∈ ws, 0 ≤ x ∧ x < 18446744073709551616) (hp : ∀ e ∈ l, 0 ≤ e.Word ∧ e.Word < 18446744073709551616) : ∀ x ∈ writes ws l, 0 ≤ x ∧ x < 18446744073709551616 := by
  induction l generalizing ws with
  | nil => exact hw
  | cons e l ih =>
    refine ih _ (fun x hx => ?_) (fun e' he' => hp e' (List.mem_cons_of_mem _ he'))
    rcases List.mem_or_eq_of_mem_set hx with h | h
    · exact hw x h
    · rw [h]; exact hp e (List.mem_cons_self ..)
theorem getD_range (l : List Int) (j : Nat) (h : ∀ x ∈ l, 0 ≤ x ∧ x < 18446744073709551616) : 0 ≤ l.getD j 0 ∧ l.getD j 0 < 18446744073709551616 := by
  rw [List.getD_eq_getElem?_getD]
  cases e : l[j]? with
  | none => simp
  | some x => exact h x (List.mem_of_getElem? e)
theorem readP_range (m : SM) (a : Int) (late : Bool) (h : WfM m) : 0 ≤ readP m a late ∧ readP m a late < 18446744073709551616 := by
  unfold readP
  split
  · exact getD_range _ _ (writes_range _ _ h.1 h.2)
  · exact getD_range _ _ h.1
end Go.Proofs.Ythphfcheencbgaa.Kinds

namespace Go.Proofs.Ythphfcheencbgaa.Kinds
open Go.RowKit Go.Proofs.Ythphfcheencbgaa.Base
set_option linter.unusedVariables false
set_option linter.unusedSimpArgs false
theorem off_box {α : Type} {enc : α → List Value} {sz E b T z : Nat} {w : World} {v : Value} {l : List α} {cs : Array Value} (o : Own enc sz E b w v l) (hz : w.heap[z]? = some (.cells cs T)) (hE : E ≠ T) : some z ≠ v.ownBlock := by
  rcases o.2 with ⟨rfl, _⟩ | ⟨g, cap, cur, rfl, hb, hg, _⟩
  · simp [Value.ownBlock]
  · intro e
    simp only [Value.ownBlock, Option.some.injEq] at e
    rw [← e, hz] at hg
    simp only [Option.some.injEq, Obj.cells.injEq] at hg
    exact hE hg.2.1.symm
/-- A box's type is none of the lists' elements. -/
def offT (T : Nat) : Prop := 31 ≠ T ∧ 60 ≠ T ∧ 40 ≠ T ∧ 42 ≠ T
instance (T : Nat) : Decidable (offT T) := by unfold offT; infer_instance
section
variable {base z T : Nat} {w : World} {v0 v1 v2 v3 : Value} {m : SM} {cs : Array Value}
theorem OwnM.set1 (h : OwnM base w v0 v1 v2 v3 m) (hz : w.heap[z]? = some (.cells cs T)) (hT : offT T) (i : Nat) (u : Value) : OwnM base (w.setCell ⟨z, i, none⟩ u) v0 v1 v2 v3 m :=
  ⟨own_setOff h.ws (a := ⟨z, i, none⟩) (off_box h.ws hz hT.1) u, own_setOff h.pend (a := ⟨z, i, none⟩) (off_box h.pend hz hT.2.1) u, own_setOff h.tlb (a := ⟨z, i, none⟩) (off_box h.tlb hz hT.2.2.1) u, own_setOff h.wc (a := ⟨z, i, none⟩) (off_box h.wc hz hT.2.2.2) u⟩
theorem OwnM.set4 (h : OwnM base w v0 v1 v2 v3 m) (hz : w.heap[z]? = some (.cells cs T)) (hT : offT T) (u0 u1 u2 u3 : Value) : OwnM base ((((w.setCell ⟨z, 0, none⟩ u0).setCell ⟨z, 1, none⟩ u1).setCell ⟨z, 2, none⟩ u2).setCell ⟨z, 3, none⟩ u3) v0 v1 v2 v3 m :=
  (((h.set1 hz hT 0 u0).set1 (st_set hz 0 u0) hT 1 u1).set1 (st_set (st_set hz 0 u0) 1 u1) hT 2 u2).set1 (st_set (st_set (st_set hz 0 u0) 1 u1) 2 u2) hT 3 u3
theorem OwnM.drew (h : OwnM base w v0 v1 v2 v3 m) : OwnM base w.drew v0 v1 v2 v3 m := ⟨h.ws.drew, h.pend.drew, h.tlb.drew, h.wc.drew⟩
/-- Two results of four cells each are written. -/
theorem ret_boxes {w0 : World} {l1 l2 : List (Nat × Array Value × Nat)} {b1 b2 T1 T2 : Nat} {a0 a1 a2 a3 c0 c1 c2 c3 : Value} (S : St w0 (l1 ++ (b2, #[a0, a1, a2, a3], T2) :: (b1, #[c0, c1, c2, c3], T1) :: l2) w) (h : OwnM base w v0 v1 v2 v3 m) (h2 : offT T2) (h1 : offT T1) (x0 x1 x2 x3 y0 y1 y2 y3 : Value) :
    OwnM base ((((((((w.setCell ⟨b1, 0, none⟩ x0).setCell ⟨b1, 1, none⟩ x1).setCell ⟨b1, 2, none⟩ x2).setCell ⟨b1, 3, none⟩ x3).setCell ⟨b2, 0, none⟩ y0).setCell ⟨b2, 1, none⟩ y1).setCell ⟨b2, 2, none⟩ y2).setCell ⟨b2, 3, none⟩ y3) v0 v1 v2 v3 m ∧
    Below w0.heap.size w0 ((((((((w.setCell ⟨b1, 0, none⟩ x0).setCell ⟨b1, 1, none⟩ x1).setCell ⟨b1, 2, none⟩ x2).setCell ⟨b1, 3, none⟩ x3).setCell ⟨b2, 0, none⟩ y0).setCell ⟨b2, 1, none⟩ y1).setCell ⟨b2, 2, none⟩ y2).setCell ⟨b2, 3, none⟩ y3) := by
  have S' : St w0 ((l1 ++ [(b2, #[a0, a1, a2, a3], T2)]) ++ (b1, #[c0, c1, c2, c3], T1) :: l2) w := by simpa using S
  have S1 := S'.set4 x0 x1 x2 x3
  have S1' := S1
  simp only [List.append_assoc, List.cons_append, List.nil_append] at S1'
  have S2 := S1'.set4 y0 y1 y2 y3
  exact ⟨(h.set4 (S.blk (b1, #[c0, c1, c2, c3], T1) (by simp)) h1 x0 x1 x2 x3).set4 (S1'.blk (b2, #[a0, a1, a2, a3], T2) (by simp)) h2 y0 y1 y2 y3, S2.b⟩
/-- The world is left behind; what is known of it and of a machine's lists stays. -/
theorem st_genO {w0 : World} {l : List (Nat × Array Value × Nat)} (S : St w0 l w) (h : OwnM base w v0 v1 v2 v3 m) {G : World → Prop} (k : ∀ w', St w0 l w' → OwnM base w' v0 v1 v2 v3 m → G w') : G w := k w S h
end
end Go.Proofs.Ythphfcheencbgaa.Kinds

namespace Go.Proofs.Ythphfcheencbgaa.Kinds
open Go.RowKit Go.Proofs.Ythphfcheencbgaa.Base
set_option linter.unusedVariables false
set_option linter.unusedSimpArgs false
/-- The types of the blocks that a machine inside is made of. -/
def inX (T : Nat) : Prop := T = 97 ∨ T = 101 ∨ T = 103 ∨ T = 60 ∨ T = 31
instance (T : Nat) : Decidable (inX T) := by unfold inX; infer_instance
/-- All blocks but those that a machine inside is made of are as they were. -/
structure KeepX (w w' : World) : Prop where
  size : w.heap.size ≤ w'.heap.size
  block : ∀ (k : Nat) (cs : Array Value) (T : Nat), w.heap[k]? = some (Obj.cells cs T) → ¬ inX T → w'.heap[k]? = some (Obj.cells cs T)
theorem KeepX.refl (w : World) : KeepX w w := ⟨Nat.le_refl _, fun _ _ _ h _ => h⟩
theorem KeepX.trans {a b c : World} (h : KeepX a b) (k : KeepX b c) : KeepX a c := ⟨Nat.le_trans h.size k.size, fun i cs T hi hT => k.block i cs T (h.block i cs T hi hT) hT⟩
theorem KeepX.of_below {w w' : World} (h : Below w.heap.size w w') : KeepX w w' := ⟨h.size, fun i cs T hi hT => (h.block i (Array.getElem?_eq_some_iff.1 hi).1).trans hi⟩
theorem KeepX.set {w : World} {p T : Nat} {cs : Array Value} (hz : w.heap[p]? = some (.cells cs T)) (hT : inX T) (i : Nat) (u : Value) : KeepX w (w.setCell ⟨p, i, none⟩ u) := by
  refine ⟨by simp [World.setCell], fun k cs' T' hk hT' => ?_⟩
  have hne : k ≠ p := by
    rintro rfl
    rw [hz] at hk
    simp only [Option.some.injEq, Obj.cells.injEq] at hk
    exact hT' (hk.2.1 ▸ hT)
  rw [Below.heap_setCell _ _ _ _ (by simpa using hne)]; exact hk
theorem KeepX.grown {α : Type} {enc : α → List Value} {sz E base : Nat} {w w' : World} {v : Value} {l : List α} (o : Own enc sz E base w v l) (hE : inX E) (hg : w.grownBy w' v.ownBlock) : KeepX w w' := by
  refine ⟨hg.size, fun k cs T hk hT => ?_⟩
  have hne : some k ≠ v.ownBlock := off_box o hk (fun e => hT (e ▸ hE))
  exact (hg.block k (Array.getElem?_eq_some_iff.1 hk).1 hne).trans hk
/-- The blocks of l, the newest first, are there and hold what l says. -/
structure Bx (l : List (Nat × Array Value × Nat)) (w : World) : Prop where
  blk : ∀ x ∈ l, w.heap[x.1]? = some (.cells x.2.1 x.2.2)
  ord : l.Pairwise (fun x y => y.1 < x.1)
section
variable {w w1 : World} {l : List (Nat × Array Value × Nat)} {b T : Nat} {cs : Array Value}
theorem St.bx {w0 : World} (h : St w0 l w) : Bx l w := ⟨h.blk, h.ord⟩
theorem Bx.start (w : World) : Bx [] w := ⟨by simp, List.Pairwise.nil⟩
theorem Bx.lt (h : Bx l w) : ∀ x ∈ l, x.1 < w.heap.size := fun x hx => (Array.getElem?_eq_some_iff.1 (h.blk x hx)).1
theorem Bx.below (h : Bx l w) (hb : Below w.heap.size w w1) : Bx l w1 := ⟨fun x hx => (hb.block x.1 (h.lt x hx)).trans (h.blk x hx), h.ord⟩
theorem Bx.keep (h : Bx l w) (hb : KeepX w w1) (ho : ∀ x ∈ l, ¬ inX x.2.2) : Bx l w1 := ⟨fun x hx => hb.block x.1 _ _ (h.blk x hx) (ho x hx), h.ord⟩
theorem Bx.drew (h : Bx l w) : Bx l w.drew := ⟨h.blk, h.ord⟩
theorem Bx.push (h : Bx l w) (cs : Array Value) (T : Nat) : Bx ((w.heap.size, cs, T) :: l) (w.alloc (.cells cs T)) := by
  have h1 := h.below (w1 := w.alloc (.cells cs T)) (allocB (Below.refl _ _) _)
  refine ⟨fun x hx => ?_, List.Pairwise.cons (fun y hy => h.lt y hy) h.ord⟩
  rcases List.mem_cons.1 hx with rfl | hx
  · exact heap_alloc_new w _
  · exact h1.blk x hx
theorem Bx.push2 (h : Bx l w) (cs : Array Value) (T : Nat) (cs' : Array Value) (T' : Nat) : Bx ((w.heap.size + 1, cs', T') :: (w.heap.size, cs, T) :: l) ((w.alloc (.cells cs T)).alloc (.cells cs' T')) := by
  have := (h.push cs T).push cs' T'
  rwa [show (w.alloc (.cells cs T)).heap.size = w.heap.size + 1 by simp] at this
theorem Bx.set {l1 l2 : List (Nat × Array Value × Nat)} (h : Bx (l1 ++ (b, cs, T) :: l2) w) (o : Nat) (u : Value) : Bx (l1 ++ (b, cs.setIfInBounds o u, T) :: l2) (w.setCell ⟨b, o, none⟩ u) := by
  have hm : (b, cs, T) ∈ l1 ++ (b, cs, T) :: l2 := by simp
  have hp := List.pairwise_append.1 h.ord
  have hp2 := List.pairwise_cons.1 hp.2.1
  refine ⟨fun x hx => ?_, ?_⟩
  · rcases List.mem_append.1 hx with hx | hx
    · have : b < x.1 := hp.2.2 x hx _ (List.mem_cons_self ..)
      rw [Below.heap_setCell _ _ _ _ (by simp; omega)]
      exact h.blk x (List.mem_append_left _ hx)
    · rcases List.mem_cons.1 hx with rfl | hx
      · exact st_set (h.blk _ hm) o u
      · have : x.1 < b := hp2.1 x hx
        rw [Below.heap_setCell _ _ _ _ (by simp; omega)]
        exact h.blk x (List.mem_append_right _ (List.mem_cons_of_mem _ hx))
  · refine List.pairwise_append.2 ⟨hp.1, List.Pairwise.cons (fun y hy => hp2.1 y hy) hp2.2, fun x hx y hy => ?_⟩
    rcases List.mem_cons.1 hy with rfl | hy
    · exact (hp.2.2 x hx (b, cs, T) (List.mem_cons_self ..) :)
    · exact hp.2.2 x hx y (List.mem_cons_of_mem _ hy)
theorem Bx.tail {x : Nat × Array Value × Nat} (h : Bx (x :: l) w) : Bx l w := ⟨fun y hy => h.blk y (List.mem_cons_of_mem _ hy), (List.pairwise_cons.1 h.ord).2⟩
theorem Bx.head (h : Bx ((b, cs, T) :: l) w) : w.heap[b]? = some (.cells cs T) := h.blk _ (List.mem_cons_self ..)
theorem Bx.f (h : Bx ((b, cs, T) :: l) w) (o : Nat) : w.frozen? ⟨b, o, none⟩ = false := by simp [World.frozen?, h.head]
theorem Bx.c1 {u0 : Value} (h : Bx ((b, #[u0], T) :: l) w) : w.cell? ⟨b, 0, none⟩ = some u0 := by simp [World.cell?, h.head]
theorem Bx.c2 {u0 u1 : Value} (h : Bx ((b, #[u0, u1], T) :: l) w) : w.cell? ⟨b, 0, none⟩ = some u0 ∧ w.cell? ⟨b, 1, none⟩ = some u1 := by simp [World.cell?, h.head]
theorem Bx.c3 {u0 u1 u2 : Value} (h : Bx ((b, #[u0, u1, u2], T) :: l) w) : w.cell? ⟨b, 0, none⟩ = some u0 ∧ w.cell? ⟨b, 1, none⟩ = some u1 ∧ w.cell? ⟨b, 2, none⟩ = some u2 := by simp [World.cell?, h.head]
theorem Bx.c4 {u0 u1 u2 u3 : Value} (h : Bx ((b, #[u0, u1, u2, u3], T) :: l) w) : w.cell? ⟨b, 0, none⟩ = some u0 ∧ w.cell? ⟨b, 1, none⟩ = some u1 ∧ w.cell? ⟨b, 2, none⟩ = some u2 ∧ w.cell? ⟨b, 3, none⟩ = some u3 := by simp [World.cell?, h.head]
theorem Bx.c5 {u0 u1 u2 u3 u4 : Value} (h : Bx ((b, #[u0, u1, u2, u3, u4], T) :: l) w) : w.cell? ⟨b, 0, none⟩ = some u0 ∧ w.cell? ⟨b, 1, none⟩ = some u1 ∧ w.cell? ⟨b, 2, none⟩ = some u2 ∧ w.cell? ⟨b, 3, none⟩ = some u3 ∧ w.cell? ⟨b, 4, none⟩ = some u4 := by simp [World.cell?, h.head]
theorem Bx.c6 {u0 u1 u2 u3 u4 u5 : Value} (h : Bx ((b, #[u0, u1, u2, u3, u4, u5], T) :: l) w) : w.cell? ⟨b, 0, none⟩ = some u0 ∧ w.cell? ⟨b, 1, none⟩ = some u1 ∧ w.cell? ⟨b, 2, none⟩ = some u2 ∧ w.cell? ⟨b, 3, none⟩ = some u3 ∧ w.cell? ⟨b, 4, none⟩ = some u4 ∧ w.cell? ⟨b, 5, none⟩ = some u5 := by simp [World.cell?, h.head]
theorem Bx.s0 {x0 x1 x2 x3 : Value} (h : Bx ((b, #[x0, x1, x2, x3], T) :: l) w) (u0 u1 u2 u3 : Value) : Bx ((b, #[u0, u1, u2, u3], T) :: l) ((((w.setCell ⟨b, 0, none⟩ u0).setCell ⟨b, 1, none⟩ u1).setCell ⟨b, 2, none⟩ u2).setCell ⟨b, 3, none⟩ u3) :=
  ((((h.set (l1 := []) 0 u0).set (l1 := []) 1 u1).set (l1 := []) 2 u2).set (l1 := []) 3 u3 :)
theorem Bx.s1 {y0 : Nat × Array Value × Nat} {x0 x1 x2 x3 : Value} (h : Bx (y0 :: (b, #[x0, x1, x2, x3], T) :: l) w) (u0 u1 u2 u3 : Value) : Bx (y0 :: (b, #[u0, u1, u2, u3], T) :: l) ((((w.setCell ⟨b, 0, none⟩ u0).setCell ⟨b, 1, none⟩ u1).setCell ⟨b, 2, none⟩ u2).setCell ⟨b, 3, none⟩ u3) :=
  ((((h.set (l1 := [y0]) 0 u0).set (l1 := [y0]) 1 u1).set (l1 := [y0]) 2 u2).set (l1 := [y0]) 3 u3 :)
theorem Bx.s2 {y0 y1 : Nat × Array Value × Nat} {x0 x1 x2 x3 : Value} (h : Bx (y0 :: y1 :: (b, #[x0, x1, x2, x3], T) :: l) w) (u0 u1 u2 u3 : Value) : Bx (y0 :: y1 :: (b, #[u0, u1, u2, u3], T) :: l) ((((w.setCell ⟨b, 0, none⟩ u0).setCell ⟨b, 1, none⟩ u1).setCell ⟨b, 2, none⟩ u2).setCell ⟨b, 3, none⟩ u3) :=
  ((((h.set (l1 := [y0, y1]) 0 u0).set (l1 := [y0, y1]) 1 u1).set (l1 := [y0, y1]) 2 u2).set (l1 := [y0, y1]) 3 u3 :)
theorem Bx.s3 {y0 y1 y2 : Nat × Array Value × Nat} {x0 x1 x2 x3 : Value} (h : Bx (y0 :: y1 :: y2 :: (b, #[x0, x1, x2, x3], T) :: l) w) (u0 u1 u2 u3 : Value) : Bx (y0 :: y1 :: y2 :: (b, #[u0, u1, u2, u3], T) :: l) ((((w.setCell ⟨b, 0, none⟩ u0).setCell ⟨b, 1, none⟩ u1).setCell ⟨b, 2, none⟩ u2).setCell ⟨b, 3, none⟩ u3) :=
  ((((h.set (l1 := [y0, y1, y2]) 0 u0).set (l1 := [y0, y1, y2]) 1 u1).set (l1 := [y0, y1, y2]) 2 u2).set (l1 := [y0, y1, y2]) 3 u3 :)
theorem Bx.gen (h : Bx l w) {G : World → Prop} (k : ∀ w', Bx l w' → Below w.heap.size w w' → G w') : G w := k w h (Below.refl _ _)
end
/-- The world is left behind; what is known of it, of the boxes and of the machine inside stays. -/
theorem bx_genX {w0 w : World} {B : Nat} {l : List (Nat × Array Value × Nat)} {base p : Nat} {v0 v1 v2 v3 v4 : Value} {m : SM} {ls : List Int} (S : Bx l w) (b : Below B w0 w) (h : OwnX base w p v0 v1 v2 v3 v4 m ls) {G : World → Prop} (k : ∀ w', Bx l w' → Below B w0 w' → OwnX base w' p v0 v1 v2 v3 v4 m ls → G w') : G w := k w S b h
/-- A box that is none of the machine's is written: the machine stays. -/
theorem OwnX.setBox {w : World} {base p z T i : Nat} {cs : Array Value} {v0 v1 v2 v3 v4 : Value} {m : SM} {ls : List Int} (h : OwnX base w p v0 v1 v2 v3 v4 m ls) (hz : w.heap[z]? = some (.cells cs T)) (hT : ¬ inX T) (u : Value) : OwnX base (w.setCell ⟨z, i, none⟩ u) p v0 v1 v2 v3 v4 m ls := by
  have hne : p ≠ z := by
    rintro rfl
    rw [h.box] at hz
    simp only [Option.some.injEq, Obj.cells.injEq] at hz
    exact hT (Or.inl hz.2.1.symm)
  have n1 : 31 ≠ T := fun e => hT (by simp [inX, ← e])
  have n2 : 60 ≠ T := fun e => hT (by simp [inX, ← e])
  have n3 : 101 ≠ T := fun e => hT (by simp [inX, ← e])
  have n4 : 103 ≠ T := fun e => hT (by simp [inX, ← e])
  exact ⟨h.low, by rw [Below.heap_setCell _ _ _ _ (by simpa using hne)]; exact h.box, own_setOff h.ws (a := ⟨z, i, none⟩) (off_box h.ws hz n1) u, own_setOff h.ls (a := ⟨z, i, none⟩) (off_box h.ls hz n1) u, h.apart, own_setOff h.pend (a := ⟨z, i, none⟩) (off_box h.pend hz n2) u, own_setOff h.tlb (a := ⟨z, i, none⟩) (off_box h.tlb hz n3) u, own_setOff h.wc (a := ⟨z, i, none⟩) (off_box h.wc hz n4) u⟩
theorem OwnX.setBox4 {w : World} {base p z T : Nat} {cs : Array Value} {v0 v1 v2 v3 v4 : Value} {m : SM} {ls : List Int} (h : OwnX base w p v0 v1 v2 v3 v4 m ls) (hz : w.heap[z]? = some (.cells cs T)) (hT : ¬ inX T) (u0 u1 u2 u3 : Value) :
    OwnX base ((((w.setCell ⟨z, 0, none⟩ u0).setCell ⟨z, 1, none⟩ u1).setCell ⟨z, 2, none⟩ u2).setCell ⟨z, 3, none⟩ u3) p v0 v1 v2 v3 v4 m ls :=
  (((h.setBox hz hT u0).setBox (st_set hz 0 u0) hT u1).setBox (st_set (st_set hz 0 u0) 1 u1) hT u2).setBox (st_set (st_set (st_set hz 0 u0) 1 u1) 2 u2) hT u3
end Go.Proofs.Ythphfcheencbgaa.Kinds

namespace Go.Proofs.Ythphfcheencbgaa.Kinds
open Go.Proofs.Ythphfcheencbgaa.DecMath
set_option linter.unusedVariables false
set_option linter.unusedSimpArgs false
/-- Word k of a table. -/
def wordP (ws : List Int) (f k : Int) : Int := ws.getD (f * 16 + k).toNat 0
/-- The word names a table that is there. -/
def tabP (ws : List Int) (l x : Int) : Prop := (dec l x).1 = 1 ∧ (dec l x).2.1 < ((ws.length / 16 : Nat) : Int)
instance (ws : List Int) (l x : Int) : Decidable (tabP ws l x) := by unfold tabP; infer_instance
/-- What lies below entry k of a place. -/
def belowP (ws : List Int) (rec : SPlace → List SPlace) (p : SPlace) (k : Nat) : List SPlace :=
  if tabP ws p.Level (wordP ws p.Frame k) then rec ⟨(dec p.Level (wordP ws p.Frame k)).2.1, p.Level + 1, p.Page + k * cov p.Level⟩ else []
/-- The places from p down (d: the levels that are left). -/
def placesP (ws : List Int) : Nat → SPlace → List SPlace
  | 0, p => [p]
  | d + 1, p => p :: (List.range 16).flatMap (belowP ws (placesP ws d) p)
theorem range_snoc (f : Nat → List SPlace) (k : Nat) : (List.range (k + 1)).flatMap f = (List.range k).flatMap f ++ f k := by rw [List.range_succ, List.flatMap_append]; simp
/-- At most so many places. -/
def maxP : Nat → Nat
  | 0 => 1
  | d + 1 => 1 + 16 * maxP d
theorem flat_le (f : Nat → List SPlace) (b : Nat) (h : ∀ k, (f k).length ≤ b) (n : Nat) : ((List.range n).flatMap f).length ≤ n * b := by
  induction n with
  | zero => simp
  | succ n ih => rw [range_snoc, List.length_append, Nat.add_mul]; have := h n; omega
theorem placesP_len (ws : List Int) (d : Nat) (p : SPlace) : (placesP ws d p).length ≤ maxP d := by
  induction d generalizing p with
  | zero => simp [placesP, maxP]
  | succ d ih =>
    have h := flat_le (belowP ws (placesP ws d) p) (maxP d) (fun k => by unfold belowP; split; exact ih _; simp) 16
    simp only [placesP, List.length_cons, maxP]
    omega
theorem maxP_le {d : Nat} (h : d ≤ 2) : maxP d ≤ 273 := by
  have : d = 0 ∨ d = 1 ∨ d = 2 := by omega
  rcases this with rfl | rfl | rfl <;> decide
/-- The word of a table that is read is in order. -/
def wordOk (ws : List Int) (l x : Int) : Prop := (dec l x).1 ≠ 4 ∧ ((dec l x).1 = 1 → (dec l x).2.1 < ((ws.length / 16 : Nat) : Int))
instance (ws : List Int) (l x : Int) : Decidable (wordOk ws l x) := by unfold wordOk; infer_instance
/-- The place's words are in order, up to k. -/
def wordsOk (ws : List Int) (p : SPlace) (k : Nat) : Prop := ∀ i : Nat, i < k → wordOk ws p.Level (wordP ws p.Frame i)
/-- No earlier place has the frame. -/
def freshP (ps : List SPlace) (i k : Nat) (p : SPlace) : Prop := ∀ j : Nat, j < k → ∀ q, ps[j]? = some q → q.Frame ≠ p.Frame
/-- The places are a tree's, up to n. -/
def treeTo (ws : List Int) (ps : List SPlace) (n : Nat) : Prop := ∀ i : Nat, i < n → ∀ p, ps[i]? = some p → freshP ps i i p ∧ wordsOk ws p 16
noncomputable def treeP (ws : List Int) (ps : List SPlace) : Bool := @decide (treeTo ws ps ps.length) (Classical.propDecidable _)
theorem tree_true {ws : List Int} {ps : List SPlace} (h : treeTo ws ps ps.length) : treeP ws ps = true := @decide_eq_true _ (Classical.propDecidable _) h
theorem tree_false {ws : List Int} {ps : List SPlace} (h : ¬ treeTo ws ps ps.length) : treeP ws ps = false := @decide_eq_false _ (Classical.propDecidable _) h
theorem tree_step {ws : List Int} {ps : List SPlace} {n : Nat} {p : SPlace} (h : treeTo ws ps n) (hp : ps[n]? = some p) (hf : freshP ps n n p) (hw : wordsOk ws p 16) : treeTo ws ps (n + 1) := by
  intro i hi q hq
  by_cases e : i = n
  · subst e
    obtain rfl := Option.some.inj (hp.symm.trans hq)
    exact ⟨hf, hw⟩
  · exact h i (by omega) q hq
theorem words_step {ws : List Int} {p : SPlace} {k : Nat} (h : wordsOk ws p k) (hk : wordOk ws p.Level (wordP ws p.Frame k)) : wordsOk ws p (k + 1) := by
  intro i hi
  by_cases e : i = k
  · subst e; exact hk
  · exact h i (by omega)
theorem tree_not_word {ws : List Int} {ps : List SPlace} {n k : Nat} {p : SPlace} (hp : ps[n]? = some p) (hk : k < 16) (hw : ¬ wordOk ws p.Level (wordP ws p.Frame k)) : treeP ws ps = false :=
  tree_false fun h => hw ((h n (List.getElem?_eq_some_iff.1 hp).1 p hp).2 k hk)
theorem tree_not_fresh {ws : List Int} {ps : List SPlace} {n j : Nat} {p q : SPlace} (hp : ps[n]? = some p) (hj : j < n) (hq : ps[j]? = some q) (he : q.Frame = p.Frame) : treeP ws ps = false :=
  tree_false fun h => (h n (List.getElem?_eq_some_iff.1 hp).1 p hp).1 j hj q hq he
/-- A place whose table is there. -/
def inP (ws : List Int) (p : SPlace) : Prop := (1 ≤ p.Level ∧ p.Level ≤ 3) ∧ (0 ≤ p.Frame ∧ p.Frame < ((ws.length / 16 : Nat) : Int)) ∧ 0 ≤ p.Page ∧ p.Page < 4096
/-- The page of a place at its level is one where a table of the level begins. -/
def alignP (p : SPlace) : Prop := p.Page % (cov p.Level * 16) = 0
theorem child_in {ws : List Int} {p : SPlace} {k : Nat} (h : inP ws p) (ha : alignP p) (hk : k < 16) (hl : p.Level ≤ 2) (ht : tabP ws p.Level (wordP ws p.Frame k)) :
    inP ws ⟨(dec p.Level (wordP ws p.Frame k)).2.1, p.Level + 1, p.Page + k * cov p.Level⟩ ∧ alignP ⟨(dec p.Level (wordP ws p.Frame k)).2.1, p.Level + 1, p.Page + k * cov p.Level⟩ := by
  obtain ⟨h1, h2, h3⟩ := h
  have ho := dec_out p.Level (wordP ws p.Frame k)
  have hlv : p.Level = 1 ∨ p.Level = 2 := by omega
  unfold alignP at ha ⊢
  unfold inP
  simp only
  rcases hlv with e | e <;> rw [e] at ha ht ho ⊢ <;> simp [cov] at ha ⊢ <;> exact ⟨⟨⟨ho.1, ht.2⟩, by omega, by omega⟩, by omega⟩
theorem placesP_in (ws : List Int) (d : Nat) (p : SPlace) (hd : (d : Int) = 3 - p.Level) (h : inP ws p) (ha : alignP p) : ∀ q ∈ placesP ws d p, inP ws q := by
  induction d generalizing p with
  | zero => intro q hq; simp [placesP] at hq; subst hq; exact h
  | succ d ih =>
    intro q hq
    simp only [placesP, List.mem_cons, List.mem_flatMap, List.mem_range] at hq
    rcases hq with rfl | ⟨k, hk, hq⟩
    · exact h
    · unfold belowP at hq
      split at hq
      · rename_i ht
        obtain ⟨h1, h2⟩ := child_in h ha hk (by omega) ht
        exact ih _ (by simp only; omega) h1 h2 q hq
      · simp at hq
end Go.Proofs.Ythphfcheencbgaa.Kinds

namespace Go.Proofs.Ythphfcheencbgaa.Kinds
open Go.RowKit Go.Proofs.Ythphfcheencbgaa.Base Go.Proofs.Ythphfcheencbgaa.DecMath
set_option linter.unusedVariables false
set_option linter.unusedSimpArgs false
theorem any_true {α : Type} {p : α → Bool} {l : List α} {k : Nat} {x : α} (h : l[k]? = some x) (hp : p x = true) : l.any p = true := List.any_eq_true.2 ⟨x, List.mem_of_getElem? h, hp⟩
theorem any_take {α : Type} {p : α → Bool} {l : List α} {k : Nat} {x : α} (hx : l[k]? = some x) (h : (l.take k).any p = false) (hp : p x = false) : (l.take (k + 1)).any p = false := by
  rw [List.take_add_one, List.any_append, h, hx]
  simp [hp]
theorem any_all {α : Type} {p : α → Bool} {l : List α} {k : Nat} (h : (l.take k).any p = false) (hk : l.length ≤ k) : l.any p = false := by rwa [List.take_of_length_le hk] at h
theorem drop_at {α : Type} {l : List α} {k : Nat} {x : α} (h : l[k]? = some x) : l.drop k = x :: l.drop (k + 1) := by
  obtain ⟨hk, he⟩ := List.getElem?_eq_some_iff.1 h
  rw [← he]
  exact List.drop_eq_getElem_cons hk
/-- Its number is a word's. -/
def SOp.ok (o : SOp) : Prop := 0 ≤ o.Word ∧ o.Word < 18446744073709551616
def opOk (m : SM) (o : SOp) : Prop :=
  (o.Kind = 1 ∧ 0 ≤ o.A ∧ o.A < (m.ws.length : Int) ∧ o.B = 0 ∧ m.pend.length < 10000) ∨ (o.Kind = 2 ∧ o.A = 0 ∧ o.B = 0 ∧ o.Word = 0) ∨
  (o.Kind = 3 ∧ 0 ≤ o.A ∧ o.A < 4096 ∧ 1 ≤ o.B ∧ o.B ≤ 4096 - o.A ∧ o.Word = 0) ∨ (o.Kind = 4 ∧ 0 ≤ o.A ∧ o.A < ((m.ws.length / 16 : Nat) : Int) ∧ o.B = 0 ∧ o.Word = 0)
instance (m : SM) (o : SOp) : Decidable (opOk m o) := by unfold opOk; infer_instance
/-- a pages from p on and b from q on have one in common. -/
def meetQ (p a q b : Int) : Prop := p < q + b ∧ q < p + a
instance (p a q b : Int) : Decidable (meetQ p a q b) := by unfold meetQ; infer_instance
def tlbMeet (page n : Int) (e : STlb) : Bool := decide (meetQ page n e.Page e.Size)
def wcMeet (page n : Int) (e : SWc) : Bool := decide (meetQ page n e.Page (cov (e.Level - 1)))
def wcUnder (level page n : Int) (e : SWc) : Bool := decide (e.Level > level ∧ meetQ page n e.Page (cov (e.Level - 1)))
def cachedB (m : SM) (level page n : Int) : Bool := m.tlb.any (tlbMeet page n) || m.wc.any (wcUnder level page n)
/-- The code of a write, place by place; c: something cached was met. -/
def codeB (m : SM) (o : SOp) (old : Int) : List SPlace → Bool → Int
  | [], c => if c = true then 3 else 0
  | p :: ps, c =>
    if p.Frame = o.A / 16 then
      if old % 2 = 1 then (if old = o.Word then codeB m o old ps c else 2)
      else codeB m o old ps (c || cachedB m p.Level (p.Page + o.A % 16 * cov p.Level) (cov p.Level))
    else codeB m o old ps c
def writeCode (m : SM) (o : SOp) : Int := if o.Word % 2 = 0 then 0 else codeB m o ((latestOf m).getD o.A.toNat 0) (placesP (latestOf m) 2 ⟨0, 1, 0⟩) false
def frameB (f : Int) (p : SPlace) : Bool := decide (p.Frame = f)
def tableB (f : Int) (e : SWc) : Bool := decide (e.Table = f)
def usedB (m : SM) (f : Int) : Bool := decide (f = 0) || ((placesP m.ws 2 ⟨0, 1, 0⟩).any (frameB f) || ((placesP (latestOf m) 2 ⟨0, 1, 0⟩).any (frameB f) || m.wc.any (tableB f)))
def dsbS (m : SM) : SM := ⟨latestOf m, [], m.tlb.filter (fun e => !e.Doomed), m.wc.filter (fun e => !e.Doomed)⟩
def doomT (a b : Int) (e : STlb) : STlb := if tlbMeet a b e = true then { e with Doomed := true } else e
def doomW (a b : Int) (e : SWc) : SWc := if wcMeet a b e = true then { e with Doomed := true } else e
def tlbiS (m : SM) (a b : Int) : SM := { m with tlb := m.tlb.map (doomT a b), wc := m.wc.map (doomW a b) }
/-- One operation: the machine after it, and its code. -/
def stepS (m : SM) (o : SOp) : SM × Int :=
  if opOk m o then
    if o.Kind = 1 then (if writeCode m o = 0 then ({ m with pend := m.pend ++ [⟨o.A, o.Word⟩] }, 0) else (m, writeCode m o))
    else if o.Kind = 2 then (dsbS m, 0)
    else if o.Kind = 3 then (tlbiS m o.A o.B, 0)
    else (m, if usedB m o.A = true then 4 else 0)
  else (m, 1)
end Go.Proofs.Ythphfcheencbgaa.Kinds
