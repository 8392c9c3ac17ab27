/- 'append(own, xs...)' where xs is read: at a list of operations and at a single one. Nothing of the program. -/
import Derived.Test.YtemfnbcebgflmaaRowSet
import Derived.Laws.OwnMore
namespace Go.Proofs.Ytemfnbcebgflmaa.Base
open Go.RowKit
set_option linter.unusedVariables false
set_option linter.unusedSimpArgs false

theorem Rd.news {α : Type} {enc : α → List Value} {sz : Nat} {w : World} {ad : Addr} {n c : Nat} {l : List α} (hlen : ∀ x, (enc x).length = sz) (hs0 : 0 < sz) (h : Rd enc sz w (.slice (some ad) n c) l) :
    ∀ j u, (l.flatMap enc)[j]? = some u → w.cell? (ad.add j) = some u := by
  intro j u hu
  obtain ⟨A, cap, e, hc, hl, hr⟩ := h
  simp only [Value.slice.injEq] at e
  obtain ⟨rfl, rfl, rfl⟩ := e
  have hj : j < l.length * sz := by rw [← flat_len hlen]; exact (List.getElem?_eq_some_iff.1 hu).1
  have hd : j / sz < l.length := Nat.div_lt_of_lt_mul (by rw [Nat.mul_comm]; exact hj)
  have hm : j % sz < sz := Nat.mod_lt _ hs0
  have hx := List.getElem?_eq_getElem hd
  have hv := List.getElem?_eq_getElem (l := enc l[j / sz]) (i := j % sz) (by rw [hlen]; exact hm)
  have e := flat_get hlen l (j / sz) _ hx (j % sz) _ hv
  rw [Nat.div_add_mod'] at e
  obtain ⟨ad', ea, hq⟩ := hr (j / sz) _ hx
  cases ea
  have := hq (j % sz) _ hv
  rw [Nat.div_add_mod'] at this
  rw [this, ← e, hu]

/-- One element, just laid in a block of its own. -/
theorem rd_laid {α : Type} {enc : α → List Value} {sz : Nat} (hlen : ∀ x, (enc x).length = sz) (w : World) (E : Nat) (y : α) {cs : Array Value} (hcs : cs = (enc y).toArray) :
    Rd enc sz (w.alloc (.cells cs E)) (.slice (some ⟨w.heap.size, 0, none⟩) 1 1) [y] := by
  refine ⟨_, _, rfl, Nat.le_refl _, by unfold maxLen; omega, fun i x hx => ⟨_, rfl, fun j u hu => ?_⟩⟩
  cases i with
  | succ i => simp at hx
  | zero =>
    simp at hx
    subst hx hcs
    have := World.news_of_block (cs := (enc y).toArray) (t := E) (fr := (0, 0)) (heap_alloc_new w (.cells (enc y).toArray E)) j u (by simpa using hu)
    simpa using this

section
variable {P : Program} {w : World}
theorem run_append_none (t ty e : TypeId) (i : TypeInfo) (size base : Nat) (ht : P.underlying t = some (.slice e)) (hi : P.info? e = some i)
    (v : Value) (n : Nat) (xs : List Value) (c : Nat) (hown : w.ownsRow base e size v n xs) :
    (Builtin.append_ #[t, t] ty #[v, .slice none 0 c]).run P w = .ok v w := by
  rcases hown.2 with ⟨rfl, rfl⟩ | ⟨g, cap, cur, rfl, _, _, hnc, _⟩
  · simp [Builtin.append_, run_underlying ht, sizeOf, typeInfo, hi, Builtin.lenOf, Builtin.firstCells]
  · simp [Builtin.append_, run_underlying ht, sizeOf, typeInfo, hi, Builtin.lenOf, Builtin.firstCells, hnc, storeCells]

/-- The append as a single operation. -/
theorem wp_appendAll {o : Oper} {a : Act} {K : Act → World → Prop} {Q : Exit → Act → World → Prop} {α : Type} {enc : α → List Value}
    (E sz bytes t : Nat) (z : Value) (ht : P.underlying t = some (.slice E)) (hinfo : (P.info? E).map (fun i => (i.zero, i.size, i.bytes)) = some (some z, sz, bytes)) (hz : z.cells.size = sz) (hs0 : 0 < sz)
    (hlen : ∀ x, (enc x).length = sz) (hone : ∀ x, ∀ u ∈ enc x, u.oneCell' = true)
    (s x : Operand) (ho : o.op = .call { callee := .builtin .append, args := #[s, x], argTypes := #[t, t] })
    (base : Nat) (v u : Value) (l l2 : List α) (hs : a.eval s = v) (hx : a.eval x = u)
    (hown : Own enc sz E base w v l) (hrd : Rd enc sz w u l2) (hbytes : (l.length + l2.length) * bytes ≤ 140737488355328) (hb0 : 0 < bytes) (hbase : base ≤ w.heap.size)
    (h : ∀ v' w', Own enc sz E base w' v' (l ++ l2) → w.grownBy w' v.ownBlock → K (a.put o.dst v') w') : o.wp P a w K Q := by
  obtain ⟨i0, hi, hz0, hz1, hz2⟩ := info_parts hinfo
  have hl : l.length + l2.length ≤ 140737488355328 := Nat.le_trans (Nat.le_mul_of_pos_right _ hb0) hbytes
  obtain ⟨A, c, rfl, _, _⟩ := hrd.shape
  cases A with
  | none =>
    obtain rfl : l2 = [] := by
      obtain ⟨A', cap', e, _, _, hr⟩ := hrd
      simp only [Value.slice.injEq] at e
      obtain ⟨rfl, _, rfl⟩ := e
      cases l2 with
      | nil => rfl
      | cons y l2 => obtain ⟨ad, ea, _⟩ := hr 0 y rfl; cases ea
    have hr := run_append_none (P := P) (w := w) t o.type E i0 sz base ht hi v l.length (l.flatMap enc) c hown
    unfold Oper.wp execOp
    simp only [List.length_nil] at hx
    simp only [ho, resolve, invoke, builtin, Sem.run_bind, Sem.run_pure, Result.andThen_ok, List.map_toArray, List.map_cons, List.map_nil, hs, hx, hr]
    exact h v w (by simpa using hown) ⟨rfl, rfl, rfl, Nat.le_refl _, fun _ _ _ => rfl⟩
  | some ad =>
    refine wp_append_own w s x t ho base E i0 z sz bytes ht hi hz0 hz1 hz2 hz hs0 v l.length (l.flatMap enc) hs hown ad l2.length c (l2.flatMap enc) hx (flat_len hlen l2) (hrd.news hlen hs0)
      (fun u hu => by obtain ⟨x, _, hx⟩ := List.mem_flatMap.1 hu; exact hone x u hx) (by unfold maxLen; omega) hbytes hbase ?_
    intro v' w' hown' hg _
    refine h v' w' ?_ hg
    unfold Own
    simpa using hown'

/-- .. at a list of operations. -/
theorem appendAll {ops : Array Oper} {rest : List Oper} {o : Oper} {a : Act} {Q : Exit → Act → World → Prop} {α : Type} {enc : α → List Value}
    (E sz bytes t : Nat) (z : Value) (ht : P.underlying t = some (.slice E)) (hinfo : (P.info? E).map (fun i => (i.zero, i.size, i.bytes)) = some (some z, sz, bytes)) (hz : z.cells.size = sz) (hs0 : 0 < sz)
    (hlen : ∀ x, (enc x).length = sz) (hone : ∀ x, ∀ u ∈ enc x, u.oneCell' = true)
    (hgd : o.guard = none) (s x : Operand) (ho : o.op = .call { callee := .builtin .append, args := #[s, x], argTypes := #[t, t] })
    (base : Nat) (v u : Value) (l l2 : List α) (hs : a.eval s = v) (hx : a.eval x = u)
    (hown : Own enc sz E base w v l) (hrd : Rd enc sz w u l2) (hbytes : (l.length + l2.length) * bytes ≤ 140737488355328) (hb0 : 0 < bytes) (hbase : base ≤ w.heap.size)
    (h : ∀ v' w', Own enc sz E base w' v' (l ++ l2) → w.grownBy w' v.ownBlock → wpList P ops Q rest (a.put o.dst v') w') : wpList P ops Q (o :: rest) a w :=
  wpList_plain hgd fun _ hK => wp_appendAll E sz bytes t z ht hinfo hz hs0 hlen hone s x ho base v u l l2 hs hx hown hrd hbytes hb0 hbase fun v' w' h1 h2 => hK _ _ (h v' w' h1 h2)

/-- .. at a step of a region that draws its order. -/
theorem step_appendAll {ops : Array Oper} {o : Oper} {a : Act} {K : Act → World → Prop} {Q : Exit → Act → World → Prop} {F : Prop} {α : Type} {enc : α → List Value}
    (E sz bytes t : Nat) (z : Value) (ht : P.underlying t = some (.slice E)) (hinfo : (P.info? E).map (fun i => (i.zero, i.size, i.bytes)) = some (some z, sz, bytes)) (hz : z.cells.size = sz) (hs0 : 0 < sz)
    (hlen : ∀ x, (enc x).length = sz) (hone : ∀ x, ∀ u ∈ enc x, u.oneCell' = true)
    (hgd : o.guard = none) (s x : Operand) (ho : o.op = .call { callee := .builtin .append, args := #[s, x], argTypes := #[t, t] })
    (base : Nat) (v u : Value) (l l2 : List α) (hs : a.eval s = v) (hx : a.eval x = u)
    (hown : Own enc sz E base w v l) (hrd : Rd enc sz w u l2) (hbytes : (l.length + l2.length) * bytes ≤ 140737488355328) (hb0 : 0 < bytes) (hbase : base ≤ w.heap.size)
    (h : ∀ v' w', Own enc sz E base w' v' (l ++ l2) → w.grownBy w' v.ownBlock → K (a.put o.dst v') w') :
    if Region.wanted o (yielded ops a.tmps) = true then Oper.wp P o a w K Q else F := by
  have hw : Region.wanted o (yielded ops a.tmps) = true := by simp [Region.wanted, hgd]
  rw [if_pos hw]
  exact wp_appendAll E sz bytes t z ht hinfo hz hs0 hlen hone s x ho base v u l l2 hs hx hown hrd hbytes hb0 hbase h
end
end Go.Proofs.Ytemfnbcebgflmaa.Base
