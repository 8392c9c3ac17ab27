/- Words for the walks of this claim: what a slice value reads as, what a call's own slice holds, and how both are carried from world to world. Nothing of the program. -/
import Derived.WalkKit
import Derived.KernelRfl
import Derived.Below
import Derived.StillTailTactics
import Derived.Outline
import Derived.Lib.Hide
import Derived.OwnWalk
import Derived.Maps.AppendAt
import Derived.Deep.AppendLies
import Derived.Deep.RegionHeld3
import Derived.BigQuiet
import Derived.Deep.QuietTactic
import Derived.Deep.Draws
namespace Go.Proofs.Ytemfnbcebgflmaa.Base
open Go.RowKit
set_option linter.unusedVariables false
set_option linter.unusedSimpArgs false

theorem ret_bool {a b : Bool} (h : a = b) : Ending.returned (.bool a) = .returned (.bool b) := by rw [h]
theorem ret_int {k : IntKind} {a b : Int} (h : a = b) : Ending.returned (.int k a) = .returned (.int k b) := by rw [h]
theorem wrapNat (n : Nat) (h : n < 9223372036854775807) : wrap64 ((n : Int) + 1) = ((n + 1 : Nat) : Int) := by unfold wrap64; omega

theorem add_field (ad : Addr) (m j : Nat) (hj : 0 < j) : ad.add (m + j) = ⟨(ad.add m).block, (ad.add m).off + j, none⟩ := by
  unfold Addr.add
  by_cases hm : m = 0
  · subst hm
    rw [if_neg (by omega)]; simp
  · rw [if_neg (by omega), if_neg hm]; simp; omega

theorem take_snoc {α : Type} {l : List α} {k : Nat} {x : α} (h : l[k]? = some x) : l.take (k + 1) = l.take k ++ [x] := by
  rw [List.take_add_one, h]; rfl
theorem take_len {α : Type} {l : List α} {k : Nat} (h : k ≤ l.length) : (l.take k).length = k := by rw [List.length_take]; omega

theorem thenB {w b c : World} (h : Below w.heap.size w b) (k : Below b.heap.size b c) : Below w.heap.size w c := h.trans (k.mono h.size)
theorem allocB {w b : World} (h : Below w.heap.size w b) (o : Obj) : Below w.heap.size w (b.alloc o) := h.alloc h.size o
theorem bcell {W w1 : World} (hb : Below W.heap.size W w1) : (∀ b o, b < W.heap.size → w1.cell? ⟨b, o, none⟩ = W.cell? ⟨b, o, none⟩) ∧ (∀ b o, b < W.heap.size → w1.frozen? ⟨b, o, none⟩ = W.frozen? ⟨b, o, none⟩) :=
  ⟨fun b o h => hb.cell (p := ⟨b, o, none⟩) h, fun b o h => hb.frozen (p := ⟨b, o, none⟩) h⟩
theorem below_drewN {B : Nat} {a w : World} (h : Below B a w) (n : Nat) : Below B a (w.drewN n) := ⟨h.os, h.tape, h.output, h.size, h.block⟩

/-! ### What is read -/
/-- The slice value v reads as the elements of l, each of sz cells. -/
def Rd {α : Type} (enc : α → List Value) (sz : Nat) (w : World) (v : Value) (l : List α) : Prop :=
  ∃ A cap, v = .slice A l.length cap ∧ l.length ≤ cap ∧ cap ≤ maxLen ∧ ∀ (i : Nat) x, l[i]? = some x → ∃ ad, A = some ad ∧ ∀ j u, (enc x)[j]? = some u → w.cell? (ad.add (i * sz + j)) = some u

section
variable {α : Type} {enc : α → List Value} {sz : Nat} {w w1 : World} {v : Value} {l : List α}
theorem Rd.below (h : Rd enc sz w v l) (hb : Below w.heap.size w w1) : Rd enc sz w1 v l := by
  obtain ⟨A, cap, e, hc, hl, hr⟩ := h
  refine ⟨A, cap, e, hc, hl, fun i x hx => ?_⟩
  obtain ⟨ad, ea, hu⟩ := hr i x hx
  exact ⟨ad, ea, fun j u h => (hb.cell (World.block_lt_of_cell? _ _ (hu j u h))).trans (hu j u h)⟩
theorem Rd.shape (h : Rd enc sz w v l) : ∃ A cap, v = .slice A l.length cap ∧ l.length ≤ cap ∧ cap ≤ 9223372036854775807 := by
  obtain ⟨A, cap, e, hc, hl, _⟩ := h
  exact ⟨A, cap, e, hc, by unfold maxLen at hl; omega⟩
theorem Rd.nil (enc : α → List Value) (sz : Nat) (w : World) : Rd enc sz w (.slice none 0 0) [] :=
  ⟨none, 0, rfl, Nat.le_refl _, by unfold maxLen; omega, fun i x h => by simp at h⟩
/-- The element at k: its cells at the address of its first. -/
theorem Rd.get {A : Option Addr} {n cap k : Nat} (h : Rd enc sz w (.slice A n cap) l) (hk : k < l.length) :
    ∃ ad x, A = some ad ∧ l[k]? = some x ∧ ∀ j u, (enc x)[j]? = some u → w.cell? (ad.add (k * sz + j)) = some u := by
  obtain ⟨A', cap', e, hc, hl, hr⟩ := h
  simp only [Value.slice.injEq] at e
  obtain ⟨rfl, rfl, rfl⟩ := e
  obtain ⟨ad, rfl, hu⟩ := hr k _ (List.getElem?_eq_getElem hk)
  exact ⟨ad, _, rfl, List.getElem?_eq_getElem hk, hu⟩
theorem Rd.len {A : Option Addr} {n cap : Nat} (h : Rd enc sz w (.slice A n cap) l) : n = l.length := by
  obtain ⟨A', cap', e, _⟩ := h
  simp only [Value.slice.injEq] at e
  exact e.2.1
end
theorem field0 {w : World} {ad : Addr} {m : Nat} {cs : List Value} {u : Value} (h : ∀ j u, cs[j]? = some u → w.cell? (ad.add (m + j)) = some u) (e : cs[0]? = some u) : w.cell? (ad.add m) = some u := h 0 u e
theorem fieldN {w : World} {ad : Addr} {m : Nat} {cs : List Value} {u : Value} (h : ∀ j u, cs[j]? = some u → w.cell? (ad.add (m + j)) = some u) (j : Nat) (hj : 0 < j) (e : cs[j]? = some u) : w.cell? ⟨(ad.add m).block, (ad.add m).off + j, none⟩ = some u := by
  rw [← add_field _ _ j hj]; exact h j u e

/-! ### What a call's own slice holds -/
/-- The slice value v owns (from block base on, elements of type E) the elements of l. -/
def Own {α : Type} (enc : α → List Value) (sz E : Nat) (base : Nat) (w : World) (v : Value) (l : List α) : Prop :=
  w.ownsRow base E sz v l.length (l.flatMap enc)

theorem flat_get {α : Type} {enc : α → List Value} {sz : Nat} (hlen : ∀ x, (enc x).length = sz) (l : List α) (i : Nat) (x : α) (hi : l[i]? = some x) (j : Nat) (u : Value) (hj : (enc x)[j]? = some u) :
    (l.flatMap enc)[i * sz + j]? = some u := by
  have hjs : j < sz := by rw [← hlen x]; exact (List.getElem?_eq_some_iff.1 hj).1
  induction l generalizing i with
  | nil => simp at hi
  | cons y l ih =>
    rw [List.flatMap_cons]
    cases i with
    | zero =>
      simp at hi; subst hi
      rw [List.getElem?_append_left (by rw [hlen]; omega)]
      simpa using hj
    | succ i =>
      rw [List.getElem?_append_right (by rw [hlen, Nat.add_mul]; omega), hlen]
      have := ih i (by simpa using hi)
      rwa [show (i + 1) * sz + j - sz = i * sz + j by rw [Nat.add_mul]; omega]

theorem flat_len {α : Type} {enc : α → List Value} {sz : Nat} (hlen : ∀ x, (enc x).length = sz) (l : List α) : (l.flatMap enc).length = l.length * sz := by
  induction l with
  | nil => simp
  | cons y l ih => rw [List.flatMap_cons, List.length_append, hlen, ih, List.length_cons, Nat.add_mul]; omega

section
variable {α : Type} {enc : α → List Value} {sz E base : Nat} {w w1 : World} {v : Value} {l : List α}
theorem Own.nil (enc : α → List Value) (sz E base : Nat) (w : World) : Own enc sz E base w (.slice none 0 0) [] := World.ownsRow_nil _ _ _ _
theorem Own.rd (hlen : ∀ x, (enc x).length = sz) (h : Own enc sz E base w v l) : Rd enc sz w v l := by
  rcases h.2 with ⟨rfl, hn⟩ | ⟨g, cap, cur, rfl, hb, hg, hnc, hm, hs, ht⟩
  · obtain rfl : l = [] := List.length_eq_zero_iff.1 hn
    exact Rd.nil _ _ _
  · refine ⟨some ⟨g, 0, none⟩, cap, rfl, hnc, hm, fun i x hx => ⟨_, rfl, fun j u hu => ?_⟩⟩
    exact World.ownsRow.cells h (by rfl) _ _ (flat_get hlen l i x hx j u hu)
theorem Own.shape (h : Own enc sz E base w v l) : ∃ A cap, v = .slice A l.length cap := by
  rcases h.2 with ⟨rfl, hn⟩ | ⟨g, cap, cur, rfl, _⟩
  · exact ⟨none, 0, by rw [hn]⟩
  · exact ⟨_, cap, rfl⟩
theorem Own.made (enc : α → List Value) (sz E : Nat) {base : Nat} (w : World) (hb : base ≤ w.heap.size) : Own enc sz E base (w.alloc (.cells #[] E)) (.slice (some ⟨w.heap.size, 0, none⟩) 0 0) [] :=
  World.ownsRow_made _ _ _ hb (Nat.zero_le _) (by simp)
theorem Own.below (h : Own enc sz E base w v l) (hb : Below w.heap.size w w1) : Own enc sz E base w1 v l := by
  refine ⟨h.1, ?_⟩
  rcases h.2 with h2 | ⟨g, cap, cur, hv, hg, hh, r⟩
  · exact .inl h2
  · exact .inr ⟨g, cap, cur, hv, hg, by rw [hb.block g (Array.getElem?_eq_some_iff.1 hh).1]; exact hh, r⟩
theorem Own.alloc (h : Own enc sz E base w v l) (o : Obj) : Own enc sz E base (w.alloc o) v l := World.ownsRow.alloc h o
theorem Own.drew (h : Own enc sz E base w v l) : Own enc sz E base w.drew v l := h
theorem Own.lower {base' : Nat} (h : Own enc sz E base w v l) (hb : base' ≤ base) : Own enc sz E base' w v l := by
  refine ⟨h.1, ?_⟩
  rcases h.2 with h2 | ⟨g, cap, cur, hv, hg, r⟩
  · exact .inl h2
  · exact .inr ⟨g, cap, cur, hv, Nat.le_trans hb hg, r⟩
theorem Own.lt (h : Own enc sz E base w v l) : ∀ k, v.ownBlock = some k → base ≤ k ∧ k < w.heap.size := World.ownsRow.lt h
theorem Own.setBelow (h : Own enc sz E base w v l) {a : Addr} (ha : a.block < base) (u : Value) : Own enc sz E base (w.setCell a u) v l := ownsRow_setCell_below h ha u
theorem Own.kept {row : Option Nat} (h : Own enc sz E base w v l) (hg : w.grownBy w1 row) (hne : v.ownBlock = none ∨ v.ownBlock ≠ row) : Own enc sz E base w1 v l := World.ownsRow.kept h hg hne
theorem Own.grown {B : Nat} {w0 : World} {e sz' n : Nat} {xs : List Value} (h : w.ownsRow B e sz' v n xs) (hb : Below B w0 w) (hB : B ≤ w.heap.size) (hg : w.grownBy w1 v.ownBlock) : Below B w0 w1 :=
  hb.grown hg hB (fun k hk => (World.ownsRow.lt h k hk).1)
end

/-- What was written lies in the blocks lo .. hi-1, or is new. -/
structure Within (lo hi : Nat) (w w' : World) : Prop where
  os : w'.os = w.os
  tape : w'.tape = w.tape
  output : w'.output = w.output
  size : w.heap.size ≤ w'.heap.size
  block : ∀ k, k < w.heap.size → (k < lo ∨ hi ≤ k) → w'.heap[k]? = w.heap[k]?
theorem Within.refl (lo hi : Nat) (w : World) : Within lo hi w w := ⟨rfl, rfl, rfl, Nat.le_refl _, fun _ _ _ => rfl⟩
theorem Within.trans {lo hi : Nat} {a b c : World} (h : Within lo hi a b) (k : Within lo hi b c) : Within lo hi a c :=
  ⟨k.os.trans h.os, k.tape.trans h.tape, k.output.trans h.output, Nat.le_trans h.size k.size, fun i hi hr => (k.block i (Nat.lt_of_lt_of_le hi h.size) hr).trans (h.block i hi hr)⟩
theorem Within.of_grown {lo hi : Nat} {w w' : World} {row : Option Nat} (hg : w.grownBy w' row) (h : ∀ k, row = some k → lo ≤ k ∧ k < hi) : Within lo hi w w' :=
  ⟨hg.os, hg.tape, hg.output, hg.size, fun k hk hr => hg.block k hk (fun e => by have := h k e.symm; omega)⟩
theorem Within.of_below {lo hi : Nat} {w w' : World} (h : Below w.heap.size w w') : Within lo hi w w' := ⟨h.os, h.tape, h.output, h.size, fun k hk _ => h.block k hk⟩
theorem Within.below {lo hi B : Nat} {w0 w w' : World} (h : Within lo hi w w') (hb : Below B w0 w) (hl : B ≤ lo) (hs : B ≤ w.heap.size) : Below B w0 w' :=
  hb.trans ⟨h.os, h.tape, h.output, h.size, fun k hk => h.block k (by omega) (by omega)⟩
theorem Own.within {α : Type} {enc : α → List Value} {sz E base lo hi : Nat} {w w1 : World} {v : Value} {l : List α} (h : Own enc sz E base w v l) (hw : Within lo hi w w1) (ho : ∀ k, v.ownBlock = some k → k < lo ∨ hi ≤ k) : Own enc sz E base w1 v l := by
  refine ⟨h.1, ?_⟩
  rcases h.2 with h2 | ⟨g, cap, cur, hv, hg, hh, r⟩
  · exact .inl h2
  · exact .inr ⟨g, cap, cur, hv, hg, by rw [hw.block g (Array.getElem?_eq_some_iff.1 hh).1 (ho g (by rw [hv]; rfl))]; exact hh, r⟩
theorem Rd.within {α : Type} {enc : α → List Value} {sz lo hi : Nat} {w w1 : World} {v : Value} {l : List α} (h : Rd enc sz w v l) (hw : Within lo hi w w1) (ho : ∀ k, v.ownBlock = some k → k < lo ∨ hi ≤ k) : Rd enc sz w1 v l := by
  obtain ⟨A, cap, e, hc, hl, hr⟩ := h
  refine ⟨A, cap, e, hc, hl, fun i x hx => ?_⟩
  obtain ⟨ad, ea, hu⟩ := hr i x hx
  refine ⟨ad, ea, fun j u h => ?_⟩
  have h1 := hu j u h
  have hb : (ad.add (i * sz + j)).block = ad.block := by unfold Addr.add; split <;> rfl
  exact (World.cell?_of_block (hw.block _ (World.block_lt_of_cell? _ _ h1) (by rw [hb]; exact ho _ (by rw [e, ea]; rfl)))).trans h1

/-- 'out = append(out, x)': one element behind a call's own. The element has just been laid in a block of its own. -/
theorem append1 {P : Program} {W : World} {ops : Array Oper} {rest : List Oper} {o : Oper} {a : Act} {Q : Exit → Act → World → Prop} {α : Type} {enc : α → List Value}
    (E sz bytes t : Nat) (z : Value) (ht : P.underlying t = some (.slice E)) (hinfo : (P.info? E).map (fun i => (i.zero, i.size, i.bytes)) = some (some z, sz, bytes)) (hz : z.cells.size = sz) (hs0 : 0 < sz)
    (hlen : ∀ x, (enc x).length = sz) (hone : ∀ x, ∀ u ∈ enc x, u.oneCell' = true)
    (hgd : o.guard = none) (s x : Operand) (ho : o.op = .call { callee := .builtin .append, args := #[s, x], argTypes := #[t, t] })
    (base : Nat) (v : Value) (l : List α) (y : α) (cs : Array Value) (hcs : cs = (enc y).toArray) (hs : a.eval s = v) (hx : a.eval x = .slice (some ⟨W.heap.size, 0, none⟩) 1 1)
    (hown : Own enc sz E base W v l) (hbytes : (l.length + 1) * bytes ≤ 140737488355328) (hb0 : 0 < bytes) (hbase : base ≤ W.heap.size)
    (h : ∀ v' w', Own enc sz E base w' v' (l ++ [y]) → W.grownBy w' v.ownBlock → wpList P ops Q rest (a.put o.dst v') w') :
    wpList P ops Q (o :: rest) a (W.alloc (.cells cs E)) := by
  obtain ⟨i0, hi, hz0, hz1, hz2⟩ := info_parts hinfo
  have hl : l.length + 1 ≤ 140737488355328 := Nat.le_trans (Nat.le_mul_of_pos_right _ hb0) hbytes
  subst hcs
  refine wpList_append_own _ hgd s x t ho base E i0 z sz bytes ht hi hz0 hz1 hz2 hz hs0 v l.length (l.flatMap enc) hs (World.ownsRow.alloc hown _) ⟨W.heap.size, 0, none⟩ 1 1 (enc y) hx (by rw [hlen]; omega)
    (by simpa using World.news_of_block (cs := (enc y).toArray) (t := E) (fr := (0, 0)) (heap_alloc_new W (.cells (enc y).toArray E))) (hone y) (by unfold maxLen; omega) hbytes (by simp; omega) ?_
  intro v' w' hown' hg _
  refine h v' w' ?_ (World.grownBy.trans (World.grownBy_alloc W _ _) hg)
  unfold Own
  simpa using hown'

end Go.Proofs.Ytemfnbcebgflmaa.Base
