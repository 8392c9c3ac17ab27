/- Stores into a call's own slice of structs, element by element. Nothing of the program. -/
import Derived.Test.YtemfnbcebgflmaaBase
namespace Go.Proofs.Ytemfnbcebgflmaa.Base
open Go.RowKit Go.Proofs.Ytemfnbcebgflmaa.Base
set_option linter.unusedVariables false
set_option linter.unusedSimpArgs false

theorem row_set {w : World} {base E sz g n c n' : Nat} {xs : List Value} (h : w.ownsRow base E sz (.slice (some ⟨g, 0, none⟩) n c) n' xs) (m : Nat) (hm : m < xs.length) (u : Value) :
    (w.setCell ⟨g, m, none⟩ u).ownsRow base E sz (.slice (some ⟨g, 0, none⟩) n c) n' (xs.set m u) := by
  obtain ⟨h1, h2⟩ := h
  refine ⟨by rw [List.length_set]; exact h1, ?_⟩
  rcases h2 with ⟨h2, _⟩ | ⟨g', cap, cur, hv, hg, hh, hn, hc, hs, ht⟩
  · cases h2
  · simp only [Value.slice.injEq, Option.some.injEq, Addr.mk.injEq] at hv
    obtain ⟨⟨rfl, _⟩, rfl, rfl⟩ := hv
    refine .inr ⟨g, c, cur.setIfInBounds m u, rfl, hg, ?_, hn, hc, by simpa using hs, ?_⟩
    · simp [World.setCell, Array.getElem?_modify, hh]
    · rw [Array.toList_setIfInBounds, List.take_set, ht]

theorem set_mid {P X S : List Value} {i : Nat} (hi : i < X.length) (u : Value) : (P ++ (X ++ S)).set (P.length + i) u = P ++ (X.set i u ++ S) := by
  rw [List.set_append, if_neg (by omega), Nat.add_sub_cancel_left, List.set_append, if_pos hi]

theorem flat_parts {α : Type} {enc : α → List Value} {sz : Nat} (hlen : ∀ x, (enc x).length = sz) (l : List α) (j : Nat) (x : α) (hx : l[j]? = some x) :
    ∃ P S, P.length = j * sz ∧ l.flatMap enc = P ++ (enc x ++ S) ∧ ∀ y, (l.set j y).flatMap enc = P ++ (enc y ++ S) := by
  have hj : j < l.length := (List.getElem?_eq_some_iff.1 hx).1
  have e : l = l.take j ++ x :: l.drop (j + 1) := by
    have hg : l[j] = x := (List.getElem?_eq_some_iff.1 hx).2
    rw [← hg, List.getElem_cons_drop, List.take_append_drop]
  have hl : (l.take j).length = j := by rw [List.length_take]; omega
  refine ⟨(l.take j).flatMap enc, (l.drop (j + 1)).flatMap enc, by rw [flat_len hlen, hl], ?_, fun y => ?_⟩
  · conv => lhs; rw [e]
    simp
  · conv => lhs; rw [e]
    rw [List.set_append, if_neg (by omega), hl, Nat.sub_self, List.set_cons_zero]
    simp

theorem grown_set {w w1 : World} {g : Nat} (h : w.grownBy w1 (some g)) (m : Nat) (u : Value) : w.grownBy (w1.setCell ⟨g, m, none⟩ u) (some g) :=
  ⟨h.os, h.tape, h.output, by simpa [World.setCell] using h.size, fun k hk hne => by
    rw [Below.heap_setCell _ _ _ _ (by simp only [ne_eq, Option.some.injEq] at hne; simpa using hne)]
    exact h.block k hk hne⟩
theorem grown_refl (w : World) (row : Option Nat) : w.grownBy w row := ⟨rfl, rfl, rfl, Nat.le_refl _, fun _ _ _ => rfl⟩

/-- A call's own slice that is not empty: where it lies; no cell of its block is frozen; its elements' cells. -/
theorem Own.block {α : Type} {enc : α → List Value} {sz E base : Nat} {w : World} {A : Option Addr} {n c : Nat} {l : List α} (hlen : ∀ x, (enc x).length = sz) (h : Own enc sz E base w (.slice A n c) l) (hn : 0 < l.length) :
    ∃ g, A = some ⟨g, 0, none⟩ ∧ base ≤ g ∧ g < w.heap.size ∧ (∀ i, w.frozen? ⟨g, i, none⟩ = false) ∧ ∀ (j : Nat) x, l[j]? = some x → ∀ i u, (enc x)[i]? = some u → w.cell? ⟨g, j * sz + i, none⟩ = some u := by
  rcases h.2 with ⟨_, hz⟩ | ⟨g, cap, cur, hv, hb, hg, hnc, hm, hs, ht⟩
  · omega
  · simp only [Value.slice.injEq] at hv
    obtain ⟨rfl, rfl, rfl⟩ := hv
    refine ⟨g, rfl, hb, (Array.getElem?_eq_some_iff.1 hg).1, fun i => by simp [World.frozen?, hg], fun j x hx i u hu => ?_⟩
    have := World.ownsRow.cells h (by rfl) _ _ (flat_get hlen l j x hx i u hu)
    unfold Addr.add at this
    split at this
    · rename_i h0; rw [h0]; exact this
    · simpa using this

/-- What the marking loop has come to. -/
theorem marks_step {α : Type} (f : Nat → α) (l : List α) (j : Nat) (hj : j < l.length) : ((List.range j).map f ++ l.drop j).set j (f j) = (List.range (j + 1)).map f ++ l.drop (j + 1) := by
  rw [List.set_append, if_neg (by simp), List.length_map, List.length_range, Nat.sub_self, List.range_succ, List.map_append, List.drop_eq_getElem_cons hj, List.set_cons_zero]
  simp
theorem marks_get {α : Type} (f : Nat → α) (l : List α) (j : Nat) (hj : j < l.length) : ((List.range j).map f ++ l.drop j)[j]? = l[j]? := by
  rw [List.getElem?_append_right (by simp), List.length_map, List.length_range, Nat.sub_self, List.getElem?_drop]; simp
theorem made_rep {α : Type} {enc : α → List Value} {sz : Nat} (hlen : ∀ x, (enc x).length = sz) (z : α) {zc : Array Value} (hz : zc = (enc z).toArray) (h0 : 0 < sz) (n : Nat) : (madeCells zc (n * sz)).toList = (List.replicate n z).flatMap enc := by
  subst hz
  apply List.ext_getElem?
  intro i
  by_cases hi : i < n * sz
  · have hd : i / sz < n := Nat.div_lt_of_lt_mul (by rw [Nat.mul_comm]; exact hi)
    have hm : i % sz < sz := Nat.mod_lt _ h0
    have hs : ((enc z).toArray).size = sz := by simp [hlen]
    have e := flat_get hlen (List.replicate n z) (i / sz) z (by rw [List.getElem?_replicate, if_pos hd]) (i % sz) _ (List.getElem?_eq_getElem (by rw [hlen]; exact hm))
    rw [Nat.div_add_mod'] at e
    rw [e]
    simp only [madeCells, Array.toList_map, Array.toList_range, List.getElem?_map, List.getElem?_range hi, Option.map_some, hs]
    simp [hlen, hm]
  · rw [List.getElem?_eq_none (by simp [madeCells]; omega), List.getElem?_eq_none (by rw [flat_len hlen]; simp; omega)]
theorem fill_step {α : Type} {l : List α} {z x : α} {j : Nat} (hx : l[j]? = some x) (hj : j < l.length) : (l.take j ++ List.replicate (l.length - j) z).set j x = l.take (j + 1) ++ List.replicate (l.length - (j + 1)) z := by
  rw [take_snoc hx, List.set_append, if_neg (by simp; omega), List.length_take, Nat.min_eq_left (by omega), Nat.sub_self, show l.length - j = (l.length - (j + 1)) + 1 by omega, List.replicate_succ, List.set_cons_zero]
  simp
theorem marks_len {α : Type} (f : Nat → α) (l : List α) (j : Nat) (hj : j ≤ l.length) : ((List.range j).map f ++ l.drop j).length = l.length := by
  simp; omega

theorem own_set1 {α : Type} {enc : α → List Value} {E base : Nat} {w : World} {g n c : Nat} {l : List α} (hlen : ∀ x, (enc x).length = 1) (h : Own enc 1 E base w (.slice (some ⟨g, 0, none⟩) n c) l) (j : Nat) (hj : j < l.length) (y : α) {u0 : Value} (hy : enc y = [u0]) :
    Own enc 1 E base (w.setCell ⟨g, j, none⟩ u0) (.slice (some ⟨g, 0, none⟩) n c) (l.set j y) := by
  obtain ⟨P, S, hP, hf, hs⟩ := flat_parts hlen l j _ (List.getElem?_eq_getElem hj)
  have hx := hlen l[j]
  generalize enc l[j] = X at hf hx
  obtain ⟨b0, rfl⟩ : ∃ b0, X = [b0] := by
    match X, hx with
    | [b0], _ => exact ⟨b0, rfl⟩
  unfold Own at h ⊢
  rw [hf] at h
  rw [hs y, hy, List.length_set]
  have h0 := row_set h (P.length + 0) (by simp) u0
  rw [set_mid (by simp)] at h0
  rw [hP] at h0
  simpa using h0

theorem own_set2 {α : Type} {enc : α → List Value} {E base : Nat} {w : World} {g n c : Nat} {l : List α} (hlen : ∀ x, (enc x).length = 2) (h : Own enc 2 E base w (.slice (some ⟨g, 0, none⟩) n c) l) (j : Nat) (hj : j < l.length) (y : α) {u0 u1 : Value} (hy : enc y = [u0, u1]) :
    Own enc 2 E base ((w.setCell ⟨g, j * 2, none⟩ u0).setCell ⟨g, j * 2 + 1, none⟩ u1) (.slice (some ⟨g, 0, none⟩) n c) (l.set j y) := by
  obtain ⟨P, S, hP, hf, hs⟩ := flat_parts hlen l j _ (List.getElem?_eq_getElem hj)
  have hx := hlen l[j]
  generalize enc l[j] = X at hf hx
  obtain ⟨b0, b1, rfl⟩ : ∃ b0 b1, X = [b0, b1] := by
    match X, hx with
    | [b0, b1], _ => exact ⟨b0, b1, rfl⟩
  unfold Own at h ⊢
  rw [hf] at h
  rw [hs y, hy, List.length_set]
  have h0 := row_set h (P.length + 0) (by simp) u0
  rw [set_mid (by simp)] at h0
  have h1 := row_set h0 (P.length + 1) (by simp) u1
  rw [set_mid (by simp)] at h1
  rw [hP] at h0 h1
  simpa using h1

theorem own_set3 {α : Type} {enc : α → List Value} {E base : Nat} {w : World} {g n c : Nat} {l : List α} (hlen : ∀ x, (enc x).length = 3) (h : Own enc 3 E base w (.slice (some ⟨g, 0, none⟩) n c) l) (j : Nat) (hj : j < l.length) (y : α) {u0 u1 u2 : Value} (hy : enc y = [u0, u1, u2]) :
    Own enc 3 E base (((w.setCell ⟨g, j * 3, none⟩ u0).setCell ⟨g, j * 3 + 1, none⟩ u1).setCell ⟨g, j * 3 + 2, none⟩ u2) (.slice (some ⟨g, 0, none⟩) n c) (l.set j y) := by
  obtain ⟨P, S, hP, hf, hs⟩ := flat_parts hlen l j _ (List.getElem?_eq_getElem hj)
  have hx := hlen l[j]
  generalize enc l[j] = X at hf hx
  obtain ⟨b0, b1, b2, rfl⟩ : ∃ b0 b1 b2, X = [b0, b1, b2] := by
    match X, hx with
    | [b0, b1, b2], _ => exact ⟨b0, b1, b2, rfl⟩
  unfold Own at h ⊢
  rw [hf] at h
  rw [hs y, hy, List.length_set]
  have h0 := row_set h (P.length + 0) (by simp) u0
  rw [set_mid (by simp)] at h0
  have h1 := row_set h0 (P.length + 1) (by simp) u1
  rw [set_mid (by simp)] at h1
  have h2 := row_set h1 (P.length + 2) (by simp) u2
  rw [set_mid (by simp)] at h2
  rw [hP] at h0 h1 h2
  simpa using h2

theorem own_set4 {α : Type} {enc : α → List Value} {E base : Nat} {w : World} {g n c : Nat} {l : List α} (hlen : ∀ x, (enc x).length = 4) (h : Own enc 4 E base w (.slice (some ⟨g, 0, none⟩) n c) l) (j : Nat) (hj : j < l.length) (y : α) {u0 u1 u2 u3 : Value} (hy : enc y = [u0, u1, u2, u3]) :
    Own enc 4 E base ((((w.setCell ⟨g, j * 4, none⟩ u0).setCell ⟨g, j * 4 + 1, none⟩ u1).setCell ⟨g, j * 4 + 2, none⟩ u2).setCell ⟨g, j * 4 + 3, none⟩ u3) (.slice (some ⟨g, 0, none⟩) n c) (l.set j y) := by
  obtain ⟨P, S, hP, hf, hs⟩ := flat_parts hlen l j _ (List.getElem?_eq_getElem hj)
  have hx := hlen l[j]
  generalize enc l[j] = X at hf hx
  obtain ⟨b0, b1, b2, b3, rfl⟩ : ∃ b0 b1 b2 b3, X = [b0, b1, b2, b3] := by
    match X, hx with
    | [b0, b1, b2, b3], _ => exact ⟨b0, b1, b2, b3, rfl⟩
  unfold Own at h ⊢
  rw [hf] at h
  rw [hs y, hy, List.length_set]
  have h0 := row_set h (P.length + 0) (by simp) u0
  rw [set_mid (by simp)] at h0
  have h1 := row_set h0 (P.length + 1) (by simp) u1
  rw [set_mid (by simp)] at h1
  have h2 := row_set h1 (P.length + 2) (by simp) u2
  rw [set_mid (by simp)] at h2
  have h3 := row_set h2 (P.length + 3) (by simp) u3
  rw [set_mid (by simp)] at h3
  rw [hP] at h0 h1 h2 h3
  simpa using h3

theorem own_set5 {α : Type} {enc : α → List Value} {E base : Nat} {w : World} {g n c : Nat} {l : List α} (hlen : ∀ x, (enc x).length = 5) (h : Own enc 5 E base w (.slice (some ⟨g, 0, none⟩) n c) l) (j : Nat) (hj : j < l.length) (y : α) {u0 u1 u2 u3 u4 : Value} (hy : enc y = [u0, u1, u2, u3, u4]) :
    Own enc 5 E base (((((w.setCell ⟨g, j * 5, none⟩ u0).setCell ⟨g, j * 5 + 1, none⟩ u1).setCell ⟨g, j * 5 + 2, none⟩ u2).setCell ⟨g, j * 5 + 3, none⟩ u3).setCell ⟨g, j * 5 + 4, none⟩ u4) (.slice (some ⟨g, 0, none⟩) n c) (l.set j y) := by
  obtain ⟨P, S, hP, hf, hs⟩ := flat_parts hlen l j _ (List.getElem?_eq_getElem hj)
  have hx := hlen l[j]
  generalize enc l[j] = X at hf hx
  obtain ⟨b0, b1, b2, b3, b4, rfl⟩ : ∃ b0 b1 b2 b3 b4, X = [b0, b1, b2, b3, b4] := by
    match X, hx with
    | [b0, b1, b2, b3, b4], _ => exact ⟨b0, b1, b2, b3, b4, rfl⟩
  unfold Own at h ⊢
  rw [hf] at h
  rw [hs y, hy, List.length_set]
  have h0 := row_set h (P.length + 0) (by simp) u0
  rw [set_mid (by simp)] at h0
  have h1 := row_set h0 (P.length + 1) (by simp) u1
  rw [set_mid (by simp)] at h1
  have h2 := row_set h1 (P.length + 2) (by simp) u2
  rw [set_mid (by simp)] at h2
  have h3 := row_set h2 (P.length + 3) (by simp) u3
  rw [set_mid (by simp)] at h3
  have h4 := row_set h3 (P.length + 4) (by simp) u4
  rw [set_mid (by simp)] at h4
  rw [hP] at h0 h1 h2 h3 h4
  simpa using h4

end Go.Proofs.Ytemfnbcebgflmaa.Base
