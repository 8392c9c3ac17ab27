/- The boxes of a call's own, each whole, and what was there when the call began: one fact on a world, carried from world to world. Nothing of the program. -/
import Derived.Test.YtemfnbcebgflmaaQuietB
namespace Go.Proofs.Ytemfnbcebgflmaa.Base
open Go.RowKit
set_option linter.unusedVariables false
set_option linter.unusedSimpArgs false

theorem st_set {w : World} {p T : Nat} {cs : Array Value} (h : w.heap[p]? = some (.cells cs T)) (i : Nat) (u : Value) : (w.setCell ⟨p, i, none⟩ u).heap[p]? = some (.cells (cs.setIfInBounds i u) T) := by
  simp [World.setCell, Array.getElem?_modify, h]

/-- What was there at w0 is as it was; the blocks of l, the newest first, are there and hold what l says. -/
structure St (w0 : World) (l : List (Nat × Array Value × Nat)) (w : World) : Prop where
  b : Below w0.heap.size w0 w
  blk : ∀ x ∈ l, w.heap[x.1]? = some (.cells x.2.1 x.2.2)
  up : ∀ x ∈ l, w0.heap.size ≤ x.1
  ord : l.Pairwise (fun x y => y.1 < x.1)
section
variable {w0 w w1 : World} {l : List (Nat × Array Value × Nat)} {b T : Nat} {cs : Array Value}
theorem St.start (w : World) : St w [] w := ⟨Below.refl _ _, by simp, by simp, List.Pairwise.nil⟩
theorem St.below (h : St w0 l w) (hb : Below w.heap.size w w1) : St w0 l w1 :=
  ⟨thenB h.b hb, fun x hx => (hb.block x.1 (Array.getElem?_eq_some_iff.1 (h.blk x hx)).1).trans (h.blk x hx), h.up, h.ord⟩
theorem St.drew (h : St w0 l w) : St w0 l w.drew := ⟨h.b.drew, h.blk, h.up, h.ord⟩
theorem St.lt (h : St w0 l w) : ∀ x ∈ l, x.1 < w.heap.size := fun x hx => (Array.getElem?_eq_some_iff.1 (h.blk x hx)).1
theorem St.push (h : St w0 l w) (cs : Array Value) (T : Nat) : St w0 ((w.heap.size, cs, T) :: l) (w.alloc (.cells cs T)) := by
  have hb : Below w.heap.size w (w.alloc (.cells cs T)) := allocB (Below.refl _ _) _
  have h1 := h.below hb
  refine ⟨h1.b, fun x hx => ?_, fun x hx => ?_, List.Pairwise.cons (fun y hy => h.lt y hy) h.ord⟩
  · rcases List.mem_cons.1 hx with rfl | hx
    · exact heap_alloc_new w _
    · exact h1.blk x hx
  · rcases List.mem_cons.1 hx with rfl | hx
    · exact h.b.size
    · exact h.up x hx
theorem St.push2 (h : St w0 l w) (cs : Array Value) (T : Nat) (cs' : Array Value) (T' : Nat) : St w0 ((w.heap.size + 1, cs', T') :: (w.heap.size, cs, T) :: l) ((w.alloc (.cells cs T)).alloc (.cells cs' T')) := by
  have := (h.push cs T).push cs' T'
  rwa [show (w.alloc (.cells cs T)).heap.size = w.heap.size + 1 by simp] at this
theorem St.push3 (h : St w0 l w) (cs : Array Value) (T : Nat) (cs' : Array Value) (T' : Nat) (cs2 : Array Value) (T2 : Nat) : St w0 ((w.heap.size + 2, cs2, T2) :: (w.heap.size + 1, cs', T') :: (w.heap.size, cs, T) :: l) (((w.alloc (.cells cs T)).alloc (.cells cs' T')).alloc (.cells cs2 T2)) := by
  have := (h.push2 cs T cs' T').push cs2 T2
  rwa [show ((w.alloc (.cells cs T)).alloc (.cells cs' T')).heap.size = w.heap.size + 2 by simp] at this
theorem St.push4 (h : St w0 l w) (cs : Array Value) (T : Nat) (cs' : Array Value) (T' : Nat) (cs2 : Array Value) (T2 : Nat) (cs3 : Array Value) (T3 : Nat) : St w0 ((w.heap.size + 3, cs3, T3) :: (w.heap.size + 2, cs2, T2) :: (w.heap.size + 1, cs', T') :: (w.heap.size, cs, T) :: l) ((((w.alloc (.cells cs T)).alloc (.cells cs' T')).alloc (.cells cs2 T2)).alloc (.cells cs3 T3)) := by
  have := (h.push3 cs T cs' T' cs2 T2).push cs3 T3
  rwa [show (((w.alloc (.cells cs T)).alloc (.cells cs' T')).alloc (.cells cs2 T2)).heap.size = w.heap.size + 3 by simp] at this
/-- A cell of the i-th box is written. -/
theorem St.set {l1 l2 : List (Nat × Array Value × Nat)} (h : St w0 (l1 ++ (b, cs, T) :: l2) w) (o : Nat) (u : Value) : St w0 (l1 ++ (b, cs.setIfInBounds o u, T) :: l2) (w.setCell ⟨b, o, none⟩ u) := by
  have hm : (b, cs, T) ∈ l1 ++ (b, cs, T) :: l2 := by simp
  have hp := List.pairwise_append.1 h.ord
  have hp2 := List.pairwise_cons.1 hp.2.1
  refine ⟨h.b.setCell (h.up _ hm) u, fun x hx => ?_, fun x hx => ?_, ?_⟩
  · rcases List.mem_append.1 hx with hx | hx
    · have : b < x.1 := hp.2.2 x hx _ (List.mem_cons_self ..)
      rw [Below.heap_setCell _ _ _ _ (by simp; omega)]
      exact h.blk x (List.mem_append_left _ hx)
    · rcases List.mem_cons.1 hx with rfl | hx
      · exact st_set (h.blk _ hm) o u
      · have : x.1 < b := hp2.1 x hx
        rw [Below.heap_setCell _ _ _ _ (by simp; omega)]
        exact h.blk x (List.mem_append_right _ (List.mem_cons_of_mem _ hx))
  · rcases List.mem_append.1 hx with hx | hx
    · exact h.up x (List.mem_append_left _ hx)
    · rcases List.mem_cons.1 hx with rfl | hx
      · exact h.up (b, cs, T) hm
      · exact h.up x (List.mem_append_right _ (List.mem_cons_of_mem _ hx))
  · refine List.pairwise_append.2 ⟨hp.1, List.Pairwise.cons (fun y hy => hp2.1 y hy) hp2.2, fun x hx y hy => ?_⟩
    rcases List.mem_cons.1 hy with rfl | hy
    · exact (hp.2.2 x hx (b, cs, T) (List.mem_cons_self ..) :)
    · exact hp.2.2 x hx y (List.mem_cons_of_mem _ hy)
theorem St.tail {x : Nat × Array Value × Nat} (h : St w0 (x :: l) w) : St w0 l w := ⟨h.b, fun y hy => h.blk y (List.mem_cons_of_mem _ hy), fun y hy => h.up y (List.mem_cons_of_mem _ hy), (List.pairwise_cons.1 h.ord).2⟩
theorem St.head (h : St w0 ((b, cs, T) :: l) w) : w.heap[b]? = some (.cells cs T) := h.blk _ (List.mem_cons_self ..)
theorem St.f (h : St w0 ((b, cs, T) :: l) w) (o : Nat) : w.frozen? ⟨b, o, none⟩ = false := by simp [World.frozen?, h.head]
theorem St.c1 {u0 : Value} (h : St w0 ((b, #[u0], T) :: l) w) : w.cell? ⟨b, 0, none⟩ = some u0 := by simp [World.cell?, h.head]
theorem St.c2 {u0 u1 : Value} (h : St w0 ((b, #[u0, u1], T) :: l) w) : w.cell? ⟨b, 0, none⟩ = some u0 ∧ w.cell? ⟨b, 1, none⟩ = some u1 := by simp [World.cell?, h.head]
theorem St.c3 {u0 u1 u2 : Value} (h : St w0 ((b, #[u0, u1, u2], T) :: l) w) : w.cell? ⟨b, 0, none⟩ = some u0 ∧ w.cell? ⟨b, 1, none⟩ = some u1 ∧ w.cell? ⟨b, 2, none⟩ = some u2 := by simp [World.cell?, h.head]
theorem St.c4 {u0 u1 u2 u3 : Value} (h : St w0 ((b, #[u0, u1, u2, u3], T) :: l) w) : w.cell? ⟨b, 0, none⟩ = some u0 ∧ w.cell? ⟨b, 1, none⟩ = some u1 ∧ w.cell? ⟨b, 2, none⟩ = some u2 ∧ w.cell? ⟨b, 3, none⟩ = some u3 := by simp [World.cell?, h.head]
theorem St.c5 {u0 u1 u2 u3 u4 : Value} (h : St w0 ((b, #[u0, u1, u2, u3, u4], T) :: l) w) : w.cell? ⟨b, 0, none⟩ = some u0 ∧ w.cell? ⟨b, 1, none⟩ = some u1 ∧ w.cell? ⟨b, 2, none⟩ = some u2 ∧ w.cell? ⟨b, 3, none⟩ = some u3 ∧ w.cell? ⟨b, 4, none⟩ = some u4 := by simp [World.cell?, h.head]
theorem St.c6 {u0 u1 u2 u3 u4 u5 : Value} (h : St w0 ((b, #[u0, u1, u2, u3, u4, u5], T) :: l) w) : w.cell? ⟨b, 0, none⟩ = some u0 ∧ w.cell? ⟨b, 1, none⟩ = some u1 ∧ w.cell? ⟨b, 2, none⟩ = some u2 ∧ w.cell? ⟨b, 3, none⟩ = some u3 ∧ w.cell? ⟨b, 4, none⟩ = some u4 ∧ w.cell? ⟨b, 5, none⟩ = some u5 := by simp [World.cell?, h.head]
/-- Four cells of the i-th box are written. -/
theorem St.set4 {l1 l2 : List (Nat × Array Value × Nat)} {x0 x1 x2 x3 : Value} (h : St w0 (l1 ++ (b, #[x0, x1, x2, x3], T) :: l2) w) (u0 u1 u2 u3 : Value) : St w0 (l1 ++ (b, #[u0, u1, u2, u3], T) :: l2) ((((w.setCell ⟨b, 0, none⟩ u0).setCell ⟨b, 1, none⟩ u1).setCell ⟨b, 2, none⟩ u2).setCell ⟨b, 3, none⟩ u3) :=
  (((h.set 0 u0).set 1 u1).set 2 u2).set 3 u3
theorem St.s0 {x0 x1 x2 x3 : Value} (h : St w0 ((b, #[x0, x1, x2, x3], T) :: l) w) (u0 u1 u2 u3 : Value) : St w0 ((b, #[u0, u1, u2, u3], T) :: l) ((((w.setCell ⟨b, 0, none⟩ u0).setCell ⟨b, 1, none⟩ u1).setCell ⟨b, 2, none⟩ u2).setCell ⟨b, 3, none⟩ u3) := St.set4 (l1 := []) h u0 u1 u2 u3
theorem St.s1 {y0 : Nat × Array Value × Nat} {x0 x1 x2 x3 : Value} (h : St w0 (y0 :: (b, #[x0, x1, x2, x3], T) :: l) w) (u0 u1 u2 u3 : Value) : St w0 (y0 :: (b, #[u0, u1, u2, u3], T) :: l) ((((w.setCell ⟨b, 0, none⟩ u0).setCell ⟨b, 1, none⟩ u1).setCell ⟨b, 2, none⟩ u2).setCell ⟨b, 3, none⟩ u3) := St.set4 (l1 := [y0]) h u0 u1 u2 u3
theorem St.s2 {y0 y1 : Nat × Array Value × Nat} {x0 x1 x2 x3 : Value} (h : St w0 (y0 :: y1 :: (b, #[x0, x1, x2, x3], T) :: l) w) (u0 u1 u2 u3 : Value) : St w0 (y0 :: y1 :: (b, #[u0, u1, u2, u3], T) :: l) ((((w.setCell ⟨b, 0, none⟩ u0).setCell ⟨b, 1, none⟩ u1).setCell ⟨b, 2, none⟩ u2).setCell ⟨b, 3, none⟩ u3) := St.set4 (l1 := [y0, y1]) h u0 u1 u2 u3
theorem St.s3 {y0 y1 y2 : Nat × Array Value × Nat} {x0 x1 x2 x3 : Value} (h : St w0 (y0 :: y1 :: y2 :: (b, #[x0, x1, x2, x3], T) :: l) w) (u0 u1 u2 u3 : Value) : St w0 (y0 :: y1 :: y2 :: (b, #[u0, u1, u2, u3], T) :: l) ((((w.setCell ⟨b, 0, none⟩ u0).setCell ⟨b, 1, none⟩ u1).setCell ⟨b, 2, none⟩ u2).setCell ⟨b, 3, none⟩ u3) := St.set4 (l1 := [y0, y1, y2]) h u0 u1 u2 u3
theorem St.s4 {y0 y1 y2 y3 : Nat × Array Value × Nat} {x0 x1 x2 x3 : Value} (h : St w0 (y0 :: y1 :: y2 :: y3 :: (b, #[x0, x1, x2, x3], T) :: l) w) (u0 u1 u2 u3 : Value) : St w0 (y0 :: y1 :: y2 :: y3 :: (b, #[u0, u1, u2, u3], T) :: l) ((((w.setCell ⟨b, 0, none⟩ u0).setCell ⟨b, 1, none⟩ u1).setCell ⟨b, 2, none⟩ u2).setCell ⟨b, 3, none⟩ u3) := St.set4 (l1 := [y0, y1, y2, y3]) h u0 u1 u2 u3
/-- The world is left behind; what is known of it stays. -/
theorem St.gen (h : St w0 l w) {G : World → Prop} (k : ∀ w', St w0 l w' → Below w.heap.size w w' → G w') : G w := k w h (Below.refl _ _)
end
theorem bC {w w' : World} {a : Addr} {v : Value} (hb : Below w.heap.size w w') (h : w.cell? a = some v) : w'.cell? a = some v := (hb.cell (World.block_lt_of_cell? _ _ h)).trans h
/-- A world, left behind for a letter, with a fact that was shown of it. -/
theorem world_gen {w : World} (F : World → Prop) (hF : F w) {G : World → Prop} (k : ∀ w', F w' → G w') : G w := k w hF
end Go.Proofs.Ytemfnbcebgflmaa.Base
