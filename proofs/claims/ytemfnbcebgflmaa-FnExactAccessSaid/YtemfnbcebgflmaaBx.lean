/- Boxes of a call's own beside a machine inside that is written: what a method of the machine leaves as it was. Nothing of the program's functions. -/
import Derived.Test.YtemfnbcebgflmaaStM
namespace Go.Proofs.Ytemfnbcebgflmaa.Kinds
open Go.RowKit Go.Proofs.Ytemfnbcebgflmaa.Base
set_option linter.unusedVariables false
set_option linter.unusedSimpArgs false
/-- The types of the blocks that a machine inside is made of. -/
def inX (T : Nat) : Prop := T = 135 ∨ T = 139 ∨ T = 151 ∨ T = 173 ∨ T = 23
instance (T : Nat) : Decidable (inX T) := by unfold inX; infer_instance
/-- All blocks but those that a machine inside is made of are as they were. -/
structure KeepX (w w' : World) : Prop where
  size : w.heap.size ≤ w'.heap.size
  block : ∀ (k : Nat) (cs : Array Value) (T : Nat), w.heap[k]? = some (Obj.cells cs T) → ¬ inX T → w'.heap[k]? = some (Obj.cells cs T)
theorem KeepX.refl (w : World) : KeepX w w := ⟨Nat.le_refl _, fun _ _ _ h _ => h⟩
theorem KeepX.trans {a b c : World} (h : KeepX a b) (k : KeepX b c) : KeepX a c := ⟨Nat.le_trans h.size k.size, fun i cs T hi hT => k.block i cs T (h.block i cs T hi hT) hT⟩
theorem KeepX.of_below {w w' : World} (h : Below w.heap.size w w') : KeepX w w' := ⟨h.size, fun i cs T hi hT => (h.block i (Array.getElem?_eq_some_iff.1 hi).1).trans hi⟩
theorem KeepX.set {w : World} {p T : Nat} {cs : Array Value} (hz : w.heap[p]? = some (.cells cs T)) (hT : inX T) (i : Nat) (u : Value) : KeepX w (w.setCell ⟨p, i, none⟩ u) := by
  refine ⟨by simp [World.setCell], fun k cs' T' hk hT' => ?_⟩
  have hne : k ≠ p := by
    rintro rfl
    rw [hz] at hk
    simp only [Option.some.injEq, Obj.cells.injEq] at hk
    exact hT' (hk.2.1 ▸ hT)
  rw [Below.heap_setCell _ _ _ _ (by simpa using hne)]; exact hk
theorem KeepX.grown {α : Type} {enc : α → List Value} {sz E base : Nat} {w w' : World} {v : Value} {l : List α} (o : Own enc sz E base w v l) (hE : inX E) (hg : w.grownBy w' v.ownBlock) : KeepX w w' := by
  refine ⟨hg.size, fun k cs T hk hT => ?_⟩
  have hne : some k ≠ v.ownBlock := off_box o hk (fun e => hT (e ▸ hE))
  exact (hg.block k (Array.getElem?_eq_some_iff.1 hk).1 hne).trans hk
/-- The blocks of l, the newest first, are there and hold what l says. -/
structure Bx (l : List (Nat × Array Value × Nat)) (w : World) : Prop where
  blk : ∀ x ∈ l, w.heap[x.1]? = some (.cells x.2.1 x.2.2)
  ord : l.Pairwise (fun x y => y.1 < x.1)
section
variable {w w1 : World} {l : List (Nat × Array Value × Nat)} {b T : Nat} {cs : Array Value}
theorem St.bx {w0 : World} (h : St w0 l w) : Bx l w := ⟨h.blk, h.ord⟩
theorem Bx.start (w : World) : Bx [] w := ⟨by simp, List.Pairwise.nil⟩
theorem Bx.lt (h : Bx l w) : ∀ x ∈ l, x.1 < w.heap.size := fun x hx => (Array.getElem?_eq_some_iff.1 (h.blk x hx)).1
theorem Bx.below (h : Bx l w) (hb : Below w.heap.size w w1) : Bx l w1 := ⟨fun x hx => (hb.block x.1 (h.lt x hx)).trans (h.blk x hx), h.ord⟩
theorem Bx.keep (h : Bx l w) (hb : KeepX w w1) (ho : ∀ x ∈ l, ¬ inX x.2.2) : Bx l w1 := ⟨fun x hx => hb.block x.1 _ _ (h.blk x hx) (ho x hx), h.ord⟩
theorem Bx.drew (h : Bx l w) : Bx l w.drew := ⟨h.blk, h.ord⟩
theorem Bx.push (h : Bx l w) (cs : Array Value) (T : Nat) : Bx ((w.heap.size, cs, T) :: l) (w.alloc (.cells cs T)) := by
  have h1 := h.below (w1 := w.alloc (.cells cs T)) (allocB (Below.refl _ _) _)
  refine ⟨fun x hx => ?_, List.Pairwise.cons (fun y hy => h.lt y hy) h.ord⟩
  rcases List.mem_cons.1 hx with rfl | hx
  · exact heap_alloc_new w _
  · exact h1.blk x hx
theorem Bx.push2 (h : Bx l w) (cs : Array Value) (T : Nat) (cs' : Array Value) (T' : Nat) : Bx ((w.heap.size + 1, cs', T') :: (w.heap.size, cs, T) :: l) ((w.alloc (.cells cs T)).alloc (.cells cs' T')) := by
  have := (h.push cs T).push cs' T'
  rwa [show (w.alloc (.cells cs T)).heap.size = w.heap.size + 1 by simp] at this
theorem Bx.set {l1 l2 : List (Nat × Array Value × Nat)} (h : Bx (l1 ++ (b, cs, T) :: l2) w) (o : Nat) (u : Value) : Bx (l1 ++ (b, cs.setIfInBounds o u, T) :: l2) (w.setCell ⟨b, o, none⟩ u) := by
  have hm : (b, cs, T) ∈ l1 ++ (b, cs, T) :: l2 := by simp
  have hp := List.pairwise_append.1 h.ord
  have hp2 := List.pairwise_cons.1 hp.2.1
  refine ⟨fun x hx => ?_, ?_⟩
  · rcases List.mem_append.1 hx with hx | hx
    · have : b < x.1 := hp.2.2 x hx _ (List.mem_cons_self ..)
      rw [Below.heap_setCell _ _ _ _ (by simp; omega)]
      exact h.blk x (List.mem_append_left _ hx)
    · rcases List.mem_cons.1 hx with rfl | hx
      · exact st_set (h.blk _ hm) o u
      · have : x.1 < b := hp2.1 x hx
        rw [Below.heap_setCell _ _ _ _ (by simp; omega)]
        exact h.blk x (List.mem_append_right _ (List.mem_cons_of_mem _ hx))
  · refine List.pairwise_append.2 ⟨hp.1, List.Pairwise.cons (fun y hy => hp2.1 y hy) hp2.2, fun x hx y hy => ?_⟩
    rcases List.mem_cons.1 hy with rfl | hy
    · exact (hp.2.2 x hx (b, cs, T) (List.mem_cons_self ..) :)
    · exact hp.2.2 x hx y (List.mem_cons_of_mem _ hy)
theorem Bx.tail {x : Nat × Array Value × Nat} (h : Bx (x :: l) w) : Bx l w := ⟨fun y hy => h.blk y (List.mem_cons_of_mem _ hy), (List.pairwise_cons.1 h.ord).2⟩
theorem Bx.head (h : Bx ((b, cs, T) :: l) w) : w.heap[b]? = some (.cells cs T) := h.blk _ (List.mem_cons_self ..)
theorem Bx.f (h : Bx ((b, cs, T) :: l) w) (o : Nat) : w.frozen? ⟨b, o, none⟩ = false := by simp [World.frozen?, h.head]
theorem Bx.c1 {u0 : Value} (h : Bx ((b, #[u0], T) :: l) w) : w.cell? ⟨b, 0, none⟩ = some u0 := by simp [World.cell?, h.head]
theorem Bx.c2 {u0 u1 : Value} (h : Bx ((b, #[u0, u1], T) :: l) w) : w.cell? ⟨b, 0, none⟩ = some u0 ∧ w.cell? ⟨b, 1, none⟩ = some u1 := by simp [World.cell?, h.head]
theorem Bx.c3 {u0 u1 u2 : Value} (h : Bx ((b, #[u0, u1, u2], T) :: l) w) : w.cell? ⟨b, 0, none⟩ = some u0 ∧ w.cell? ⟨b, 1, none⟩ = some u1 ∧ w.cell? ⟨b, 2, none⟩ = some u2 := by simp [World.cell?, h.head]
theorem Bx.c4 {u0 u1 u2 u3 : Value} (h : Bx ((b, #[u0, u1, u2, u3], T) :: l) w) : w.cell? ⟨b, 0, none⟩ = some u0 ∧ w.cell? ⟨b, 1, none⟩ = some u1 ∧ w.cell? ⟨b, 2, none⟩ = some u2 ∧ w.cell? ⟨b, 3, none⟩ = some u3 := by simp [World.cell?, h.head]
theorem Bx.c5 {u0 u1 u2 u3 u4 : Value} (h : Bx ((b, #[u0, u1, u2, u3, u4], T) :: l) w) : w.cell? ⟨b, 0, none⟩ = some u0 ∧ w.cell? ⟨b, 1, none⟩ = some u1 ∧ w.cell? ⟨b, 2, none⟩ = some u2 ∧ w.cell? ⟨b, 3, none⟩ = some u3 ∧ w.cell? ⟨b, 4, none⟩ = some u4 := by simp [World.cell?, h.head]
theorem Bx.c6 {u0 u1 u2 u3 u4 u5 : Value} (h : Bx ((b, #[u0, u1, u2, u3, u4, u5], T) :: l) w) : w.cell? ⟨b, 0, none⟩ = some u0 ∧ w.cell? ⟨b, 1, none⟩ = some u1 ∧ w.cell? ⟨b, 2, none⟩ = some u2 ∧ w.cell? ⟨b, 3, none⟩ = some u3 ∧ w.cell? ⟨b, 4, none⟩ = some u4 ∧ w.cell? ⟨b, 5, none⟩ = some u5 := by simp [World.cell?, h.head]
theorem Bx.s0 {x0 x1 x2 x3 : Value} (h : Bx ((b, #[x0, x1, x2, x3], T) :: l) w) (u0 u1 u2 u3 : Value) : Bx ((b, #[u0, u1, u2, u3], T) :: l) ((((w.setCell ⟨b, 0, none⟩ u0).setCell ⟨b, 1, none⟩ u1).setCell ⟨b, 2, none⟩ u2).setCell ⟨b, 3, none⟩ u3) :=
  ((((h.set (l1 := []) 0 u0).set (l1 := []) 1 u1).set (l1 := []) 2 u2).set (l1 := []) 3 u3 :)
theorem Bx.s1 {y0 : Nat × Array Value × Nat} {x0 x1 x2 x3 : Value} (h : Bx (y0 :: (b, #[x0, x1, x2, x3], T) :: l) w) (u0 u1 u2 u3 : Value) : Bx (y0 :: (b, #[u0, u1, u2, u3], T) :: l) ((((w.setCell ⟨b, 0, none⟩ u0).setCell ⟨b, 1, none⟩ u1).setCell ⟨b, 2, none⟩ u2).setCell ⟨b, 3, none⟩ u3) :=
  ((((h.set (l1 := [y0]) 0 u0).set (l1 := [y0]) 1 u1).set (l1 := [y0]) 2 u2).set (l1 := [y0]) 3 u3 :)
theorem Bx.s2 {y0 y1 : Nat × Array Value × Nat} {x0 x1 x2 x3 : Value} (h : Bx (y0 :: y1 :: (b, #[x0, x1, x2, x3], T) :: l) w) (u0 u1 u2 u3 : Value) : Bx (y0 :: y1 :: (b, #[u0, u1, u2, u3], T) :: l) ((((w.setCell ⟨b, 0, none⟩ u0).setCell ⟨b, 1, none⟩ u1).setCell ⟨b, 2, none⟩ u2).setCell ⟨b, 3, none⟩ u3) :=
  ((((h.set (l1 := [y0, y1]) 0 u0).set (l1 := [y0, y1]) 1 u1).set (l1 := [y0, y1]) 2 u2).set (l1 := [y0, y1]) 3 u3 :)
theorem Bx.s3 {y0 y1 y2 : Nat × Array Value × Nat} {x0 x1 x2 x3 : Value} (h : Bx (y0 :: y1 :: y2 :: (b, #[x0, x1, x2, x3], T) :: l) w) (u0 u1 u2 u3 : Value) : Bx (y0 :: y1 :: y2 :: (b, #[u0, u1, u2, u3], T) :: l) ((((w.setCell ⟨b, 0, none⟩ u0).setCell ⟨b, 1, none⟩ u1).setCell ⟨b, 2, none⟩ u2).setCell ⟨b, 3, none⟩ u3) :=
  ((((h.set (l1 := [y0, y1, y2]) 0 u0).set (l1 := [y0, y1, y2]) 1 u1).set (l1 := [y0, y1, y2]) 2 u2).set (l1 := [y0, y1, y2]) 3 u3 :)
theorem Bx.gen (h : Bx l w) {G : World → Prop} (k : ∀ w', Bx l w' → Below w.heap.size w w' → G w') : G w := k w h (Below.refl _ _)
end
/-- The world is left behind; what is known of it, of the boxes and of the machine inside stays. -/
theorem bx_genX {w0 w : World} {B : Nat} {l : List (Nat × Array Value × Nat)} {base p : Nat} {v0 v1 v2 v3 v4 : Value} {m : SM} {ls : List Int} (S : Bx l w) (b : Below B w0 w) (h : OwnX base w p v0 v1 v2 v3 v4 m ls) {G : World → Prop} (k : ∀ w', Bx l w' → Below B w0 w' → OwnX base w' p v0 v1 v2 v3 v4 m ls → G w') : G w := k w S b h
/-- A box that is none of the machine's is written: the machine stays. -/
theorem OwnX.setBox {w : World} {base p z T i : Nat} {cs : Array Value} {v0 v1 v2 v3 v4 : Value} {m : SM} {ls : List Int} (h : OwnX base w p v0 v1 v2 v3 v4 m ls) (hz : w.heap[z]? = some (.cells cs T)) (hT : ¬ inX T) (u : Value) : OwnX base (w.setCell ⟨z, i, none⟩ u) p v0 v1 v2 v3 v4 m ls := by
  have hne : p ≠ z := by
    rintro rfl
    rw [h.box] at hz
    simp only [Option.some.injEq, Obj.cells.injEq] at hz
    exact hT (Or.inl hz.2.1.symm)
  have n1 : 23 ≠ T := fun e => hT (by simp [inX, ← e])
  have n2 : 173 ≠ T := fun e => hT (by simp [inX, ← e])
  have n3 : 139 ≠ T := fun e => hT (by simp [inX, ← e])
  have n4 : 151 ≠ T := fun e => hT (by simp [inX, ← e])
  exact ⟨h.low, by rw [Below.heap_setCell _ _ _ _ (by simpa using hne)]; exact h.box, own_setOff h.ws (a := ⟨z, i, none⟩) (off_box h.ws hz n1) u, own_setOff h.ls (a := ⟨z, i, none⟩) (off_box h.ls hz n1) u, h.apart, own_setOff h.pend (a := ⟨z, i, none⟩) (off_box h.pend hz n2) u, own_setOff h.tlb (a := ⟨z, i, none⟩) (off_box h.tlb hz n3) u, own_setOff h.wc (a := ⟨z, i, none⟩) (off_box h.wc hz n4) u⟩
theorem OwnX.setBox4 {w : World} {base p z T : Nat} {cs : Array Value} {v0 v1 v2 v3 v4 : Value} {m : SM} {ls : List Int} (h : OwnX base w p v0 v1 v2 v3 v4 m ls) (hz : w.heap[z]? = some (.cells cs T)) (hT : ¬ inX T) (u0 u1 u2 u3 : Value) :
    OwnX base ((((w.setCell ⟨z, 0, none⟩ u0).setCell ⟨z, 1, none⟩ u1).setCell ⟨z, 2, none⟩ u2).setCell ⟨z, 3, none⟩ u3) p v0 v1 v2 v3 v4 m ls :=
  (((h.setBox hz hT u0).setBox (st_set hz 0 u0) hT u1).setBox (st_set (st_set hz 0 u0) 1 u1) hT u2).setBox (st_set (st_set (st_set hz 0 u0) 1 u1) 2 u2) hT u3
end Go.Proofs.Ytemfnbcebgflmaa.Kinds
