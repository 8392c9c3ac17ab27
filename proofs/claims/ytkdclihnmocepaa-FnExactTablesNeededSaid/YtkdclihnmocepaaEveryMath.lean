/- Plain facts on the list of what spans say of every page, and on its cells. Nothing of the program's functions. -/
import Derived.Test.YtkdclihnmocepaaSpanMath
import Derived.Test.YtkdclihnmocepaaBig
namespace Go.Proofs.Ytkdclihnmocepaa.Mmu
open Go.RowKit Go.Proofs.Ytkdclihnmocepaa.Base Go.Proofs.Ytkdclihnmocepaa.Kinds
set_option linter.unusedVariables false
set_option linter.unusedSimpArgs false

theorem ValidS.take {l : List SSpan} (h : ValidS l) (k : Nat) : ValidS (l.take k) := by
  have g : ∀ (i : Nat) a, (l.take k)[i]? = some a → l[i]? = some a := by
    intro i a ha
    rw [List.getElem?_take] at ha
    split at ha
    · exact ha
    · cases ha
  refine ⟨fun i a hi ha => h.ok (g i a ha), fun i a b hi ha hb => ?_⟩
  exact h.2 i a b (List.getElem?_eq_some_iff.1 (g _ b hb)).1 (g _ a ha) (g _ b hb)
theorem atS_take_hit {l : List SSpan} (h : ValidS l) {k : Nat} {x : SSpan} (hx : l[k]? = some x) {p : Int} (hp : hasS x p) : atS (l.take (k + 1)) p = hitS x p :=
  atS_hit (h.take (k + 1)) (i := k) (by rw [List.getElem?_take, if_pos (by omega)]; exact hx) hp
theorem atS_take_not {l : List SSpan} {k : Nat} {x : SSpan} (hx : l[k]? = some x) {p : Int} (hp : ¬ hasS x p) : atS (l.take (k + 1)) p = atS (l.take k) p := by
  unfold atS
  rw [take_snoc hx, List.find?_append]
  simp [hp]
/-- Within the k-th span, d pages done. -/
def midH (l : List SSpan) (k : Nat) (x : SSpan) (d : Nat) : List SHit := (List.range 4096).map (fun (p : Nat) => if x.Page ≤ (p : Int) ∧ (p : Int) < x.Page + (d : Int) then hitS x (p : Int) else atS (l.take k) (p : Int))
theorem midH_len (l : List SSpan) (k : Nat) (x : SSpan) (d : Nat) : (midH l k x d).length = 4096 := by simp [midH]
theorem midH_zero (l : List SSpan) (k : Nat) (x : SSpan) : midH l k x 0 = hitsS (l.take k) := by
  unfold midH hitsS
  apply List.map_congr_left
  intro p _
  rw [if_neg (by omega)]
theorem midH_step (l : List SSpan) (k : Nat) (x : SSpan) (d p : Nat) (hp : x.Page + (d : Int) = (p : Int)) (h4 : p < 4096) : (midH l k x d).set p (hitS x (p : Int)) = midH l k x (d + 1) := by
  apply List.ext_getElem?
  intro i
  rw [List.getElem?_set, midH_len]
  unfold midH
  by_cases hi : i < 4096
  · rw [List.getElem?_map, List.getElem?_map, List.getElem?_range hi]
    simp only [Option.map_some]
    by_cases e : p = i
    · subst e
      rw [if_pos rfl, if_pos h4, if_pos (by omega)]
    · rw [if_neg e]
      by_cases c : x.Page ≤ (i : Int) ∧ (i : Int) < x.Page + (d : Int)
      · rw [if_pos c, if_pos (by omega)]
      · rw [if_neg c, if_neg (by omega)]
  · rw [if_neg (by omega), List.getElem?_eq_none (by simp; omega), List.getElem?_eq_none (by simp; omega)]
theorem midH_end {l : List SSpan} (h : ValidS l) {k : Nat} {x : SSpan} (hx : l[k]? = some x) (d : Nat) (hd : (d : Int) = x.Count) : midH l k x d = hitsS (l.take (k + 1)) := by
  unfold midH hitsS
  apply List.map_congr_left
  intro p _
  by_cases c : x.Page ≤ (p : Int) ∧ (p : Int) < x.Page + (d : Int)
  · rw [if_pos c, atS_take_hit h hx (by unfold hasS; omega)]
  · rw [if_neg c, atS_take_not hx (by unfold hasS; omega)]
theorem hitsS_nil : hitsS [] = List.replicate 4096 noHit := by
  apply List.ext_getElem?
  intro i
  unfold hitsS
  rw [List.getElem?_map, List.getElem?_replicate]
  by_cases hi : i < 4096
  · rw [List.getElem?_range hi, if_pos hi]; rfl
  · rw [if_neg hi, List.getElem?_eq_none (by simp; omega)]; rfl
/-- The cells of a list of hits. -/
def hitCells (H : List SHit) : Array Value := (H.flatMap SHit.enc).toArray
theorem hitCells_size (H : List SHit) : (hitCells H).size = H.length * 4 := by unfold hitCells; rw [List.size_toArray, flat_len SHit.len]
theorem hits_set (H : List SHit) (p : Nat) (hp : p < H.length) (h : SHit) : ((((hitCells H).setIfInBounds (p * 4) (.int .i64 h.Kind)).setIfInBounds (p * 4 + 1) (.int .i64 h.Out)).setIfInBounds (p * 4 + 2) (.int .i64 h.Perm)).setIfInBounds (p * 4 + 3) (.int .i64 h.Size) = hitCells (H.set p h) := by
  unfold hitCells
  obtain ⟨P, S, hP, hf, hs⟩ := flat_parts SHit.len H p _ (List.getElem?_eq_getElem hp)
  rw [hf, hs h]
  generalize H[p] = g
  obtain ⟨g0, g1, g2, g3⟩ := g
  obtain ⟨h0, h1, h2, h3⟩ := h
  simp only [List.setIfInBounds_toArray]
  congr 1
  rw [← hP]
  have e : ∀ (X : List Value) (i : Nat) (hi : i < X.length) (u : Value), (P ++ (X ++ S)).set (P.length + i) u = P ++ (X.set i u ++ S) := fun X i hi u => set_mid hi u
  have e0 := e (SHit.enc ⟨g0, g1, g2, g3⟩) 0 (by simp [SHit.enc]) (.int .i64 h0)
  rw [Nat.add_zero] at e0
  rw [e0, e _ 1 (by simp [SHit.enc]), e _ 2 (by simp [SHit.enc]), e _ 3 (by simp [SHit.enc])]
  rfl
theorem hitCells_get (H : List SHit) (p : Nat) (h : SHit) (hp : H[p]? = some h) (j : Nat) (u : Value) (hu : (SHit.enc h)[j]? = some u) : (hitCells H)[p * 4 + j]? = some u := by
  unfold hitCells
  rw [List.getElem?_toArray]
  exact Base.flat_get SHit.len H p h hp j u hu
theorem hitCells_one (H : List SHit) : (hitCells H).all (·.oneCell') = true := by
  refine Array.all_eq_true_iff_forall_mem.2 (fun v hv => ?_)
  unfold hitCells at hv
  obtain ⟨h, _, hu⟩ := List.mem_flatMap.1 (by simpa using hv)
  exact SHit.one h v hu
/-- The cells of a block of hits. -/
theorem hit_cells4 {w : World} {b T p : Nat} {H : List SHit} {g : SHit} (h : w.heap[b]? = some (.cells (hitCells H) T)) (hp : H[p]? = some g) :
    w.cell? ⟨b, p * 4, none⟩ = some (.int .i64 g.Kind) ∧ w.cell? ⟨b, p * 4 + 1, none⟩ = some (.int .i64 g.Out) ∧ w.cell? ⟨b, p * 4 + 2, none⟩ = some (.int .i64 g.Perm) ∧ w.cell? ⟨b, p * 4 + 3, none⟩ = some (.int .i64 g.Size) := by
  have e : ∀ j u, (SHit.enc g)[j]? = some u → w.cell? ⟨b, p * 4 + j, none⟩ = some u := by
    intro j u hu
    have := hitCells_get H p g hp j u hu
    simp [World.cell?, h, this]
  exact ⟨e 0 _ rfl, e 1 _ rfl, e 2 _ rfl, e 3 _ rfl⟩
theorem St.setHit {w0 w : World} {y0 : Nat × Array Value × Nat} {b T : Nat} {H : List SHit} {l : List (Nat × Array Value × Nat)} (h : St w0 (y0 :: (b, hitCells H, T) :: l) w) (p : Nat) (hp : p < H.length) (x : SHit) :
    St w0 (y0 :: (b, hitCells (H.set p x), T) :: l) ((((w.setCell ⟨b, p * 4, none⟩ (.int .i64 x.Kind)).setCell ⟨b, p * 4 + 1, none⟩ (.int .i64 x.Out)).setCell ⟨b, p * 4 + 2, none⟩ (.int .i64 x.Perm)).setCell ⟨b, p * 4 + 3, none⟩ (.int .i64 x.Size)) := by
  rw [← hits_set H p hp x]
  exact St.set (l1 := [y0]) (St.set (l1 := [y0]) (St.set (l1 := [y0]) (St.set (l1 := [y0]) h (p * 4) _) (p * 4 + 1) _) (p * 4 + 2) _) (p * 4 + 3) _
theorem St.setRow0 {w0 w : World} {b T : Nat} {c c' : Array Value} {l : List (Nat × Array Value × Nat)} (h : St w0 ((b, c, T) :: l) w) : St w0 ((b, c', T) :: l) (w.setRow b c') := by
  have hp := List.pairwise_cons.1 h.ord
  refine ⟨⟨h.b.os, h.b.tape, h.b.output, by simpa using h.b.size, fun k hk => ?_⟩, fun x hx => ?_, fun x hx => ?_, List.Pairwise.cons hp.1 hp.2⟩
  · have := h.up _ (List.mem_cons_self ..)
    simp only at this
    rw [setRow_other w b k c' (by omega)]
    exact h.b.block k hk
  · rcases List.mem_cons.1 hx with rfl | hx
    · exact setRow_heap w b c c' T _ h.head
    · have : x.1 < b := hp.1 x hx
      rw [setRow_other w b x.1 c' (by omega)]
      exact h.blk x (List.mem_cons_of_mem _ hx)
  · rcases List.mem_cons.1 hx with rfl | hx
    · exact h.up (b, c, T) (List.mem_cons_self ..)
    · exact h.up x (List.mem_cons_of_mem _ hx)
end Go.Proofs.Ytkdclihnmocepaa.Mmu
