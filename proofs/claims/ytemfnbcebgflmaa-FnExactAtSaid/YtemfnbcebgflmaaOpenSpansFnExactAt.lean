/- An argument that is a list of spans of the law, opened: its cells read as a row of the kind of the printed functions of the law FnExactAt. -/
import Derived.Test.YtemfnbcebgflmaaRows
import Derived.Test.YtemfnbcebgflmaaOpen
import Derived.Test.YtemfnbcebgflmaaSpansFnExactAt
namespace Go.Proofs.Ytemfnbcebgflmaa.OpenSpansFnExactAt
open Go.ChangeShapes Go.WideShapes Go.Deep Go.RowKit Go.Joins Go.Proofs.YtemfnbcebgflmaaW.PrintWords Go.Proofs.Ytemfnbcebgflmaa.PFnExactAt Go.Proofs.Ytemfnbcebgflmaa.Open

theorem spanStruct : ∃ fs : Array Field, Try.prog.underlying 95 = some (.struct fs) ∧ oneCellFields Try.prog fs = true ∧ Try.prog.cellsOf 95 = fs.size ∧ fs.size = 5 ∧ fs.map (·.type) = #[3, 3, 3, 3, 4] :=
  ⟨_, Try.underlying95, by kernel_rfl, by kernel_rfl, rfl, by simp⟩

set_option maxRecDepth 100000 in
theorem open_spans {H : Type} {enc : TypeId × Value → H} {w : World} {base : Nat} {held : Bool} {r : Reach} {b0 : Nat} {v : Value} {d : DataW H} {p : List MemPlace}
    (hv : Value.okWide Try.prog w r b0 29 v) (h : DataW.Trod enc Try.prog w base (fun _ => true) held 29 v d p) :
    ∃ (A : Option Addr) (c : Nat) (l : List S95), v = .slice A l.length c ∧ Kd.C k95 w A l.length l ∧ l.length ≤ c := by
  obtain ⟨a, len, cap, rfl⟩ := okWide_slice Try.underlying29 hv
  obtain ⟨fs, hs, hone, hC, hsz, hty⟩ := spanStruct
  obtain ⟨fuel, hf⟩ := h
  rcases open_slice_fields Try.underlying29 hs hone hC hf with ⟨hcs, _⟩ | ⟨x, l, c, m, D, Pl, hcs, _, hl, hm, hmm, _, hi⟩
  · simp [Value.cells] at hcs
    obtain ⟨rfl, rfl, rfl⟩ := hcs
    exact ⟨none, 0, [], rfl, row_nil _ _, Nat.le_refl _⟩
  · simp [Value.cells] at hcs
    obtain ⟨rfl, rfl, rfl⟩ := hcs
    simp only [if_true] at hmm
    subst hmm
    unfold maxLen at hm
    have ht : ∀ j, fs[j]?.map (fun f : Field => f.type) = (#[3, 3, 3, 3, 4] : Array Nat)[j]? := fun j => by rw [← hty]; exact (Array.getElem?_map ..).symm
    obtain ⟨ps, hpl, hpr, _⟩ := row_of (d := k95) (w := w) (ad := x) (Q := fun _ => True) len (by omega) (fun i hil => by
      obtain ⟨ys, n, _, _, _, hfld⟩ := hi i (by omega)
      have get : ∀ (j : Nat) (t : Nat), (#[3, 3, 3, 3, 4] : Array Nat)[j]? = some t → ∃ u y, w.cell? (x.add (i * 5 + j)) = some u ∧ DataW.trod enc Try.prog w base (fun _ => true) held n t [u] = some y := by
        intro j t hj
        have h1 := ht j
        rw [hj] at h1
        obtain ⟨f, hf1, hf2⟩ := Option.map_eq_some_iff.1 h1
        obtain ⟨u, y, h2, _, h3⟩ := hfld j f hf1
        rw [hsz] at h2
        rw [hf2] at h3
        exact ⟨u, y, h2, h3⟩
      obtain ⟨u0, y0, c0, e0⟩ := get 0 _ rfl
      obtain ⟨u1, y1, c1, e1⟩ := get 1 _ rfl
      obtain ⟨u2, y2, c2, e2⟩ := get 2 _ rfl
      obtain ⟨u3, y3, c3, e3⟩ := get 3 _ rfl
      obtain ⟨u4, y4, c4, e4⟩ := get 4 _ rfl
      obtain ⟨n0, q0, _, _⟩ := DataW.trod_int Try.underlying3 e0
      obtain ⟨n1, q1, _, _⟩ := DataW.trod_int Try.underlying3 e1
      obtain ⟨n2, q2, _, _⟩ := DataW.trod_int Try.underlying3 e2
      obtain ⟨n3, q3, _, _⟩ := DataW.trod_int Try.underlying3 e3
      obtain ⟨b4, q4, _⟩ := DataW.trod_bool Try.underlying4 e4
      simp only [List.cons.injEq, and_true] at q0 q1 q2 q3 q4
      subst q0 q1 q2 q3 q4
      refine ⟨⟨n0, n1, n2, n3, b4⟩, _, rfl, k95_mk w _, ?_, trivial⟩
      intro j u hj
      match j, hj with
      | 0, hj => simp at hj; subst hj; exact c0
      | 1, hj => simp at hj; subst hj; exact c1
      | 2, hj => simp at hj; subst hj; exact c2
      | 3, hj => simp at hj; subst hj; exact c3
      | 4, hj => simp at hj; subst hj; exact c4
      | j + 5, hj => simp at hj)
    subst hpl
    exact ⟨some x, _, ps, rfl, hpr, hl⟩

end Go.Proofs.Ytemfnbcebgflmaa.OpenSpansFnExactAt
