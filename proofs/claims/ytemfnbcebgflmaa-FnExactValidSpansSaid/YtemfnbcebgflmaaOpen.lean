/- Arguments opened: a slice of structs of one-cell fields, read as a row of a kind; generic, nothing of the program's functions. -/
import Derived.Deep.Slices
import Derived.Deep.Fields
import Derived.ChangeSame
import Derived.ChangeArms
import Derived.Lib.SmallJoins
import Derived.Test.YtemfnbcebgflmaaWWords
namespace Go.Proofs.Ytemfnbcebgflmaa.Open
open Go.ChangeShapes Go.WideShapes Go.Deep Go.RowKit Go.Joins Go.Proofs.YtemfnbcebgflmaaW.PrintWords

section
variable {H : Type} {enc : TypeId × Value → H} {P : Program} {w : World} {base : Nat} {spare : Nat → Bool} {held : Bool}
theorem open_slice_fields {t e : TypeId} {fs : Array Field} {fuel : Nat} {cs : List Value} {x : DataW H × List MemPlace} (ht : P.underlying t = some (.slice e)) (he : P.underlying e = some (.struct fs))
    (hone : oneCellFields P fs = true) (hC : P.cellsOf e = fs.size) (h : DataW.trod enc P w base spare held fuel t cs = some x) :
    (cs = [.slice none 0 0] ∧ x = (.nil, [])) ∨
    ∃ (a : Addr) (len cap m : Nat) (D : Nat → DataW H) (Pl : Nat → List MemPlace), cs = [.slice (some a) len cap] ∧ base ≤ a.block ∧ len ≤ cap ∧ cap ≤ maxLen ∧ m = (if spare a.block then cap else len) ∧
      x = (.slice ((List.range len).map D) ((List.range (m - len)).map fun j => D (len + j)), MemPlace.row a (m * fs.size) ++ (List.range m).flatMap Pl) ∧
      ∀ i, i < m → ∃ (ys : List (DataW H × List MemPlace)) (n : Nat), D i = .agg (ys.map (·.1)) ∧ Pl i = ys.flatMap (·.2) ∧ ys.length = fs.size ∧
        ∀ (j : Nat) (f : Field), fs[j]? = some f → ∃ (v : Value) (y : DataW H × List MemPlace), w.cell? (a.add (i * fs.size + j)) = some v ∧ ys[j]? = some y ∧ DataW.trod enc P w base spare held n f.type [v] = some y := by
  rcases open_slice ht h with h0 | ⟨a, len, cap, m, n, D, Pl, hcs, hb, hl, hm, hmm, hx, hi⟩
  · exact .inl h0
  · refine .inr ⟨a, len, cap, m, D, Pl, hcs, hb, hl, hm, hmm, by rw [hC] at hx; exact hx, fun i him => ?_⟩
    obtain ⟨cs', hc, ht'⟩ := hi i him
    rw [hC] at hc
    obtain ⟨ys, n', hn', hy, hlen, hyl, hf⟩ := DataW.trod_struct he ht'
    obtain ⟨_, hcl, hat⟩ := World.cells?_some hc
    simp only [Prod.mk.injEq] at hy
    refine ⟨ys, n', hy.1, hy.2, hyl, fun j f hj => ?_⟩
    obtain ⟨ho, hk⟩ := hone_of hone j f hj
    have hjl : j < fs.size := (Array.getElem?_eq_some_iff.1 hj).1
    have hcell := hat j hjl
    have hv : cs'[j]? = some (cs'[j]'(by omega)) := List.getElem?_eq_getElem (by omega)
    have h1 := hf j f hj
    rw [ho, hk] at h1
    have hone' : (cs'.drop j).take 1 = [cs'[j]'(by omega)] := by
      rw [List.drop_eq_getElem_cons (by omega)]
      rfl
    rw [hone'] at h1
    have hys : ys[j]? = some (ys[j]'(by omega)) := List.getElem?_eq_getElem (by omega)
    refine ⟨_, _, ?_, hys, h1.trans hys⟩
    rw [← Go.Deep.add_add, hcell, hv]
end

/-- A row is read if each of its elements is. -/
theorem row_of {α : Type} {d : Kd α} {w : World} {ad : Addr} {Q : α → Prop} (n : Nat) (hn : n ≤ 9223372036854775807)
    (h : ∀ i, i < n → ∃ p c, c.length = d.sz ∧ d.K w p c ∧ (∀ j u, c[j]? = some u → w.cell? (ad.add (i * d.sz + j)) = some u) ∧ Q p) :
    ∃ ps : List α, ps.length = n ∧ Kd.C d w (some ad) n ps ∧ ∀ p ∈ ps, Q p := by
  have key : ∀ m, m ≤ n → ∃ ps : List α, ps.length = m ∧ (∀ i p, ps[i]? = some p → ∃ c, c.length = d.sz ∧ d.K w p c ∧ ∀ j u, c[j]? = some u → w.cell? (ad.add (i * d.sz + j)) = some u) ∧ ∀ p ∈ ps, Q p := by
    intro m
    induction m with
    | zero => exact fun _ => ⟨[], rfl, fun i p hp => by simp at hp, fun p hp => by simp at hp⟩
    | succ m ih =>
      intro hm
      obtain ⟨ps, hl, hr, hq⟩ := ih (by omega)
      obtain ⟨p, c, h1, h2, h3, h4⟩ := h m (by omega)
      refine ⟨ps ++ [p], by simp [hl], fun i q hi => ?_, fun q hq' => ?_⟩
      · by_cases hlt : i < ps.length
        · rw [List.getElem?_append_left hlt] at hi
          exact hr i q hi
        · have hi' : i = ps.length := by
            have := (List.getElem?_eq_some_iff.1 hi).1
            simp at this; omega
          subst hi'
          simp at hi
          subst hi
          rw [hl]
          exact ⟨c, h1, h2, h3⟩
      · rcases List.mem_append.1 hq' with hq' | hq'
        · exact hq q hq'
        · simp at hq'; subst hq'; exact h4
  obtain ⟨ps, hl, hr, hq⟩ := key n (Nat.le_refl _)
  exact ⟨ps, hl, ⟨hl, hn, fun _ => ⟨ad, rfl, hr⟩⟩, hq⟩

theorem row_nil {α : Type} (d : Kd α) (w : World) : Kd.C d w none 0 [] := ⟨rfl, by decide, fun h => by omega⟩

end Go.Proofs.Ytemfnbcebgflmaa.Open
