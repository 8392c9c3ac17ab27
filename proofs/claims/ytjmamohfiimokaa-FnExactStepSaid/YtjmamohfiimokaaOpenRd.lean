/- A machine of the law, opened: its four lists read. Nothing of the program's functions. -/
import Derived.Test.YtjmamohfiimokaaRows
import Derived.Deep.Slices
import Derived.Deep.Fields
import Derived.ChangeSame
import Derived.ChangeArms
import Derived.ChangeSlices
import Derived.Lib.SmallJoins
import Derived.Test.YtjmamohfiimokaaGround
namespace Go.Proofs.Ytjmamohfiimokaa.OpenRd
set_option linter.unusedVariables false
set_option linter.unusedSimpArgs false
open Go.ChangeShapes Go.WideShapes Go.Deep Go.RowKit Go.Joins Go.Proofs.Ytjmamohfiimokaa.Base Go.Proofs.Ytjmamohfiimokaa.Kinds

section
variable {H : Type} {enc : TypeId × Value → H} {P : Program} {w : World} {base : Nat} {spare : Nat → Bool} {held : Bool}
theorem open_slice_fields {t e : TypeId} {fs : Array Field} {fuel : Nat} {cs : List Value} {x : DataW H × List MemPlace} (ht : P.underlying t = some (.slice e)) (he : P.underlying e = some (.struct fs))
    (hone : oneCellFields P fs = true) (hC : P.cellsOf e = fs.size) (h : DataW.trod enc P w base spare held fuel t cs = some x) :
    (cs = [.slice none 0 0] ∧ x = (.nil, [])) ∨
    ∃ (a : Addr) (len cap m : Nat) (D : Nat → DataW H) (Pl : Nat → List MemPlace), cs = [.slice (some a) len cap] ∧ base ≤ a.block ∧ len ≤ cap ∧ cap ≤ maxLen ∧ m = (if spare a.block then cap else len) ∧
      x = (.slice ((List.range len).map D) ((List.range (m - len)).map fun j => D (len + j)), MemPlace.row a (m * fs.size) ++ (List.range m).flatMap Pl) ∧
      ∀ i, i < m → ∃ (ys : List (DataW H × List MemPlace)) (n : Nat), D i = .agg (ys.map (·.1)) ∧ Pl i = ys.flatMap (·.2) ∧ ys.length = fs.size ∧
        ∀ (j : Nat) (f : Field), fs[j]? = some f → ∃ (v : Value) (y : DataW H × List MemPlace), w.cell? (a.add (i * fs.size + j)) = some v ∧ ys[j]? = some y ∧ DataW.trod enc P w base spare held n f.type [v] = some y := by
  rcases open_slice ht h with h0 | ⟨a, len, cap, m, n, D, Pl, hcs, hb, hl, hm, hmm, hx, hi⟩
  · exact .inl h0
  · refine .inr ⟨a, len, cap, m, D, Pl, hcs, hb, hl, hm, hmm, by rw [hC] at hx; exact hx, fun i him => ?_⟩
    obtain ⟨cs', hc, ht'⟩ := hi i him
    rw [hC] at hc
    obtain ⟨ys, n', hn', hy, hlen, hyl, hf⟩ := DataW.trod_struct he ht'
    obtain ⟨_, hcl, hat⟩ := World.cells?_some hc
    simp only [Prod.mk.injEq] at hy
    refine ⟨ys, n', hy.1, hy.2, hyl, fun j f hj => ?_⟩
    obtain ⟨ho, hk⟩ := hone_of hone j f hj
    have hjl : j < fs.size := (Array.getElem?_eq_some_iff.1 hj).1
    have hcell := hat j hjl
    have hv : cs'[j]? = some (cs'[j]'(by omega)) := List.getElem?_eq_getElem (by omega)
    have h1 := hf j f hj
    rw [ho, hk] at h1
    have hone' : (cs'.drop j).take 1 = [cs'[j]'(by omega)] := by
      rw [List.drop_eq_getElem_cons (by omega)]
      rfl
    rw [hone'] at h1
    have hys : ys[j]? = some (ys[j]'(by omega)) := List.getElem?_eq_getElem (by omega)
    refine ⟨_, _, ?_, hys, h1.trans hys⟩
    rw [← Go.Deep.add_add, hcell, hv]
end

section
variable {H : Type} {enc : TypeId × Value → H} {P : Program} {w : World} {base : Nat} {spare : Nat → Bool} {held : Bool}

/-- A struct's cells, field by field. -/
theorem struct_fields {t : TypeId} {fs : Array Field} {fuel : Nat} {cs : List Value} {x : DataW H × List MemPlace} (hs : P.underlying t = some (.struct fs)) (h : DataW.trod enc P w base spare held fuel t cs = some x) :
    cs.length = P.cellsOf t ∧ ∀ (j : Nat) (f : Field), fs[j]? = some f → ∃ n y, DataW.trod enc P w base spare held n f.type ((cs.drop f.offset).take (P.cellsOf f.type)) = some y := by
  obtain ⟨xs, n, _, _, hl, hlen, hg⟩ := DataW.trod_struct hs h
  refine ⟨hl, fun j f hj => ?_⟩
  have hjl : j < fs.size := (Array.getElem?_eq_some_iff.1 hj).1
  have h1 := hg j f hj
  rw [List.getElem?_eq_getElem (show j < xs.length by omega)] at h1
  exact ⟨n, _, h1⟩

/-- A struct by value, field by field. -/
theorem open_struct {r : Reach} {b0 : Nat} {t : TypeId} {fs : Array Field} {v : Value} {d : DataW H} {p : List MemPlace} (hs : P.underlying t = some (.struct fs)) (hv : Value.okWide P w r b0 t v) (h : DataW.Trod enc P w base spare held t v d p) :
    ∃ cs : List Value, v = .agg cs.toArray ∧ cs.length = P.cellsOf t ∧ ∀ (j : Nat) (f : Field), fs[j]? = some f → ∃ n y, DataW.trod enc P w base spare held n f.type ((cs.drop f.offset).take (P.cellsOf f.type)) = some y := by
  obtain ⟨cs, rfl, hsz⟩ := okWide_struct hs hv
  obtain ⟨fuel, hf⟩ := h
  obtain ⟨hl, hg⟩ := struct_fields hs hf
  exact ⟨cs.toList, by simp, by simpa [Value.cells] using hl, by simpa [Value.cells] using hg⟩

end

/-- A row is read if each of its elements is. -/
theorem rd_row {α : Type} {enc : α → List Value} {sz : Nat} {w : World} {ad : Addr} {Q : α → Prop} (n cap : Nat) (hl : n ≤ cap) (hm : cap ≤ maxLen)
    (h : ∀ i, i < n → ∃ x, (∀ j u, (enc x)[j]? = some u → w.cell? (ad.add (i * sz + j)) = some u) ∧ Q x) :
    ∃ l : List α, Rd enc sz w (.slice (some ad) n cap) l ∧ ∀ x ∈ l, Q x := by
  obtain ⟨f, hf⟩ := Classical.axiomOfChoice (fun i : Fin n => h i.1 i.2)
  refine ⟨List.ofFn f, ⟨some ad, cap, by simp, by simpa using hl, hm, fun i x hx => ⟨ad, rfl, ?_⟩⟩, fun x hx => ?_⟩
  · have hi : i < n := by have := (List.getElem?_eq_some_iff.1 hx).1; simpa using this
    have : x = f ⟨i, hi⟩ := by
      rw [List.getElem?_ofFn, dif_pos hi] at hx
      exact (Option.some.inj hx).symm
    rw [this]
    exact (hf ⟨i, hi⟩).1
  · obtain ⟨i, rfl⟩ := (List.mem_ofFn).1 hx
    exact (hf i).2
/-- The words of a memory. -/
theorem openWords {H : Type} {enc : TypeId × Value → H} {w : World} {base : Nat} {held : Bool} {fuel : Nat} {c0 : Value} {y : DataW H × List MemPlace}
    (h : DataW.trod enc Try.prog w base (fun _ => true) held fuel 22 [c0] = some y) : ∃ l : List Int, Rd wEnc 1 w c0 l ∧ ∀ x ∈ l, 0 ≤ x ∧ x < 18446744073709551616 := by
  rcases open_ints Try.underlying22 Try.underlying30 (by kernel_rfl) h with ⟨hcs, _⟩ | ⟨a, len, cap, zs, hcs, _, hl, hm, hz, _, hcell, hwf⟩
  · simp only [List.cons.injEq, and_true] at hcs
    subst hcs
    exact ⟨[], Rd.nil _ _ _, by simp⟩
  · simp only [List.cons.injEq, and_true] at hcs
    subst hcs
    simp only [if_true] at hz
    refine rd_row len cap hl hm (fun i hi => ⟨zs.getD i 0, fun j u hj => ?_, ?_⟩)
    · match j, hj with
      | 0, hj =>
        simp [wEnc] at hj; subst hj
        have := hcell i (by omega)
        simpa using this
      | j + 1, hj => simp [wEnc] at hj
    · have := hwf (zs.getD i 0) (by
        rw [List.getD_eq_getElem?_getD, List.getElem?_eq_getElem (by omega)]
        exact List.getElem_mem _)
      simp only [Lit.wf, IntKind.min, IntKind.max, IntKind.signed, IntKind.bits] at this
      simp at this
      rw [List.getD_eq_getElem?_getD]
      omega

theorem structWrite : ∃ fs : Array Field, Try.prog.underlying 188 = some (.struct fs) ∧ oneCellFields Try.prog fs = true ∧ Try.prog.cellsOf 188 = fs.size ∧ fs.size = 2 ∧ fs.map (·.type) = #[3, 30] :=
  ⟨_, Try.underlying188, by kernel_rfl, by kernel_rfl, rfl, by simp⟩
theorem openWriteS {H : Type} {enc : TypeId × Value → H} {w : World} {base : Nat} {held : Bool} {fuel : Nat} {c0 : Value} {y : DataW H × List MemPlace}
    (h : DataW.trod enc Try.prog w base (fun _ => true) held fuel 25 [c0] = some y) : ∃ l : List SWrite, Rd SWrite.enc 2 w c0 l ∧ ∀ e ∈ l, 0 ≤ e.Word ∧ e.Word < 18446744073709551616 := by
  obtain ⟨fs, hs, hone, hC, hsz, hty⟩ := structWrite
  rcases open_slice_fields Try.underlying25 hs hone hC h with ⟨hcs, _⟩ | ⟨x, len, c, m, D, Pl, hcs, _, hl, hm, hmm, _, hi⟩
  · simp only [List.cons.injEq, and_true] at hcs
    subst hcs
    exact ⟨[], Rd.nil _ _ _, by simp⟩
  · simp only [List.cons.injEq, and_true] at hcs
    subst hcs
    simp only [if_true] at hmm
    subst hmm
    have ht : ∀ j, fs[j]?.map (fun f : Field => f.type) = (#[3, 30] : Array Nat)[j]? := fun j => by rw [← hty]; exact (Array.getElem?_map ..).symm
    obtain ⟨l, hl1, hl2⟩ := rd_row (enc := SWrite.enc) (sz := 2) (w := w) (ad := x) (Q := fun e => 0 ≤ e.Word ∧ e.Word < 18446744073709551616) len m hl hm (fun i hil => by
      obtain ⟨ys, n, _, _, _, hfld⟩ := hi i (by omega)
      have get : ∀ (j : Nat) (t : Nat), (#[3, 30] : Array Nat)[j]? = some t → ∃ u y, w.cell? (x.add (i * 2 + j)) = some u ∧ DataW.trod enc Try.prog w base (fun _ => true) held n t [u] = some y := by
        intro j t hj
        have h1 := ht j
        rw [hj] at h1
        obtain ⟨f, hf1, hf2⟩ := Option.map_eq_some_iff.1 h1
        obtain ⟨u, y, h2, _, h3⟩ := hfld j f hf1
        rw [hsz] at h2
        rw [hf2] at h3
        exact ⟨u, y, h2, h3⟩
      obtain ⟨u0, y0, c0, e0⟩ := get 0 _ rfl
      obtain ⟨u1, y1, c1, e1⟩ := get 1 _ rfl
      obtain ⟨b0, q0, _, z0⟩ := DataW.trod_int Try.underlying3 e0
      obtain ⟨b1, q1, _, z1⟩ := DataW.trod_int Try.underlying30 e1
      simp only [List.cons.injEq, and_true] at q0 q1
      subst q0 q1
      refine ⟨⟨b0, b1⟩, ?_, ?_⟩
      · intro j u hj
        match j, hj with
        | 0, hj => simp [SWrite.enc] at hj; subst hj; exact c0
        | 1, hj => simp [SWrite.enc] at hj; subst hj; exact c1
        | j + 2, hj => simp [SWrite.enc] at hj
      · simp [Lit.wf, IntKind.min, IntKind.max, IntKind.signed, IntKind.bits] at z1
        show _ ∧ _
        simp only
        omega)
    exact ⟨l, hl1, hl2⟩

theorem structTlb : ∃ fs : Array Field, Try.prog.underlying 190 = some (.struct fs) ∧ oneCellFields Try.prog fs = true ∧ Try.prog.cellsOf 190 = fs.size ∧ fs.size = 5 ∧ fs.map (·.type) = #[3, 3, 3, 3, 4] :=
  ⟨_, Try.underlying190, by kernel_rfl, by kernel_rfl, rfl, by simp⟩
theorem openTlbS {H : Type} {enc : TypeId × Value → H} {w : World} {base : Nat} {held : Bool} {fuel : Nat} {c0 : Value} {y : DataW H × List MemPlace}
    (h : DataW.trod enc Try.prog w base (fun _ => true) held fuel 26 [c0] = some y) : ∃ l : List STlb, Rd STlb.enc 5 w c0 l ∧ ∀ e ∈ l, True := by
  obtain ⟨fs, hs, hone, hC, hsz, hty⟩ := structTlb
  rcases open_slice_fields Try.underlying26 hs hone hC h with ⟨hcs, _⟩ | ⟨x, len, c, m, D, Pl, hcs, _, hl, hm, hmm, _, hi⟩
  · simp only [List.cons.injEq, and_true] at hcs
    subst hcs
    exact ⟨[], Rd.nil _ _ _, by simp⟩
  · simp only [List.cons.injEq, and_true] at hcs
    subst hcs
    simp only [if_true] at hmm
    subst hmm
    have ht : ∀ j, fs[j]?.map (fun f : Field => f.type) = (#[3, 3, 3, 3, 4] : Array Nat)[j]? := fun j => by rw [← hty]; exact (Array.getElem?_map ..).symm
    obtain ⟨l, hl1, hl2⟩ := rd_row (enc := STlb.enc) (sz := 5) (w := w) (ad := x) (Q := fun e => True) len m hl hm (fun i hil => by
      obtain ⟨ys, n, _, _, _, hfld⟩ := hi i (by omega)
      have get : ∀ (j : Nat) (t : Nat), (#[3, 3, 3, 3, 4] : Array Nat)[j]? = some t → ∃ u y, w.cell? (x.add (i * 5 + j)) = some u ∧ DataW.trod enc Try.prog w base (fun _ => true) held n t [u] = some y := by
        intro j t hj
        have h1 := ht j
        rw [hj] at h1
        obtain ⟨f, hf1, hf2⟩ := Option.map_eq_some_iff.1 h1
        obtain ⟨u, y, h2, _, h3⟩ := hfld j f hf1
        rw [hsz] at h2
        rw [hf2] at h3
        exact ⟨u, y, h2, h3⟩
      obtain ⟨u0, y0, c0, e0⟩ := get 0 _ rfl
      obtain ⟨u1, y1, c1, e1⟩ := get 1 _ rfl
      obtain ⟨u2, y2, c2, e2⟩ := get 2 _ rfl
      obtain ⟨u3, y3, c3, e3⟩ := get 3 _ rfl
      obtain ⟨u4, y4, c4, e4⟩ := get 4 _ rfl
      obtain ⟨b0, q0, _, z0⟩ := DataW.trod_int Try.underlying3 e0
      obtain ⟨b1, q1, _, z1⟩ := DataW.trod_int Try.underlying3 e1
      obtain ⟨b2, q2, _, z2⟩ := DataW.trod_int Try.underlying3 e2
      obtain ⟨b3, q3, _, z3⟩ := DataW.trod_int Try.underlying3 e3
      obtain ⟨b4, q4, _⟩ := DataW.trod_bool Try.underlying4 e4
      simp only [List.cons.injEq, and_true] at q0 q1 q2 q3 q4
      subst q0 q1 q2 q3 q4
      refine ⟨⟨b0, b1, b2, b3, b4⟩, ?_, ?_⟩
      · intro j u hj
        match j, hj with
        | 0, hj => simp [STlb.enc] at hj; subst hj; exact c0
        | 1, hj => simp [STlb.enc] at hj; subst hj; exact c1
        | 2, hj => simp [STlb.enc] at hj; subst hj; exact c2
        | 3, hj => simp [STlb.enc] at hj; subst hj; exact c3
        | 4, hj => simp [STlb.enc] at hj; subst hj; exact c4
        | j + 5, hj => simp [STlb.enc] at hj
      · trivial)
    exact ⟨l, hl1, hl2⟩

theorem structWc : ∃ fs : Array Field, Try.prog.underlying 192 = some (.struct fs) ∧ oneCellFields Try.prog fs = true ∧ Try.prog.cellsOf 192 = fs.size ∧ fs.size = 4 ∧ fs.map (·.type) = #[3, 3, 3, 4] :=
  ⟨_, Try.underlying192, by kernel_rfl, by kernel_rfl, rfl, by simp⟩
theorem openWcS {H : Type} {enc : TypeId × Value → H} {w : World} {base : Nat} {held : Bool} {fuel : Nat} {c0 : Value} {y : DataW H × List MemPlace}
    (h : DataW.trod enc Try.prog w base (fun _ => true) held fuel 27 [c0] = some y) : ∃ l : List SWc, Rd SWc.enc 4 w c0 l ∧ ∀ e ∈ l, True := by
  obtain ⟨fs, hs, hone, hC, hsz, hty⟩ := structWc
  rcases open_slice_fields Try.underlying27 hs hone hC h with ⟨hcs, _⟩ | ⟨x, len, c, m, D, Pl, hcs, _, hl, hm, hmm, _, hi⟩
  · simp only [List.cons.injEq, and_true] at hcs
    subst hcs
    exact ⟨[], Rd.nil _ _ _, by simp⟩
  · simp only [List.cons.injEq, and_true] at hcs
    subst hcs
    simp only [if_true] at hmm
    subst hmm
    have ht : ∀ j, fs[j]?.map (fun f : Field => f.type) = (#[3, 3, 3, 4] : Array Nat)[j]? := fun j => by rw [← hty]; exact (Array.getElem?_map ..).symm
    obtain ⟨l, hl1, hl2⟩ := rd_row (enc := SWc.enc) (sz := 4) (w := w) (ad := x) (Q := fun e => True) len m hl hm (fun i hil => by
      obtain ⟨ys, n, _, _, _, hfld⟩ := hi i (by omega)
      have get : ∀ (j : Nat) (t : Nat), (#[3, 3, 3, 4] : Array Nat)[j]? = some t → ∃ u y, w.cell? (x.add (i * 4 + j)) = some u ∧ DataW.trod enc Try.prog w base (fun _ => true) held n t [u] = some y := by
        intro j t hj
        have h1 := ht j
        rw [hj] at h1
        obtain ⟨f, hf1, hf2⟩ := Option.map_eq_some_iff.1 h1
        obtain ⟨u, y, h2, _, h3⟩ := hfld j f hf1
        rw [hsz] at h2
        rw [hf2] at h3
        exact ⟨u, y, h2, h3⟩
      obtain ⟨u0, y0, c0, e0⟩ := get 0 _ rfl
      obtain ⟨u1, y1, c1, e1⟩ := get 1 _ rfl
      obtain ⟨u2, y2, c2, e2⟩ := get 2 _ rfl
      obtain ⟨u3, y3, c3, e3⟩ := get 3 _ rfl
      obtain ⟨b0, q0, _, z0⟩ := DataW.trod_int Try.underlying3 e0
      obtain ⟨b1, q1, _, z1⟩ := DataW.trod_int Try.underlying3 e1
      obtain ⟨b2, q2, _, z2⟩ := DataW.trod_int Try.underlying3 e2
      obtain ⟨b3, q3, _⟩ := DataW.trod_bool Try.underlying4 e3
      simp only [List.cons.injEq, and_true] at q0 q1 q2 q3
      subst q0 q1 q2 q3
      refine ⟨⟨b0, b1, b2, b3⟩, ?_, ?_⟩
      · intro j u hj
        match j, hj with
        | 0, hj => simp [SWc.enc] at hj; subst hj; exact c0
        | 1, hj => simp [SWc.enc] at hj; subst hj; exact c1
        | 2, hj => simp [SWc.enc] at hj; subst hj; exact c2
        | 3, hj => simp [SWc.enc] at hj; subst hj; exact c3
        | j + 4, hj => simp [SWc.enc] at hj
      · trivial)
    exact ⟨l, hl1, hl2⟩

set_option maxRecDepth 100000 in
theorem open_machine {H : Type} {enc : TypeId × Value → H} {w : World} {base : Nat} {held : Bool} {r : Reach} {b0 : Nat} {v : Value} {d : DataW H} {p : List MemPlace}
    (hv : Value.okWide Try.prog w r b0 29 v) (h : DataW.Trod enc Try.prog w base (fun _ => true) held 29 v d p) :
    ∃ (v0 v1 v2 v3 : Value) (m : SM), v = .agg #[v0, v1, v2, v3] ∧ RdM w v0 v1 v2 v3 m ∧ (∀ x ∈ m.ws, 0 ≤ x ∧ x < 18446744073709551616) ∧ ∀ e ∈ m.pend, 0 ≤ e.Word ∧ e.Word < 18446744073709551616 := by
  obtain ⟨cs, rfl, hl, hf⟩ := open_struct Try.underlying29 hv h
  have hc : Try.prog.cellsOf 29 = 4 := by kernel_rfl
  rw [hc] at hl
  obtain ⟨c0, c1, c2, c3, rfl⟩ : ∃ a b c d, cs = [a, b, c, d] := by
    match cs, hl with
    | [a, b, c, d], _ => exact ⟨a, b, c, d, rfl⟩
  have k0 : Try.prog.cellsOf 24 = 1 := by kernel_rfl
  have k1 : Try.prog.cellsOf 25 = 1 := by kernel_rfl
  have k2 : Try.prog.cellsOf 26 = 1 := by kernel_rfl
  have k3 : Try.prog.cellsOf 27 = 1 := by kernel_rfl
  have kw : Try.prog.cellsOf 22 = 1 := by kernel_rfl
  obtain ⟨n0, y0, h0⟩ := hf 0 _ rfl
  obtain ⟨n1, y1, h1⟩ := hf 1 _ rfl
  obtain ⟨n2, y2, h2⟩ := hf 2 _ rfl
  obtain ⟨n3, y3, h3⟩ := hf 3 _ rfl
  change DataW.trod enc Try.prog w base (fun _ => true) held n0 24 ((List.drop 0 [c0, c1, c2, c3]).take (Try.prog.cellsOf 24)) = some y0 at h0
  change DataW.trod enc Try.prog w base (fun _ => true) held n1 25 ((List.drop 1 [c0, c1, c2, c3]).take (Try.prog.cellsOf 25)) = some y1 at h1
  change DataW.trod enc Try.prog w base (fun _ => true) held n2 26 ((List.drop 2 [c0, c1, c2, c3]).take (Try.prog.cellsOf 26)) = some y2 at h2
  change DataW.trod enc Try.prog w base (fun _ => true) held n3 27 ((List.drop 3 [c0, c1, c2, c3]).take (Try.prog.cellsOf 27)) = some y3 at h3
  rw [k0] at h0
  rw [k1] at h1
  rw [k2] at h2
  rw [k3] at h3
  change DataW.trod enc Try.prog w base (fun _ => true) held n0 24 [c0] = some y0 at h0
  change DataW.trod enc Try.prog w base (fun _ => true) held n1 25 [c1] = some y1 at h1
  change DataW.trod enc Try.prog w base (fun _ => true) held n2 26 [c2] = some y2 at h2
  change DataW.trod enc Try.prog w base (fun _ => true) held n3 27 [c3] = some y3 at h3
  obtain ⟨_, hw⟩ := struct_fields Try.underlying24 h0
  obtain ⟨nw, yw, hw⟩ := hw 0 _ rfl
  change DataW.trod enc Try.prog w base (fun _ => true) held nw 22 ((List.drop 0 [c0]).take (Try.prog.cellsOf 22)) = some yw at hw
  rw [kw] at hw
  change DataW.trod enc Try.prog w base (fun _ => true) held nw 22 [c0] = some yw at hw
  obtain ⟨l0, r0, q0⟩ := openWords hw
  obtain ⟨l1, r1, q1⟩ := openWriteS h1
  obtain ⟨l2, r2, _⟩ := openTlbS h2
  obtain ⟨l3, r3, _⟩ := openWcS h3
  exact ⟨c0, c1, c2, c3, ⟨l0, l1, l2, l3⟩, rfl, ⟨r0, r1, r2, r3⟩, q0, q1⟩
end Go.Proofs.Ytjmamohfiimokaa.OpenRd
