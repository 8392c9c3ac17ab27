/- What a tree that is being drawn holds in memory: the words and two rows of numbers, all the call's own. Nothing of the program's functions. -/
import Derived.Test.YthphfcheencbgaaDraw1
import Derived.Test.YthphfcheencbgaaSpecPlaces
namespace Go.Proofs.Ythphfcheencbgaa.Draw
open Go.RowKit Go.Proofs.Ythphfcheencbgaa.Base Go.Proofs.Ythphfcheencbgaa.Kinds Go.Proofs.Ythphfcheencbgaa.DecMath Go.Proofs.Ythphfcheencbgaa.L1 Go.Proofs.Ythphfcheencbgaa.Mmu
set_option linter.unusedVariables false
set_option linter.unusedSimpArgs false

def iEnc (x : Int) : List Value := [.int .i64 x]
theorem iLen (x : Int) : (iEnc x).length = 1 := rfl
theorem iOne (x : Int) : ∀ u ∈ iEnc x, u.oneCell' = true := by intro u hu; simp [iEnc] at hu; subst hu; rfl
theorem int_at {w : World} {A : Option Addr} {n cap k : Nat} {l : List Int} (h : Rd iEnc 1 w (.slice A n cap) l) (hk : k < l.length) : ∃ ad, A = some ad ∧ w.cell? (ad.add k) = some (.int .i64 (l.getD k 0)) := by
  obtain ⟨ad, x, e, hx, hu⟩ := h.get hk
  have hx2 : l.getD k 0 = x := by rw [List.getD_eq_getElem?_getD, hx]; rfl
  exact ⟨ad, e, by rw [hx2]; simpa using hu 0 _ rfl⟩
theorem wordD_at {w : World} {A : Option Addr} {n cap k : Nat} {l : List Int} (h : Rd wEnc 1 w (.slice A n cap) l) (hk : k < l.length) : ∃ ad, A = some ad ∧ w.cell? (ad.add k) = some (.int .u64 (l.getD k 0)) := by
  obtain ⟨ad, x, e, hx, hu⟩ := word_at h hk
  have hx2 : l.getD k 0 = x := by rw [List.getD_eq_getElem?_getD, hx]; rfl
  exact ⟨ad, e, by rw [hx2]; exact hu⟩
theorem infoI : (Try.prog.info? 3).map (fun i => (i.zero, i.size, i.bytes)) = some (some (.int .i64 0), 1, 8) := by kernel_rfl
theorem infoW : (Try.prog.info? 31).map (fun i => (i.zero, i.size, i.bytes)) = some (some (.int .u64 0), 1, 8) := by kernel_rfl
theorem Own.one1 {α : Type} {enc : α → List Value} (sz E : Nat) {base : Nat} (w : World) (hb : base ≤ w.heap.size) (x : α) (hlen : ∀ x, (enc x).length = sz) (cs : Array Value) (hcs : cs = (enc x).toArray) : Own enc sz E base (w.alloc (.cells cs E)) (.slice (some ⟨w.heap.size, 0, none⟩) 1 1) [x] := by
  subst hcs
  exact ⟨by simp [hlen], .inr ⟨w.heap.size, 1, _, rfl, hb, heap_alloc_new w _, Nat.le_refl _, by unfold maxLen; omega, by simp [hlen], by simp [List.take_of_length_le, hlen]⟩⟩
section
variable {w0 w w1 : World} {l : List (Nat × Array Value × Nat)}
theorem St.setOther (S : St w0 l w) {a : Addr} (h0 : w0.heap.size ≤ a.block) (hne : ∀ x ∈ l, x.1 ≠ a.block) (u : Value) : St w0 l (w.setCell a u) :=
  ⟨S.b.setCell h0 u, fun x hx => by rw [Below.heap_setCell _ _ _ _ (by have := hne x hx; simpa using this)]; exact S.blk x hx, S.up, S.ord⟩
theorem St.kept {row : Option Nat} (S : St w0 l w) (hg : w.grownBy w1 row) (h0 : ∀ k, row = some k → w0.heap.size ≤ k) (hne : ∀ x ∈ l, some x.1 ≠ row) : St w0 l w1 :=
  ⟨S.b.grown hg S.b.size h0, fun x hx => (hg.block x.1 (S.lt x hx) (hne x hx)).trans (S.blk x hx), S.up, S.ord⟩
theorem own_not_box {α : Type} {enc : α → List Value} {sz E base b T : Nat} {v : Value} {xs : List α} {cs : Array Value} (o : Own enc sz E base w v xs) (hb : w.heap[b]? = some (.cells cs T)) (hne : E ≠ T) : some b ≠ v.ownBlock := by
  rcases o.2 with ⟨rfl, _⟩ | ⟨g, cap, cur, rfl, _, hg, _⟩
  · simp [Value.ownBlock]
  · intro e
    simp only [Value.ownBlock, Option.some.injEq] at e
    rw [← e, hb] at hg
    simp only [Option.some.injEq, Obj.cells.injEq] at hg
    exact hne hg.2.1.symm
end
/-- The boxes l, and beside them the words and the two rows. -/
structure TreeW (w0 : World) (b : Nat) (cs : Array Value) (vw vl vf : Value) (d : DT) (w : World) : Prop where
  st : St w0 [(b, cs, 25)] w
  ws : Own wEnc 1 31 w0.heap.size w vw d.ws
  lv : Own iEnc 1 3 w0.heap.size w vl d.lv
  fr : Own iEnc 1 3 w0.heap.size w vf d.fr
  ap : vl.ownBlock ≠ vf.ownBlock
section
variable {w0 w w1 : World} {b : Nat} {cs : Array Value} {vw vl vf : Value} {d : DT}
theorem TreeW.below (h : TreeW w0 b cs vw vl vf d w) (hb : Below w.heap.size w w1) : TreeW w0 b cs vw vl vf d w1 := ⟨h.st.below hb, h.ws.below hb, h.lv.below hb, h.fr.below hb, h.ap⟩
theorem TreeW.growL (h : TreeW w0 b cs vw vl vf d w) {v' : Value} {l' : List Int} (hg : w.grownBy w1 vl.ownBlock) (o : Own iEnc 1 3 w0.heap.size w1 v' l') (ha : v'.ownBlock = vl.ownBlock ∨ v'.ownBlock = some (w.heap.size + 1) ) : TreeW w0 b cs vw v' vf { d with lv := l' } w1 := by
  refine ⟨St.kept h.st hg (fun k hk => (h.lv.lt k hk).1) (fun x hx => ?_), h.ws.kept hg (own_apart (by decide) h.ws h.lv), o, h.fr.kept hg ?_, ?_⟩
  · have : x = (b, cs, 25) := by simpa using hx
    subst this
    exact own_not_box h.lv h.st.head (by decide)
  · cases e : vf.ownBlock with
    | none => exact Or.inl rfl
    | some k => exact Or.inr (fun e2 => h.ap (by rw [e, e2]))
  · rcases ha with e | e
    · rw [e]; exact h.ap
    · rw [e]
      intro e2
      have := (h.fr.lt _ e2.symm).2
      omega
theorem TreeW.growF (h : TreeW w0 b cs vw vl vf d w) {v' : Value} {l' : List Int} (hg : w.grownBy w1 vf.ownBlock) (o : Own iEnc 1 3 w0.heap.size w1 v' l') (ha : v'.ownBlock = vf.ownBlock ∨ v'.ownBlock = some (w.heap.size + 1) ) : TreeW w0 b cs vw vl v' { d with fr := l' } w1 := by
  refine ⟨St.kept h.st hg (fun k hk => (h.fr.lt k hk).1) (fun x hx => ?_), h.ws.kept hg (own_apart (by decide) h.ws h.fr), h.lv.kept hg ?_, o, ?_⟩
  · have : x = (b, cs, 25) := by simpa using hx
    subst this
    exact own_not_box h.fr h.st.head (by decide)
  · cases e : vl.ownBlock with
    | none => exact Or.inl rfl
    | some k => exact Or.inr (fun e2 => h.ap (by rw [e, e2]))
  · rcases ha with e | e
    · rw [e]; exact h.ap
    · rw [e]
      intro e2
      have := (h.lv.lt _ e2).2
      omega
theorem TreeW.setW {g n c : Nat} (h : TreeW w0 b cs (.slice (some ⟨g, 0, none⟩) n c) vl vf d w) (j : Nat) (hj : j < d.ws.length) (x : Int) : TreeW w0 b cs (.slice (some ⟨g, 0, none⟩) n c) vl vf { d with ws := d.ws.set j x } (w.setCell ⟨g, j, none⟩ (.int .u64 x)) := by
  refine ⟨St.setOther h.st (h.ws.lt g rfl).1 (fun y hy => ?_) _, own_set1 wLen h.ws j hj x rfl, own_setOff h.lv ?_ _, own_setOff h.fr ?_ _, h.ap⟩
  · have : y = (b, cs, 25) := by simpa using hy
    subst this
    have := own_not_box h.ws h.st.head (by decide)
    simpa [Value.ownBlock] using this
  · rcases own_apart (by decide) h.ws h.lv with e | e
    · simp [Value.ownBlock] at e
    · exact e
  · rcases own_apart (by decide) h.ws h.fr with e | e
    · simp [Value.ownBlock] at e
    · exact e
theorem TreeW.setP (h : TreeW w0 b cs vw vl vf d w) (q : Nat) : TreeW w0 b cs vw vl vf { d with p := q } w := ⟨h.st, h.ws, h.lv, h.fr, h.ap⟩
theorem ownI {A : Option Addr} {n c E base i : Nat} {l : List Int} (h : Own iEnc 1 E base w (.slice A n c) l) (hi : i < l.length) : ∃ g, A = some ⟨g, 0, none⟩ ∧ w.cell? ⟨g, i, none⟩ = some (.int .i64 (l.getD i 0)) := by
  obtain ⟨g, hA, _, _, hf, hc⟩ := Own.block iLen h (by omega)
  refine ⟨g, hA, ?_⟩
  have hx : l[i]? = some (l.getD i 0) := by rw [List.getD_eq_getElem?_getD, List.getElem?_eq_getElem hi]; rfl
  simpa using hc i _ hx 0 _ rfl
theorem ownWd {g n c E base i : Nat} {l : List Int} (h : Own wEnc 1 E base w (.slice (some ⟨g, 0, none⟩) n c) l) (hi : i < l.length) : w.cell? ⟨g, i, none⟩ = some (.int .u64 (l.getD i 0)) ∧ w.frozen? ⟨g, i, none⟩ = false := by
  obtain ⟨g', hA, _, _, hf, hc⟩ := Own.block wLen h (by omega)
  simp only [Option.some.injEq, Addr.mk.injEq, and_true] at hA
  subst hA
  have hx : l[i]? = some (l.getD i 0) := by rw [List.getD_eq_getElem?_getD, List.getElem?_eq_getElem hi]; rfl
  exact ⟨by simpa using hc i _ hx 0 _ rfl, hf i⟩
end
end Go.Proofs.Ythphfcheencbgaa.Draw
