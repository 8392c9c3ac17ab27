/- Plain facts on the marks of needsOf, and on the cells of the struct that holds them. Nothing of the program's functions. -/
import Derived.Test.YtkdclihnmocepaaEveryMath
namespace Go.Proofs.Ytkdclihnmocepaa.Mmu
open Go.RowKit Go.Proofs.Ytkdclihnmocepaa.Base Go.Proofs.Ytkdclihnmocepaa.Kinds
set_option linter.unusedVariables false
set_option linter.unusedSimpArgs false

/-- Which of the groups of n pages hold, among the first p pages, one of which f says yes. -/
noncomputable def markS (f : SHit → Bool) (n : Nat) (H : List SHit) (p : Nat) : List Bool :=
  (List.range (4096 / n)).map (fun i => @decide (∃ (q : Nat) (h : SHit), q < p ∧ q / n = i ∧ H[q]? = some h ∧ f h = true) (Classical.propDecidable _))
theorem markS_len (f : SHit → Bool) (n : Nat) (H : List SHit) (p : Nat) : (markS f n H p).length = 4096 / n := by simp [markS]
theorem markS_get (f : SHit → Bool) (n : Nat) (H : List SHit) (p i : Nat) (hi : i < 4096 / n) : (markS f n H p)[i]? = some (@decide (∃ (q : Nat) (h : SHit), q < p ∧ q / n = i ∧ H[q]? = some h ∧ f h = true) (Classical.propDecidable _)) := by
  unfold markS; rw [List.getElem?_map, List.getElem?_range hi]; rfl
theorem markS_zero (f : SHit → Bool) (n : Nat) (H : List SHit) : markS f n H 0 = List.replicate (4096 / n) false := by
  apply List.ext_getElem?
  intro i
  rw [List.getElem?_replicate]
  by_cases hi : i < 4096 / n
  · rw [markS_get f n H 0 i hi, if_pos hi]
    congr 1
    rw [decide_eq_false_iff_not]
    rintro ⟨q, h, hq, _⟩
    omega
  · rw [if_neg hi, List.getElem?_eq_none (by rw [markS_len]; omega)]
theorem markS_yes {f : SHit → Bool} {n : Nat} {H : List SHit} {p : Nat} {h : SHit} (hp : H[p]? = some h) (hf : f h = true) : (markS f n H p).set (p / n) true = markS f n H (p + 1) := by
  apply List.ext_getElem?
  intro i
  rw [List.getElem?_set, markS_len]
  by_cases hi : i < 4096 / n
  · rw [markS_get f n H p i hi, markS_get f n H (p + 1) i hi]
    by_cases e : p / n = i
    · subst e
      rw [if_pos rfl, if_pos hi]
      congr 1
      exact (@decide_eq_true _ (Classical.propDecidable _) ⟨p, h, by omega, rfl, hp, hf⟩).symm
    · rw [if_neg e]
      congr 1
      rw [decide_eq_decide]
      constructor
      · rintro ⟨q, g, hq, r⟩; exact ⟨q, g, by omega, r⟩
      · rintro ⟨q, g, hq, hi, r⟩
        by_cases hqp : q = p
        · subst hqp; exact absurd hi e
        · exact ⟨q, g, by omega, hi, r⟩
  · rw [List.getElem?_eq_none (by rw [markS_len]; omega), List.getElem?_eq_none (by rw [markS_len]; omega)]
    by_cases e : p / n = i
    · rw [if_pos e, if_neg (by omega)]
    · rw [if_neg e]
theorem markS_no {f : SHit → Bool} {n : Nat} {H : List SHit} {p : Nat} {h : SHit} (hp : H[p]? = some h) (hf : f h = false) : markS f n H (p + 1) = markS f n H p := by
  unfold markS
  apply List.map_congr_left
  intro i _
  rw [decide_eq_decide]
  constructor
  · rintro ⟨q, g, hq, hi, hg, hy⟩
    by_cases hqp : q = p
    · subst hqp
      rw [hp] at hg
      cases hg
      rw [hf] at hy; cases hy
    · exact ⟨q, g, by omega, hi, hg, hy⟩
  · rintro ⟨q, g, hq, r⟩; exact ⟨q, g, by omega, r⟩
def fBig (h : SHit) : Bool := decide (h.Kind = 1)
def fSmall (h : SHit) : Bool := decide (h.Kind = 1 ∧ h.Size = 1)
def fBlock (h : SHit) : Bool := decide (h.Kind = 1 ∧ ¬ h.Size = 1)

/-- The cells of needs. -/
def needL (H : List SHit) (B S K : List Bool) (c : Int) : List Value := H.flatMap SHit.enc ++ (B.map Value.bool ++ (S.map Value.bool ++ (K.map Value.bool ++ [.int .i64 c])))
def needCells (H : List SHit) (B S K : List Bool) (c : Int) : Array Value := (needL H B S K c).toArray
structure NeedLens (H : List SHit) (B S K : List Bool) : Prop where
  h : H.length = 4096
  b : B.length = 16
  s : S.length = 256
  k : K.length = 256
section
variable {H : List SHit} {B S K : List Bool} {c : Int}
theorem NeedLens.hf (n : NeedLens H B S K) : (H.flatMap SHit.enc).length = 16384 := by rw [flat_len SHit.len, n.h]
theorem need_size (n : NeedLens H B S K) : (needCells H B S K c).size = 16913 := by
  unfold needCells needL
  simp [n.hf, n.b, n.s, n.k]
theorem need_setB (n : NeedLens H B S K) (i : Nat) (hi : i < 16) (b : Bool) : (needCells H B S K c).setIfInBounds (16384 + i) (.bool b) = needCells H (B.set i b) S K c := by
  unfold needCells needL
  rw [List.setIfInBounds_toArray, List.map_set]
  congr 1
  have := set_mid (P := H.flatMap SHit.enc) (X := B.map Value.bool) (S := S.map Value.bool ++ (K.map Value.bool ++ [.int .i64 c])) (i := i) (by simp [n.b]; omega) (.bool b)
  rw [n.hf] at this
  exact this
theorem need_setS (n : NeedLens H B S K) (i : Nat) (hi : i < 256) (b : Bool) : (needCells H B S K c).setIfInBounds (16400 + i) (.bool b) = needCells H B (S.set i b) K c := by
  unfold needCells needL
  rw [List.setIfInBounds_toArray, List.map_set]
  congr 1
  have := set_mid (P := H.flatMap SHit.enc ++ B.map Value.bool) (X := S.map Value.bool) (S := K.map Value.bool ++ [.int .i64 c]) (i := i) (by simp [n.s]; omega) (.bool b)
  rw [show (H.flatMap SHit.enc ++ B.map Value.bool).length = 16400 by simp [n.hf, n.b]] at this
  simpa using this
theorem need_setK (n : NeedLens H B S K) (i : Nat) (hi : i < 256) (b : Bool) : (needCells H B S K c).setIfInBounds (16656 + i) (.bool b) = needCells H B S (K.set i b) c := by
  unfold needCells needL
  rw [List.setIfInBounds_toArray, List.map_set]
  congr 1
  have := set_mid (P := H.flatMap SHit.enc ++ (B.map Value.bool ++ S.map Value.bool)) (X := K.map Value.bool) (S := [.int .i64 c]) (i := i) (by simp [n.k]; omega) (.bool b)
  rw [show (H.flatMap SHit.enc ++ (B.map Value.bool ++ S.map Value.bool)).length = 16656 by simp [n.hf, n.b, n.s]] at this
  simpa using this
theorem need_setC (n : NeedLens H B S K) (d : Int) : (needCells H B S K c).setIfInBounds 16912 (.int .i64 d) = needCells H B S K d := by
  unfold needCells needL
  rw [List.setIfInBounds_toArray]
  congr 1
  have := set_mid (P := H.flatMap SHit.enc ++ (B.map Value.bool ++ (S.map Value.bool ++ K.map Value.bool))) (X := [.int .i64 c]) (S := []) (i := 0) (by simp) (.int .i64 d)
  rw [show (H.flatMap SHit.enc ++ (B.map Value.bool ++ (S.map Value.bool ++ K.map Value.bool))).length = 16912 by simp [n.hf, n.b, n.s, n.k]] at this
  simpa using this
theorem need_part (n : NeedLens H B S K) {w : World} {b T : Nat} (h : w.heap[b]? = some (.cells (needCells H B S K c) T)) (P X Q : List Value) (e : needL H B S K c = P ++ (X ++ Q)) : w.rangeAt b P.length X := by
  intro j v hv
  have : (needCells H B S K c)[P.length + j]? = some v := by
    unfold needCells
    rw [e, List.getElem?_toArray, List.getElem?_append_right (by omega), Nat.add_sub_cancel_left, List.getElem?_append_left (List.getElem?_eq_some_iff.1 hv).1]
    exact hv
  simp [World.cell?, h, this]
theorem need_rangeH (n : NeedLens H B S K) {w : World} {b T : Nat} (h : w.heap[b]? = some (.cells (needCells H B S K c) T)) : w.rangeAt b 0 (H.flatMap SHit.enc) := need_part n h [] _ _ rfl
theorem need_rangeB (n : NeedLens H B S K) {w : World} {b T : Nat} (h : w.heap[b]? = some (.cells (needCells H B S K c) T)) : w.rangeAt b 16384 (B.map Value.bool) := by
  have := need_part n h (H.flatMap SHit.enc) _ _ rfl
  rwa [n.hf] at this
theorem need_rangeS (n : NeedLens H B S K) {w : World} {b T : Nat} (h : w.heap[b]? = some (.cells (needCells H B S K c) T)) : w.rangeAt b 16400 (S.map Value.bool) := by
  have := need_part n h (H.flatMap SHit.enc ++ B.map Value.bool) (S.map Value.bool) (K.map Value.bool ++ [.int .i64 c]) (by simp [needL])
  rwa [show (H.flatMap SHit.enc ++ B.map Value.bool).length = 16400 by simp [n.hf, n.b]] at this
theorem need_rangeK (n : NeedLens H B S K) {w : World} {b T : Nat} (h : w.heap[b]? = some (.cells (needCells H B S K c) T)) : w.rangeAt b 16656 (K.map Value.bool) := by
  have := need_part n h (H.flatMap SHit.enc ++ (B.map Value.bool ++ S.map Value.bool)) (K.map Value.bool) [.int .i64 c] (by simp [needL])
  rwa [show (H.flatMap SHit.enc ++ (B.map Value.bool ++ S.map Value.bool)).length = 16656 by simp [n.hf, n.b, n.s]] at this
theorem need_cellC (n : NeedLens H B S K) {w : World} {b T : Nat} (h : w.heap[b]? = some (.cells (needCells H B S K c) T)) : w.cell? ⟨b, 16912, none⟩ = some (.int .i64 c) := by
  have := need_part n h (H.flatMap SHit.enc ++ (B.map Value.bool ++ (S.map Value.bool ++ K.map Value.bool))) [.int .i64 c] [] (by simp [needL])
  rw [show (H.flatMap SHit.enc ++ (B.map Value.bool ++ (S.map Value.bool ++ K.map Value.bool))).length = 16912 by simp [n.hf, n.b, n.s, n.k]] at this
  exact this 0 _ rfl
theorem bool_at {w : World} {b o : Nat} {L : List Bool} (h : w.rangeAt b o (L.map Value.bool)) (i : Nat) (hi : i < L.length) : ∃ x, L[i]? = some x ∧ w.cell? ⟨b, o + i, none⟩ = some (.bool x) :=
  ⟨L[i], List.getElem?_eq_getElem hi, h i _ (by rw [List.getElem?_map, List.getElem?_eq_getElem hi]; rfl)⟩
theorem NeedLens.setB (n : NeedLens H B S K) (i : Nat) (b : Bool) : NeedLens H (B.set i b) S K := ⟨n.h, by simp [n.b], n.s, n.k⟩
end
theorem hit_extract {H : List SHit} {p : Nat} {h : SHit} (hp : H[p]? = some h) : (hitCells H).extract (p * 4) (p * 4 + 4) = #[.int .i64 h.Kind, .int .i64 h.Out, .int .i64 h.Perm, .int .i64 h.Size] := by
  obtain ⟨P, S, hP, hf, _⟩ := flat_parts SHit.len H p _ hp
  unfold hitCells
  rw [hf, ← hP]
  apply Array.ext'
  simp [SHit.enc]
/-- How many are true. -/
def cntT (l : List Bool) : Nat := l.countP (fun b => b)
theorem cntT_step {l : List Bool} {i : Nat} {b : Bool} (h : l[i]? = some b) : cntT (l.take (i + 1)) = cntT (l.take i) + (if b = true then 1 else 0) := by
  unfold cntT; rw [take_snoc h, List.countP_append]; cases b <;> simp
theorem cntT_le (l : List Bool) : cntT l ≤ l.length := List.countP_le_length
end Go.Proofs.Ytkdclihnmocepaa.Mmu
