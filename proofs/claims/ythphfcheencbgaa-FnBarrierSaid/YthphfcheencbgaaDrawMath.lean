/- What the reference draws out of bytes: memories, in numbers. No program in sight. -/
import Derived.Test.YthphfcheencbgaaMachG
namespace Go.Proofs.Ythphfcheencbgaa.Draw
open Go.RowKit Go.Proofs.Ythphfcheencbgaa.Base Go.Proofs.Ythphfcheencbgaa.Kinds Go.Proofs.Ythphfcheencbgaa.DecMath
set_option linter.unusedVariables false
set_option linter.unusedSimpArgs false

theorem xor_i64 (a b : Nat) (ha : a < 2 ^ 62) (hb : b < 2 ^ 62) : Go.bits .xor .i64 (a : Int) (b : Int) = ((a ^^^ b : Nat) : Int) := by
  have hx : a ^^^ b < 2 ^ 62 := Nat.xor_lt_two_pow ha hb
  have h1 : (BitVec.ofInt 64 (a : Int)).toNat = a := by
    rw [BitVec.ofInt_natCast, BitVec.toNat_ofNat]; exact Nat.mod_eq_of_lt (by omega)
  have h2 : (BitVec.ofInt 64 (b : Int)).toNat = b := by
    rw [BitVec.ofInt_natCast, BitVec.toNat_ofNat]; exact Nat.mod_eq_of_lt (by omega)
  show IntKind.i64.wrap ((BitVec.ofInt 64 (a : Int) ^^^ BitVec.ofInt 64 (b : Int)).toNat : Int) = _
  rw [BitVec.toNat_xor, h1, h2, IntKind.wrap_i64]
  omega
theorem xor_nonneg (x y : Int) (h0 : 0 ≤ x) (h1 : x < 4611686018427387904) (h2 : 0 ≤ y) (h3 : y < 4611686018427387904) : 0 ≤ Go.bits .xor .i64 x y ∧ Go.bits .xor .i64 x y < 4611686018427387904 := by
  obtain ⟨a, rfl⟩ := Int.eq_ofNat_of_zero_le h0
  obtain ⟨b, rfl⟩ := Int.eq_ofNat_of_zero_le h2
  have ha : a < 2 ^ 62 := by omega
  have hb : b < 2 ^ 62 := by omega
  have hx : a ^^^ b < 2 ^ 62 := Nat.xor_lt_two_pow ha hb
  rw [xor_i64 a b ha hb]
  omega

/-- All are bytes. -/
def Bytes (c : List Int) : Prop := ∀ x ∈ c, 0 ≤ x ∧ x < 256
theorem Bytes.get {c : List Int} (h : Bytes c) (j : Nat) : 0 ≤ c.getD j 0 ∧ c.getD j 0 < 256 := by
  rw [List.getD_eq_getElem?_getD]
  cases e : c[j]? with
  | none => simp
  | some x => exact h x (List.mem_of_getElem? e)
def farX (c : List Int) (p : Nat) : Int := c.getD (p % c.length) 0 * 131 + c.getD ((p * 7 + 3) % c.length) 0 * 1117 + (p : Int) * 29 + ((p / c.length : Nat) : Int) * 53
/-- A number below n, drawn at place p. -/
def takeP (c : List Int) (p : Nat) (n : Int) : Int :=
  if n < 1 ∨ c.length = 0 then 0
  else if p < c.length then (if 256 < n then (c.getD p 0 * 251 + c.getD ((p + 1) % c.length) 0 * 7 + (p : Int)) % n else c.getD p 0 % n)
  else (Go.bits .xor .i64 (farX c p) (farX c p / 64)) % n
theorem farX_b {c : List Int} (hc : Bytes c) (p : Nat) (hp : p ≤ 1000000) : 0 ≤ farX c p ∧ farX c p < 1000000000 := by
  unfold farX
  have h1 := hc.get (p % c.length)
  have h2 := hc.get ((p * 7 + 3) % c.length)
  have h3 : p / c.length ≤ p := Nat.div_le_self _ _
  generalize p / c.length = q at *
  omega
theorem takeP_lt {c : List Int} (hc : Bytes c) (p : Nat) (n : Int) (hn : 1 ≤ n) : 0 ≤ takeP c p n ∧ takeP c p n < n := by
  unfold takeP
  split
  · omega
  · split
    · split
      · exact ⟨Int.emod_nonneg _ (by omega), Int.emod_lt_of_pos _ (by omega)⟩
      · exact ⟨Int.emod_nonneg _ (by omega), Int.emod_lt_of_pos _ (by omega)⟩
    · exact ⟨Int.emod_nonneg _ (by omega), Int.emod_lt_of_pos _ (by omega)⟩

/-- A tree that is being drawn: the place in the bytes, the words, the tables' levels and frames. -/
structure DT where
  p : Nat
  ws : List Int
  lv : List Int
  fr : List Int
def DT.a (c : List Int) (d : DT) : Nat := (takeP c d.p d.lv.length).toNat
def DT.at (c : List Int) (d : DT) : Nat := (d.fr.getD (d.a c) 0 * 16 + takeP c (d.p + 1) 16).toNat
def treeStep (c : List Int) (d : DT) (f : Nat) : DT :=
  if d.lv.getD (d.a c) 0 < 3 ∧ d.ws.getD (d.at c) 0 = 0 then
    ⟨d.p + 2, d.ws.set (d.at c) (enc (d.lv.getD (d.a c) 0) (1, (f : Int), 0)), d.lv ++ [d.lv.getD (d.a c) 0 + 1], d.fr ++ [(f : Int)]⟩
  else ⟨d.p + 2, d.ws, d.lv, d.fr⟩
def treeTo (c : List Int) (d : DT) : Nat → DT
  | 0 => d
  | k + 1 => treeStep c (treeTo c d k) (k + 1)
/-- A word into an entry that is free. -/
def leafAt (c : List Int) (f : Int) (p : Nat) : Nat := (f * 16 + takeP c p 16).toNat
def leafW (c : List Int) (l : Int) (p : Nat) : Int := if l = 2 then enc 2 (2, takeP c p 4096 * 16, takeP c p 4096 % 7 + 1) else enc 3 (3, takeP c p 4096 * 3, takeP c p 4096 % 7 + 1)
def leaf1 (c : List Int) (l f : Int) (s : Nat × List Int) : Nat × List Int :=
  if 1 < l ∧ s.2.getD (leafAt c f s.1) 0 = 0 then (s.1 + 2, s.2.set (leafAt c f s.1) (leafW c l (s.1 + 1))) else (s.1 + 1, s.2)
def leafStep (c : List Int) (l f : Int) (k : Nat) (s : Nat × List Int) : Nat × List Int :=
  if k = 4 ∧ (leaf1 c l f s).2.getD (leafAt c f s.1) 0 = 0 ∧ takeP c s.1 16 % 2 = 0 then ((leaf1 c l f s).1, (leaf1 c l f s).2.set (leafAt c f s.1) (takeP c s.1 16 * 4)) else leaf1 c l f s
def leafTo (c : List Int) (l f : Int) (s : Nat × List Int) : Nat → Nat × List Int
  | 0 => s
  | k + 1 => leafStep c l f k (leafTo c l f s k)
def leavesTo (c : List Int) (lv fr : List Int) (s : Nat × List Int) : Nat → Nat × List Int
  | 0 => s
  | i + 1 => leafTo c (lv.getD i 0) (fr.getD i 0) (leavesTo c lv fr s i) 5
def sizeP (c : List Int) (per lo hi : Nat) : Nat := if hi < lo + c.length / per then hi else lo + c.length / per
def treeN (c : List Int) : Nat := sizeP c 6 3 24
def treeD (c : List Int) (p : Nat) : DT := treeTo c ⟨p + 1, List.replicate (16 * (treeN c + (takeP c p 3).toNat)) 0, [1], [0]⟩ (treeN c - 1)
/-- The tree, and the place behind it. -/
def treeW (c : List Int) (p : Nat) : Nat × List Int := leavesTo c (treeD c p).lv (treeD c p).fr ((treeD c p).p, (treeD c p).ws) (treeD c p).fr.length

/-- What holds of a tree that is being drawn: n frames of N are tables' or may be. -/
structure OkT (n N : Nat) (d : DT) : Prop where
  len : d.lv.length = d.fr.length
  pos : 0 < d.fr.length
  cnt : d.fr.length ≤ n
  lv : ∀ x ∈ d.lv, 1 ≤ x ∧ x ≤ 3
  fr : ∀ x ∈ d.fr, 0 ≤ x ∧ x < (n : Int)
  ws : d.ws.length = 16 * N
  wf : ∀ x ∈ d.ws, 0 ≤ x ∧ x < 18446744073709551616
theorem getD_mem {l : List Int} {P : Int → Prop} (h : ∀ x ∈ l, P x) {i : Nat} (hi : i < l.length) : P (l.getD i 0) := by
  rw [List.getD_eq_getElem?_getD, List.getElem?_eq_getElem hi]; exact h _ (List.getElem_mem hi)
theorem enc_range (l : Int) (d : Int × Int × Int) : 0 ≤ enc l d ∧ enc l d < 18446744073709551616 := by
  unfold enc
  by_cases h : (d.1 ≠ 1 ∧ d.1 ≠ 2 ∧ d.1 ≠ 3) ∨ d.2.1 < 0 ∨ d.2.1 ≥ 65536 ∨ d.2.2 < 0 ∨ d.2.2 > 7
  · rw [if_pos h]; omega
  · rw [if_neg h]
    split
    · split <;> omega
    · omega
theorem set_range {l : List Int} {i : Nat} {x : Int} (h : ∀ y ∈ l, 0 ≤ y ∧ y < 18446744073709551616) (hx : 0 ≤ x ∧ x < 18446744073709551616) : ∀ y ∈ l.set i x, 0 ≤ y ∧ y < 18446744073709551616 := by
  intro y hy
  rcases List.mem_or_eq_of_mem_set hy with h1 | h1
  · exact h y h1
  · rw [h1]; exact hx
section
variable {c : List Int} {n N : Nat} {d : DT}
theorem OkT.a (h : OkT n N d) (hc : Bytes c) : d.a c < d.lv.length ∧ (d.a c : Int) = takeP c d.p d.lv.length := by
  have := takeP_lt hc d.p d.lv.length (by have := h.len; have := h.pos; omega)
  unfold DT.a; omega
theorem OkT.at (h : OkT n N d) (hc : Bytes c) (hN : n ≤ N) : d.at c < d.ws.length ∧ (d.at c : Int) = d.fr.getD (d.a c) 0 * 16 + takeP c (d.p + 1) 16 := by
  have h1 := takeP_lt hc (d.p + 1) 16 (by omega)
  have h2 := (h.a hc).1
  rw [h.len] at h2
  have h3 := getD_mem h.fr h2
  have h4 := h.ws
  unfold DT.at; omega
theorem OkT.step (h : OkT n N d) (hc : Bytes c) (f : Nat) (hf : f < n) (hl : d.fr.length < n) : OkT n N (treeStep c d f) := by
  unfold treeStep
  have h2 := (h.a hc).1
  have h3 := getD_mem h.lv h2
  generalize hlv : d.lv.getD (d.a c) 0 = lv at *
  by_cases g : lv < 3 ∧ d.ws.getD (d.at c) 0 = 0
  · rw [if_pos g]
    refine ⟨by simp [h.len], by simp, by simp; omega, ?_, ?_, by simp [h.ws], set_range h.wf (enc_range _ _)⟩
    · intro x hx
      rcases List.mem_append.1 hx with hx | hx
      · exact h.lv x hx
      · simp at hx; omega
    · intro x hx
      rcases List.mem_append.1 hx with hx | hx
      · exact h.fr x hx
      · simp at hx; omega
  · rw [if_neg g]
    exact ⟨h.len, h.pos, h.cnt, h.lv, h.fr, h.ws, h.wf⟩
theorem treeStep_len (c : List Int) (d : DT) (f : Nat) : (treeStep c d f).fr.length ≤ d.fr.length + 1 ∧ (treeStep c d f).p = d.p + 2 := by
  unfold treeStep; split <;> simp
theorem treeTo_p (c : List Int) (d : DT) (k : Nat) : (treeTo c d k).p = d.p + 2 * k ∧ (treeTo c d k).fr.length ≤ d.fr.length + k := by
  induction k with
  | zero => simp [treeTo]
  | succ k ih => simp only [treeTo]; have := treeStep_len c (treeTo c d k) (k + 1); omega
theorem treeTo_ok (hc : Bytes c) (h : OkT n N d) (h1 : d.fr.length = 1) : ∀ k, k < n → OkT n N (treeTo c d k) := by
  intro k
  induction k with
  | zero => intro _; exact h
  | succ k ih =>
    intro hk
    have h2 := treeTo_p c d k
    exact (ih (by omega)).step hc (k + 1) hk (by omega)
end
/-- What holds of the words behind. -/
structure OkW (N : Nat) (ws : List Int) : Prop where
  len : ws.length = 16 * N
  wf : ∀ x ∈ ws, 0 ≤ x ∧ x < 18446744073709551616
section
variable {c : List Int} {n N : Nat} {l f : Int} {s : Nat × List Int}
theorem leafAt_b (hc : Bytes c) (hf : 0 ≤ f ∧ f < (n : Int)) (hN : n ≤ N) (p : Nat) : leafAt c f p < 16 * N ∧ (leafAt c f p : Int) = f * 16 + takeP c p 16 := by
  have h1 := takeP_lt hc p 16 (by omega)
  unfold leafAt; omega
theorem leaf1_ok (h : OkW N s.2) : OkW N (leaf1 c l f s).2 ∧ (leaf1 c l f s).1 ≤ s.1 + 2 := by
  unfold leaf1
  split
  · refine ⟨⟨by simp [h.len], set_range h.wf ?_⟩, by simp⟩
    unfold leafW; split <;> exact enc_range _ _
  · exact ⟨h, by simp⟩
theorem leafStep_ok (hc : Bytes c) (k : Nat) (h : OkW N s.2) : OkW N (leafStep c l f k s).2 ∧ (leafStep c l f k s).1 ≤ s.1 + 2 := by
  have h1 := leaf1_ok (c := c) (l := l) (f := f) h
  unfold leafStep
  split
  · refine ⟨⟨by simp [h1.1.len], set_range h1.1.wf ?_⟩, h1.2⟩
    have := takeP_lt hc s.1 16 (by omega)
    omega
  · exact h1
theorem leafTo_ok (hc : Bytes c) (h : OkW N s.2) (k : Nat) : OkW N (leafTo c l f s k).2 ∧ (leafTo c l f s k).1 ≤ s.1 + 2 * k := by
  induction k with
  | zero => exact ⟨h, by simp [leafTo]⟩
  | succ k ih =>
    have := leafStep_ok (l := l) (f := f) hc k ih.1
    exact ⟨this.1, by simp only [leafTo]; omega⟩
theorem leavesTo_ok (hc : Bytes c) (lv fr : List Int) (h : OkW N s.2) (i : Nat) : OkW N (leavesTo c lv fr s i).2 ∧ (leavesTo c lv fr s i).1 ≤ s.1 + 10 * i := by
  induction i with
  | zero => exact ⟨h, by simp [leavesTo]⟩
  | succ i ih =>
    have := leafTo_ok (l := lv.getD i 0) (f := fr.getD i 0) hc ih.1 5
    exact ⟨this.1, by simp only [leavesTo]; omega⟩
end
theorem treeN_b (c : List Int) : 3 ≤ treeN c ∧ treeN c ≤ 24 := by unfold treeN sizeP; split <;> omega
theorem treeD_ok {c : List Int} (hc : Bytes c) (p : Nat) : OkT (treeN c) (treeN c + (takeP c p 3).toNat) (treeD c p) ∧ (treeD c p).p ≤ p + 50 := by
  have hb := treeN_b c
  refine ⟨treeTo_ok hc ⟨rfl, by simp, by simp; omega, by simp, by simp; omega, by simp, ?_⟩ rfl (treeN c - 1) (by omega), ?_⟩
  · intro x hx; rw [List.eq_of_mem_replicate hx]; omega
  · unfold treeD; rw [(treeTo_p _ _ _).1]; simp only; omega
theorem treeW_ok {c : List Int} (hc : Bytes c) (p : Nat) : OkW (treeN c + (takeP c p 3).toNat) (treeW c p).2 ∧ (treeW c p).1 ≤ p + 300 := by
  have h := treeD_ok hc p
  have hb := treeN_b c
  have h1 := h.1.cnt
  have := leavesTo_ok hc (treeD c p).lv (treeD c p).fr (s := ((treeD c p).p, (treeD c p).ws)) ⟨h.1.ws, h.1.wf⟩ (treeD c p).fr.length
  exact ⟨this.1, by have := this.2; unfold treeW; simp only at this; omega⟩
end Go.Proofs.Ythphfcheencbgaa.Draw
