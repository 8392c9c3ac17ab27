/- Plain law: what Places lists are the tables that walks read in, and a memory is a tree exactly if no walk ends badly and no two places share a frame. No program in sight. -/
import Derived.Test.YtomomaoncmgfpaaSpecPlaces
namespace Go.Proofs.Ytomomaoncmgfpaa.Mmu
open Go.RowKit Go.Proofs.Ytomomaoncmgfpaa.Base Go.Proofs.Ytomomaoncmgfpaa.Kinds Go.Proofs.Ytomomaoncmgfpaa.DecMath
set_option linter.unusedVariables false
set_option linter.unusedSimpArgs false

theorem walk_bad (ws : List Int) (n pg : Int) (d : Nat) (l f x : Int) (hx : wordP ws f (idx l pg) = x) :
    (walkAt ws n pg (d + 1) l f).1 = 3 ↔ (dec l x).1 = 4 ∨ ((dec l x).1 = 1 ∧ (¬ (dec l x).2.1 < n ∨ (walkAt ws n pg d (l + 1) (dec l x).2.1).1 = 3)) := by
  have hx' : ws.getD (f * 16 + idx l pg).toNat 0 = x := hx
  rw [walkAt, hx']
  rcases dec_kind l x with h | h | h | h | h
  · simp [h]
  · by_cases g : (dec l x).2.1 < n
    · simp [h, g]
    · simp [h, g]
  · simp [h]
  · simp [h]
  · simp [h]
theorem idx_in {p : SPlace} {l c : Int} (hl : p.Level = l) (hc : cov l = c) (hc0 : c = 256 ∨ c = 16 ∨ c = 1) (ha : p.Page % (c * 16) = 0) (hp : 0 ≤ p.Page) (i : Nat) (hi : i < 16) (r : Int) (hr : 0 ≤ r ∧ r < c) : idx l (p.Page + (i : Int) * c + r) = (i : Int) := by
  unfold idx
  rw [hc]
  rcases hc0 with e | e | e <;> subst e <;> omega
theorem idx_of {p : SPlace} {l c : Int} (hl : p.Level = l) (hc : cov l = c) (hc0 : c = 256 ∨ c = 16 ∨ c = 1) (ha : p.Page % (c * 16) = 0) (hp : 0 ≤ p.Page) (pg : Int) (h1 : p.Page ≤ pg) (h2 : pg < p.Page + 16 * c) :
    ∃ (i : Nat) (r : Int), i < 16 ∧ 0 ≤ r ∧ r < c ∧ pg = p.Page + (i : Int) * c + r := by
  rcases hc0 with e | e | e <;> subst e
  · exact ⟨((pg - p.Page) / 256).toNat, (pg - p.Page) % 256, by omega, by omega, by omega, by omega⟩
  · exact ⟨((pg - p.Page) / 16).toNat, (pg - p.Page) % 16, by omega, by omega, by omega, by omega⟩
  · exact ⟨(pg - p.Page).toNat, 0, by omega, by omega, by omega, by omega⟩
theorem walk_words (ws : List Int) (d : Nat) (p : SPlace) (hd : (d : Int) = 3 - p.Level) (hl : 1 ≤ p.Level) (hpg : 0 ≤ p.Page) (ha : alignP p) :
    (∀ q ∈ placesP ws d p, wordsOk ws q 16) ↔ ∀ pg : Int, p.Page ≤ pg → pg < p.Page + 16 * cov p.Level → (walkAt ws ((ws.length / 16 : Nat) : Int) pg (d + 1) p.Level p.Frame).1 ≠ 3 := by
  induction d generalizing p with
  | zero =>
    have hl3 : p.Level = 3 := by omega
    have hc : cov p.Level = 1 := by rw [hl3]; rfl
    unfold alignP at ha
    rw [hc] at ha
    constructor
    · intro h pg h1 h2 hbad
      rw [hc] at h2
      obtain ⟨i, r, hi, hr0, hr1, e⟩ := idx_of rfl hc (by omega) ha hpg pg h1 h2
      have hix := idx_in rfl hc (by omega) ha hpg i hi r ⟨hr0, hr1⟩
      rw [← e] at hix
      have hw := h p (by simp [placesP]) i hi
      rw [walk_bad ws _ pg 0 p.Level p.Frame _ (by rw [hix])] at hbad
      rcases hbad with hb | ⟨hb, _⟩
      · exact hw.1 hb
      · have := dec_table _ _ hb; omega
    · intro h q hq i hi
      simp [placesP] at hq
      subst hq
      have hix := idx_in (p := q) rfl hc (by omega) ha hpg i hi 0 (by omega)
      have := h (q.Page + (i : Int) * 1 + 0) (by omega) (by rw [hc]; omega)
      rw [Ne, walk_bad ws _ _ 0 q.Level q.Frame _ (by rw [hix])] at this
      refine ⟨fun hb => this (Or.inl hb), fun hb => ?_⟩
      have := dec_table _ _ hb; omega
  | succ d ih =>
    have hl12 : p.Level = 1 ∨ p.Level = 2 := by omega
    obtain ⟨c, hc⟩ : ∃ c, cov p.Level = c := ⟨_, rfl⟩
    have hcb : c = 256 ∨ c = 16 ∨ c = 1 := by rcases hl12 with e | e <;> rw [e] at hc <;> simp [cov] at hc <;> omega
    have hcc : 16 * cov (p.Level + 1) = c := by rw [← hc]; rcases hl12 with e | e <;> rw [e] <;> rfl
    have hal := ha
    unfold alignP at ha
    rw [hc] at ha ⊢
    -- a child, its range
    have child : ∀ i : Nat, i < 16 → tabP ws p.Level (wordP ws p.Frame i) →
        ((∀ q ∈ placesP ws d ⟨(dec p.Level (wordP ws p.Frame i)).2.1, p.Level + 1, p.Page + (i : Int) * cov p.Level⟩, wordsOk ws q 16) ↔
          ∀ pg : Int, p.Page + (i : Int) * c ≤ pg → pg < p.Page + (i : Int) * c + c → (walkAt ws ((ws.length / 16 : Nat) : Int) pg (d + 1) (p.Level + 1) (dec p.Level (wordP ws p.Frame i)).2.1).1 ≠ 3) := by
      intro i hi ht
      have := ih ⟨(dec p.Level (wordP ws p.Frame i)).2.1, p.Level + 1, p.Page + (i : Int) * cov p.Level⟩ (by simp only; omega) (by simp only; omega) (by simp only; rw [hc]; rcases hcb with e | e | e <;> subst e <;> omega) (by
        unfold alignP
        simp only
        rw [hc]
        rcases hl12 with e | e <;> rw [e] at hc ⊢ <;> simp [cov] at hc ⊢ <;> subst hc <;> omega)
      simp only at this
      rw [hcc, hc] at this
      rw [hc]
      exact this
    constructor
    · intro h pg h1 h2 hbad
      obtain ⟨i, r, hi, hr0, hr1, e⟩ := idx_of rfl hc hcb ha hpg pg h1 h2
      have hix := idx_in rfl hc hcb ha hpg i hi r ⟨hr0, hr1⟩
      rw [← e] at hix
      have hw := h p (by simp [placesP]) i hi
      rw [walk_bad ws _ pg (d + 1) p.Level p.Frame _ (by rw [hix])] at hbad
      rcases hbad with hb | ⟨hb, hb2⟩
      · exact hw.1 hb
      · have hlt := hw.2 hb
        rcases hb2 with hb2 | hb2
        · exact hb2 hlt
        · refine (child i hi ⟨hb, hlt⟩).1 (fun q hq => h q ?_) pg (by omega) (by omega) hb2
          simp only [placesP, List.mem_cons, List.mem_flatMap, List.mem_range]
          exact Or.inr ⟨i, hi, by unfold belowP; rw [if_pos ⟨hb, hlt⟩]; exact hq⟩
    · intro h q hq
      simp only [placesP, List.mem_cons, List.mem_flatMap, List.mem_range] at hq
      rcases hq with rfl | ⟨i, hi, hq⟩
      · intro i hi
        have hix := idx_in rfl hc hcb ha hpg i hi 0 (by omega)
        have := h (q.Page + (i : Int) * c + 0) (by rcases hcb with e | e | e <;> subst e <;> omega) (by rcases hcb with e | e | e <;> subst e <;> omega)
        rw [Ne, walk_bad ws _ _ (d + 1) q.Level q.Frame _ (by rw [hix])] at this
        exact ⟨fun hb => this (Or.inl hb), fun hb => Classical.byContradiction fun hn => this (Or.inr ⟨hb, Or.inl hn⟩)⟩
      · unfold belowP at hq
        by_cases ht : tabP ws p.Level (wordP ws p.Frame i)
        · rw [if_pos ht] at hq
          refine (child i hi ht).2 (fun pg h1 h2 => ?_) q hq
          have hix := idx_in rfl hc hcb ha hpg i hi (pg - (p.Page + (i : Int) * c)) (by omega)
          rw [show p.Page + (i : Int) * c + (pg - (p.Page + (i : Int) * c)) = pg by omega] at hix
          have := h pg (by rcases hcb with e | e | e <;> subst e <;> omega) (by rcases hcb with e | e | e <;> subst e <;> omega)
          rw [Ne, walk_bad ws _ pg (d + 1) p.Level p.Frame _ (by rw [hix])] at this
          exact fun hb => this (Or.inr ⟨ht.1, Or.inr hb⟩)
        · rw [if_neg ht] at hq; simp at hq

def sumTo (f : Nat → Nat) : Nat → Nat
  | 0 => 0
  | k + 1 => sumTo f k + f k
theorem sum_add (f : Nat → Nat) (a b : Nat) : sumTo f (a + b) = sumTo f a + sumTo (fun j => f (a + j)) b := by
  induction b with
  | zero => rfl
  | succ b ih => rw [← Nat.add_assoc]; simp only [sumTo]; rw [ih]; omega
theorem sum16 (f : Nat → Nat) (k : Nat) : sumTo f (16 * k) = sumTo (fun i => sumTo (fun j => f (16 * i + j)) 16) k := by
  induction k with
  | zero => rfl
  | succ k ih => rw [show 16 * (k + 1) = 16 * k + 16 by omega, sum_add, ih]; rfl
theorem sum_congr {f g : Nat → Nat} (k : Nat) (h : ∀ i, i < k → f i = g i) : sumTo f k = sumTo g k := by
  induction k with
  | zero => rfl
  | succ k ih => simp only [sumTo]; rw [ih (fun i hi => h i (by omega)), h k (by omega)]
theorem flat_sum (f : Nat → List SPlace) (k : Nat) : ((List.range k).flatMap f).length = sumTo (fun i => (f i).length) k := by
  induction k with
  | zero => rfl
  | succ k ih => rw [range_snoc, List.length_append, ih]; rfl

/-- The first word on a page's way; is it a table's; the table's frame. -/
def x1 (ws : List Int) (g : Nat) : Int := wordP ws 0 ((g / 256 : Nat) : Int)
def o1 (ws : List Int) (g : Nat) : Int := (dec 1 (x1 ws g)).2.1
def x2 (ws : List Int) (g : Nat) : Int := wordP ws (o1 ws g) ((g / 16 % 16 : Nat) : Int)
def o2 (ws : List Int) (g : Nat) : Int := (dec 2 (x2 ws g)).2.1
def t1 (ws : List Int) (g : Nat) : Prop := tabP ws 1 (x1 ws g)
def t2 (ws : List Int) (g : Nat) : Prop := tabP ws 2 (x2 ws g)
instance (ws : List Int) (g : Nat) : Decidable (t1 ws g) := by unfold t1; infer_instance
instance (ws : List Int) (g : Nat) : Decidable (t2 ws g) := by unfold t2; infer_instance
/-- How many places the law counts at a page. -/
def cAt (ws : List Int) (g : Nat) : Nat := if g % 16 = 0 ∧ t1 ws g then (if g % 256 = 0 then 1 else 0) + (if t2 ws g then 1 else 0) else 0
def rootP (ws : List Int) : List SPlace := placesP ws 2 ⟨0, 1, 0⟩
theorem root_mem (ws : List Int) : (⟨0, 1, 0⟩ : SPlace) ∈ rootP ws := by simp [rootP, placesP]
theorem below1 (ws : List Int) (k : Nat) (hk : k < 16) : belowP ws (placesP ws 1) ⟨0, 1, 0⟩ k = if t1 ws (256 * k) then placesP ws 1 ⟨o1 ws (256 * k), 2, ((256 * k : Nat) : Int)⟩ else [] := by
  have e : x1 ws (256 * k) = wordP ws 0 (k : Int) := by unfold x1; rw [show 256 * k / 256 = k by omega]
  have e2 : (0 : Int) + (k : Int) * cov 1 = ((256 * k : Nat) : Int) := by show (0 : Int) + (k : Int) * 256 = _; omega
  have ht : t1 ws (256 * k) ↔ tabP ws 1 (wordP ws 0 (k : Int)) := by unfold t1; rw [e]
  have ho : o1 ws (256 * k) = (dec 1 (wordP ws 0 (k : Int))).2.1 := by unfold o1; rw [e]
  unfold belowP
  by_cases h : t1 ws (256 * k)
  · rw [if_pos h, if_pos (ht.1 h), ho]
    simp only [e2]
    rfl
  · rw [if_neg h, if_neg (fun g => h (ht.2 g))]
theorem below2 (ws : List Int) (k j : Nat) (hk : k < 16) (hj : j < 16) : belowP ws (placesP ws 0) ⟨o1 ws (256 * k), 2, ((256 * k : Nat) : Int)⟩ j = if t2 ws (256 * k + 16 * j) then [⟨o2 ws (256 * k + 16 * j), 3, ((256 * k + 16 * j : Nat) : Int)⟩] else [] := by
  have eo : o1 ws (256 * k + 16 * j) = o1 ws (256 * k) := by unfold o1 x1; rw [show (256 * k + 16 * j) / 256 = 256 * k / 256 by omega]
  have e : x2 ws (256 * k + 16 * j) = wordP ws (o1 ws (256 * k)) (j : Int) := by unfold x2; rw [eo, show (256 * k + 16 * j) / 16 % 16 = j by omega]
  have e2 : ((256 * k : Nat) : Int) + (j : Int) * cov 2 = ((256 * k + 16 * j : Nat) : Int) := by show _ + (j : Int) * 16 = _; omega
  have ht : t2 ws (256 * k + 16 * j) ↔ tabP ws 2 (wordP ws (o1 ws (256 * k)) (j : Int)) := by unfold t2; rw [e]
  have ho : o2 ws (256 * k + 16 * j) = (dec 2 (wordP ws (o1 ws (256 * k)) (j : Int))).2.1 := by unfold o2; rw [e]
  unfold belowP
  by_cases h : t2 ws (256 * k + 16 * j)
  · rw [if_pos h, if_pos (ht.1 h), ho]
    simp only [e2]
    rfl
  · rw [if_neg h, if_neg (fun g => h (ht.2 g))]
theorem t1_in (ws : List Int) (k j : Nat) (hj : j < 16) : t1 ws (256 * k + 16 * j) ↔ t1 ws (256 * k) := by
  unfold t1 x1; rw [show (256 * k + 16 * j) / 256 = 256 * k / 256 by omega]
theorem has2 (ws : List Int) (g : Nat) (hg : g < 4096) (h0 : g % 256 = 0) (ht : t1 ws g) : (⟨o1 ws g, 2, (g : Int)⟩ : SPlace) ∈ rootP ws := by
  obtain ⟨k, rfl⟩ : ∃ k, g = 256 * k := ⟨g / 256, by omega⟩
  unfold rootP
  simp only [placesP, List.mem_cons, List.mem_flatMap, List.mem_range]
  refine Or.inr ⟨k, by omega, ?_⟩
  have := below1 ws k (by omega)
  simp only [placesP] at this
  rw [this, if_pos ht]
  simp
theorem has3 (ws : List Int) (g : Nat) (hg : g < 4096) (h0 : g % 16 = 0) (ht : t1 ws g) (ht2 : t2 ws g) : (⟨o2 ws g, 3, (g : Int)⟩ : SPlace) ∈ rootP ws := by
  obtain ⟨k, j, hj, rfl⟩ : ∃ k j, j < 16 ∧ g = 256 * k + 16 * j := ⟨g / 256, g / 16 % 16, by omega, by omega⟩
  unfold rootP
  simp only [placesP, List.mem_cons, List.mem_flatMap, List.mem_range]
  refine Or.inr ⟨k, by omega, ?_⟩
  have := below1 ws k (by omega)
  simp only [placesP] at this
  rw [this, if_pos ((t1_in ws k j hj).1 ht)]
  simp only [List.mem_cons, List.mem_flatMap, List.mem_range]
  refine Or.inr ⟨j, hj, ?_⟩
  have := below2 ws k j (by omega) hj
  simp only [placesP] at this
  rw [this, if_pos ht2]
  simp
theorem count_eq (ws : List Int) : (rootP ws).length = 1 + sumTo (cAt ws) 4096 := by
  have h1 : (rootP ws).length = 1 + sumTo (fun k => (belowP ws (placesP ws 1) ⟨0, 1, 0⟩ k).length) 16 := by
    unfold rootP
    rw [placesP, List.length_cons, flat_sum]; omega
  rw [h1, show 4096 = 16 * 256 from rfl, sum16]
  have h2 : sumTo (fun i => sumTo (fun j => cAt ws (16 * i + j)) 16) 256 = sumTo (fun m => cAt ws (16 * m)) 256 := by
    refine sum_congr _ (fun m _ => ?_)
    have e : ∀ j, 0 < j → j < 16 → cAt ws (16 * m + j) = 0 := fun j h0 h1 => by unfold cAt; rw [if_neg (by omega)]
    simp only [sumTo, e 1 (by decide) (by decide), e 2 (by decide) (by decide), e 3 (by decide) (by decide), e 4 (by decide) (by decide), e 5 (by decide) (by decide), e 6 (by decide) (by decide), e 7 (by decide) (by decide), e 8 (by decide) (by decide), e 9 (by decide) (by decide), e 10 (by decide) (by decide), e 11 (by decide) (by decide), e 12 (by decide) (by decide), e 13 (by decide) (by decide), e 14 (by decide) (by decide), e 15 (by decide) (by decide)]
    simp
  rw [h2, show 256 = 16 * 16 from rfl, sum16]
  congr 1
  refine sum_congr _ (fun k hk => ?_)
  rw [below1 ws k hk]
  by_cases ht : t1 ws (256 * k)
  · rw [if_pos ht, placesP, List.length_cons, flat_sum]
    have e1 : sumTo (fun i => (belowP ws (placesP ws 0) ⟨o1 ws (256 * k), 2, ((256 * k : Nat) : Int)⟩ i).length) 16 = sumTo (fun j => if t2 ws (256 * k + 16 * j) then 1 else 0) 16 := by
      refine sum_congr _ (fun j hj => ?_)
      rw [below2 ws k j hk hj]
      split <;> rfl
    rw [e1]
    have e2 : ∀ j, j < 16 → cAt ws (16 * (16 * k + j)) = (if j = 0 then 1 else 0) + (if t2 ws (256 * k + 16 * j) then 1 else 0) := by
      intro j hj
      unfold cAt
      rw [show 16 * (16 * k + j) = 256 * k + 16 * j by omega, if_pos ⟨by omega, (t1_in ws k j hj).2 ht⟩]
      by_cases hj0 : j = 0
      · rw [if_pos (by omega), if_pos hj0]
      · rw [if_neg (by omega), if_neg hj0]
    rw [sum_congr 16 e2]
    simp only [sumTo]
    simp
    omega
  · rw [if_neg ht]
    have e2 : ∀ j, j < 16 → cAt ws (16 * (16 * k + j)) = 0 := by
      intro j hj
      unfold cAt
      rw [show 16 * (16 * k + j) = 256 * k + 16 * j by omega, if_neg (fun h => ht ((t1_in ws k j hj).1 h.2))]
    rw [sum_congr 16 e2]
    rfl
/-- No walk ends badly, up to a page. -/
def cleanTo (ws : List Int) (g : Nat) : Prop := ∀ p : Nat, p < g → (walkAt ws ((ws.length / 16 : Nat) : Int) (p : Int) 3 1 0).1 ≠ 3
/-- No two places share a frame, up to i. -/
def freshTo (ps : List SPlace) (i : Nat) : Prop := ∀ a : Nat, a < i → ∀ p, ps[a]? = some p → freshP ps a a p
theorem tree_clean (ws : List Int) : treeTo ws (rootP ws) (rootP ws).length ↔ cleanTo ws 4096 ∧ freshTo (rootP ws) (rootP ws).length := by
  have hw := walk_words ws 2 ⟨0, 1, 0⟩ (by simp) (by simp) (by simp) (by simp [alignP])
  simp only at hw
  constructor
  · intro h
    refine ⟨fun p hp => ?_, fun a ha p hpa => (h a ha p hpa).1⟩
    refine hw.1 (fun q hq => ?_) (p : Int) (by omega) (by show (p : Int) < 0 + 16 * 256; omega)
    obtain ⟨i, hi⟩ := List.getElem?_of_mem hq
    exact (h i (List.getElem?_eq_some_iff.1 hi).1 q hi).2
  · rintro ⟨h1, h2⟩ i hi p hp
    refine ⟨h2 i hi p hp, hw.2 (fun pg a b => ?_) p (List.mem_of_getElem? hp)⟩
    have hb : pg < 0 + 16 * 256 := b
    have := h1 pg.toNat (by omega)
    rwa [show ((pg.toNat : Nat) : Int) = pg by omega] at this
end Go.Proofs.Ytomomaoncmgfpaa.Mmu
