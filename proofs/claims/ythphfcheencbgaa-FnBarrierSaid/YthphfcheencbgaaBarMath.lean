/- What is drawn for the law on barriers, as plain functions: a page, a used machine, a spoilt machine, an operation. No program in sight. -/
import Derived.Test.YthphfcheencbgaaDraw4
import Derived.Test.YthphfcheencbgaaFillValid
import Derived.Test.YthphfcheencbgaaStepLaws
namespace Go.Proofs.Ythphfcheencbgaa.Draw
open Go.RowKit Go.Proofs.Ythphfcheencbgaa.Base Go.Proofs.Ythphfcheencbgaa.Kinds Go.Proofs.Ythphfcheencbgaa.DecMath Go.Proofs.Ythphfcheencbgaa.L1 Go.Proofs.Ythphfcheencbgaa.Mmu
set_option linter.unusedVariables false
set_option linter.unusedSimpArgs false
/-- The page is mapped. -/
def hitB (ws : List Int) (p : Int) : Bool := decide ((walkAt ws ((ws.length / 16 : Nat) : Int) p 3 1 0).1 = 1)
/-- The page that is drawn. -/
def pageP (c : List Int) (p : Nat) (ws : List Int) : Int :=
  if takeP c p 8 < 6 then
    match (List.range 4096).find? (fun (i : Nat) => hitB ws ((takeP c (p + 1) 4096 + (i : Int)) % 4096)) with
    | some i => if takeP c p 8 = 5 then ((takeP c (p + 1) 4096 + (i : Int)) % 4096 + 1) % 4096 else ((takeP c (p + 1) 4096 + (i : Int)) % 4096 + takeP c (p + 1) 4096 % 3) % 4096
    | none => takeP c (p + 1) 4096
  else takeP c (p + 1) 4096
theorem pageP_range {c : List Int} (hc : Bytes c) (p : Nat) (ws : List Int) : 0 ≤ pageP c p ws ∧ pageP c p ws < 4096 := by
  have h := takeP_lt hc (p + 1) 4096 (by omega)
  unfold pageP
  split
  · split
    · split <;> omega
    · exact h
  · exact h
theorem pageP_high {c : List Int} {p : Nat} {ws : List Int} (h : ¬ takeP c p 8 < 6) : pageP c p ws = takeP c (p + 1) 4096 := by unfold pageP; rw [if_neg h]
theorem range_find {n k : Nat} {f : Nat → Bool} (hk : k < n) (h : f k = true) (hn : ∀ j, j < k → f j = false) : (List.range n).find? f = some k := by
  rw [List.find?_range_eq_some]
  exact ⟨h, by simpa using hk, fun j hj => by simp [hn j hj]⟩
theorem range_none {n : Nat} {f : Nat → Bool} (hn : ∀ j, j < n → f j = false) : (List.range n).find? f = none := by
  rw [List.find?_range_eq_none]
  exact fun i hi => by simp [hn i hi]
theorem pageP_none {c : List Int} {p : Nat} {ws : List Int} {b : Int} (hb : takeP c (p + 1) 4096 = b) (hn : ∀ j : Nat, j < 4096 → hitB ws ((b + (j : Int)) % 4096) = false) : pageP c p ws = b := by
  unfold pageP
  rw [hb, range_none hn]
  split <;> rfl
theorem pageP_five {c : List Int} {p k : Nat} {ws : List Int} {b : Int} (ha : takeP c p 8 = 5) (hb : takeP c (p + 1) 4096 = b) (hk : k < 4096) (h : hitB ws ((b + (k : Int)) % 4096) = true) (hn : ∀ j : Nat, j < k → hitB ws ((b + (j : Int)) % 4096) = false) : pageP c p ws = ((b + (k : Int)) % 4096 + 1) % 4096 := by
  unfold pageP
  rw [hb, range_find hk h hn, if_pos (by omega)]
  simp only
  rw [if_pos ha]
theorem pageP_low {c : List Int} {p k : Nat} {ws : List Int} {b : Int} (ha : takeP c p 8 < 6) (ha5 : ¬ takeP c p 8 = 5) (hb : takeP c (p + 1) 4096 = b) (hk : k < 4096) (h : hitB ws ((b + (k : Int)) % 4096) = true) (hn : ∀ j : Nat, j < k → hitB ws ((b + (j : Int)) % 4096) = false) : pageP c p ws = ((b + (k : Int)) % 4096 + b % 3) % 4096 := by
  unfold pageP
  rw [hb, range_find hk h hn, if_pos ha]
  simp only
  rw [if_neg ha5]
/-- The last word that a walk reads. -/
def addrAt (ws : List Int) (n pg : Int) : Nat → Int → Int → Int
  | 0, l, f => f * 16 + idx l pg
  | d + 1, l, f => if (dec l (ws.getD (f * 16 + idx l pg).toNat 0)).1 = 1 ∧ (dec l (ws.getD (f * 16 + idx l pg).toNat 0)).2.1 < n then addrAt ws n pg d (l + 1) (dec l (ws.getD (f * 16 + idx l pg).toNat 0)).2.1 else f * 16 + idx l pg
def addrP (ws : List Int) (pg : Int) : Int := addrAt ws ((ws.length / 16 : Nat) : Int) pg 2 1 0
theorem addrAt_range (ws : List Int) (n pg : Int) (hp : 0 ≤ pg) (d : Nat) : ∀ (l f : Int), 0 ≤ f → f < n → 0 ≤ addrAt ws n pg d l f ∧ addrAt ws n pg d l f < 16 * n := by
  induction d with
  | zero => intro l f h0 h1; have := idx_lt l pg hp; simp only [addrAt]; omega
  | succ d ih =>
    intro l f h0 h1
    have := idx_lt l pg hp
    simp only [addrAt]
    split
    · rename_i h; exact ih _ _ (dec_out _ _).1 h.2
    · omega
theorem addrP_range {ws : List Int} (h : okLen ws) (pg : Int) (hp : 0 ≤ pg) : 0 ≤ addrP ws pg ∧ addrP ws pg < (ws.length : Int) := by
  obtain ⟨h1, h2, h3⟩ := h
  have := addrAt_range ws ((ws.length / 16 : Nat) : Int) pg hp 2 1 0 (by omega) (by omega)
  unfold addrP; omega
/-- The choice of a drawn fill. -/
def orC (ch : Int) : Int := Go.bits .or .i64 (Go.bits .or .i64 ch 64) 16
theorem orC_fin : ∀ k : Fin 256, 0 ≤ orC ((k.val : Nat) : Int) ∧ orC ((k.val : Nat) : Int) ≤ 255 := by decide +kernel
theorem orC_range {ch : Int} (h0 : 0 ≤ ch) (h1 : ch < 256) : 0 ≤ orC ch ∧ orC ch ≤ 65535 := by
  have := orC_fin ⟨ch.toNat, by omega⟩
  simp only [show ((ch.toNat : Nat) : Int) = ch by omega] at this
  omega
/-- Every n-th entry doomed, up to k. -/
def doomTo {α : Type} (dm : α → α) (n a : Int) (l : List α) (k : Nat) : List α := l.mapIdx (fun j e => if j < k ∧ (j : Int) % n = a % n then dm e else e)
theorem doomTo_len {α : Type} (dm : α → α) (n a : Int) (l : List α) (k : Nat) : (doomTo dm n a l k).length = l.length := by simp [doomTo]
theorem doomTo_zero {α : Type} (dm : α → α) (n a : Int) (l : List α) : doomTo dm n a l 0 = l := by
  apply List.ext_getElem (by simp [doomTo])
  intro i h1 h2; simp [doomTo]
theorem doomTo_get {α : Type} (dm : α → α) (n a : Int) (l : List α) (k : Nat) : (doomTo dm n a l k)[k]? = l[k]? := by
  simp [doomTo]
theorem doomTo_no {α : Type} {dm : α → α} {n a : Int} {l : List α} {k : Nat} (h : ¬ (k : Int) % n = a % n) : doomTo dm n a l (k + 1) = doomTo dm n a l k := by
  apply List.ext_getElem (by simp [doomTo])
  intro i h1 h2
  have : (i < k + 1 ∧ (i : Int) % n = a % n) ↔ (i < k ∧ (i : Int) % n = a % n) := by
    constructor
    · rintro ⟨a1, a2⟩
      refine ⟨?_, a2⟩
      rcases Nat.lt_or_ge i k with g | g
      · exact g
      · obtain rfl : i = k := by omega
        exact absurd a2 h
    · rintro ⟨a1, a2⟩; exact ⟨by omega, a2⟩
  simp only [doomTo, List.getElem_mapIdx, this]
theorem doomTo_yes {α : Type} {dm : α → α} {n a : Int} {l : List α} {k : Nat} {e : α} (he : l[k]? = some e) (h : (k : Int) % n = a % n) : doomTo dm n a l (k + 1) = (doomTo dm n a l k).set k (dm e) := by
  obtain ⟨hk, hke⟩ := List.getElem?_eq_some_iff.1 he
  apply List.ext_getElem (by simp [doomTo])
  intro i h1 h2
  by_cases e' : k = i
  · subst e'
    simp [doomTo, h, hke]
  · have : (i < k + 1 ∧ (i : Int) % n = a % n) ↔ (i < k ∧ (i : Int) % n = a % n) := by
      constructor
      · rintro ⟨a1, a2⟩; exact ⟨by omega, a2⟩
      · rintro ⟨a1, a2⟩; exact ⟨by omega, a2⟩
    simp only [doomTo, List.getElem_mapIdx, List.getElem_set, if_neg e', this]
theorem doomTo_all {α : Type} {p : α → Prop} {dm : α → α} (hd : ∀ e, p e → p (dm e)) (n a : Int) (l : List α) (k : Nat) (h : ∀ e ∈ l, p e) : ∀ e ∈ doomTo dm n a l k, p e := by
  intro e he
  simp only [doomTo, List.mem_mapIdx] at he
  obtain ⟨i, hi, rfl⟩ := he
  split
  · exact hd _ (h _ (List.getElem_mem _))
  · exact h _ (List.getElem_mem _)
def dmT (e : STlb) : STlb := { e with Doomed := true }
def dmW (e : SWc) : SWc := { e with Doomed := true }
/-- The word of a drawn write. -/
def wordD (ws : List Int) (ad ch : Int) : Int := if ch % 2 = 0 then ws.getD ((ad + ch) % (ws.length : Int)).toNat 0 else 0
/-- One step of the drawing of a used machine. -/
def drawStep (c : List Int) (s : SM × Nat) : SM × Nat :=
  (if takeP c s.2 8 < 5 then (walkP s.1 (pageP c (s.2 + 1) s.1.ws) (orC (takeP c (s.2 + 3) 256))).1
   else if takeP c s.2 8 = 5 then { s.1 with pend := s.1.pend ++ [⟨addrP s.1.ws (pageP c (s.2 + 1) s.1.ws), wordD s.1.ws (addrP s.1.ws (pageP c (s.2 + 1) s.1.ws)) (takeP c (s.2 + 3) 256)⟩] }
   else { s.1 with tlb := doomTo dmT 3 (takeP c s.2 8) s.1.tlb s.1.tlb.length, wc := doomTo dmW 2 (takeP c s.2 8) s.1.wc s.1.wc.length }, s.2 + 4)
def drawIt (c : List Int) (s : SM × Nat) : Nat → SM × Nat
  | 0 => s
  | k + 1 => drawStep c (drawIt c s k)
/-- What holds of a used machine, behind k steps. -/
structure UsedM (ws : List Int) (q k : Nat) (s : SM × Nat) : Prop where
  mem : s.1.ws = ws
  ok : Valid s.1
  wf : WfM s.1
  few : s.1.pend.length ≤ k
  at_ : s.2 = q + 4 * k
theorem drawStep_used {c : List Int} (hc : Bytes c) {ws : List Int} {q k : Nat} {s : SM × Nat} (hk : k ≤ 100) (h : UsedM ws q k s) : UsedM ws q (k + 1) (drawStep c s) := by
  have hpg := pageP_range hc (s.2 + 1) s.1.ws
  unfold drawStep
  split
  · obtain ⟨h1, h2⟩ := walkP_keeps h.ok (pageP c (s.2 + 1) s.1.ws) (orC (takeP c (s.2 + 3) 256))
    exact ⟨h1.trans h.mem, walkP_valid h.ok _ _ hpg, walkP_wf h.ok h.wf _ _, by simp only; rw [h2]; have := h.few; omega, by simp only; rw [h.at_]; omega⟩
  · split
    · have ha := addrP_range h.ok.frames (pageP c (s.2 + 1) s.1.ws) hpg.1
      have hf := h.few
      refine ⟨h.mem, ⟨h.ok.frames, by simp only [List.length_append, List.length_singleton]; omega, h.ok.ntlb, h.ok.nwc, fun e he => ?_, h.ok.tlb, h.ok.wc⟩, ⟨h.wf.1, fun e he => ?_⟩, by simp only [List.length_append, List.length_singleton]; omega, by simp only; rw [h.at_]; omega⟩
      · rcases List.mem_append.1 he with he | he
        · exact h.ok.pend e he
        · rw [List.mem_singleton.1 he]; exact ha
      · rcases List.mem_append.1 he with he | he
        · exact h.wf.2 e he
        · rw [List.mem_singleton.1 he]
          simp only [wordD]
          split
          · rw [List.getD_eq_getElem?_getD]
            cases e : s.1.ws[((addrP s.1.ws (pageP c (s.2 + 1) s.1.ws) + takeP c (s.2 + 3) 256) % (s.1.ws.length : Int)).toNat]? with
            | none => simp
            | some x => exact h.wf.1 x (List.mem_of_getElem? e)
          · simp
    · refine ⟨h.mem, ⟨h.ok.frames, h.ok.npend, by simp only [doomTo_len]; exact h.ok.ntlb, by simp only [doomTo_len]; exact h.ok.nwc, h.ok.pend, ?_, ?_⟩, h.wf, by have := h.few; simp only; omega, by simp only; rw [h.at_]; omega⟩
      · exact doomTo_all (p := okTlb) (dm := dmT) (fun e he => he) _ _ _ _ h.ok.tlb
      · exact doomTo_all (p := okWc ((s.1.ws.length / 16 : Nat) : Int)) (dm := dmW) (fun e he => he) _ _ _ _ h.ok.wc
theorem drawIt_used {c : List Int} (hc : Bytes c) {ws : List Int} {q : Nat} {s : SM × Nat} (h : UsedM ws q 0 s) : ∀ k, k ≤ 100 → UsedM ws q k (drawIt c s k)
  | 0, _ => h
  | k + 1, hk => drawStep_used hc (by omega) (drawIt_used hc h k (by omega))
theorem used0 {ws : List Int} (hw : ∀ x ∈ ws, 0 ≤ x ∧ x < 18446744073709551616) (hl : okLen ws) (q : Nat) : UsedM ws q 0 (⟨ws, [], [], []⟩, q) :=
  ⟨rfl, ⟨hl, by simp, by simp, by simp, fun e he => (by cases he), fun e he => (by cases he), fun e he => (by cases he)⟩, ⟨hw, fun e he => (by cases he)⟩, by simp, rfl⟩
/-- The used machine, and the place behind it. -/
noncomputable def machD (c : List Int) (p : Nat) : SM × Nat := if okLen (memW c p) then drawIt c (⟨memW c p, [], [], []⟩, memQ c p) (sizeP c 8 3 12) else (⟨memW c p, [], [], []⟩, memQ c p)
/-- A machine broken in one place, or with an entry that conflicts. -/
def spoilM (c : List Int) (p : Nat) (m : SM) : SM :=
  let a := takeP c p 10
  let b := takeP c (p + 1) 200
  if a = 0 then { m with pend := m.pend ++ [⟨(m.ws.length : Int), 0⟩] }
  else if a = 1 then { m with tlb := m.tlb ++ [⟨3, 16, 16, 1, false⟩] }
  else if a = 2 then { m with tlb := m.tlb ++ [⟨b, 1, 16, 8, false⟩] }
  else if a = 3 then { m with wc := m.wc ++ [⟨1, 0, 0, false⟩] }
  else if a = 4 then { m with wc := m.wc ++ [⟨3, 16, (m.ws.length : Int), false⟩] }
  else if a = 5 then { m with tlb := m.tlb ++ (List.range ((256 + b % 2).toNat - m.tlb.length)).map (fun i => ⟨0, 1, ((m.tlb.length + i : Nat) : Int), 1, false⟩) }
  else if a = 6 then { m with wc := m.wc ++ List.replicate ((256 + b % 2).toNat - m.wc.length) ⟨2, 0, 0, true⟩ }
  else match m.tlb[(b % (m.tlb.length : Int)).toNat]? with
    | some e => { m with tlb := m.tlb ++ [⟨e.Page, 1, (e.Out + b % 3) % 65536, e.Perm, decide (a = 7)⟩] }
    | none => m
/-- The address of a drawn write. -/
def opAt (c : List Int) (p : Nat) (m : SM) : Int :=
  if takeP c p 16 = 8 then pageP c (p + 2) m.ws / 256
  else if takeP c p 16 = 9 then ((if Valid m then addrP (latestOf m) (pageP c (p + 2) m.ws) else addrP m.ws (pageP c (p + 2) m.ws)) + takeP c (p + 1) 64) % (m.ws.length : Int)
  else if Valid m then addrP (latestOf m) (pageP c (p + 2) m.ws) else addrP m.ws (pageP c (p + 2) m.ws)
/-- The word of a drawn write. -/
def opWord (c : List Int) (p : Nat) (m : SM) : Int :=
  let a := takeP c (p + 1) 64
  if a % 8 = 2 then enc 2 (1, a % ((m.ws.length / 16 : Nat) : Int), 0)
  else if a % 4 = 1 then m.ws.getD (opAt c p m).toNat 0
  else if a % 4 = 0 ∨ a % 4 = 3 then enc 3 (3, a * 7, a % 7 + 1)
  else 0
/-- The operation that is drawn for a machine whose memory has a size. -/
def opD (c : List Int) (p : Nat) (m : SM) : SOp :=
  let k := takeP c p 16
  let a := takeP c (p + 1) 64
  let page := pageP c (p + 2) m.ws
  if k < 3 then ⟨2, 0, 0, 0⟩
  else if k < 6 then
    let pg : Int := if a % 3 = 0 then page - page % 16 else page
    let b : Int := if a % 3 = 0 then 16 * (a % 5 + 1) else 1
    ⟨3, pg, if 4096 < pg + b then 1 else b, 0⟩
  else if k < 8 then ⟨4, a % (((m.ws.length / 16 : Nat) : Int) + 1), 0, 0⟩
  else if k = 15 then ⟨a % 6, page * 2 - 8, a % 3 - 1, a % 2⟩
  else ⟨1, opAt c p m, 0, opWord c p m⟩
/-- The machine of which a broken word is made anew. -/
def brokenM (m : SM) (ad : Int) (ten : Bool) : SM :=
  let m1 := (stepAll (stepAll m ⟨1, ad, 0, 0⟩).1 ⟨2, 0, 0, 0⟩).1
  if ten = true then (stepAll (stepAll m1 ⟨3, 0, 4096, 0⟩).1 ⟨2, 0, 0, 0⟩).1 else m1
/-- The machine and the operation that are drawn. -/
noncomputable def stepD (c : List Int) : SM × SOp :=
  let how := takeP c 0 12
  let q := (machD c 1).2
  let m := if how = 11 then spoilM c q (machD c 1).1 else (machD c 1).1
  if okLen m.ws then
    (if 7 ≤ how ∧ how ≤ 10 then
      match m.tlb[(q + 5) % m.tlb.length]? with
      | some e => if (stepAll m ⟨1, addrP m.ws e.Page, 0, 0⟩).2 = 0 then (brokenM m (addrP m.ws e.Page) (decide (how = 10)), ⟨1, addrP m.ws e.Page, 0, enc 3 (3, ((q + 5 : Nat) : Int), 3)⟩) else (m, opD c q m)
      | none => (m, opD c q m)
    else (m, opD c q m))
  else (m, ⟨2, 0, 0, 0⟩)
end Go.Proofs.Ythphfcheencbgaa.Draw
