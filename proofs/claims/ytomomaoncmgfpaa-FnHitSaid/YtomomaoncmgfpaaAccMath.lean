/- An access, as plain functions: what the cache of translations says of a page, what is seen. No program in sight. -/
import Derived.Test.YtomomaoncmgfpaaGoMath
namespace Go.Proofs.Ytomomaoncmgfpaa.Mmu
open Go.RowKit Go.Proofs.Ytomomaoncmgfpaa.Base Go.Proofs.Ytomomaoncmgfpaa.Kinds Go.Proofs.Ytomomaoncmgfpaa.DecMath
set_option linter.unusedVariables false
set_option linter.unusedSimpArgs false
/-- The entries that cover a page. -/
def covL (l : List STlb) (page : Int) : List STlb := l.filter (fun e => decide (tcovP e page))
/-- All say what a says. -/
def allSame (a : STlb) (l : List STlb) : Prop := ∀ e ∈ l, sameP a e
instance (a : STlb) (l : List STlb) : Decidable (allSame a l) := by unfold allSame; infer_instance
/-- What the covering entries say: a hit (kind, out, perm, size). -/
def cacheP (l : List STlb) (page : Int) : Option (Int × Int × Int × Int) :=
  match covL l page with
  | [] => none
  | a :: r => if allSame a (a :: r) then some (1, a.Out + page - a.Page, a.Perm, a.Size) else some (4, 0, 0, 0)
/-- The kind and the frame that are seen, of a hit. -/
def lookP (need : Int) (h : Int × Int × Int × Int) : Int × Int := if h.1 = 1 then (if h.2.2.1 / need % 2 = 1 then (1, h.2.1) else (2, 0)) else (h.1, 0)
/-- The machine after an access, and the hit. -/
def accP (m : SM) (page choice : Int) : SM × Int × Int × Int × Int :=
  match (if bitB choice 7 = true then cacheP m.tlb page else none) with
  | some h => (m, h)
  | none => walkP m page choice
def needP (need : Int) : Prop := need = 1 ∨ need = 2 ∨ need = 4
instance (n : Int) : Decidable (needP n) := by unfold needP; infer_instance
/-- The machine after an access, and what is seen: page, need, kind, out. -/
def accessS (m : SM) (page need choice : Int) : SM × SSeen :=
  if Valid m ∧ (0 ≤ page ∧ page < 4096) ∧ (0 ≤ choice ∧ choice ≤ 65535) ∧ needP need then ((accP m page choice).1, ⟨page, need, (lookP need (accP m page choice).2).1, (lookP need (accP m page choice).2).2⟩)
  else (⟨[], [], [], []⟩, ⟨0, 0, 0, 0⟩)
theorem sameP_trans {a b c : STlb} (h : sameP a b) (k : sameP b c) : sameP a c := ⟨h.1.trans k.1, h.2.1.trans k.2.1, h.2.2.1.trans k.2.2.1, h.2.2.2.trans k.2.2.2⟩
theorem sameP_symm {a b : STlb} (h : sameP a b) : sameP b a := ⟨h.1.symm, h.2.1.symm, h.2.2.1.symm, h.2.2.2.symm⟩
theorem sameP_refl (a : STlb) : sameP a a := ⟨rfl, rfl, rfl, rfl⟩
theorem covL_take {l : List STlb} {k : Nat} {e : STlb} (page : Int) (h : l[k]? = some e) : covL (l.take (k + 1)) page = if tcovP e page then covL (l.take k) page ++ [e] else covL (l.take k) page := by
  unfold covL
  rw [List.take_add_one, h, List.filter_append]
  by_cases hc : tcovP e page <;> simp [hc]
theorem covL_mem {l : List STlb} {page : Int} {e : STlb} (h : e ∈ covL l page) : e ∈ l ∧ tcovP e page := by
  unfold covL at h
  simpa using h
theorem accP_keeps {m : SM} (hv : m.tlb.length ≤ 256 ∧ m.wc.length ≤ 256) (page choice : Int) : (accP m page choice).1.ws = m.ws ∧ (accP m page choice).1.pend = m.pend ∧ (accP m page choice).1.tlb.length ≤ 256 ∧ (accP m page choice).1.wc.length ≤ 256 := by
  unfold accP
  split
  · exact ⟨rfl, rfl, hv.1, hv.2⟩
  · exact goP_keeps page choice (4 - (beginP m page choice).1).toNat m (beginP m page choice).1 (beginP m page choice).2.1 (beginP m page choice).2.2 hv.1 hv.2
theorem accessS_small (m : SM) (page need choice : Int) : ((accessS m page need choice).1.ws.length : Int) + (accessS m page need choice).1.pend.length + (accessS m page need choice).1.tlb.length + (accessS m page need choice).1.wc.length ≤ 1048576 := by
  unfold accessS
  split
  · rename_i h
    obtain ⟨hv, _⟩ := h
    obtain ⟨k1, k2, k3, k4⟩ := accP_keeps ⟨hv.ntlb, hv.nwc⟩ page choice
    simp only
    rw [k1, k2]
    have := hv.frames
    have := hv.npend
    omega
  · simp
/-- The permissions of a walk's hit. -/
theorem goP_perm (page choice : Int) (n : Nat) (m : SM) (level frame : Int) (doomed : Bool) : 0 ≤ (goP page choice n m level frame doomed).2.2.2.1 ∧ (goP page choice n m level frame doomed).2.2.2.1 < 8 := by
  induction n generalizing m level frame with
  | zero => simp [goP]
  | succ n ih =>
    simp only [goP]
    split
    · simp
    · split
      · exact ih _ _ _
      · split
        · have := dec_out level (readP m (frame * 16 + idx level page) (bitB choice level.toNat)); simp only; omega
        · simp
/-- The answer is a machine whose lists are the call's own, and what is seen. -/
def MSPost (w : World) (r : SM × SSeen) (e : Ending) (w' : World) : Prop := ∃ u0 u1 u2 u3, e = .returned (.tuple #[.agg #[u0, u1, u2, u3], SSeen.val r.2]) ∧ OwnM w.heap.size w' u0 u1 u2 u3 r.1 ∧ Below w.heap.size w w'
end Go.Proofs.Ytomomaoncmgfpaa.Mmu
