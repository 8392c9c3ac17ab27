/- The structs of the program as Lean structures, and their cells. Nothing of the program's functions. -/
import Derived.Test.YtemfnbcebgflmaaBase
namespace Go.Proofs.Ytemfnbcebgflmaa.Kinds
open Go.RowKit Go.Proofs.Ytemfnbcebgflmaa.Base
set_option linter.unusedVariables false
set_option linter.unusedSimpArgs false

def wEnc (x : Int) : List Value := [.int .u64 x]
theorem wLen (x : Int) : (wEnc x).length = 1 := rfl
theorem wOne (x : Int) : ∀ u ∈ wEnc x, u.oneCell' = true := by intro u hu; simp [wEnc] at hu; subst hu; rfl
theorem word_at {w : World} {A : Option Addr} {n cap k : Nat} {l : List Int} (h : Rd wEnc 1 w (.slice A n cap) l) (hk : k < l.length) : ∃ ad x, A = some ad ∧ l[k]? = some x ∧ w.cell? (ad.add k) = some (.int .u64 x) := by
  obtain ⟨ad, x, e, hx, hu⟩ := h.get hk
  exact ⟨ad, x, e, hx, by simpa using hu 0 _ rfl⟩

structure SWrite where
  Adr : Int
  Word : Int
  deriving DecidableEq
def SWrite.enc (x : SWrite) : List Value := [.int .i64 x.Adr, .int .u64 x.Word]
def SWrite.val (x : SWrite) : Value := .agg #[.int .i64 x.Adr, .int .u64 x.Word]
theorem SWrite.len (x : SWrite) : (SWrite.enc x).length = 2 := rfl
theorem SWrite.one (x : SWrite) : ∀ u ∈ SWrite.enc x, u.oneCell' = true := by
  intro u hu
  simp only [SWrite.enc, List.mem_cons, List.not_mem_nil, or_false] at hu
  rcases hu with rfl | rfl <;> rfl
theorem SWrite.at {w : World} {A : Option Addr} {n cap k : Nat} {l : List SWrite} (h : Rd SWrite.enc 2 w (.slice A n cap) l) (hk : k < l.length) :
    ∃ ad x, A = some ad ∧ l[k]? = some x ∧ w.cell? (ad.add (k * 2)) = some (.int .i64 x.Adr) ∧ w.cell? ⟨(ad.add (k * 2)).block, (ad.add (k * 2)).off + 1, none⟩ = some (.int .u64 x.Word) := by
  obtain ⟨ad, x, e, hx, hu⟩ := h.get hk
  exact ⟨ad, x, e, hx, field0 hu rfl, fieldN hu 1 (by decide) rfl⟩

structure STlb where
  Page : Int
  Size : Int
  Out : Int
  Perm : Int
  Doomed : Bool
  deriving DecidableEq
def STlb.enc (x : STlb) : List Value := [.int .i64 x.Page, .int .i64 x.Size, .int .i64 x.Out, .int .i64 x.Perm, .bool x.Doomed]
def STlb.val (x : STlb) : Value := .agg #[.int .i64 x.Page, .int .i64 x.Size, .int .i64 x.Out, .int .i64 x.Perm, .bool x.Doomed]
theorem STlb.len (x : STlb) : (STlb.enc x).length = 5 := rfl
theorem STlb.one (x : STlb) : ∀ u ∈ STlb.enc x, u.oneCell' = true := by
  intro u hu
  simp only [STlb.enc, List.mem_cons, List.not_mem_nil, or_false] at hu
  rcases hu with rfl | rfl | rfl | rfl | rfl <;> rfl
theorem STlb.at {w : World} {A : Option Addr} {n cap k : Nat} {l : List STlb} (h : Rd STlb.enc 5 w (.slice A n cap) l) (hk : k < l.length) :
    ∃ ad x, A = some ad ∧ l[k]? = some x ∧ w.cell? (ad.add (k * 5)) = some (.int .i64 x.Page) ∧ w.cell? ⟨(ad.add (k * 5)).block, (ad.add (k * 5)).off + 1, none⟩ = some (.int .i64 x.Size) ∧ w.cell? ⟨(ad.add (k * 5)).block, (ad.add (k * 5)).off + 2, none⟩ = some (.int .i64 x.Out) ∧ w.cell? ⟨(ad.add (k * 5)).block, (ad.add (k * 5)).off + 3, none⟩ = some (.int .i64 x.Perm) ∧ w.cell? ⟨(ad.add (k * 5)).block, (ad.add (k * 5)).off + 4, none⟩ = some (.bool x.Doomed) := by
  obtain ⟨ad, x, e, hx, hu⟩ := h.get hk
  exact ⟨ad, x, e, hx, field0 hu rfl, fieldN hu 1 (by decide) rfl, fieldN hu 2 (by decide) rfl, fieldN hu 3 (by decide) rfl, fieldN hu 4 (by decide) rfl⟩

structure SWc where
  Level : Int
  Page : Int
  Table : Int
  Doomed : Bool
  deriving DecidableEq
def SWc.enc (x : SWc) : List Value := [.int .i64 x.Level, .int .i64 x.Page, .int .i64 x.Table, .bool x.Doomed]
def SWc.val (x : SWc) : Value := .agg #[.int .i64 x.Level, .int .i64 x.Page, .int .i64 x.Table, .bool x.Doomed]
theorem SWc.len (x : SWc) : (SWc.enc x).length = 4 := rfl
theorem SWc.one (x : SWc) : ∀ u ∈ SWc.enc x, u.oneCell' = true := by
  intro u hu
  simp only [SWc.enc, List.mem_cons, List.not_mem_nil, or_false] at hu
  rcases hu with rfl | rfl | rfl | rfl <;> rfl
theorem SWc.at {w : World} {A : Option Addr} {n cap k : Nat} {l : List SWc} (h : Rd SWc.enc 4 w (.slice A n cap) l) (hk : k < l.length) :
    ∃ ad x, A = some ad ∧ l[k]? = some x ∧ w.cell? (ad.add (k * 4)) = some (.int .i64 x.Level) ∧ w.cell? ⟨(ad.add (k * 4)).block, (ad.add (k * 4)).off + 1, none⟩ = some (.int .i64 x.Page) ∧ w.cell? ⟨(ad.add (k * 4)).block, (ad.add (k * 4)).off + 2, none⟩ = some (.int .i64 x.Table) ∧ w.cell? ⟨(ad.add (k * 4)).block, (ad.add (k * 4)).off + 3, none⟩ = some (.bool x.Doomed) := by
  obtain ⟨ad, x, e, hx, hu⟩ := h.get hk
  exact ⟨ad, x, e, hx, field0 hu rfl, fieldN hu 1 (by decide) rfl, fieldN hu 2 (by decide) rfl, fieldN hu 3 (by decide) rfl⟩

structure SSpan where
  Page : Int
  Count : Int
  Out : Int
  Perm : Int
  Huge : Bool
  deriving DecidableEq
def SSpan.enc (x : SSpan) : List Value := [.int .i64 x.Page, .int .i64 x.Count, .int .i64 x.Out, .int .i64 x.Perm, .bool x.Huge]
def SSpan.val (x : SSpan) : Value := .agg #[.int .i64 x.Page, .int .i64 x.Count, .int .i64 x.Out, .int .i64 x.Perm, .bool x.Huge]
theorem SSpan.len (x : SSpan) : (SSpan.enc x).length = 5 := rfl
theorem SSpan.one (x : SSpan) : ∀ u ∈ SSpan.enc x, u.oneCell' = true := by
  intro u hu
  simp only [SSpan.enc, List.mem_cons, List.not_mem_nil, or_false] at hu
  rcases hu with rfl | rfl | rfl | rfl | rfl <;> rfl
theorem SSpan.at {w : World} {A : Option Addr} {n cap k : Nat} {l : List SSpan} (h : Rd SSpan.enc 5 w (.slice A n cap) l) (hk : k < l.length) :
    ∃ ad x, A = some ad ∧ l[k]? = some x ∧ w.cell? (ad.add (k * 5)) = some (.int .i64 x.Page) ∧ w.cell? ⟨(ad.add (k * 5)).block, (ad.add (k * 5)).off + 1, none⟩ = some (.int .i64 x.Count) ∧ w.cell? ⟨(ad.add (k * 5)).block, (ad.add (k * 5)).off + 2, none⟩ = some (.int .i64 x.Out) ∧ w.cell? ⟨(ad.add (k * 5)).block, (ad.add (k * 5)).off + 3, none⟩ = some (.int .i64 x.Perm) ∧ w.cell? ⟨(ad.add (k * 5)).block, (ad.add (k * 5)).off + 4, none⟩ = some (.bool x.Huge) := by
  obtain ⟨ad, x, e, hx, hu⟩ := h.get hk
  exact ⟨ad, x, e, hx, field0 hu rfl, fieldN hu 1 (by decide) rfl, fieldN hu 2 (by decide) rfl, fieldN hu 3 (by decide) rfl, fieldN hu 4 (by decide) rfl⟩

structure SPlace where
  Frame : Int
  Level : Int
  Page : Int
  deriving DecidableEq
def SPlace.enc (x : SPlace) : List Value := [.int .i64 x.Frame, .int .i64 x.Level, .int .i64 x.Page]
def SPlace.val (x : SPlace) : Value := .agg #[.int .i64 x.Frame, .int .i64 x.Level, .int .i64 x.Page]
theorem SPlace.len (x : SPlace) : (SPlace.enc x).length = 3 := rfl
theorem SPlace.one (x : SPlace) : ∀ u ∈ SPlace.enc x, u.oneCell' = true := by
  intro u hu
  simp only [SPlace.enc, List.mem_cons, List.not_mem_nil, or_false] at hu
  rcases hu with rfl | rfl | rfl <;> rfl
theorem SPlace.at {w : World} {A : Option Addr} {n cap k : Nat} {l : List SPlace} (h : Rd SPlace.enc 3 w (.slice A n cap) l) (hk : k < l.length) :
    ∃ ad x, A = some ad ∧ l[k]? = some x ∧ w.cell? (ad.add (k * 3)) = some (.int .i64 x.Frame) ∧ w.cell? ⟨(ad.add (k * 3)).block, (ad.add (k * 3)).off + 1, none⟩ = some (.int .i64 x.Level) ∧ w.cell? ⟨(ad.add (k * 3)).block, (ad.add (k * 3)).off + 2, none⟩ = some (.int .i64 x.Page) := by
  obtain ⟨ad, x, e, hx, hu⟩ := h.get hk
  exact ⟨ad, x, e, hx, field0 hu rfl, fieldN hu 1 (by decide) rfl, fieldN hu 2 (by decide) rfl⟩

structure SHit where
  Kind : Int
  Out : Int
  Perm : Int
  Size : Int
  deriving DecidableEq
def SHit.enc (x : SHit) : List Value := [.int .i64 x.Kind, .int .i64 x.Out, .int .i64 x.Perm, .int .i64 x.Size]
def SHit.val (x : SHit) : Value := .agg #[.int .i64 x.Kind, .int .i64 x.Out, .int .i64 x.Perm, .int .i64 x.Size]
theorem SHit.len (x : SHit) : (SHit.enc x).length = 4 := rfl
theorem SHit.one (x : SHit) : ∀ u ∈ SHit.enc x, u.oneCell' = true := by
  intro u hu
  simp only [SHit.enc, List.mem_cons, List.not_mem_nil, or_false] at hu
  rcases hu with rfl | rfl | rfl | rfl <;> rfl
theorem SHit.at {w : World} {A : Option Addr} {n cap k : Nat} {l : List SHit} (h : Rd SHit.enc 4 w (.slice A n cap) l) (hk : k < l.length) :
    ∃ ad x, A = some ad ∧ l[k]? = some x ∧ w.cell? (ad.add (k * 4)) = some (.int .i64 x.Kind) ∧ w.cell? ⟨(ad.add (k * 4)).block, (ad.add (k * 4)).off + 1, none⟩ = some (.int .i64 x.Out) ∧ w.cell? ⟨(ad.add (k * 4)).block, (ad.add (k * 4)).off + 2, none⟩ = some (.int .i64 x.Perm) ∧ w.cell? ⟨(ad.add (k * 4)).block, (ad.add (k * 4)).off + 3, none⟩ = some (.int .i64 x.Size) := by
  obtain ⟨ad, x, e, hx, hu⟩ := h.get hk
  exact ⟨ad, x, e, hx, field0 hu rfl, fieldN hu 1 (by decide) rfl, fieldN hu 2 (by decide) rfl, fieldN hu 3 (by decide) rfl⟩

structure SSeen where
  Page : Int
  Need : Int
  Kind : Int
  Out : Int
  deriving DecidableEq
def SSeen.enc (x : SSeen) : List Value := [.int .i64 x.Page, .int .i64 x.Need, .int .i64 x.Kind, .int .i64 x.Out]
def SSeen.val (x : SSeen) : Value := .agg #[.int .i64 x.Page, .int .i64 x.Need, .int .i64 x.Kind, .int .i64 x.Out]
theorem SSeen.len (x : SSeen) : (SSeen.enc x).length = 4 := rfl
theorem SSeen.one (x : SSeen) : ∀ u ∈ SSeen.enc x, u.oneCell' = true := by
  intro u hu
  simp only [SSeen.enc, List.mem_cons, List.not_mem_nil, or_false] at hu
  rcases hu with rfl | rfl | rfl | rfl <;> rfl
theorem SSeen.at {w : World} {A : Option Addr} {n cap k : Nat} {l : List SSeen} (h : Rd SSeen.enc 4 w (.slice A n cap) l) (hk : k < l.length) :
    ∃ ad x, A = some ad ∧ l[k]? = some x ∧ w.cell? (ad.add (k * 4)) = some (.int .i64 x.Page) ∧ w.cell? ⟨(ad.add (k * 4)).block, (ad.add (k * 4)).off + 1, none⟩ = some (.int .i64 x.Need) ∧ w.cell? ⟨(ad.add (k * 4)).block, (ad.add (k * 4)).off + 2, none⟩ = some (.int .i64 x.Kind) ∧ w.cell? ⟨(ad.add (k * 4)).block, (ad.add (k * 4)).off + 3, none⟩ = some (.int .i64 x.Out) := by
  obtain ⟨ad, x, e, hx, hu⟩ := h.get hk
  exact ⟨ad, x, e, hx, field0 hu rfl, fieldN hu 1 (by decide) rfl, fieldN hu 2 (by decide) rfl, fieldN hu 3 (by decide) rfl⟩

structure SOp where
  Kind : Int
  A : Int
  B : Int
  Word : Int
  deriving DecidableEq
def SOp.enc (x : SOp) : List Value := [.int .i64 x.Kind, .int .i64 x.A, .int .i64 x.B, .int .u64 x.Word]
def SOp.val (x : SOp) : Value := .agg #[.int .i64 x.Kind, .int .i64 x.A, .int .i64 x.B, .int .u64 x.Word]
theorem SOp.len (x : SOp) : (SOp.enc x).length = 4 := rfl
theorem SOp.one (x : SOp) : ∀ u ∈ SOp.enc x, u.oneCell' = true := by
  intro u hu
  simp only [SOp.enc, List.mem_cons, List.not_mem_nil, or_false] at hu
  rcases hu with rfl | rfl | rfl | rfl <;> rfl
theorem SOp.at {w : World} {A : Option Addr} {n cap k : Nat} {l : List SOp} (h : Rd SOp.enc 4 w (.slice A n cap) l) (hk : k < l.length) :
    ∃ ad x, A = some ad ∧ l[k]? = some x ∧ w.cell? (ad.add (k * 4)) = some (.int .i64 x.Kind) ∧ w.cell? ⟨(ad.add (k * 4)).block, (ad.add (k * 4)).off + 1, none⟩ = some (.int .i64 x.A) ∧ w.cell? ⟨(ad.add (k * 4)).block, (ad.add (k * 4)).off + 2, none⟩ = some (.int .i64 x.B) ∧ w.cell? ⟨(ad.add (k * 4)).block, (ad.add (k * 4)).off + 3, none⟩ = some (.int .u64 x.Word) := by
  obtain ⟨ad, x, e, hx, hu⟩ := h.get hk
  exact ⟨ad, x, e, hx, field0 hu rfl, fieldN hu 1 (by decide) rfl, fieldN hu 2 (by decide) rfl, fieldN hu 3 (by decide) rfl⟩

structure SEvent where
  Kind : Int
  Page : Int
  Need : Int
  Choice : Int
  deriving DecidableEq
def SEvent.enc (x : SEvent) : List Value := [.int .i64 x.Kind, .int .i64 x.Page, .int .i64 x.Need, .int .i64 x.Choice]
def SEvent.val (x : SEvent) : Value := .agg #[.int .i64 x.Kind, .int .i64 x.Page, .int .i64 x.Need, .int .i64 x.Choice]
theorem SEvent.len (x : SEvent) : (SEvent.enc x).length = 4 := rfl
theorem SEvent.one (x : SEvent) : ∀ u ∈ SEvent.enc x, u.oneCell' = true := by
  intro u hu
  simp only [SEvent.enc, List.mem_cons, List.not_mem_nil, or_false] at hu
  rcases hu with rfl | rfl | rfl | rfl <;> rfl
theorem SEvent.at {w : World} {A : Option Addr} {n cap k : Nat} {l : List SEvent} (h : Rd SEvent.enc 4 w (.slice A n cap) l) (hk : k < l.length) :
    ∃ ad x, A = some ad ∧ l[k]? = some x ∧ w.cell? (ad.add (k * 4)) = some (.int .i64 x.Kind) ∧ w.cell? ⟨(ad.add (k * 4)).block, (ad.add (k * 4)).off + 1, none⟩ = some (.int .i64 x.Page) ∧ w.cell? ⟨(ad.add (k * 4)).block, (ad.add (k * 4)).off + 2, none⟩ = some (.int .i64 x.Need) ∧ w.cell? ⟨(ad.add (k * 4)).block, (ad.add (k * 4)).off + 3, none⟩ = some (.int .i64 x.Choice) := by
  obtain ⟨ad, x, e, hx, hu⟩ := h.get hk
  exact ⟨ad, x, e, hx, field0 hu rfl, fieldN hu 1 (by decide) rfl, fieldN hu 2 (by decide) rfl, fieldN hu 3 (by decide) rfl⟩

end Go.Proofs.Ytemfnbcebgflmaa.Kinds
