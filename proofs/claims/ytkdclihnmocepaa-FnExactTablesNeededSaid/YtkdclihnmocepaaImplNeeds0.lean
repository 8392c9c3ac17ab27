/- Closed facts on the type of needs, and what the literal of needsOf builds. -/
import Derived.Test.YtkdclihnmocepaaImplEvery
import Derived.Test.YtkdclihnmocepaaNeedMath
namespace Go.Proofs.Ytkdclihnmocepaa.Mmu
open Go.RowKit Go.Proofs.Ytkdclihnmocepaa.Base Go.Proofs.Ytkdclihnmocepaa.Kinds
set_option linter.unusedVariables false
set_option linter.unusedSimpArgs false

def falses (n : Nat) : List Bool := List.replicate n false
set_option maxRecDepth 100000 in
theorem builtNeed0 (parts : List (Nat × Value)) : Try.prog.built 44 parts = Instr.fill (#[((0 : Nat), (16384 : Nat)), (16384, 16), (16400, 256), (16656, 256), (16912, 1)][·]?) (needCells (List.replicate 4096 noHit) (falses 16) (falses 256) (falses 256) 0) parts := by kernel_rfl
theorem fold_head (X0 Z0 R : List Value) (h : X0.length = Z0.length) : (X0.toArray.zipIdx.foldl (fun cs (x : Value × Nat) => cs.setIfInBounds (0 + x.2) x.1) (Z0 ++ R).toArray) = (X0 ++ R).toArray := by
  rw [← Array.foldl_toList, Array.toList_zipIdx]
  obtain ⟨h1, h2⟩ := Great.foldl_set 0 X0 0 (Z0 ++ R).toArray
  apply Array.ext_getElem?
  intro k
  rw [h2 k]
  by_cases hk : k < X0.length
  · rw [if_pos ⟨by omega, by omega, by simp; omega⟩]
    simp [List.getElem?_append_left hk]
  · rw [if_neg (by omega)]
    simp only [List.getElem?_toArray]
    rw [List.getElem?_append_right (by omega), List.getElem?_append_right (by omega), h]
theorem falses_len (n : Nat) : (falses n).length = n := List.length_replicate
theorem fill_cons (place : Nat → Option (Nat × Nat)) (cells : Array Value) (i off size : Nat) (v : Value) (rest : List (Nat × Value)) (hp : place i = some (off, size)) (hs : v.cells.size = size) (ho : off + size ≤ cells.size) :
    Instr.fill place cells ((i, v) :: rest) = Instr.fill place (v.cells.zipIdx.foldl (fun cs (x : Value × Nat) => cs.setIfInBounds (off + x.2) x.1) cells) rest := by
  rw [Instr.fill]
  simp only [hp]
  rw [if_neg (by simp; omega)]
theorem builtNeed (H : List SHit) (hH : H.length = 4096) : Try.prog.built 44 [(0, .agg (hitCells H)), (4, .int .i64 1)] = some (needCells H (falses 16) (falses 256) (falses 256) 1) := by
  rw [builtNeed0]
  have hz : (needCells (List.replicate 4096 noHit) (falses 16) (falses 256) (falses 256) 0).size = 16913 := need_size ⟨List.length_replicate, falses_len _, falses_len _, falses_len _⟩
  have hx : (hitCells H).size = 16384 := by rw [hitCells_size, hH]
  have hl : NeedLens H (falses 16) (falses 256) (falses 256) := ⟨hH, falses_len _, falses_len _, falses_len _⟩
  have e1 : (hitCells H).zipIdx.foldl (fun cs (x : Value × Nat) => cs.setIfInBounds (0 + x.2) x.1) (needCells (List.replicate 4096 noHit) (falses 16) (falses 256) (falses 256) 0) = needCells H (falses 16) (falses 256) (falses 256) 0 := by
    unfold needCells needL hitCells
    exact fold_head _ _ _ (by rw [hl.hf, flat_len SHit.len, List.length_replicate])
  have hz2 : (needCells H (falses 16) (falses 256) (falses 256) 0).size = 16913 := need_size hl
  rw [← need_setC hl 1 (c := 0)]
  generalize needCells (List.replicate 4096 noHit) (falses 16) (falses 256) (falses 256) 0 = Z at hz e1
  generalize needCells H (falses 16) (falses 256) (falses 256) 0 = Y at e1 hz2
  generalize hitCells H = X at hx e1
  rw [fill_cons _ Z 0 0 16384 (.agg X) _ rfl hx (by omega)]
  have e2 : (Value.cells (.agg X)).zipIdx.foldl (fun cs (x : Value × Nat) => cs.setIfInBounds (0 + x.2) x.1) Z = Y := e1
  rw [e2, fill_cons _ Y 4 16912 1 (.int .i64 1) _ rfl rfl (by omega)]
  have e3 : (Value.cells (.int .i64 1)).zipIdx.foldl (fun cs (x : Value × Nat) => cs.setIfInBounds (16912 + x.2) x.1) Y = Y.setIfInBounds 16912 (.int .i64 1) := by
    show (#[Value.int .i64 1]).zipIdx.foldl _ Y = _
    rw [← Array.foldl_toList, Array.toList_zipIdx]
    rfl
  rw [e3]
  rfl
end Go.Proofs.Ytkdclihnmocepaa.Mmu
