/- Walk of the program's table. -/
import Derived.Test.YthphfcheencbgaaSpecPlaces
import Derived.Test.YthphfcheencbgaaL1
import Derived.Deep.MidRow
namespace Go.Proofs.Ythphfcheencbgaa.Mmu
open Go.RowKit Go.Proofs.Ythphfcheencbgaa.Base Go.Proofs.Ythphfcheencbgaa.Kinds Go.Proofs.Ythphfcheencbgaa.DecMath Go.Proofs.Ythphfcheencbgaa.L1
set_option linter.unusedVariables false
set_option linter.unusedSimpArgs false
/-- The sixteen words of a table. -/
def tableV (ws : List Int) (f : Int) : List Value := (List.range 16).map (fun (k : Nat) => Value.int .u64 (wordP ws f (k : Int)))
theorem St.set0 {w0 w : World} {b T : Nat} {cs : Array Value} {l : List (Nat × Array Value × Nat)} (h : St w0 ((b, cs, T) :: l) w) (o : Nat) (u : Value) : St w0 ((b, cs.setIfInBounds o u, T) :: l) (w.setCell ⟨b, o, none⟩ u) := St.set (l1 := []) h o u
set_option maxRecDepth 100000 in
set_option maxHeartbeats 4000000 in
theorem table_any (v0 : Value) (ws : List Int) (f : Int) (w : World) (r : Rd wEnc 1 w v0 ws) (hw : WfW ws) (hf : 0 ≤ f ∧ f < ((ws.length / 16 : Nat) : Int)) :
    Calls Try.prog 82 #[.agg #[v0], .int .i64 f] w fun e w' => e = .returned (.agg (tableV ws f).toArray) ∧ Below w.heap.size w w' := by
  obtain ⟨hf0, hf1⟩ := hf
  obtain ⟨ad, c, rfl, hc1, hc2, hcell, _, _, hax⟩ := wordP_at r hw f 0 ⟨hf0, hf1⟩ (by omega)
  obtain ⟨b, o, sp⟩ := ad
  have hlen := hw.2.2.2
  have hw1 : IntKind.i64.wrap (f * 16) = f * 16 := by rw [IntKind.wrap_i64]; omega
  have hm0 : 0 ≤ f * 16 := by omega
  have hm1 : f * 16 ≤ (c : Int) := by omega
  have hm2 : f * 16 ≤ (ws.length : Int) := by omega
  have hA : ∀ k : Nat, k < 16 → w.cell? ((Addr.add ⟨b, o, sp⟩ (f * 16).toNat).add k) = some (.int .u64 (wordP ws f (k : Int))) := by
    intro k hk
    obtain ⟨ad', c', e', _, _, hcell', _, _, _⟩ := wordP_at r hw f k ⟨hf0, hf1⟩ (by omega)
    simp only [Value.slice.injEq, Option.some.injEq] at e'
    rw [← e'.1] at hcell'
    rw [Addr.add_add, show (f * 16).toNat + k = (f * 16 + (k : Int)).toNat by omega]
    exact hcell'
  obtain ⟨A, hAe⟩ : ∃ A, Addr.add ⟨b, o, sp⟩ (f * 16).toNat = A := ⟨_, rfl⟩
  rw [hAe] at hA
  obtain ⟨b', o', sp'⟩ := A
  have hsp : sp' = none := by
    have h0 := hA 0 (by omega)
    cases sp' with
    | none => rfl
    | some y => 
      simp only [Addr.add, if_true, World.cell?, Option.isSome_some] at h0
      split at h0 <;> simp_all
  subst hsp
  have hT : w.rangeAt b' o' (tableV ws f) := by
    intro j v hv
    have hj : j < 16 := by
      have := (List.getElem?_eq_some_iff.1 hv).1
      simpa [tableV] using this
    rw [← Addr.add_mid, hA j hj]
    have : (tableV ws f)[j]? = some (.int .u64 (wordP ws f (j : Int))) := by
      unfold tableV
      rw [List.getElem?_map, List.getElem?_range hj]
      rfl
    rw [← hv, this]
  have hlt : (tableV ws f).length = 16 := by simp [tableV]
  have hlt : (tableV ws f).length = 16 := by simp [tableV]
  have hu : Try.prog.underlying 150 = some (.array 16 31) := by rfl
  have harr : ∀ W, (Instr.arrayAt 150 (.slice (some ⟨b', o', none⟩) (ws.length - (f * 16).toNat) (c - (f * 16).toNat))).run Try.prog W = .ok (.pointer (some ⟨b', o', none⟩)) W := by
    intro W
    unfold Instr.arrayAt
    rw [Sem.run_bind, run_underlying hu W]
    simp only [Result.andThen_ok]
    rw [if_neg (by omega)]
    rfl
  have HARR := Lib.hid harr
  clear harr hu hlt
  have hu16 : (tableV ws f) = [.int .u64 (wordP ws f 0), .int .u64 (wordP ws f 1), .int .u64 (wordP ws f 2), .int .u64 (wordP ws f 3), .int .u64 (wordP ws f 4), .int .u64 (wordP ws f 5), .int .u64 (wordP ws f 6), .int .u64 (wordP ws f 7), .int .u64 (wordP ws f 8), .int .u64 (wordP ws f 9), .int .u64 (wordP ws f 10), .int .u64 (wordP ws f 11), .int .u64 (wordP ws f 12), .int .u64 (wordP ws f 13), .int .u64 (wordP ws f 14), .int .u64 (wordP ws f 15)] := rfl
  go_enter Try.func82, Try.ntmps82
  go_upto_region 1 with fail
  refine ((St.start w).push2 _ _ _ _).gen (fun w1 S1 _ => ?_)
  have q0 := (S1.tail).c1
  have c0 : w1.cell? ⟨b', o', none⟩ = some (.int .u64 (wordP ws f 0)) := bC S1.b (hT 0 _ rfl)
  have c1 : w1.cell? ⟨b', o' + 1, none⟩ = some (.int .u64 (wordP ws f 1)) := bC S1.b (hT 1 _ rfl)
  have c2 : w1.cell? ⟨b', o' + 2, none⟩ = some (.int .u64 (wordP ws f 2)) := bC S1.b (hT 2 _ rfl)
  have c3 : w1.cell? ⟨b', o' + 3, none⟩ = some (.int .u64 (wordP ws f 3)) := bC S1.b (hT 3 _ rfl)
  have c4 : w1.cell? ⟨b', o' + 4, none⟩ = some (.int .u64 (wordP ws f 4)) := bC S1.b (hT 4 _ rfl)
  have c5 : w1.cell? ⟨b', o' + 5, none⟩ = some (.int .u64 (wordP ws f 5)) := bC S1.b (hT 5 _ rfl)
  have c6 : w1.cell? ⟨b', o' + 6, none⟩ = some (.int .u64 (wordP ws f 6)) := bC S1.b (hT 6 _ rfl)
  have c7 : w1.cell? ⟨b', o' + 7, none⟩ = some (.int .u64 (wordP ws f 7)) := bC S1.b (hT 7 _ rfl)
  have c8 : w1.cell? ⟨b', o' + 8, none⟩ = some (.int .u64 (wordP ws f 8)) := bC S1.b (hT 8 _ rfl)
  have c9 : w1.cell? ⟨b', o' + 9, none⟩ = some (.int .u64 (wordP ws f 9)) := bC S1.b (hT 9 _ rfl)
  have c10 : w1.cell? ⟨b', o' + 10, none⟩ = some (.int .u64 (wordP ws f 10)) := bC S1.b (hT 10 _ rfl)
  have c11 : w1.cell? ⟨b', o' + 11, none⟩ = some (.int .u64 (wordP ws f 11)) := bC S1.b (hT 11 _ rfl)
  have c12 : w1.cell? ⟨b', o' + 12, none⟩ = some (.int .u64 (wordP ws f 12)) := bC S1.b (hT 12 _ rfl)
  have c13 : w1.cell? ⟨b', o' + 13, none⟩ = some (.int .u64 (wordP ws f 13)) := bC S1.b (hT 13 _ rfl)
  have c14 : w1.cell? ⟨b', o' + 14, none⟩ = some (.int .u64 (wordP ws f 14)) := bC S1.b (hT 14 _ rfl)
  have c15 : w1.cell? ⟨b', o' + 15, none⟩ = some (.int .u64 (wordP ws f 15)) := bC S1.b (hT 15 _ rfl)
  have d0 : w1.cell? ⟨w.heap.size + 1, 0, none⟩ = some (.int .u64 0) := by simp [World.cell?, S1.head]
  have e0 : w1.frozen? ⟨w.heap.size + 1, 0, none⟩ = false := S1.f 0
  have d1 : w1.cell? ⟨w.heap.size + 1, 1, none⟩ = some (.int .u64 0) := by simp [World.cell?, S1.head]
  have e1 : w1.frozen? ⟨w.heap.size + 1, 1, none⟩ = false := S1.f 1
  have d2 : w1.cell? ⟨w.heap.size + 1, 2, none⟩ = some (.int .u64 0) := by simp [World.cell?, S1.head]
  have e2 : w1.frozen? ⟨w.heap.size + 1, 2, none⟩ = false := S1.f 2
  have d3 : w1.cell? ⟨w.heap.size + 1, 3, none⟩ = some (.int .u64 0) := by simp [World.cell?, S1.head]
  have e3 : w1.frozen? ⟨w.heap.size + 1, 3, none⟩ = false := S1.f 3
  have d4 : w1.cell? ⟨w.heap.size + 1, 4, none⟩ = some (.int .u64 0) := by simp [World.cell?, S1.head]
  have e4 : w1.frozen? ⟨w.heap.size + 1, 4, none⟩ = false := S1.f 4
  have d5 : w1.cell? ⟨w.heap.size + 1, 5, none⟩ = some (.int .u64 0) := by simp [World.cell?, S1.head]
  have e5 : w1.frozen? ⟨w.heap.size + 1, 5, none⟩ = false := S1.f 5
  have d6 : w1.cell? ⟨w.heap.size + 1, 6, none⟩ = some (.int .u64 0) := by simp [World.cell?, S1.head]
  have e6 : w1.frozen? ⟨w.heap.size + 1, 6, none⟩ = false := S1.f 6
  have d7 : w1.cell? ⟨w.heap.size + 1, 7, none⟩ = some (.int .u64 0) := by simp [World.cell?, S1.head]
  have e7 : w1.frozen? ⟨w.heap.size + 1, 7, none⟩ = false := S1.f 7
  have d8 : w1.cell? ⟨w.heap.size + 1, 8, none⟩ = some (.int .u64 0) := by simp [World.cell?, S1.head]
  have e8 : w1.frozen? ⟨w.heap.size + 1, 8, none⟩ = false := S1.f 8
  have d9 : w1.cell? ⟨w.heap.size + 1, 9, none⟩ = some (.int .u64 0) := by simp [World.cell?, S1.head]
  have e9 : w1.frozen? ⟨w.heap.size + 1, 9, none⟩ = false := S1.f 9
  have d10 : w1.cell? ⟨w.heap.size + 1, 10, none⟩ = some (.int .u64 0) := by simp [World.cell?, S1.head]
  have e10 : w1.frozen? ⟨w.heap.size + 1, 10, none⟩ = false := S1.f 10
  have d11 : w1.cell? ⟨w.heap.size + 1, 11, none⟩ = some (.int .u64 0) := by simp [World.cell?, S1.head]
  have e11 : w1.frozen? ⟨w.heap.size + 1, 11, none⟩ = false := S1.f 11
  have d12 : w1.cell? ⟨w.heap.size + 1, 12, none⟩ = some (.int .u64 0) := by simp [World.cell?, S1.head]
  have e12 : w1.frozen? ⟨w.heap.size + 1, 12, none⟩ = false := S1.f 12
  have d13 : w1.cell? ⟨w.heap.size + 1, 13, none⟩ = some (.int .u64 0) := by simp [World.cell?, S1.head]
  have e13 : w1.frozen? ⟨w.heap.size + 1, 13, none⟩ = false := S1.f 13
  have d14 : w1.cell? ⟨w.heap.size + 1, 14, none⟩ = some (.int .u64 0) := by simp [World.cell?, S1.head]
  have e14 : w1.frozen? ⟨w.heap.size + 1, 14, none⟩ = false := S1.f 14
  have d15 : w1.cell? ⟨w.heap.size + 1, 15, none⟩ = some (.int .u64 0) := by simp [World.cell?, S1.head]
  have e15 : w1.frozen? ⟨w.heap.size + 1, 15, none⟩ = false := S1.f 15
  have HS := Lib.hid S1
  have HR := Lib.hid r
  have HT := Lib.hid hT
  clear S1 r hT hA
  obtain ⟨x0, hx0⟩ : ∃ x, wordP ws f 0 = x := ⟨_, rfl⟩
  obtain ⟨x1, hx1⟩ : ∃ x, wordP ws f 1 = x := ⟨_, rfl⟩
  obtain ⟨x2, hx2⟩ : ∃ x, wordP ws f 2 = x := ⟨_, rfl⟩
  obtain ⟨x3, hx3⟩ : ∃ x, wordP ws f 3 = x := ⟨_, rfl⟩
  obtain ⟨x4, hx4⟩ : ∃ x, wordP ws f 4 = x := ⟨_, rfl⟩
  obtain ⟨x5, hx5⟩ : ∃ x, wordP ws f 5 = x := ⟨_, rfl⟩
  obtain ⟨x6, hx6⟩ : ∃ x, wordP ws f 6 = x := ⟨_, rfl⟩
  obtain ⟨x7, hx7⟩ : ∃ x, wordP ws f 7 = x := ⟨_, rfl⟩
  obtain ⟨x8, hx8⟩ : ∃ x, wordP ws f 8 = x := ⟨_, rfl⟩
  obtain ⟨x9, hx9⟩ : ∃ x, wordP ws f 9 = x := ⟨_, rfl⟩
  obtain ⟨x10, hx10⟩ : ∃ x, wordP ws f 10 = x := ⟨_, rfl⟩
  obtain ⟨x11, hx11⟩ : ∃ x, wordP ws f 11 = x := ⟨_, rfl⟩
  obtain ⟨x12, hx12⟩ : ∃ x, wordP ws f 12 = x := ⟨_, rfl⟩
  obtain ⟨x13, hx13⟩ : ∃ x, wordP ws f 13 = x := ⟨_, rfl⟩
  obtain ⟨x14, hx14⟩ : ∃ x, wordP ws f 14 = x := ⟨_, rfl⟩
  obtain ⟨x15, hx15⟩ : ∃ x, wordP ws f 15 = x := ⟨_, rfl⟩
  rw [hx0, hx1, hx2, hx3, hx4, hx5, hx6, hx7, hx8, hx9, hx10, hx11, hx12, hx13, hx14, hx15] at hu16
  rw [hx0] at c0; clear hx0
  rw [hx1] at c1; clear hx1
  rw [hx2] at c2; clear hx2
  rw [hx3] at c3; clear hx3
  rw [hx4] at c4; clear hx4
  rw [hx5] at c5; clear hx5
  rw [hx6] at c6; clear hx6
  rw [hx7] at c7; clear hx7
  rw [hx8] at c8; clear hx8
  rw [hx9] at c9; clear hx9
  rw [hx10] at c10; clear hx10
  rw [hx11] at c11; clear hx11
  rw [hx12] at c12; clear hx12
  rw [hx13] at c13; clear hx13
  rw [hx14] at c14; clear hx14
  rw [hx15] at c15; clear hx15
  go_wp2
  rw [HARR.out]
  clear HARR
  go_wp2
  refine (St.set0 (St.set0 (St.set0 (St.set0 (St.set0 (St.set0 (St.set0 (St.set0 (St.set0 (St.set0 (St.set0 (St.set0 (St.set0 (St.set0 (St.set0 (St.set0 HS.out 0 (.int .u64 x0)) 1 (.int .u64 x1)) 2 (.int .u64 x2)) 3 (.int .u64 x3)) 4 (.int .u64 x4)) 5 (.int .u64 x5)) 6 (.int .u64 x6)) 7 (.int .u64 x7)) 8 (.int .u64 x8)) 9 (.int .u64 x9)) 10 (.int .u64 x10)) 11 (.int .u64 x11)) 12 (.int .u64 x12)) 13 (.int .u64 x13)) 14 (.int .u64 x14)) 15 (.int .u64 x15)).gen (fun w2 S2 _ => ?_)
  have h2 : w2.heap[w.heap.size + 1]? = some (.cells #[.int .u64 x0, .int .u64 x1, .int .u64 x2, .int .u64 x3, .int .u64 x4, .int .u64 x5, .int .u64 x6, .int .u64 x7, .int .u64 x8, .int .u64 x9, .int .u64 x10, .int .u64 x11, .int .u64 x12, .int .u64 x13, .int .u64 x14, .int .u64 x15] 150) := by simpa using S2.head
  clear c0 d0 e0 c1 d1 e1 c2 d2 e2 c3 d3 e3 c4 d4 e4 c5 d5 e5 c6 d6 e6 c7 d7 e7 c8 d8 e8 c9 d9 e9 c10 d10 e10 c11 d11 e11 c12 d12 e12 c13 d13 e13 c14 d14 e14 c15 d15 e15
  have d0 : w2.cell? ⟨w.heap.size + 1, 0, none⟩ = some (.int .u64 x0) := by simp [World.cell?, h2]
  have d1 : w2.cell? ⟨w.heap.size + 1, 1, none⟩ = some (.int .u64 x1) := by simp [World.cell?, h2]
  have d2 : w2.cell? ⟨w.heap.size + 1, 2, none⟩ = some (.int .u64 x2) := by simp [World.cell?, h2]
  have d3 : w2.cell? ⟨w.heap.size + 1, 3, none⟩ = some (.int .u64 x3) := by simp [World.cell?, h2]
  have d4 : w2.cell? ⟨w.heap.size + 1, 4, none⟩ = some (.int .u64 x4) := by simp [World.cell?, h2]
  have d5 : w2.cell? ⟨w.heap.size + 1, 5, none⟩ = some (.int .u64 x5) := by simp [World.cell?, h2]
  have d6 : w2.cell? ⟨w.heap.size + 1, 6, none⟩ = some (.int .u64 x6) := by simp [World.cell?, h2]
  have d7 : w2.cell? ⟨w.heap.size + 1, 7, none⟩ = some (.int .u64 x7) := by simp [World.cell?, h2]
  have d8 : w2.cell? ⟨w.heap.size + 1, 8, none⟩ = some (.int .u64 x8) := by simp [World.cell?, h2]
  have d9 : w2.cell? ⟨w.heap.size + 1, 9, none⟩ = some (.int .u64 x9) := by simp [World.cell?, h2]
  have d10 : w2.cell? ⟨w.heap.size + 1, 10, none⟩ = some (.int .u64 x10) := by simp [World.cell?, h2]
  have d11 : w2.cell? ⟨w.heap.size + 1, 11, none⟩ = some (.int .u64 x11) := by simp [World.cell?, h2]
  have d12 : w2.cell? ⟨w.heap.size + 1, 12, none⟩ = some (.int .u64 x12) := by simp [World.cell?, h2]
  have d13 : w2.cell? ⟨w.heap.size + 1, 13, none⟩ = some (.int .u64 x13) := by simp [World.cell?, h2]
  have d14 : w2.cell? ⟨w.heap.size + 1, 14, none⟩ = some (.int .u64 x14) := by simp [World.cell?, h2]
  have d15 : w2.cell? ⟨w.heap.size + 1, 15, none⟩ = some (.int .u64 x15) := by simp [World.cell?, h2]
  have hbe := S2.b
  clear h2 S2 HS
  refine bodyPost_ret (v := .agg #[.int .u64 x0, .int .u64 x1, .int .u64 x2, .int .u64 x3, .int .u64 x4, .int .u64 x5, .int .u64 x6, .int .u64 x7, .int .u64 x8, .int .u64 x9, .int .u64 x10, .int .u64 x11, .int .u64 x12, .int .u64 x13, .int .u64 x14, .int .u64 x15]) (by simp [results, Try.results82, go_sem, *]) rfl ⟨by rw [hu16], hbe⟩
end Go.Proofs.Ythphfcheencbgaa.Mmu
