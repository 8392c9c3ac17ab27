/- Walk of the reference's Drop. -/
import Derived.Test.YtemfnbcebgflmaaSpecValid
import Derived.Test.YtemfnbcebgflmaaSpecCopy
import Derived.Test.YtemfnbcebgflmaaOwnX
namespace Go.Proofs.Ytemfnbcebgflmaa.Mmu
open Go.RowKit Go.Proofs.Ytemfnbcebgflmaa.Base Go.Proofs.Ytemfnbcebgflmaa.Kinds Go.Proofs.Ytemfnbcebgflmaa.DecMath Go.Proofs.Ytemfnbcebgflmaa.L1
set_option linter.unusedVariables false
set_option linter.unusedSimpArgs false

/-- A list without the entry i. -/
def dropAt {α : Type} (l : List α) (i : Int) : List α := if 0 ≤ i ∧ i < l.length then l.eraseIdx i.toNat else l
/-- .. if b. -/
def dropIf {α : Type} (b : Bool) (l : List α) (i : Int) : List α := if b = true then dropAt l i else l
theorem dropAt_len {α : Type} (l : List α) (i : Int) : (dropAt l i).length ≤ l.length := by
  unfold dropAt; split
  · rw [List.length_eraseIdx]; split <;> omega
  · exact Nat.le_refl _
theorem dropIf_len {α : Type} (b : Bool) (l : List α) (i : Int) : (dropIf b l i).length ≤ l.length := by
  unfold dropIf; split
  · exact dropAt_len l i
  · exact Nat.le_refl _
theorem dropAt_skip {α : Type} (l : List α) (k : Nat) (hk : k < l.length) : dropAt (l.take (k + 1)) (k : Int) = l.take k := by
  unfold dropAt
  have h1 : (l.take (k + 1)).length = k + 1 := by rw [List.length_take]; omega
  rw [if_pos (by omega)]
  have h2 : (k : Int).toNat = k := by omega
  rw [h2, take_snoc (List.getElem?_eq_getElem hk)]
  have h3 : (l.take k).length = k := by rw [List.length_take]; omega
  rw [List.eraseIdx_append_of_length_le (by omega), h3, Nat.sub_self]
  simp
theorem dropAt_big {α : Type} (l : List α) (i : Int) (h : (l.length : Int) ≤ i) : dropAt l i = l := by unfold dropAt; rw [if_neg (by omega)]
theorem dropAt_take {α : Type} (l : List α) (k : Nat) (i : Int) (hk : k < l.length) (hi : (k : Int) ≠ i) : dropAt (l.take (k + 1)) i = dropAt (l.take k) i ++ [l[k]] := by
  have h1 : (l.take (k + 1)).length = k + 1 := by rw [List.length_take]; omega
  have h3 : (l.take k).length = k := by rw [List.length_take]; omega
  unfold dropAt
  rw [h1, h3]
  by_cases h : 0 ≤ i ∧ i < (k : Int)
  · rw [if_pos h, if_pos (by omega), take_snoc (List.getElem?_eq_getElem hk), List.eraseIdx_append_of_lt_length (by omega)]
  · rw [if_neg h, if_neg (by omega), take_snoc (List.getElem?_eq_getElem hk)]
theorem dropIf_add {α : Type} (b : Bool) {l : List α} {k : Nat} {x : α} {i : Int} (hx : l[k]? = some x) (h : ¬ b = true ∨ (k : Int) ≠ i) : dropIf b (l.take (k + 1)) i = dropIf b (l.take k) i ++ [x] := by
  have hk : k < l.length := (List.getElem?_eq_some_iff.1 hx).1
  have hx' : l[k] = x := (List.getElem?_eq_some_iff.1 hx).2
  unfold dropIf
  split
  · rename_i hb
    rw [dropAt_take l k i hk (by rcases h with h | h; exact absurd hb h; exact h), hx']
  · exact take_snoc hx
theorem dropIf_skip {α : Type} (b : Bool) {l : List α} {k : Nat} (hk : k < l.length) (h : b = true) : dropIf b (l.take (k + 1)) (k : Int) = dropIf b (l.take k) (k : Int) := by
  unfold dropIf
  rw [if_pos h, if_pos h, dropAt_skip l k hk, dropAt_big _ _ (by rw [List.length_take]; omega)]
/-- What Drop gives. -/
def dropS (m : SM) (which i : Int) : SM := if Valid m then { m with tlb := dropIf (decide (which = 0)) m.tlb i, wc := dropIf (decide (which = 1)) m.wc i } else ⟨[], [], [], []⟩


set_option maxRecDepth 100000 in
set_option maxHeartbeats 4000000 in
theorem specDrop_any (v0 v1 v2 v3 : Value) (m : SM) (which i : Int) (w : World) (r : RdM w v0 v1 v2 v3 m) :
    Calls Try.prog 47 #[.agg #[v0, v1, v2, v3], .int .i64 which, .int .i64 i] w fun e w' => ∃ u0 u1 u2 u3, e = .returned (.agg #[u0, u1, u2, u3]) ∧ OwnM w.heap.size w' u0 u1 u2 u3 (dropS m which i) ∧ Below w.heap.size w w' := by
  obtain ⟨A0, c0, A1, c1, A2, c2, A3, c3, rfl, rfl, rfl, rfl, hl0, hk0, hl1, hk1, hl2, hk2, hl3, hk3⟩ := r.shape
  have R := Lib.hid r
  clear r
  by_cases hv : Valid m
  rotate_left
  · have HV : Hid (decide (Valid m) = false) := Lib.hid (decide_eq_false hv)
    have HD : Hid (dropS m which i = ⟨[], [], [], []⟩) := Lib.hid (if_neg hv)
    clear hv
    go_enter Try.func47, Try.ntmps47
    go_wp2_with (first | (go_at_call 88; refine (valid_any _ _ _ _ m _ (R.out.below (allocB (allocB (Below.refl _ _) _) _))).mono ?_; rw [HV.out]; rintro e w1 ⟨rfl, hb1⟩; have HB1 := Lib.hid (thenB (allocB (allocB (Below.refl w.heap.size w) _) _) hb1); have z0 : w1.cell? ⟨w.heap.size + 1, 0, none⟩ = some (.slice none 0 0) := (hb1.cell (by simp)).trans (by go_simp); have g0 : w1.frozen? ⟨w.heap.size + 1, 0, none⟩ = false := (hb1.frozen (by simp)).trans (by go_simp); have z1 : w1.cell? ⟨w.heap.size + 1, 1, none⟩ = some (.slice none 0 0) := (hb1.cell (by simp)).trans (by go_simp); have g1 : w1.frozen? ⟨w.heap.size + 1, 1, none⟩ = false := (hb1.frozen (by simp)).trans (by go_simp); have z2 : w1.cell? ⟨w.heap.size + 1, 2, none⟩ = some (.slice none 0 0) := (hb1.cell (by simp)).trans (by go_simp); have g2 : w1.frozen? ⟨w.heap.size + 1, 2, none⟩ = false := (hb1.frozen (by simp)).trans (by go_simp); have z3 : w1.cell? ⟨w.heap.size + 1, 3, none⟩ = some (.slice none 0 0) := (hb1.cell (by simp)).trans (by go_simp); have g3 : w1.frozen? ⟨w.heap.size + 1, 3, none⟩ = false := (hb1.frozen (by simp)).trans (by go_simp); clear hb1))
    refine bodyPost_ret (v := .agg #[.slice none 0 0, .slice none 0 0, .slice none 0 0, .slice none 0 0]) (by simp [results, Try.results47, go_sem, *]) rfl ⟨_, _, _, _, rfl, by rw [HD.out]; exact ⟨Own.nil _ _ _ _ _, Own.nil _ _ _ _ _, Own.nil _ _ _ _ _, Own.nil _ _ _ _ _⟩, ?_⟩
    repeat (refine Below.setCell ?_ (by simp) _)
    exact HB1.out
  have HV : Hid (decide (Valid m) = true) := Lib.hid (decide_eq_true hv)
  obtain ⟨dz, hd0⟩ : ∃ b, decide (which = 0) = b := ⟨_, rfl⟩
  obtain ⟨dw, hd1⟩ : ∃ b, decide (which = 1) = b := ⟨_, rfl⟩
  have HD : Hid (dropS m which i = { m with tlb := dropIf dz m.tlb i, wc := dropIf dw m.wc i }) := Lib.hid (by rw [← hd0, ← hd1]; exact if_pos hv)
  have HD0 := Lib.hid hd0
  have HD1 := Lib.hid hd1
  clear hd0 hd1
  have hbl : m.ws.length ≤ 1048576 ∧ m.pend.length ≤ 1048576 ∧ m.tlb.length ≤ 1048576 ∧ m.wc.length ≤ 1048576 := by have := hv.frames; have := hv.npend; have := hv.ntlb; have := hv.nwc; omega
  have HL := Lib.hid hbl
  have n2 : m.tlb.length ≤ 256 := hv.ntlb
  have n3 : m.wc.length ≤ 256 := hv.nwc
  clear hbl hv
  go_enter Try.func47, Try.ntmps47
  go_upto_region 4 with (first
    | (go_at_call 88; refine (valid_any _ _ _ _ m _ (R.out.below (allocB (allocB (Below.refl _ _) _) _))).mono ?_; rw [HV.out]; rintro e w1 ⟨rfl, hb1⟩; have HB1 := Lib.hid (thenB (allocB (allocB (Below.refl w.heap.size w) _) _) hb1); have y0 : w1.cell? ⟨w.heap.size, 0, none⟩ = some (.slice A0 m.ws.length c0) := (hb1.cell (by simp <;> omega)).trans (by go_simp); have y1 : w1.cell? ⟨w.heap.size, 1, none⟩ = some (.slice A1 m.pend.length c1) := (hb1.cell (by simp <;> omega)).trans (by go_simp); have y2 : w1.cell? ⟨w.heap.size, 2, none⟩ = some (.slice A2 m.tlb.length c2) := (hb1.cell (by simp <;> omega)).trans (by go_simp); have y3 : w1.cell? ⟨w.heap.size, 3, none⟩ = some (.slice A3 m.wc.length c3) := (hb1.cell (by simp <;> omega)).trans (by go_simp); have z0 : w1.cell? ⟨w.heap.size + 1, 0, none⟩ = some (.slice none 0 0) := (hb1.cell (by simp)).trans (by go_simp); have g0 : w1.frozen? ⟨w.heap.size + 1, 0, none⟩ = false := (hb1.frozen (by simp)).trans (by go_simp); have z1 : w1.cell? ⟨w.heap.size + 1, 1, none⟩ = some (.slice none 0 0) := (hb1.cell (by simp)).trans (by go_simp); have g1 : w1.frozen? ⟨w.heap.size + 1, 1, none⟩ = false := (hb1.frozen (by simp)).trans (by go_simp); have z2 : w1.cell? ⟨w.heap.size + 1, 2, none⟩ = some (.slice none 0 0) := (hb1.cell (by simp)).trans (by go_simp); have g2 : w1.frozen? ⟨w.heap.size + 1, 2, none⟩ = false := (hb1.frozen (by simp)).trans (by go_simp); have z3 : w1.cell? ⟨w.heap.size + 1, 3, none⟩ = some (.slice none 0 0) := (hb1.cell (by simp)).trans (by go_simp); have g3 : w1.frozen? ⟨w.heap.size + 1, 3, none⟩ = false := (hb1.frozen (by simp)).trans (by go_simp); clear hb1)
    | (go_at_call 101; refine (specCopy_any _ _ _ _ m _ (R.out.below HB1.out) HL.out).mono ?_; rintro e w3 ⟨u0, u1, u2, u3, rfl, o3, hb3⟩; have O3 := Lib.hid o3; have HB3 := Lib.hid hb3; obtain ⟨B0, d0, B1, d1, B2, d2, B3, d3, rfl, rfl, rfl, rfl⟩ := o3.shape; clear o3 hb3))

  have hz1 : w.heap.size + 1 < w1.heap.size := World.block_lt_of_cell? _ _ z0
  have HBA : Hid (Below w.heap.size w (w3.alloc (.cells #[.slice B0 m.ws.length d0, .slice B1 m.pend.length d1, .slice B2 m.tlb.length d2, .slice B3 m.wc.length d3] 73))) := Lib.hid (allocB (thenB HB1.out HB3.out) _)
  have HBC : Hid (Below w1.heap.size w1 (w3.alloc (.cells #[.slice B0 m.ws.length d0, .slice B1 m.pend.length d1, .slice B2 m.tlb.length d2, .slice B3 m.wc.length d3] 73))) := Lib.hid (allocB HB3.out _)
  have HO0 := Lib.hid (O3.out.ws.alloc (.cells #[.slice B0 m.ws.length d0, .slice B1 m.pend.length d1, .slice B2 m.tlb.length d2, .slice B3 m.wc.length d3] 73))
  have HO1 := Lib.hid (O3.out.pend.alloc (.cells #[.slice B0 m.ws.length d0, .slice B1 m.pend.length d1, .slice B2 m.tlb.length d2, .slice B3 m.wc.length d3] 73))
  have z7 : (w3.alloc (.cells #[.slice B0 m.ws.length d0, .slice B1 m.pend.length d1, .slice B2 m.tlb.length d2, .slice B3 m.wc.length d3] 73)).heap[w3.heap.size]? = some (.cells #[.slice B0 m.ws.length d0, .slice B1 m.pend.length d1, .slice B2 m.tlb.length d2, .slice B3 m.wc.length d3] 73) := heap_alloc_new w3 (.cells #[.slice B0 m.ws.length d0, .slice B1 m.pend.length d1, .slice B2 m.tlb.length d2, .slice B3 m.wc.length d3] 73)
  have hs7 : w3.heap.size < (w3.alloc (.cells #[.slice B0 m.ws.length d0, .slice B1 m.pend.length d1, .slice B2 m.tlb.length d2, .slice B3 m.wc.length d3] 73)).heap.size := by simp
  have hs31 : w1.heap.size ≤ w3.heap.size := HB3.out.size
  have x0 : (w3.alloc (.cells #[.slice B0 m.ws.length d0, .slice B1 m.pend.length d1, .slice B2 m.tlb.length d2, .slice B3 m.wc.length d3] 73)).cell? ⟨w.heap.size, 0, none⟩ = some (.slice A0 m.ws.length c0) := (HBC.out.cell (by show w.heap.size < w1.heap.size; omega)).trans y0
  have x1 : (w3.alloc (.cells #[.slice B0 m.ws.length d0, .slice B1 m.pend.length d1, .slice B2 m.tlb.length d2, .slice B3 m.wc.length d3] 73)).cell? ⟨w.heap.size, 1, none⟩ = some (.slice A1 m.pend.length c1) := (HBC.out.cell (by show w.heap.size < w1.heap.size; omega)).trans y1
  have x2 : (w3.alloc (.cells #[.slice B0 m.ws.length d0, .slice B1 m.pend.length d1, .slice B2 m.tlb.length d2, .slice B3 m.wc.length d3] 73)).cell? ⟨w.heap.size, 2, none⟩ = some (.slice A2 m.tlb.length c2) := (HBC.out.cell (by show w.heap.size < w1.heap.size; omega)).trans y2
  have x3 : (w3.alloc (.cells #[.slice B0 m.ws.length d0, .slice B1 m.pend.length d1, .slice B2 m.tlb.length d2, .slice B3 m.wc.length d3] 73)).cell? ⟨w.heap.size, 3, none⟩ = some (.slice A3 m.wc.length c3) := (HBC.out.cell (by show w.heap.size < w1.heap.size; omega)).trans y3
  have r0 : (w3.alloc (.cells #[.slice B0 m.ws.length d0, .slice B1 m.pend.length d1, .slice B2 m.tlb.length d2, .slice B3 m.wc.length d3] 73)).cell? ⟨w.heap.size + 1, 0, none⟩ = some (.slice none 0 0) := (HBC.out.cell hz1).trans z0
  have s0 : (w3.alloc (.cells #[.slice B0 m.ws.length d0, .slice B1 m.pend.length d1, .slice B2 m.tlb.length d2, .slice B3 m.wc.length d3] 73)).frozen? ⟨w.heap.size + 1, 0, none⟩ = false := (HBC.out.frozen hz1).trans g0
  have r1 : (w3.alloc (.cells #[.slice B0 m.ws.length d0, .slice B1 m.pend.length d1, .slice B2 m.tlb.length d2, .slice B3 m.wc.length d3] 73)).cell? ⟨w.heap.size + 1, 1, none⟩ = some (.slice none 0 0) := (HBC.out.cell hz1).trans z1
  have s1 : (w3.alloc (.cells #[.slice B0 m.ws.length d0, .slice B1 m.pend.length d1, .slice B2 m.tlb.length d2, .slice B3 m.wc.length d3] 73)).frozen? ⟨w.heap.size + 1, 1, none⟩ = false := (HBC.out.frozen hz1).trans g1
  have r2 : (w3.alloc (.cells #[.slice B0 m.ws.length d0, .slice B1 m.pend.length d1, .slice B2 m.tlb.length d2, .slice B3 m.wc.length d3] 73)).cell? ⟨w.heap.size + 1, 2, none⟩ = some (.slice none 0 0) := (HBC.out.cell hz1).trans z2
  have s2 : (w3.alloc (.cells #[.slice B0 m.ws.length d0, .slice B1 m.pend.length d1, .slice B2 m.tlb.length d2, .slice B3 m.wc.length d3] 73)).frozen? ⟨w.heap.size + 1, 2, none⟩ = false := (HBC.out.frozen hz1).trans g2
  have r3 : (w3.alloc (.cells #[.slice B0 m.ws.length d0, .slice B1 m.pend.length d1, .slice B2 m.tlb.length d2, .slice B3 m.wc.length d3] 73)).cell? ⟨w.heap.size + 1, 3, none⟩ = some (.slice none 0 0) := (HBC.out.cell hz1).trans z3
  have s3 : (w3.alloc (.cells #[.slice B0 m.ws.length d0, .slice B1 m.pend.length d1, .slice B2 m.tlb.length d2, .slice B3 m.wc.length d3] 73)).frozen? ⟨w.heap.size + 1, 3, none⟩ = false := (HBC.out.frozen hz1).trans g3
  generalize (w3.alloc (.cells #[.slice B0 m.ws.length d0, .slice B1 m.pend.length d1, .slice B2 m.tlb.length d2, .slice B3 m.wc.length d3] 73)) = w2 at *
  have X0 := Lib.hid x0
  have R0 := Lib.hid r0
  have S0 := Lib.hid s0
  have X1 := Lib.hid x1
  have R1 := Lib.hid r1
  have S1 := Lib.hid s1
  have X2 := Lib.hid x2
  have R2 := Lib.hid r2
  have S2 := Lib.hid s2
  have X3 := Lib.hid x3
  have R3 := Lib.hid r3
  have S3 := Lib.hid s3
  have Z7 := Lib.hid z7
  have hs1 : w.heap.size < w2.heap.size := World.block_lt_of_cell? _ _ x0
  have hs2 : w.heap.size + 1 < w2.heap.size := World.block_lt_of_cell? _ _ r0
  clear x0 x1 x2 x3 r0 r1 r2 r3 s0 s1 s2 s3 y0 y1 y2 y3 z0 z1 z2 z3 g0 g1 g2 g3 z7
  go_wp2
  go_loopw [8, 9] (fun v x wr => ∃ (k : Nat) (A : Option Addr) (c : Nat), k ≤ m.tlb.length ∧ v = .slice A (dropIf (dz) (m.tlb.take k) i).length c ∧ x = .int .i64 k ∧ Own STlb.enc 5 124 w2.heap.size wr v (dropIf (dz) (m.tlb.take k) i) ∧ Below w2.heap.size w2 wr) (fun _ x _ => m.tlb.length - (intOf x).toNat)
  case atStart =>
    have hd0 : (dropIf (dz) (m.tlb.take 0) i) = [] := by have := dropIf_len (dz) (m.tlb.take 0) i; simpa using this
    refine ⟨0, _, _, Nat.zero_le _, by rw [hd0]; rfl, rfl, ?_, (Below.refl _ _).alloc (Nat.le_refl _) _⟩
    rw [hd0]
    exact Own.made STlb.enc 5 124 (base := w2.heap.size) w2 (Nat.le_refl _)
  case round =>
    obtain ⟨k, Av, cv, hk, rfl, rfl, ho, hb⟩ := hrel
    have hx : wr.cell? ⟨w.heap.size, 2, none⟩ = some (.slice A2 m.tlb.length c2) := (hb.cell hs1).trans X2.out
    have HO := Lib.hid ho
    have HB := Lib.hid hb
    have hdl := dropIf_len (dz) (m.tlb.take k) i
    have hzz := hb.size
    clear ho hb
    rw [take_len hk] at hdl
    by_cases hlt : k < m.tlb.length
    · obtain ⟨a0, e0, ea, g0, u0, u1, u2, u3, u4⟩ := STlb.at (R.out.tlb.below (thenB HBA.out HB.out)) hlt
      cases ea
      have G0 := Lib.hid g0
      have hlt' : (k : Int) < (m.tlb.length : Int) := by omega
      clear g0
      by_cases hw : which = 0
      · have hwb : (which != 0) = false := by simpa using hw
        have hdt : dz = true := by rw [← HD0.out]; simp [hw]
        have HDT := Lib.hid hdt
        clear hdt hw
        by_cases hi : (k : Int) = i
        · subst hi
          go_wp2
          go_roundw
          case rel =>
            refine ⟨k + 1, _, _, by omega, by rw [dropIf_skip (dz) hlt HDT.out], by go_num, ?_, HB.out⟩
            rw [dropIf_skip (dz) hlt HDT.out]
            exact HO.out
          case measure => simp [intOf]; omega
        · have hib : ((k : Int) != i) = true := by simpa using hi
          have HI := Lib.hid hi
          clear hi
          go_wp2_with (at_builtin; refine append1 124 5 40 70 (.agg #[.int .i64 0, .int .i64 0, .int .i64 0, .int .i64 0, .bool false]) Try.underlying70 infoTlS rfl (by decide) STlb.len STlb.one rfl (.tmp 33) (.tmp 39) rfl w2.heap.size (.slice Av (dropIf (dz) (m.tlb.take k) i).length cv) (dropIf (dz) (m.tlb.take k) i) e0 _ rfl rfl rfl HO.out (by omega) (by decide) hzz ?_)
          intro v1 wq ho1 hg1
          have hb1 : Below w2.heap.size w2 wq := Own.grown HO.out HB.out HB.out.size hg1
          rw [← dropIf_add (dz) G0.out (Or.inr HI.out)] at ho1
          obtain ⟨Aq, cq, rfl⟩ := ho1.shape
          clear hg1 u0 u1 u2 u3 u4 hx
          go_wp2
          go_roundw
          case rel => exact ⟨k + 1, _, _, by omega, rfl, by go_num, ho1, hb1⟩
          case measure => simp [intOf]; omega
      · have hdn : ¬ dz = true := by rw [← HD0.out]; simpa using hw
        have HDN := Lib.hid hdn
        clear hdn
        have hwb : (which != 0) = true := by simpa using hw
        clear hw
        go_wp2_with (at_builtin; refine append1 124 5 40 70 (.agg #[.int .i64 0, .int .i64 0, .int .i64 0, .int .i64 0, .bool false]) Try.underlying70 infoTlS rfl (by decide) STlb.len STlb.one rfl (.tmp 33) (.tmp 39) rfl w2.heap.size (.slice Av (dropIf (dz) (m.tlb.take k) i).length cv) (dropIf (dz) (m.tlb.take k) i) e0 _ rfl rfl rfl HO.out (by omega) (by decide) hzz ?_)
        intro v1 wq ho1 hg1
        have hb1 : Below w2.heap.size w2 wq := Own.grown HO.out HB.out HB.out.size hg1
        rw [← dropIf_add (dz) G0.out (Or.inl HDN.out)] at ho1
        obtain ⟨Aq, cq, rfl⟩ := ho1.shape
        clear hg1 u0 u1 u2 u3 u4 hx
        go_wp2
        go_roundw
        case rel => exact ⟨k + 1, _, _, by omega, rfl, by go_num, ho1, hb1⟩
        case measure => simp [intOf]; omega
    · obtain rfl : k = m.tlb.length := by omega
      have hlt' : ¬ ((m.tlb.length : Nat) : Int) < (m.tlb.length : Int) := by omega
      have ho := HO.out
      rw [List.take_length] at ho
      have HOtlb := Lib.hid ho
      have HBz0 := HB
      clear ho HO HB hdl hk hlt
      rw [List.take_length]
      revert HOtlb
      generalize Av = Ptlb
      generalize cv = qtlb
      intro HOtlb
      generalize hwz : wr = wz0 at *
      clear hwz
      go_wp2
      go_loopw [10, 11] (fun v x wr => ∃ (k : Nat) (A : Option Addr) (c : Nat), k ≤ m.wc.length ∧ v = .slice A (dropIf (dw) (m.wc.take k) i).length c ∧ x = .int .i64 k ∧ Own SWc.enc 4 147 w2.heap.size wr v (dropIf (dw) (m.wc.take k) i) ∧ Below w2.heap.size w2 wr ∧ Own STlb.enc 5 124 w2.heap.size wr (.slice Ptlb (dropIf (dz) m.tlb i).length qtlb) (dropIf (dz) m.tlb i)) (fun _ x _ => m.wc.length - (intOf x).toNat)
      case atStart =>
        have hd0 : (dropIf (dw) (m.wc.take 0) i) = [] := by have := dropIf_len (dw) (m.wc.take 0) i; simpa using this
        refine ⟨0, _, _, Nat.zero_le _, by rw [hd0]; rfl, rfl, ?_, HBz0.out.alloc HBz0.out.size _, HOtlb.out.alloc _⟩
        rw [hd0]
        exact Own.made SWc.enc 4 147 (base := w2.heap.size) wz0 HBz0.out.size
      case round =>
        obtain ⟨k, Av, cv, hk, rfl, rfl, ho, hb, hotlb⟩ := hrel
        have hx : wr.cell? ⟨w.heap.size, 3, none⟩ = some (.slice A3 m.wc.length c3) := (hb.cell hs1).trans X3.out
        have HOtlb := Lib.hid hotlb
        clear hotlb
        have HO := Lib.hid ho
        have HB := Lib.hid hb
        have hdl := dropIf_len (dw) (m.wc.take k) i
        have hzz := hb.size
        clear ho hb
        rw [take_len hk] at hdl
        by_cases hlt : k < m.wc.length
        · obtain ⟨a0, e0, ea, g0, u0, u1, u2, u3⟩ := SWc.at (R.out.wc.below (thenB HBA.out HB.out)) hlt
          cases ea
          have G0 := Lib.hid g0
          have hlt' : (k : Int) < (m.wc.length : Int) := by omega
          clear g0
          by_cases hw : which = 1
          · have hwb : (which != 1) = false := by simpa using hw
            have hdt : dw = true := by rw [← HD1.out]; simp [hw]
            have HDT := Lib.hid hdt
            clear hdt hw
            by_cases hi : (k : Int) = i
            · subst hi
              go_wp2
              go_roundw
              case rel =>
                refine ⟨k + 1, _, _, by omega, by rw [dropIf_skip (dw) hlt HDT.out], by go_num, ?_, HB.out, HOtlb.out⟩
                rw [dropIf_skip (dw) hlt HDT.out]
                exact HO.out
              case measure => simp [intOf]; omega
            · have hib : ((k : Int) != i) = true := by simpa using hi
              have HI := Lib.hid hi
              clear hi
              go_wp2_with (at_builtin; refine append1 147 4 32 71 (.agg #[.int .i64 0, .int .i64 0, .int .i64 0, .bool false]) Try.underlying71 infoWcS rfl (by decide) SWc.len SWc.one rfl (.tmp 56) (.tmp 62) rfl w2.heap.size (.slice Av (dropIf (dw) (m.wc.take k) i).length cv) (dropIf (dw) (m.wc.take k) i) e0 _ rfl rfl rfl HO.out (by omega) (by decide) hzz ?_)
              intro v1 wq ho1 hg1
              have hb1 : Below w2.heap.size w2 wq := Own.grown HO.out HB.out HB.out.size hg1
              have hntlb := HOtlb.out.kept hg1 (own_apart (by decide) HOtlb.out HO.out)
              rw [← dropIf_add (dw) G0.out (Or.inr HI.out)] at ho1
              obtain ⟨Aq, cq, rfl⟩ := ho1.shape
              clear hg1 u0 u1 u2 u3 hx
              go_wp2
              go_roundw
              case rel => exact ⟨k + 1, _, _, by omega, rfl, by go_num, ho1, hb1, hntlb⟩
              case measure => simp [intOf]; omega
          · have hdn : ¬ dw = true := by rw [← HD1.out]; simpa using hw
            have HDN := Lib.hid hdn
            clear hdn
            have hwb : (which != 1) = true := by simpa using hw
            clear hw
            go_wp2_with (at_builtin; refine append1 147 4 32 71 (.agg #[.int .i64 0, .int .i64 0, .int .i64 0, .bool false]) Try.underlying71 infoWcS rfl (by decide) SWc.len SWc.one rfl (.tmp 56) (.tmp 62) rfl w2.heap.size (.slice Av (dropIf (dw) (m.wc.take k) i).length cv) (dropIf (dw) (m.wc.take k) i) e0 _ rfl rfl rfl HO.out (by omega) (by decide) hzz ?_)
            intro v1 wq ho1 hg1
            have hb1 : Below w2.heap.size w2 wq := Own.grown HO.out HB.out HB.out.size hg1
            have hntlb := HOtlb.out.kept hg1 (own_apart (by decide) HOtlb.out HO.out)
            rw [← dropIf_add (dw) G0.out (Or.inl HDN.out)] at ho1
            obtain ⟨Aq, cq, rfl⟩ := ho1.shape
            clear hg1 u0 u1 u2 u3 hx
            go_wp2
            go_roundw
            case rel => exact ⟨k + 1, _, _, by omega, rfl, by go_num, ho1, hb1, hntlb⟩
            case measure => simp [intOf]; omega
        · obtain rfl : k = m.wc.length := by omega
          have hlt' : ¬ ((m.wc.length : Nat) : Int) < (m.wc.length : Int) := by omega
          have ho := HO.out
          rw [List.take_length] at ho
          have HOwc := Lib.hid ho
          have HBz1 := HB
          clear ho HO HB hdl hk hlt
          rw [List.take_length]
          have zd : wr.heap[w3.heap.size]? = _ := (HBz1.out.block _ hs7).trans Z7.out
          have r0 : wr.cell? ⟨w.heap.size + 1, 0, none⟩ = some (.slice none 0 0) := (HBz1.out.cell hs2).trans R0.out
          have s0 : wr.frozen? ⟨w.heap.size + 1, 0, none⟩ = false := (HBz1.out.frozen hs2).trans S0.out
          have r1 : wr.cell? ⟨w.heap.size + 1, 1, none⟩ = some (.slice none 0 0) := (HBz1.out.cell hs2).trans R1.out
          have s1 : wr.frozen? ⟨w.heap.size + 1, 1, none⟩ = false := (HBz1.out.frozen hs2).trans S1.out
          have r2 : wr.cell? ⟨w.heap.size + 1, 2, none⟩ = some (.slice none 0 0) := (HBz1.out.cell hs2).trans R2.out
          have s2 : wr.frozen? ⟨w.heap.size + 1, 2, none⟩ = false := (HBz1.out.frozen hs2).trans S2.out
          have r3 : wr.cell? ⟨w.heap.size + 1, 3, none⟩ = some (.slice none 0 0) := (HBz1.out.cell hs2).trans R3.out
          have s3 : wr.frozen? ⟨w.heap.size + 1, 3, none⟩ = false := (HBz1.out.frozen hs2).trans S3.out
          have t0 : wr.cell? ⟨w3.heap.size, 0, none⟩ = some (.slice B0 m.ws.length d0) := by simp [World.cell?, zd]
          have q0 : wr.frozen? ⟨w3.heap.size, 0, none⟩ = false := by simp [World.frozen?, zd]
          have t1 : wr.cell? ⟨w3.heap.size, 1, none⟩ = some (.slice B1 m.pend.length d1) := by simp [World.cell?, zd]
          have q1 : wr.frozen? ⟨w3.heap.size, 1, none⟩ = false := by simp [World.frozen?, zd]
          have t2 : wr.cell? ⟨w3.heap.size, 2, none⟩ = some (.slice B2 m.tlb.length d2) := by simp [World.cell?, zd]
          have q2 : wr.frozen? ⟨w3.heap.size, 2, none⟩ = false := by simp [World.frozen?, zd]
          have t3 : wr.cell? ⟨w3.heap.size, 3, none⟩ = some (.slice B3 m.wc.length d3) := by simp [World.cell?, zd]
          have q3 : wr.frozen? ⟨w3.heap.size, 3, none⟩ = false := by simp [World.frozen?, zd]
          have hne : w3.heap.size ≠ w.heap.size + 1 := by omega
          clear zd
          go_wp2
          have P0 : OwnM w1.heap.size wr (.slice B0 m.ws.length d0) (.slice B1 m.pend.length d1) (.slice Ptlb (dropIf dz m.tlb i).length qtlb) (.slice Av (dropIf dw m.wc i).length cv) (dropS m which i) := by rw [HD.out]; exact ⟨HO0.out.below HBz1.out, HO1.out.below HBz1.out, HOtlb.out.lower HBC.out.size, HOwc.out.lower HBC.out.size⟩
          have PP := Lib.hid P0
          refine bodyPost_ret (v := .agg #[.slice B0 m.ws.length d0, .slice B1 m.pend.length d1, .slice Ptlb (dropIf dz m.tlb i).length qtlb, .slice Av (dropIf dw m.wc i).length cv]) (by simp [results, Try.results47, go_sem, *]) rfl ⟨_, _, _, _, rfl, ?_, ?_⟩
          · refine OwnM.lower (base := w1.heap.size) ?_ HB1.out.size
            refine OwnM.setBelow (OwnM.setBelow (OwnM.setBelow (OwnM.setBelow ?_ hz1 _) hz1 _) hz1 _) hz1 _
            have e0 := PP.out
            have nb : ∀ (v : Value), (∀ k, v.ownBlock = some k → k ≠ w3.heap.size) → some w3.heap.size ≠ v.ownBlock := fun v h e => h _ e.symm rfl
            have b0 : ∀ k, (Value.slice B0 m.ws.length d0).ownBlock = some k → k ≠ w3.heap.size := fun k e => by have := (O3.out.ws.lt k e).2; omega
            have b1 : ∀ k, (Value.slice B1 m.pend.length d1).ownBlock = some k → k ≠ w3.heap.size := fun k e => by have := (O3.out.pend.lt k e).2; omega
            have b2 : ∀ k, (Value.slice Ptlb (dropIf dz m.tlb i).length qtlb).ownBlock = some k → k ≠ w3.heap.size := fun k e => by have := (HOtlb.out.lt k e).1; omega
            have b3 : ∀ k, (Value.slice Av (dropIf dw m.wc i).length cv).ownBlock = some k → k ≠ w3.heap.size := fun k e => by have := (HOwc.out.lt k e).1; omega
            exact ⟨own_setOff (own_setOff e0.ws (nb _ b0) _) (nb _ b0) _, own_setOff (own_setOff e0.pend (nb _ b1) _) (nb _ b1) _, own_setOff (own_setOff e0.tlb (nb _ b2) _) (nb _ b2) _, own_setOff (own_setOff e0.wc (nb _ b3) _) (nb _ b3) _⟩
          · have hw3 : w.heap.size ≤ w3.heap.size := Nat.le_trans HB1.out.size hs31
            refine Below.setCell (Below.setCell (Below.setCell (Below.setCell (Below.setCell (Below.setCell ?_ hw3 _) hw3 _) (Nat.le_succ _) _) (Nat.le_succ _) _) (Nat.le_succ _) _) (Nat.le_succ _) _
            exact thenB HBA.out HBz1.out
end Go.Proofs.Ytemfnbcebgflmaa.Mmu
