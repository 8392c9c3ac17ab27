/- Walks of the reference's l2AddWc and l2AddTlb. -/
import Derived.Test.YtemfnbcebgflmaaSpecFill1
import Derived.Test.YtemfnbcebgflmaaQuietB
import Derived.Test.YtemfnbcebgflmaaMachine
namespace Go.Proofs.Ytemfnbcebgflmaa.Mmu
open Go.RowKit Go.Proofs.Ytemfnbcebgflmaa.Base Go.Proofs.Ytemfnbcebgflmaa.Kinds Go.Proofs.Ytemfnbcebgflmaa.DecMath Go.Proofs.Ytemfnbcebgflmaa.L1
set_option linter.unusedVariables false
set_option linter.unusedSimpArgs false
/-- An entry more, if it is not there and there is room. -/
def addL {α : Type} [DecidableEq α] (l : List α) (e : α) : List α := if e ∈ l ∨ ¬ l.length < 256 then l else l ++ [e]
/-- None of the four lists lies in block z. -/
structure OffM (z : Nat) (v0 v1 v2 v3 : Value) : Prop where
  ws : some z ≠ v0.ownBlock
  pend : some z ≠ v1.ownBlock
  tlb : some z ≠ v2.ownBlock
  wc : some z ≠ v3.ownBlock
theorem OwnM.off {base z : Nat} {w : World} {v0 v1 v2 v3 : Value} {m : SM} {cs : Array Value} (h : OwnM base w v0 v1 v2 v3 m) (hz : w.heap[z]? = some (.cells cs 73)) : OffM z v0 v1 v2 v3 :=
  ⟨own_off hz h.ws (by decide), own_off hz h.pend (by decide), own_off hz h.tlb (by decide), own_off hz h.wc (by decide)⟩
theorem OwnM.setOff {base z : Nat} {w : World} {v0 v1 v2 v3 : Value} {m : SM} (h : OwnM base w v0 v1 v2 v3 m) (o : OffM z v0 v1 v2 v3) (i : Nat) (u : Value) : OwnM base (w.setCell ⟨z, i, none⟩ u) v0 v1 v2 v3 m :=
  ⟨own_setOff h.ws (a := ⟨z, i, none⟩) o.ws u, own_setOff h.pend (a := ⟨z, i, none⟩) o.pend u, own_setOff h.tlb (a := ⟨z, i, none⟩) o.tlb u, own_setOff h.wc (a := ⟨z, i, none⟩) o.wc u⟩
theorem addL_len {α : Type} [DecidableEq α] (l : List α) (e : α) : (addL l e).length ≤ l.length + 1 := by unfold addL; split <;> simp

set_option maxRecDepth 100000 in
set_option maxHeartbeats 8000000 in
theorem addWc_any (v0 v1 v2 v3 : Value) (m : SM) (e : SWc) (w : World) (r : RdM w v0 v1 v2 v3 m) (hl : m.ws.length ≤ 1048576 ∧ m.pend.length ≤ 1048576 ∧ m.tlb.length ≤ 1048576 ∧ m.wc.length ≤ 1048576) :
    Calls Try.prog 152 #[.agg #[v0, v1, v2, v3], SWc.val e] w fun ex w' => ∃ u0 u1 u2 u3, ex = .returned (.agg #[u0, u1, u2, u3]) ∧ OwnM w.heap.size w' u0 u1 u2 u3 { m with wc := addL m.wc e } ∧ Below w.heap.size w w' := by
  obtain ⟨A0, c0, A1, c1, A2, c2, A3, c3, rfl, rfl, rfl, rfl, hl0, hk0, hl1, hk1, hl2, hk2, hl3, hk3⟩ := r.shape
  have HL := Lib.hid hl
  obtain ⟨n0, n1, n2, n3⟩ := hl
  have R := Lib.hid r
  clear r
  simp only [SWc.val]
  have HBX : Hid (Below w.heap.size w (((w.alloc (.cells #[.slice A0 m.ws.length c0, .slice A1 m.pend.length c1, .slice A2 m.tlb.length c2, .slice A3 m.wc.length c3] 73)).alloc (.cells #[.int .i64 e.Level, .int .i64 e.Page, .int .i64 e.Table, .bool e.Doomed] 147)).alloc (.cells #[.slice none 0 0, .slice none 0 0, .slice none 0 0, .slice none 0 0] 73))) := Lib.hid (allocB (allocB (allocB (Below.refl _ _) _) _) _)
  have y3 : (((w.alloc (.cells #[.slice A0 m.ws.length c0, .slice A1 m.pend.length c1, .slice A2 m.tlb.length c2, .slice A3 m.wc.length c3] 73)).alloc (.cells #[.int .i64 e.Level, .int .i64 e.Page, .int .i64 e.Table, .bool e.Doomed] 147)).alloc (.cells #[.slice none 0 0, .slice none 0 0, .slice none 0 0, .slice none 0 0] 73)).heap[w.heap.size]? = some (.cells #[.slice A0 m.ws.length c0, .slice A1 m.pend.length c1, .slice A2 m.tlb.length c2, .slice A3 m.wc.length c3] 73) := by
    have h1 := heap_alloc_new w (.cells #[.slice A0 m.ws.length c0, .slice A1 m.pend.length c1, .slice A2 m.tlb.length c2, .slice A3 m.wc.length c3] 73)
    have h2 := (allocB (allocB (Below.refl (w.alloc (.cells #[.slice A0 m.ws.length c0, .slice A1 m.pend.length c1, .slice A2 m.tlb.length c2, .slice A3 m.wc.length c3] 73)).heap.size (w.alloc (.cells #[.slice A0 m.ws.length c0, .slice A1 m.pend.length c1, .slice A2 m.tlb.length c2, .slice A3 m.wc.length c3] 73))) (.cells #[.int .i64 e.Level, .int .i64 e.Page, .int .i64 e.Table, .bool e.Doomed] 147)) (.cells #[.slice none 0 0, .slice none 0 0, .slice none 0 0, .slice none 0 0] 73)).block w.heap.size (by simp)
    exact h2.trans h1
  have ye : (((w.alloc (.cells #[.slice A0 m.ws.length c0, .slice A1 m.pend.length c1, .slice A2 m.tlb.length c2, .slice A3 m.wc.length c3] 73)).alloc (.cells #[.int .i64 e.Level, .int .i64 e.Page, .int .i64 e.Table, .bool e.Doomed] 147)).alloc (.cells #[.slice none 0 0, .slice none 0 0, .slice none 0 0, .slice none 0 0] 73)).heap[w.heap.size + 1]? = some (.cells #[.int .i64 e.Level, .int .i64 e.Page, .int .i64 e.Table, .bool e.Doomed] 147) := by
    have h1 := heap_alloc_new (w.alloc (.cells #[.slice A0 m.ws.length c0, .slice A1 m.pend.length c1, .slice A2 m.tlb.length c2, .slice A3 m.wc.length c3] 73)) (.cells #[.int .i64 e.Level, .int .i64 e.Page, .int .i64 e.Table, .bool e.Doomed] 147)
    have h2 := (allocB (Below.refl ((w.alloc (.cells #[.slice A0 m.ws.length c0, .slice A1 m.pend.length c1, .slice A2 m.tlb.length c2, .slice A3 m.wc.length c3] 73)).alloc (.cells #[.int .i64 e.Level, .int .i64 e.Page, .int .i64 e.Table, .bool e.Doomed] 147)).heap.size ((w.alloc (.cells #[.slice A0 m.ws.length c0, .slice A1 m.pend.length c1, .slice A2 m.tlb.length c2, .slice A3 m.wc.length c3] 73)).alloc (.cells #[.int .i64 e.Level, .int .i64 e.Page, .int .i64 e.Table, .bool e.Doomed] 147))) (.cells #[.slice none 0 0, .slice none 0 0, .slice none 0 0, .slice none 0 0] 73)).block (w.alloc (.cells #[.slice A0 m.ws.length c0, .slice A1 m.pend.length c1, .slice A2 m.tlb.length c2, .slice A3 m.wc.length c3] 73)).heap.size (by simp)
    have h3 := h2.trans h1
    rwa [show (w.alloc (.cells #[.slice A0 m.ws.length c0, .slice A1 m.pend.length c1, .slice A2 m.tlb.length c2, .slice A3 m.wc.length c3] 73)).heap.size = w.heap.size + 1 by simp] at h3
  have yr : (((w.alloc (.cells #[.slice A0 m.ws.length c0, .slice A1 m.pend.length c1, .slice A2 m.tlb.length c2, .slice A3 m.wc.length c3] 73)).alloc (.cells #[.int .i64 e.Level, .int .i64 e.Page, .int .i64 e.Table, .bool e.Doomed] 147)).alloc (.cells #[.slice none 0 0, .slice none 0 0, .slice none 0 0, .slice none 0 0] 73)).heap[w.heap.size + 2]? = some (.cells #[.slice none 0 0, .slice none 0 0, .slice none 0 0, .slice none 0 0] 73) := by
    have h1 := heap_alloc_new ((w.alloc (.cells #[.slice A0 m.ws.length c0, .slice A1 m.pend.length c1, .slice A2 m.tlb.length c2, .slice A3 m.wc.length c3] 73)).alloc (.cells #[.int .i64 e.Level, .int .i64 e.Page, .int .i64 e.Table, .bool e.Doomed] 147)) (.cells #[.slice none 0 0, .slice none 0 0, .slice none 0 0, .slice none 0 0] 73)
    rwa [show ((w.alloc (.cells #[.slice A0 m.ws.length c0, .slice A1 m.pend.length c1, .slice A2 m.tlb.length c2, .slice A3 m.wc.length c3] 73)).alloc (.cells #[.int .i64 e.Level, .int .i64 e.Page, .int .i64 e.Table, .bool e.Doomed] 147)).heap.size = w.heap.size + 2 by simp] at h1
  have Y3 := Lib.hid y3
  have YE := Lib.hid ye
  have YR := Lib.hid yr
  clear y3 ye yr
  go_enter Try.func152, Try.ntmps152
  go_upto_region 2 with (first | (go_at_call 101; refine (specCopy_any _ _ _ _ m _ (R.out.below HBX.out) HL.out).mono ?_; rintro ex w1 ⟨u0, u1, u2, u3, rfl, o1, hb1⟩; obtain ⟨B0, d0, B1, d1, B2, d2, B3, d3, rfl, rfl, rfl, rfl⟩ := o1.shape; have O1 := Lib.hid o1; have HB1 := Lib.hid hb1; clear o1 hb1))
  have Z5 := Lib.hid (heap_alloc_new w1 (.cells #[.slice B0 m.ws.length d0, .slice B1 m.pend.length d1, .slice B2 m.tlb.length d2, .slice B3 m.wc.length d3] 73))
  have h15 : Below (((w.alloc (.cells #[.slice A0 m.ws.length c0, .slice A1 m.pend.length c1, .slice A2 m.tlb.length c2, .slice A3 m.wc.length c3] 73)).alloc (.cells #[.int .i64 e.Level, .int .i64 e.Page, .int .i64 e.Table, .bool e.Doomed] 147)).alloc (.cells #[.slice none 0 0, .slice none 0 0, .slice none 0 0, .slice none 0 0] 73)).heap.size (((w.alloc (.cells #[.slice A0 m.ws.length c0, .slice A1 m.pend.length c1, .slice A2 m.tlb.length c2, .slice A3 m.wc.length c3] 73)).alloc (.cells #[.int .i64 e.Level, .int .i64 e.Page, .int .i64 e.Table, .bool e.Doomed] 147)).alloc (.cells #[.slice none 0 0, .slice none 0 0, .slice none 0 0, .slice none 0 0] 73)) (w1.alloc (.cells #[.slice B0 m.ws.length d0, .slice B1 m.pend.length d1, .slice B2 m.tlb.length d2, .slice B3 m.wc.length d3] 73)) := allocB HB1.out _
  have Z3 := Lib.hid ((h15.block w.heap.size (Array.getElem?_eq_some_iff.1 Y3.out).1).trans Y3.out)
  have ZE := Lib.hid ((h15.block (w.heap.size + 1) (Array.getElem?_eq_some_iff.1 YE.out).1).trans YE.out)
  have Z4 := Lib.hid ((h15.block (w.heap.size + 2) (Array.getElem?_eq_some_iff.1 YR.out).1).trans YR.out)
  have OB := Lib.hid ((O1.out.below (allocB (Below.refl _ _) (.cells #[.slice B0 m.ws.length d0, .slice B1 m.pend.length d1, .slice B2 m.tlb.length d2, .slice B3 m.wc.length d3] 73))).lower HBX.out.size)
  have HBW : Hid (Below w.heap.size w (w1.alloc (.cells #[.slice B0 m.ws.length d0, .slice B1 m.pend.length d1, .slice B2 m.tlb.length d2, .slice B3 m.wc.length d3] 73))) := Lib.hid (thenB HBX.out h15)
  have s2 : w.heap.size + 2 < w1.heap.size := by have h := HB1.out.size; simp at h; omega
  have s5 : w1.heap.size < (w1.alloc (.cells #[.slice B0 m.ws.length d0, .slice B1 m.pend.length d1, .slice B2 m.tlb.length d2, .slice B3 m.wc.length d3] 73)).heap.size := by simp
  clear h15 Y3 YE YR HBX HB1 O1
  generalize (w1.alloc (.cells #[.slice B0 m.ws.length d0, .slice B1 m.pend.length d1, .slice B2 m.tlb.length d2, .slice B3 m.wc.length d3] 73)) = w2 at *
  go_wp2
  go_loopw [6] (fun x wr => ∃ k : Nat, k ≤ m.wc.length ∧ x = .int .i64 k ∧ (∀ j : Nat, j < k → m.wc[j]? ≠ some e) ∧ Below w2.heap.size w2 wr) (fun x _ => m.wc.length - (intOf x).toNat)
  case atStart => exact ⟨0, Nat.zero_le _, rfl, by omega, Below.refl _ _⟩
  case round =>
    obtain ⟨k, hk, rfl, hall, hb⟩ := hrel
    have HA := Lib.hid hall
    have HB := Lib.hid hb
    have z3 := (hb.block w.heap.size (Array.getElem?_eq_some_iff.1 Z3.out).1).trans Z3.out
    have ze := (hb.block (w.heap.size + 1) (Array.getElem?_eq_some_iff.1 ZE.out).1).trans ZE.out
    have z4 := (hb.block (w.heap.size + 2) (Array.getElem?_eq_some_iff.1 Z4.out).1).trans Z4.out
    have z5 := (hb.block w1.heap.size (Array.getElem?_eq_some_iff.1 Z5.out).1).trans Z5.out
    have x3 : wr.cell? ⟨w.heap.size, 3, none⟩ = some (.slice A3 m.wc.length c3) := by simp [World.cell?, z3]
    have e0 : wr.cell? ⟨w.heap.size + 1, 0, none⟩ = some (.int .i64 e.Level) := by simp [World.cell?, ze]
    have e1 : wr.cell? ⟨w.heap.size + 1, 1, none⟩ = some (.int .i64 e.Page) := by simp [World.cell?, ze]
    have e2 : wr.cell? ⟨w.heap.size + 1, 2, none⟩ = some (.int .i64 e.Table) := by simp [World.cell?, ze]
    have e3 : wr.cell? ⟨w.heap.size + 1, 3, none⟩ = some (.bool e.Doomed) := by simp [World.cell?, ze]
    obtain ⟨p0, p1, p2, p3, _, _, _, _⟩ := zCells z5
    obtain ⟨r0, r1, r2, r3, q0, q1, q2, q3⟩ := zCells z4
    have f5 : ∀ i : Nat, wr.frozen? ⟨w1.heap.size, i, none⟩ = false := fun i => by simp [World.frozen?, z5]
    have ZZ4 := Lib.hid z4
    have ZZ5 := Lib.hid z5
    have hzz : w1.heap.size < wr.heap.size := (Array.getElem?_eq_some_iff.1 z5).1
    have hz3 : w.heap.size + 2 < wr.heap.size := by omega
    have hz2 : w.heap.size + 1 < wr.heap.size := by omega
    have hz1 : w.heap.size < wr.heap.size := by omega
    have hnn : w1.heap.size ≠ w.heap.size + 2 := by omega
    have OW := Lib.hid (OB.out.below hb)
    by_cases hlt : k < m.wc.length
    · have hlt' : (k : Int) < (m.wc.length : Int) := by omega
      obtain ⟨a0, x, ea, g0, u0, u1, u2, u3⟩ := SWc.at (R.out.wc.below (thenB HBW.out hb)) hlt
      cases ea
      have G0 := Lib.hid g0
      clear hall hb g0 z3 ze z4 z5
      by_cases hx : x = e
      · subst hx
        have HS : Hid ({ m with wc := addL m.wc x } = m) := Lib.hid (by have : addL m.wc x = m.wc := if_pos (Or.inl (List.mem_of_getElem? G0.out)); rw [this])
        have HBQ : Hid (Below w2.heap.size w2 (wr.alloc (.cells #[.int .i64 x.Level, .int .i64 x.Page, .int .i64 x.Table, .bool x.Doomed] 147))) := Lib.hid (allocB HB.out _)
        have hoff := OwnM.off OW.out ZZ4.out
        go_wp2
        refine bodyPost_ret (v := .agg #[.slice B0 m.ws.length d0, .slice B1 m.pend.length d1, .slice B2 m.tlb.length d2, .slice B3 m.wc.length d3]) (by simp [results, Try.results152, go_sem, *]) rfl ⟨_, _, _, _, rfl, ?_, ?_⟩
        · rw [HS.out]
          exact (OwnM.setOff (OwnM.setOff (OwnM.setOff (OwnM.setOff OW.out hoff 0 _) hoff 1 _) hoff 2 _) hoff 3 _).below (allocB (Below.refl _ _) _)
        · exact allocB (Below.setCell (Below.setCell (Below.setCell (Below.setCell (thenB HBW.out HB.out) (Nat.le_add_right _ 2) _) (Nat.le_add_right _ 2) _) (Nat.le_add_right _ 2) _) (Nat.le_add_right _ 2) _) _
      · have HNE := Lib.hid hx
        rcases Bool.eq_false_or_eq_true (x.Level == e.Level) with t0 | t0
        rotate_left
        · clear hx
          go_wp2
          go_roundw
          case rel =>
            refine ⟨k + 1, by omega, by go_num, fun j hj => ?_, allocB HB.out _⟩
            by_cases h : j = k
            · subst h; rw [G0.out]; exact fun h => HNE.out (Option.some.inj h)
            · exact HA.out j (by omega)
          case measure => simp [intOf]; omega
        rcases Bool.eq_false_or_eq_true (x.Page == e.Page) with t1 | t1
        rotate_left
        · clear hx
          go_wp2
          go_roundw
          case rel =>
            refine ⟨k + 1, by omega, by go_num, fun j hj => ?_, allocB HB.out _⟩
            by_cases h : j = k
            · subst h; rw [G0.out]; exact fun h => HNE.out (Option.some.inj h)
            · exact HA.out j (by omega)
          case measure => simp [intOf]; omega
        rcases Bool.eq_false_or_eq_true (x.Table == e.Table) with t2 | t2
        rotate_left
        · clear hx
          go_wp2
          go_roundw
          case rel =>
            refine ⟨k + 1, by omega, by go_num, fun j hj => ?_, allocB HB.out _⟩
            by_cases h : j = k
            · subst h; rw [G0.out]; exact fun h => HNE.out (Option.some.inj h)
            · exact HA.out j (by omega)
          case measure => simp [intOf]; omega
        rcases Bool.eq_false_or_eq_true (x.Doomed == e.Doomed) with t3 | t3
        rotate_left
        · clear hx
          go_wp2
          go_roundw
          case rel =>
            refine ⟨k + 1, by omega, by go_num, fun j hj => ?_, allocB HB.out _⟩
            by_cases h : j = k
            · subst h; rw [G0.out]; exact fun h => HNE.out (Option.some.inj h)
            · exact HA.out j (by omega)
          case measure => simp [intOf]; omega
        exfalso
        apply hx
        have h0 : x.Level = e.Level := by simpa using t0
        have h1 : x.Page = e.Page := by simpa using t1
        have h2 : x.Table = e.Table := by simpa using t2
        have h3 : x.Doomed = e.Doomed := by simpa using t3
        cases x; cases e; simp_all
    · obtain rfl : k = m.wc.length := by omega
      have hlt' : ¬ ((m.wc.length : Nat) : Int) < (m.wc.length : Int) := by omega
      have hno : e ∉ m.wc := fun h => by
        obtain ⟨j, hj⟩ := List.getElem?_of_mem h
        exact HA.out j (List.getElem?_eq_some_iff.1 hj).1 hj
      have HNO := Lib.hid hno
      clear hno hall hb z3 ze z4 z5
      by_cases hr : m.wc.length < 256
      rotate_left
      · have hr' : ¬ (m.wc.length : Int) < 256 := by omega
        have HS : Hid ({ m with wc := addL m.wc e } = m) := Lib.hid (by have : addL m.wc e = m.wc := if_pos (Or.inr hr); rw [this])
        have HBQ : Hid (Below w2.heap.size w2 wr) := HB
        have hoff := OwnM.off OW.out ZZ4.out
        go_wp2
        refine bodyPost_ret (v := .agg #[.slice B0 m.ws.length d0, .slice B1 m.pend.length d1, .slice B2 m.tlb.length d2, .slice B3 m.wc.length d3]) (by simp [results, Try.results152, go_sem, *]) rfl ⟨_, _, _, _, rfl, ?_, ?_⟩
        · rw [HS.out]
          exact OwnM.setOff (OwnM.setOff (OwnM.setOff (OwnM.setOff OW.out hoff 0 _) hoff 1 _) hoff 2 _) hoff 3 _
        · exact Below.setCell (Below.setCell (Below.setCell (Below.setCell (thenB HBW.out HB.out) (Nat.le_add_right _ 2) _) (Nat.le_add_right _ 2) _) (Nat.le_add_right _ 2) _) (Nat.le_add_right _ 2) _
      · have hr' : (m.wc.length : Int) < 256 := by omega
        have HS : Hid ({ m with wc := addL m.wc e } = { m with wc := m.wc ++ [e] }) := Lib.hid (by have : addL m.wc e = m.wc ++ [e] := if_neg (fun h => by rcases h with h | h; exact HNO.out h; exact h hr); rw [this])
        have hbw : w.heap.size ≤ wr.heap.size := by omega
        go_wp2_with (at_builtin; refine append1 147 4 32 71 (.agg #[.int .i64 0, .int .i64 0, .int .i64 0, .bool false]) Try.underlying71 infoWcS rfl (by decide) SWc.len SWc.one rfl (.tmp 54) (.tmp 56) rfl w.heap.size (.slice B3 m.wc.length d3) m.wc e _ rfl rfl rfl OW.out.wc (by omega) (by decide) hbw ?_)
        intro v' wq hoq hg
        have zq5 := zKept (T := 73) hg OW.out.wc ZZ5.out (by decide)
        have zq4 := zKept (T := 73) hg OW.out.wc ZZ4.out (by decide)
        have PQ : OwnM w.heap.size wq (.slice B0 m.ws.length d0) (.slice B1 m.pend.length d1) (.slice B2 m.tlb.length d2) v' { m with wc := m.wc ++ [e] } := ⟨OW.out.ws.kept hg (own_apart (by decide) OW.out.ws OW.out.wc), OW.out.pend.kept hg (own_apart (by decide) OW.out.pend OW.out.wc), OW.out.tlb.kept hg (own_apart (by decide) OW.out.tlb OW.out.wc), hoq⟩
        have hbq : Below w.heap.size w wq := Own.grown OW.out.wc (thenB HBW.out HB.out) hbw hg
        obtain ⟨Aq, cq, e'⟩ := hoq.shape
        subst e'
        obtain ⟨i0, i1, i2, i3, j0, j1, j2, j3⟩ := zCells zq5
        obtain ⟨k0, k1, k2, k3, l0, l1, l2, l3⟩ := zCells zq4
        have ZQ4 := Lib.hid zq4
        have ZQ5 := Lib.hid zq5
        have P := Lib.hid PQ
        have HQ := Lib.hid hbq
        clear zq5 zq4 PQ hbq hoq hg r0 r1 r2 r3 q0 q1 q2 q3 p0 p1 p2 p3 f5 x3 e0 e1 e2 e3
        go_wp2
        have o4 := OwnM.off P.out ZQ4.out
        have o5 := OwnM.off P.out ZQ5.out
        refine bodyPost_ret (v := .agg #[.slice B0 m.ws.length d0, .slice B1 m.pend.length d1, .slice B2 m.tlb.length d2, .slice Aq (m.wc ++ [e]).length cq]) (by simp [results, Try.results152, go_sem, *]) rfl ⟨_, _, _, _, rfl, ?_, ?_⟩
        · rw [HS.out]
          exact OwnM.setOff (OwnM.setOff (OwnM.setOff (OwnM.setOff (OwnM.setOff P.out o5 3 _) o4 0 _) o4 1 _) o4 2 _) o4 3 _
        · exact Below.setCell (Below.setCell (Below.setCell (Below.setCell (Below.setCell HQ.out (Nat.le_of_lt (Nat.lt_of_le_of_lt (Nat.le_add_right _ 2) s2)) _) (Nat.le_add_right _ 2) _) (Nat.le_add_right _ 2) _) (Nat.le_add_right _ 2) _) (Nat.le_add_right _ 2) _
end Go.Proofs.Ytemfnbcebgflmaa.Mmu
