/- Walks of the reference's l2AddWc and l2AddTlb. Walk of the reference's l2AddTlb. -/
import Derived.Test.YthphfcheencbgaaAddPure
import Derived.Test.YthphfcheencbgaaSpecMach1
import Derived.Test.YthphfcheencbgaaFill1
import Derived.Test.YthphfcheencbgaaGround
import Derived.Test.YthphfcheencbgaaMachG
import Derived.Test.YthphfcheencbgaaMachine
namespace Go.Proofs.Ythphfcheencbgaa.Mmu
open Go.RowKit Go.Proofs.Ythphfcheencbgaa.Base Go.Proofs.Ythphfcheencbgaa.Kinds Go.Proofs.Ythphfcheencbgaa.DecMath Go.Proofs.Ythphfcheencbgaa.L1
set_option linter.unusedVariables false
set_option linter.unusedSimpArgs false
/-- None of the four lists lies in block z. -/
structure OffM (z : Nat) (v0 v1 v2 v3 : Value) : Prop where
  ws : some z ≠ v0.ownBlock
  pend : some z ≠ v1.ownBlock
  tlb : some z ≠ v2.ownBlock
  wc : some z ≠ v3.ownBlock
theorem OwnM.off {base z : Nat} {w : World} {v0 v1 v2 v3 : Value} {m : SM} {cs : Array Value} (h : OwnM base w v0 v1 v2 v3 m) (hz : w.heap[z]? = some (.cells cs 30)) : OffM z v0 v1 v2 v3 :=
  ⟨own_off hz h.ws (by decide), own_off hz h.pend (by decide), own_off hz h.tlb (by decide), own_off hz h.wc (by decide)⟩
theorem OwnM.setOff {base z : Nat} {w : World} {v0 v1 v2 v3 : Value} {m : SM} (h : OwnM base w v0 v1 v2 v3 m) (o : OffM z v0 v1 v2 v3) (i : Nat) (u : Value) : OwnM base (w.setCell ⟨z, i, none⟩ u) v0 v1 v2 v3 m :=
  ⟨own_setOff h.ws (a := ⟨z, i, none⟩) o.ws u, own_setOff h.pend (a := ⟨z, i, none⟩) o.pend u, own_setOff h.tlb (a := ⟨z, i, none⟩) o.tlb u, own_setOff h.wc (a := ⟨z, i, none⟩) o.wc u⟩
set_option maxRecDepth 100000 in
set_option maxHeartbeats 8000000 in
theorem addWc_any (v0 v1 v2 v3 : Value) (m : SM) (e : SWc) (w : World) (r : RdM w v0 v1 v2 v3 m) (hl : m.ws.length ≤ 1048576 ∧ m.pend.length ≤ 1048576 ∧ m.tlb.length ≤ 1048576 ∧ m.wc.length ≤ 1048576) :
    Calls Try.prog 58 #[.agg #[v0, v1, v2, v3], SWc.val e] w fun ex w' => ∃ u0 u1 u2 u3, ex = .returned (.agg #[u0, u1, u2, u3]) ∧ OwnM w.heap.size w' u0 u1 u2 u3 { m with wc := addL m.wc e } ∧ Below w.heap.size w w' := by
  obtain ⟨A0, c0, A1, c1, A2, c2, A3, c3, rfl, rfl, rfl, rfl, hl0, hk0, hl1, hk1, hl2, hk2, hl3, hk3⟩ := r.shape
  have HL := Lib.hid hl
  obtain ⟨n0, n1, n2, n3⟩ := hl
  have R := Lib.hid r
  clear r
  simp only [SWc.val]
  have HBX : Hid (Below w.heap.size w (((w.alloc (.cells #[.slice A0 m.ws.length c0, .slice A1 m.pend.length c1, .slice A2 m.tlb.length c2, .slice A3 m.wc.length c3] 30)).alloc (.cells #[.int .i64 e.Level, .int .i64 e.Page, .int .i64 e.Table, .bool e.Doomed] 42)).alloc (.cells #[.slice none 0 0, .slice none 0 0, .slice none 0 0, .slice none 0 0] 30))) := Lib.hid (allocB (allocB (allocB (Below.refl _ _) _) _) _)
  have y3 : (((w.alloc (.cells #[.slice A0 m.ws.length c0, .slice A1 m.pend.length c1, .slice A2 m.tlb.length c2, .slice A3 m.wc.length c3] 30)).alloc (.cells #[.int .i64 e.Level, .int .i64 e.Page, .int .i64 e.Table, .bool e.Doomed] 42)).alloc (.cells #[.slice none 0 0, .slice none 0 0, .slice none 0 0, .slice none 0 0] 30)).heap[w.heap.size]? = some (.cells #[.slice A0 m.ws.length c0, .slice A1 m.pend.length c1, .slice A2 m.tlb.length c2, .slice A3 m.wc.length c3] 30) := by
    have h1 := heap_alloc_new w (.cells #[.slice A0 m.ws.length c0, .slice A1 m.pend.length c1, .slice A2 m.tlb.length c2, .slice A3 m.wc.length c3] 30)
    have h2 := (allocB (allocB (Below.refl (w.alloc (.cells #[.slice A0 m.ws.length c0, .slice A1 m.pend.length c1, .slice A2 m.tlb.length c2, .slice A3 m.wc.length c3] 30)).heap.size (w.alloc (.cells #[.slice A0 m.ws.length c0, .slice A1 m.pend.length c1, .slice A2 m.tlb.length c2, .slice A3 m.wc.length c3] 30))) (.cells #[.int .i64 e.Level, .int .i64 e.Page, .int .i64 e.Table, .bool e.Doomed] 42)) (.cells #[.slice none 0 0, .slice none 0 0, .slice none 0 0, .slice none 0 0] 30)).block w.heap.size (by simp)
    exact h2.trans h1
  have ye : (((w.alloc (.cells #[.slice A0 m.ws.length c0, .slice A1 m.pend.length c1, .slice A2 m.tlb.length c2, .slice A3 m.wc.length c3] 30)).alloc (.cells #[.int .i64 e.Level, .int .i64 e.Page, .int .i64 e.Table, .bool e.Doomed] 42)).alloc (.cells #[.slice none 0 0, .slice none 0 0, .slice none 0 0, .slice none 0 0] 30)).heap[w.heap.size + 1]? = some (.cells #[.int .i64 e.Level, .int .i64 e.Page, .int .i64 e.Table, .bool e.Doomed] 42) := by
    have h1 := heap_alloc_new (w.alloc (.cells #[.slice A0 m.ws.length c0, .slice A1 m.pend.length c1, .slice A2 m.tlb.length c2, .slice A3 m.wc.length c3] 30)) (.cells #[.int .i64 e.Level, .int .i64 e.Page, .int .i64 e.Table, .bool e.Doomed] 42)
    have h2 := (allocB (Below.refl ((w.alloc (.cells #[.slice A0 m.ws.length c0, .slice A1 m.pend.length c1, .slice A2 m.tlb.length c2, .slice A3 m.wc.length c3] 30)).alloc (.cells #[.int .i64 e.Level, .int .i64 e.Page, .int .i64 e.Table, .bool e.Doomed] 42)).heap.size ((w.alloc (.cells #[.slice A0 m.ws.length c0, .slice A1 m.pend.length c1, .slice A2 m.tlb.length c2, .slice A3 m.wc.length c3] 30)).alloc (.cells #[.int .i64 e.Level, .int .i64 e.Page, .int .i64 e.Table, .bool e.Doomed] 42))) (.cells #[.slice none 0 0, .slice none 0 0, .slice none 0 0, .slice none 0 0] 30)).block (w.alloc (.cells #[.slice A0 m.ws.length c0, .slice A1 m.pend.length c1, .slice A2 m.tlb.length c2, .slice A3 m.wc.length c3] 30)).heap.size (by simp)
    have h3 := h2.trans h1
    rwa [show (w.alloc (.cells #[.slice A0 m.ws.length c0, .slice A1 m.pend.length c1, .slice A2 m.tlb.length c2, .slice A3 m.wc.length c3] 30)).heap.size = w.heap.size + 1 by simp] at h3
  have yr : (((w.alloc (.cells #[.slice A0 m.ws.length c0, .slice A1 m.pend.length c1, .slice A2 m.tlb.length c2, .slice A3 m.wc.length c3] 30)).alloc (.cells #[.int .i64 e.Level, .int .i64 e.Page, .int .i64 e.Table, .bool e.Doomed] 42)).alloc (.cells #[.slice none 0 0, .slice none 0 0, .slice none 0 0, .slice none 0 0] 30)).heap[w.heap.size + 2]? = some (.cells #[.slice none 0 0, .slice none 0 0, .slice none 0 0, .slice none 0 0] 30) := by
    have h1 := heap_alloc_new ((w.alloc (.cells #[.slice A0 m.ws.length c0, .slice A1 m.pend.length c1, .slice A2 m.tlb.length c2, .slice A3 m.wc.length c3] 30)).alloc (.cells #[.int .i64 e.Level, .int .i64 e.Page, .int .i64 e.Table, .bool e.Doomed] 42)) (.cells #[.slice none 0 0, .slice none 0 0, .slice none 0 0, .slice none 0 0] 30)
    rwa [show ((w.alloc (.cells #[.slice A0 m.ws.length c0, .slice A1 m.pend.length c1, .slice A2 m.tlb.length c2, .slice A3 m.wc.length c3] 30)).alloc (.cells #[.int .i64 e.Level, .int .i64 e.Page, .int .i64 e.Table, .bool e.Doomed] 42)).heap.size = w.heap.size + 2 by simp] at h1
  have Y3 := Lib.hid y3
  have YE := Lib.hid ye
  have YR := Lib.hid yr
  clear y3 ye yr
  go_enter Try.func58, Try.ntmps58
  go_upto_region 2 with (first | (go_at_call 16; refine (specCopy_any _ _ _ _ m _ (R.out.below HBX.out) HL.out).mono ?_; rintro ex w1 ⟨u0, u1, u2, u3, rfl, o1, hb1⟩; obtain ⟨B0, d0, B1, d1, B2, d2, B3, d3, rfl, rfl, rfl, rfl⟩ := o1.shape; have O1 := Lib.hid o1; have HB1 := Lib.hid hb1; clear o1 hb1))
  have Z5 := Lib.hid (heap_alloc_new w1 (.cells #[.slice B0 m.ws.length d0, .slice B1 m.pend.length d1, .slice B2 m.tlb.length d2, .slice B3 m.wc.length d3] 30))
  have h15 : Below (((w.alloc (.cells #[.slice A0 m.ws.length c0, .slice A1 m.pend.length c1, .slice A2 m.tlb.length c2, .slice A3 m.wc.length c3] 30)).alloc (.cells #[.int .i64 e.Level, .int .i64 e.Page, .int .i64 e.Table, .bool e.Doomed] 42)).alloc (.cells #[.slice none 0 0, .slice none 0 0, .slice none 0 0, .slice none 0 0] 30)).heap.size (((w.alloc (.cells #[.slice A0 m.ws.length c0, .slice A1 m.pend.length c1, .slice A2 m.tlb.length c2, .slice A3 m.wc.length c3] 30)).alloc (.cells #[.int .i64 e.Level, .int .i64 e.Page, .int .i64 e.Table, .bool e.Doomed] 42)).alloc (.cells #[.slice none 0 0, .slice none 0 0, .slice none 0 0, .slice none 0 0] 30)) (w1.alloc (.cells #[.slice B0 m.ws.length d0, .slice B1 m.pend.length d1, .slice B2 m.tlb.length d2, .slice B3 m.wc.length d3] 30)) := allocB HB1.out _
  have Z3 := Lib.hid ((h15.block w.heap.size (Array.getElem?_eq_some_iff.1 Y3.out).1).trans Y3.out)
  have ZE := Lib.hid ((h15.block (w.heap.size + 1) (Array.getElem?_eq_some_iff.1 YE.out).1).trans YE.out)
  have Z4 := Lib.hid ((h15.block (w.heap.size + 2) (Array.getElem?_eq_some_iff.1 YR.out).1).trans YR.out)
  have OB := Lib.hid ((O1.out.below (allocB (Below.refl _ _) (.cells #[.slice B0 m.ws.length d0, .slice B1 m.pend.length d1, .slice B2 m.tlb.length d2, .slice B3 m.wc.length d3] 30))).lower HBX.out.size)
  have HBW : Hid (Below w.heap.size w (w1.alloc (.cells #[.slice B0 m.ws.length d0, .slice B1 m.pend.length d1, .slice B2 m.tlb.length d2, .slice B3 m.wc.length d3] 30))) := Lib.hid (thenB HBX.out h15)
  have s2 : w.heap.size + 2 < w1.heap.size := by have h := HB1.out.size; simp at h; omega
  have s5 : w1.heap.size < (w1.alloc (.cells #[.slice B0 m.ws.length d0, .slice B1 m.pend.length d1, .slice B2 m.tlb.length d2, .slice B3 m.wc.length d3] 30)).heap.size := by simp
  clear h15 Y3 YE YR HBX HB1 O1
  generalize (w1.alloc (.cells #[.slice B0 m.ws.length d0, .slice B1 m.pend.length d1, .slice B2 m.tlb.length d2, .slice B3 m.wc.length d3] 30)) = w2 at *
  go_wp2
  go_loopw [6] (fun x wr => ∃ k : Nat, k ≤ m.wc.length ∧ x = .int .i64 k ∧ (∀ j : Nat, j < k → m.wc[j]? ≠ some e) ∧ Below w2.heap.size w2 wr) (fun x _ => m.wc.length - (intOf x).toNat)
  case atStart => exact ⟨0, Nat.zero_le _, rfl, by omega, Below.refl _ _⟩
  case round =>
    obtain ⟨k, hk, rfl, hall, hb⟩ := hrel
    have HA := Lib.hid hall
    have HB := Lib.hid hb
    have z3 := (hb.block w.heap.size (Array.getElem?_eq_some_iff.1 Z3.out).1).trans Z3.out
    have ze := (hb.block (w.heap.size + 1) (Array.getElem?_eq_some_iff.1 ZE.out).1).trans ZE.out
    have z4 := (hb.block (w.heap.size + 2) (Array.getElem?_eq_some_iff.1 Z4.out).1).trans Z4.out
    have z5 := (hb.block w1.heap.size (Array.getElem?_eq_some_iff.1 Z5.out).1).trans Z5.out
    have x3 : wr.cell? ⟨w.heap.size, 3, none⟩ = some (.slice A3 m.wc.length c3) := by simp [World.cell?, z3]
    have e0 : wr.cell? ⟨w.heap.size + 1, 0, none⟩ = some (.int .i64 e.Level) := by simp [World.cell?, ze]
    have e1 : wr.cell? ⟨w.heap.size + 1, 1, none⟩ = some (.int .i64 e.Page) := by simp [World.cell?, ze]
    have e2 : wr.cell? ⟨w.heap.size + 1, 2, none⟩ = some (.int .i64 e.Table) := by simp [World.cell?, ze]
    have e3 : wr.cell? ⟨w.heap.size + 1, 3, none⟩ = some (.bool e.Doomed) := by simp [World.cell?, ze]
    obtain ⟨p0, p1, p2, p3, _, _, _, _⟩ := zCells z5
    obtain ⟨r0, r1, r2, r3, q0, q1, q2, q3⟩ := zCells z4
    have f5 : ∀ i : Nat, wr.frozen? ⟨w1.heap.size, i, none⟩ = false := fun i => by simp [World.frozen?, z5]
    have ZZ4 := Lib.hid z4
    have ZZ5 := Lib.hid z5
    have hzz : w1.heap.size < wr.heap.size := (Array.getElem?_eq_some_iff.1 z5).1
    have hz3 : w.heap.size + 2 < wr.heap.size := by omega
    have hz2 : w.heap.size + 1 < wr.heap.size := by omega
    have hz1 : w.heap.size < wr.heap.size := by omega
    have hnn : w1.heap.size ≠ w.heap.size + 2 := by omega
    have OW := Lib.hid (OB.out.below hb)
    by_cases hlt : k < m.wc.length
    · have hlt' : (k : Int) < (m.wc.length : Int) := by omega
      obtain ⟨a0, x, ea, g0, u0, u1, u2, u3⟩ := SWc.at (R.out.wc.below (thenB HBW.out hb)) hlt
      cases ea
      have G0 := Lib.hid g0
      clear hall hb g0 z3 ze z4 z5
      by_cases hx : x = e
      · subst hx
        have HS : Hid ({ m with wc := addL m.wc x } = m) := Lib.hid (by have : addL m.wc x = m.wc := if_pos (Or.inl (List.mem_of_getElem? G0.out)); rw [this])
        have HBQ : Hid (Below w2.heap.size w2 (wr.alloc (.cells #[.int .i64 x.Level, .int .i64 x.Page, .int .i64 x.Table, .bool x.Doomed] 42))) := Lib.hid (allocB HB.out _)
        have hoff := OwnM.off OW.out ZZ4.out
        go_wp2
        refine bodyPost_ret (v := .agg #[.slice B0 m.ws.length d0, .slice B1 m.pend.length d1, .slice B2 m.tlb.length d2, .slice B3 m.wc.length d3]) (by simp [results, Try.results58, go_sem, *]) rfl ⟨_, _, _, _, rfl, ?_, ?_⟩
        · rw [HS.out]
          exact (OwnM.setOff (OwnM.setOff (OwnM.setOff (OwnM.setOff OW.out hoff 0 _) hoff 1 _) hoff 2 _) hoff 3 _).below (allocB (Below.refl _ _) _)
        · exact allocB (Below.setCell (Below.setCell (Below.setCell (Below.setCell (thenB HBW.out HB.out) (Nat.le_add_right _ 2) _) (Nat.le_add_right _ 2) _) (Nat.le_add_right _ 2) _) (Nat.le_add_right _ 2) _) _
      · have HNE := Lib.hid hx
        rcases Bool.eq_false_or_eq_true (x.Level == e.Level) with t0 | t0
        rotate_left
        · clear hx
          go_wp2
          go_roundw
          case rel =>
            refine ⟨k + 1, by omega, by go_num, fun j hj => ?_, allocB HB.out _⟩
            by_cases h : j = k
            · subst h; rw [G0.out]; exact fun h => HNE.out (Option.some.inj h)
            · exact HA.out j (by omega)
          case measure => simp [intOf]; omega
        rcases Bool.eq_false_or_eq_true (x.Page == e.Page) with t1 | t1
        rotate_left
        · clear hx
          go_wp2
          go_roundw
          case rel =>
            refine ⟨k + 1, by omega, by go_num, fun j hj => ?_, allocB HB.out _⟩
            by_cases h : j = k
            · subst h; rw [G0.out]; exact fun h => HNE.out (Option.some.inj h)
            · exact HA.out j (by omega)
          case measure => simp [intOf]; omega
        rcases Bool.eq_false_or_eq_true (x.Table == e.Table) with t2 | t2
        rotate_left
        · clear hx
          go_wp2
          go_roundw
          case rel =>
            refine ⟨k + 1, by omega, by go_num, fun j hj => ?_, allocB HB.out _⟩
            by_cases h : j = k
            · subst h; rw [G0.out]; exact fun h => HNE.out (Option.some.inj h)
            · exact HA.out j (by omega)
          case measure => simp [intOf]; omega
        rcases Bool.eq_false_or_eq_true (x.Doomed == e.Doomed) with t3 | t3
        rotate_left
        · clear hx
          go_wp2
          go_roundw
          case rel =>
            refine ⟨k + 1, by omega, by go_num, fun j hj => ?_, allocB HB.out _⟩
            by_cases h : j = k
            · subst h; rw [G0.out]; exact fun h => HNE.out (Option.some.inj h)
            · exact HA.out j (by omega)
          case measure => simp [intOf]; omega
        exfalso
        apply hx
        have h0 : x.Level = e.Level := by simpa using t0
        have h1 : x.Page = e.Page := by simpa using t1
        have h2 : x.Table = e.Table := by simpa using t2
        have h3 : x.Doomed = e.Doomed := by simpa using t3
        cases x; cases e; simp_all
    · obtain rfl : k = m.wc.length := by omega
      have hlt' : ¬ ((m.wc.length : Nat) : Int) < (m.wc.length : Int) := by omega
      have hno : e ∉ m.wc := fun h => by
        obtain ⟨j, hj⟩ := List.getElem?_of_mem h
        exact HA.out j (List.getElem?_eq_some_iff.1 hj).1 hj
      have HNO := Lib.hid hno
      clear hno hall hb z3 ze z4 z5
      by_cases hr : m.wc.length < 256
      rotate_left
      · have hr' : ¬ (m.wc.length : Int) < 256 := by omega
        have HS : Hid ({ m with wc := addL m.wc e } = m) := Lib.hid (by have : addL m.wc e = m.wc := if_pos (Or.inr hr); rw [this])
        have HBQ : Hid (Below w2.heap.size w2 wr) := HB
        have hoff := OwnM.off OW.out ZZ4.out
        go_wp2
        refine bodyPost_ret (v := .agg #[.slice B0 m.ws.length d0, .slice B1 m.pend.length d1, .slice B2 m.tlb.length d2, .slice B3 m.wc.length d3]) (by simp [results, Try.results58, go_sem, *]) rfl ⟨_, _, _, _, rfl, ?_, ?_⟩
        · rw [HS.out]
          exact OwnM.setOff (OwnM.setOff (OwnM.setOff (OwnM.setOff OW.out hoff 0 _) hoff 1 _) hoff 2 _) hoff 3 _
        · exact Below.setCell (Below.setCell (Below.setCell (Below.setCell (thenB HBW.out HB.out) (Nat.le_add_right _ 2) _) (Nat.le_add_right _ 2) _) (Nat.le_add_right _ 2) _) (Nat.le_add_right _ 2) _
      · have hr' : (m.wc.length : Int) < 256 := by omega
        have HS : Hid ({ m with wc := addL m.wc e } = { m with wc := m.wc ++ [e] }) := Lib.hid (by have : addL m.wc e = m.wc ++ [e] := if_neg (fun h => by rcases h with h | h; exact HNO.out h; exact h hr); rw [this])
        have hbw : w.heap.size ≤ wr.heap.size := by omega
        go_wp2_with (at_builtin; refine append1 42 4 32 28 (.agg #[.int .i64 0, .int .i64 0, .int .i64 0, .bool false]) Try.underlying28 infoWcS rfl (by decide) SWc.len SWc.one rfl (.tmp 54) (.tmp 56) rfl w.heap.size (.slice B3 m.wc.length d3) m.wc e _ rfl rfl rfl OW.out.wc (by omega) (by decide) hbw ?_)
        intro v' wq hoq hg
        have zq5 := zKept (T := 30) hg OW.out.wc ZZ5.out (by decide)
        have zq4 := zKept (T := 30) hg OW.out.wc ZZ4.out (by decide)
        have PQ : OwnM w.heap.size wq (.slice B0 m.ws.length d0) (.slice B1 m.pend.length d1) (.slice B2 m.tlb.length d2) v' { m with wc := m.wc ++ [e] } := ⟨OW.out.ws.kept hg (own_apart (by decide) OW.out.ws OW.out.wc), OW.out.pend.kept hg (own_apart (by decide) OW.out.pend OW.out.wc), OW.out.tlb.kept hg (own_apart (by decide) OW.out.tlb OW.out.wc), hoq⟩
        have hbq : Below w.heap.size w wq := Own.grown OW.out.wc (thenB HBW.out HB.out) hbw hg
        obtain ⟨Aq, cq, e'⟩ := hoq.shape
        subst e'
        obtain ⟨i0, i1, i2, i3, j0, j1, j2, j3⟩ := zCells zq5
        obtain ⟨k0, k1, k2, k3, l0, l1, l2, l3⟩ := zCells zq4
        have ZQ4 := Lib.hid zq4
        have ZQ5 := Lib.hid zq5
        have P := Lib.hid PQ
        have HQ := Lib.hid hbq
        clear zq5 zq4 PQ hbq hoq hg r0 r1 r2 r3 q0 q1 q2 q3 p0 p1 p2 p3 f5 x3 e0 e1 e2 e3
        go_wp2
        have o4 := OwnM.off P.out ZQ4.out
        have o5 := OwnM.off P.out ZQ5.out
        refine bodyPost_ret (v := .agg #[.slice B0 m.ws.length d0, .slice B1 m.pend.length d1, .slice B2 m.tlb.length d2, .slice Aq (m.wc ++ [e]).length cq]) (by simp [results, Try.results58, go_sem, *]) rfl ⟨_, _, _, _, rfl, ?_, ?_⟩
        · rw [HS.out]
          exact OwnM.setOff (OwnM.setOff (OwnM.setOff (OwnM.setOff (OwnM.setOff P.out o5 3 _) o4 0 _) o4 1 _) o4 2 _) o4 3 _
        · exact Below.setCell (Below.setCell (Below.setCell (Below.setCell (Below.setCell HQ.out (Nat.le_of_lt (Nat.lt_of_le_of_lt (Nat.le_add_right _ 2) s2)) _) (Nat.le_add_right _ 2) _) (Nat.le_add_right _ 2) _) (Nat.le_add_right _ 2) _) (Nat.le_add_right _ 2) _
end Go.Proofs.Ythphfcheencbgaa.Mmu

namespace Go.Proofs.Ythphfcheencbgaa.Mmu
open Go.RowKit Go.Proofs.Ythphfcheencbgaa.Base Go.Proofs.Ythphfcheencbgaa.Kinds Go.Proofs.Ythphfcheencbgaa.DecMath Go.Proofs.Ythphfcheencbgaa.L1
set_option linter.unusedVariables false
set_option linter.unusedSimpArgs false
theorem same_b (a b : STlb) (r : Bool) (w : World) (h : decide (sameP a b) = r) : Calls Try.prog 60 #[a.val, b.val] w fun ex w' => ex = .returned (.bool r) ∧ Below w.heap.size w w' := by rw [← h]; exact same_any a b w
set_option maxRecDepth 100000 in
set_option maxHeartbeats 8000000 in
theorem addTlb_any (v0 v1 v2 v3 : Value) (m : SM) (e : STlb) (w : World) (r : RdM w v0 v1 v2 v3 m) (hl : m.ws.length ≤ 1048576 ∧ m.pend.length ≤ 1048576 ∧ m.tlb.length ≤ 1048576 ∧ m.wc.length ≤ 1048576) :
    Calls Try.prog 59 #[.agg #[v0, v1, v2, v3], STlb.val e] w fun ex w' => ∃ u0 u1 u2 u3, ex = .returned (.agg #[u0, u1, u2, u3]) ∧ OwnM w.heap.size w' u0 u1 u2 u3 { m with tlb := addL m.tlb e } ∧ Below w.heap.size w w' := by
  obtain ⟨A0, c0, A1, c1, A2, c2, A3, c3, rfl, rfl, rfl, rfl, hl0, hk0, hl1, hk1, hl2, hk2, hl3, hk3⟩ := r.shape
  have HL := Lib.hid hl
  obtain ⟨n0, n1, n2, n3⟩ := hl
  have R := Lib.hid r
  clear r
  simp only [STlb.val]
  have HBX : Hid (Below w.heap.size w (((w.alloc (.cells #[.slice A0 m.ws.length c0, .slice A1 m.pend.length c1, .slice A2 m.tlb.length c2, .slice A3 m.wc.length c3] 30)).alloc (.cells #[.int .i64 e.Page, .int .i64 e.Size, .int .i64 e.Out, .int .i64 e.Perm, .bool e.Doomed] 40)).alloc (.cells #[.slice none 0 0, .slice none 0 0, .slice none 0 0, .slice none 0 0] 30))) := Lib.hid (allocB (allocB (allocB (Below.refl _ _) _) _) _)
  have y3 : (((w.alloc (.cells #[.slice A0 m.ws.length c0, .slice A1 m.pend.length c1, .slice A2 m.tlb.length c2, .slice A3 m.wc.length c3] 30)).alloc (.cells #[.int .i64 e.Page, .int .i64 e.Size, .int .i64 e.Out, .int .i64 e.Perm, .bool e.Doomed] 40)).alloc (.cells #[.slice none 0 0, .slice none 0 0, .slice none 0 0, .slice none 0 0] 30)).heap[w.heap.size]? = some (.cells #[.slice A0 m.ws.length c0, .slice A1 m.pend.length c1, .slice A2 m.tlb.length c2, .slice A3 m.wc.length c3] 30) := by
    have h1 := heap_alloc_new w (.cells #[.slice A0 m.ws.length c0, .slice A1 m.pend.length c1, .slice A2 m.tlb.length c2, .slice A3 m.wc.length c3] 30)
    have h2 := (allocB (allocB (Below.refl (w.alloc (.cells #[.slice A0 m.ws.length c0, .slice A1 m.pend.length c1, .slice A2 m.tlb.length c2, .slice A3 m.wc.length c3] 30)).heap.size (w.alloc (.cells #[.slice A0 m.ws.length c0, .slice A1 m.pend.length c1, .slice A2 m.tlb.length c2, .slice A3 m.wc.length c3] 30))) (.cells #[.int .i64 e.Page, .int .i64 e.Size, .int .i64 e.Out, .int .i64 e.Perm, .bool e.Doomed] 40)) (.cells #[.slice none 0 0, .slice none 0 0, .slice none 0 0, .slice none 0 0] 30)).block w.heap.size (by simp)
    exact h2.trans h1
  have ye : (((w.alloc (.cells #[.slice A0 m.ws.length c0, .slice A1 m.pend.length c1, .slice A2 m.tlb.length c2, .slice A3 m.wc.length c3] 30)).alloc (.cells #[.int .i64 e.Page, .int .i64 e.Size, .int .i64 e.Out, .int .i64 e.Perm, .bool e.Doomed] 40)).alloc (.cells #[.slice none 0 0, .slice none 0 0, .slice none 0 0, .slice none 0 0] 30)).heap[w.heap.size + 1]? = some (.cells #[.int .i64 e.Page, .int .i64 e.Size, .int .i64 e.Out, .int .i64 e.Perm, .bool e.Doomed] 40) := by
    have h1 := heap_alloc_new (w.alloc (.cells #[.slice A0 m.ws.length c0, .slice A1 m.pend.length c1, .slice A2 m.tlb.length c2, .slice A3 m.wc.length c3] 30)) (.cells #[.int .i64 e.Page, .int .i64 e.Size, .int .i64 e.Out, .int .i64 e.Perm, .bool e.Doomed] 40)
    have h2 := (allocB (Below.refl ((w.alloc (.cells #[.slice A0 m.ws.length c0, .slice A1 m.pend.length c1, .slice A2 m.tlb.length c2, .slice A3 m.wc.length c3] 30)).alloc (.cells #[.int .i64 e.Page, .int .i64 e.Size, .int .i64 e.Out, .int .i64 e.Perm, .bool e.Doomed] 40)).heap.size ((w.alloc (.cells #[.slice A0 m.ws.length c0, .slice A1 m.pend.length c1, .slice A2 m.tlb.length c2, .slice A3 m.wc.length c3] 30)).alloc (.cells #[.int .i64 e.Page, .int .i64 e.Size, .int .i64 e.Out, .int .i64 e.Perm, .bool e.Doomed] 40))) (.cells #[.slice none 0 0, .slice none 0 0, .slice none 0 0, .slice none 0 0] 30)).block (w.alloc (.cells #[.slice A0 m.ws.length c0, .slice A1 m.pend.length c1, .slice A2 m.tlb.length c2, .slice A3 m.wc.length c3] 30)).heap.size (by simp)
    have h3 := h2.trans h1
    rwa [show (w.alloc (.cells #[.slice A0 m.ws.length c0, .slice A1 m.pend.length c1, .slice A2 m.tlb.length c2, .slice A3 m.wc.length c3] 30)).heap.size = w.heap.size + 1 by simp] at h3
  have yr : (((w.alloc (.cells #[.slice A0 m.ws.length c0, .slice A1 m.pend.length c1, .slice A2 m.tlb.length c2, .slice A3 m.wc.length c3] 30)).alloc (.cells #[.int .i64 e.Page, .int .i64 e.Size, .int .i64 e.Out, .int .i64 e.Perm, .bool e.Doomed] 40)).alloc (.cells #[.slice none 0 0, .slice none 0 0, .slice none 0 0, .slice none 0 0] 30)).heap[w.heap.size + 2]? = some (.cells #[.slice none 0 0, .slice none 0 0, .slice none 0 0, .slice none 0 0] 30) := by
    have h1 := heap_alloc_new ((w.alloc (.cells #[.slice A0 m.ws.length c0, .slice A1 m.pend.length c1, .slice A2 m.tlb.length c2, .slice A3 m.wc.length c3] 30)).alloc (.cells #[.int .i64 e.Page, .int .i64 e.Size, .int .i64 e.Out, .int .i64 e.Perm, .bool e.Doomed] 40)) (.cells #[.slice none 0 0, .slice none 0 0, .slice none 0 0, .slice none 0 0] 30)
    rwa [show ((w.alloc (.cells #[.slice A0 m.ws.length c0, .slice A1 m.pend.length c1, .slice A2 m.tlb.length c2, .slice A3 m.wc.length c3] 30)).alloc (.cells #[.int .i64 e.Page, .int .i64 e.Size, .int .i64 e.Out, .int .i64 e.Perm, .bool e.Doomed] 40)).heap.size = w.heap.size + 2 by simp] at h1
  have Y3 := Lib.hid y3
  have YE := Lib.hid ye
  have YR := Lib.hid yr
  clear y3 ye yr
  go_enter Try.func59, Try.ntmps59
  go_upto_region 2 with (first | (go_at_call 16; refine (specCopy_any _ _ _ _ m _ (R.out.below HBX.out) HL.out).mono ?_; rintro ex w1 ⟨u0, u1, u2, u3, rfl, o1, hb1⟩; obtain ⟨B0, d0, B1, d1, B2, d2, B3, d3, rfl, rfl, rfl, rfl⟩ := o1.shape; have O1 := Lib.hid o1; have HB1 := Lib.hid hb1; clear o1 hb1))
  have Z5 := Lib.hid (heap_alloc_new w1 (.cells #[.slice B0 m.ws.length d0, .slice B1 m.pend.length d1, .slice B2 m.tlb.length d2, .slice B3 m.wc.length d3] 30))
  have h15 : Below (((w.alloc (.cells #[.slice A0 m.ws.length c0, .slice A1 m.pend.length c1, .slice A2 m.tlb.length c2, .slice A3 m.wc.length c3] 30)).alloc (.cells #[.int .i64 e.Page, .int .i64 e.Size, .int .i64 e.Out, .int .i64 e.Perm, .bool e.Doomed] 40)).alloc (.cells #[.slice none 0 0, .slice none 0 0, .slice none 0 0, .slice none 0 0] 30)).heap.size (((w.alloc (.cells #[.slice A0 m.ws.length c0, .slice A1 m.pend.length c1, .slice A2 m.tlb.length c2, .slice A3 m.wc.length c3] 30)).alloc (.cells #[.int .i64 e.Page, .int .i64 e.Size, .int .i64 e.Out, .int .i64 e.Perm, .bool e.Doomed] 40)).alloc (.cells #[.slice none 0 0, .slice none 0 0, .slice none 0 0, .slice none 0 0] 30)) (w1.alloc (.cells #[.slice B0 m.ws.length d0, .slice B1 m.pend.length d1, .slice B2 m.tlb.length d2, .slice B3 m.wc.length d3] 30)) := allocB HB1.out _
  have Z3 := Lib.hid ((h15.block w.heap.size (Array.getElem?_eq_some_iff.1 Y3.out).1).trans Y3.out)
  have ZE := Lib.hid ((h15.block (w.heap.size + 1) (Array.getElem?_eq_some_iff.1 YE.out).1).trans YE.out)
  have Z4 := Lib.hid ((h15.block (w.heap.size + 2) (Array.getElem?_eq_some_iff.1 YR.out).1).trans YR.out)
  have OB := Lib.hid ((O1.out.below (allocB (Below.refl _ _) (.cells #[.slice B0 m.ws.length d0, .slice B1 m.pend.length d1, .slice B2 m.tlb.length d2, .slice B3 m.wc.length d3] 30))).lower HBX.out.size)
  have HBW : Hid (Below w.heap.size w (w1.alloc (.cells #[.slice B0 m.ws.length d0, .slice B1 m.pend.length d1, .slice B2 m.tlb.length d2, .slice B3 m.wc.length d3] 30))) := Lib.hid (thenB HBX.out h15)
  have s2 : w.heap.size + 2 < w1.heap.size := by have h := HB1.out.size; simp at h; omega
  have s5 : w1.heap.size < (w1.alloc (.cells #[.slice B0 m.ws.length d0, .slice B1 m.pend.length d1, .slice B2 m.tlb.length d2, .slice B3 m.wc.length d3] 30)).heap.size := by simp
  clear h15 Y3 YE YR HBX HB1 O1
  generalize (w1.alloc (.cells #[.slice B0 m.ws.length d0, .slice B1 m.pend.length d1, .slice B2 m.tlb.length d2, .slice B3 m.wc.length d3] 30)) = w2 at *
  go_wp2
  go_loopw [6] (fun x wr => ∃ k : Nat, k ≤ m.tlb.length ∧ x = .int .i64 k ∧ (∀ j : Nat, j < k → m.tlb[j]? ≠ some e) ∧ Below w2.heap.size w2 wr) (fun x _ => m.tlb.length - (intOf x).toNat)
  case atStart => exact ⟨0, Nat.zero_le _, rfl, by omega, Below.refl _ _⟩
  case round =>
    obtain ⟨k, hk, rfl, hall, hb⟩ := hrel
    have HA := Lib.hid hall
    have HB := Lib.hid hb
    have z3 := (hb.block w.heap.size (Array.getElem?_eq_some_iff.1 Z3.out).1).trans Z3.out
    have ze := (hb.block (w.heap.size + 1) (Array.getElem?_eq_some_iff.1 ZE.out).1).trans ZE.out
    have z4 := (hb.block (w.heap.size + 2) (Array.getElem?_eq_some_iff.1 Z4.out).1).trans Z4.out
    have z5 := (hb.block w1.heap.size (Array.getElem?_eq_some_iff.1 Z5.out).1).trans Z5.out
    have x2 : wr.cell? ⟨w.heap.size, 2, none⟩ = some (.slice A2 m.tlb.length c2) := by simp [World.cell?, z3]
    have e0 : wr.cell? ⟨w.heap.size + 1, 0, none⟩ = some (.int .i64 e.Page) := by simp [World.cell?, ze]
    have e1 : wr.cell? ⟨w.heap.size + 1, 1, none⟩ = some (.int .i64 e.Size) := by simp [World.cell?, ze]
    have e2 : wr.cell? ⟨w.heap.size + 1, 2, none⟩ = some (.int .i64 e.Out) := by simp [World.cell?, ze]
    have e3 : wr.cell? ⟨w.heap.size + 1, 3, none⟩ = some (.int .i64 e.Perm) := by simp [World.cell?, ze]
    have e4 : wr.cell? ⟨w.heap.size + 1, 4, none⟩ = some (.bool e.Doomed) := by simp [World.cell?, ze]
    obtain ⟨p0, p1, p2, p3, _, _, _, _⟩ := zCells z5
    obtain ⟨r0, r1, r2, r3, q0, q1, q2, q3⟩ := zCells z4
    have f5 : ∀ i : Nat, wr.frozen? ⟨w1.heap.size, i, none⟩ = false := fun i => by simp [World.frozen?, z5]
    have ZZ4 := Lib.hid z4
    have ZZ5 := Lib.hid z5
    have hzz : w1.heap.size < wr.heap.size := (Array.getElem?_eq_some_iff.1 z5).1
    have hz3 : w.heap.size + 2 < wr.heap.size := by omega
    have hz2 : w.heap.size + 1 < wr.heap.size := by omega
    have hz1 : w.heap.size < wr.heap.size := by omega
    have hnn : w1.heap.size ≠ w.heap.size + 2 := by omega
    have OW := Lib.hid (OB.out.below hb)
    by_cases hlt : k < m.tlb.length
    · have hlt' : (k : Int) < (m.tlb.length : Int) := by omega
      obtain ⟨a0, x, ea, g0, u0, u1, u2, u3, u4⟩ := STlb.at (R.out.tlb.below (thenB HBW.out hb)) hlt
      cases ea
      have G0 := Lib.hid g0
      clear hall hb g0 z3 ze z4 z5
      go_upto_region 5 with fail
      have bx := BW.cell x2
      have be0 := BW.cell e0
      have bu0 := BW.cell u0
      have be1 := BW.cell e1
      have bu1 := BW.cell u1
      have be2 := BW.cell e2
      have bu2 := BW.cell u2
      have be3 := BW.cell e3
      have bu3 := BW.cell u3
      have be4 := BW.cell e4
      have bu4 := BW.cell u4
      clear x2 e0 e1 e2 e3 e4 u0 u1 u2 u3 u4 p0 p1 p2 p3 r0 r1 r2 r3 q0 q1 q2 q3 f5
      rcases Bool.eq_false_or_eq_true (decide (sameP x e)) with hc | hc
      · have HC := Lib.hid hc
        rcases Bool.eq_false_or_eq_true (x.Doomed == e.Doomed) with t4 | t4
        · have hxe : x = e := by
            have h4 : x.Doomed = e.Doomed := by simpa using t4
            obtain ⟨h0, h1, h2, h3⟩ := of_decide_eq_true hc
            cases x; cases e; simp_all
          have HS : Hid ({ m with tlb := addL m.tlb e } = m) := Lib.hid (by have : addL m.tlb e = m.tlb := if_pos (Or.inl (hxe ▸ List.mem_of_getElem? G0.out)); rw [this])
          clear hc hxe
          (refine wp_region_below (by kernel_rfl) (by kernel_rfl) ?_; (repeat (first | (go_big_quiet_step (first | (go_at_call 60; refine BW.calls (same_b x e _ _ HC.out)))) | ((with_reducible refine wpQuiet_step ?_); intro K hK; go_simp; first | ((with_reducible refine hK _ ?_); clear hK K) | (apply Exists.intro; refine ⟨fun _ => ?_, hK _ ?_⟩; (first | (go_at_call 60; refine BW.calls (same_b x e _ _ HC.out))); clear hK K)))); (with_reducible refine wpQuiet_nil ?_); intro wq hw'; obtain ⟨⟨wy, hbq⟩, hw''⟩ := hw'; subst hw'')
          have zq5 := (hbq.block w1.heap.size hzz).trans ZZ5.out
          have zq4 := (hbq.block (w.heap.size + 2) hz3).trans ZZ4.out
          have zq3 := (hbq.block w.heap.size hz1).trans ((HB.out.block w.heap.size (Array.getElem?_eq_some_iff.1 Z3.out).1).trans Z3.out)
          obtain ⟨p0, p1, p2, p3, _, _, _, _⟩ := zCells zq5
          obtain ⟨r0, r1, r2, r3, q0, q1, q2, q3⟩ := zCells zq4
          have ZQ4 := Lib.hid zq4
          clear zq5 zq4 zq3
          have hoff := OwnM.off (OW.out.below hbq) ZQ4.out
          go_wp2
          refine bodyPost_ret (v := .agg #[.slice B0 m.ws.length d0, .slice B1 m.pend.length d1, .slice B2 m.tlb.length d2, .slice B3 m.wc.length d3]) (by simp [results, Try.results59, go_sem, *]) rfl ⟨_, _, _, _, rfl, ?_, ?_⟩
          · rw [HS.out]
            exact OwnM.setOff (OwnM.setOff (OwnM.setOff (OwnM.setOff (OW.out.below hbq) hoff 0 _) hoff 1 _) hoff 2 _) hoff 3 _
          · exact Below.setCell (Below.setCell (Below.setCell (Below.setCell (thenB HBW.out (thenB HB.out hbq)) (Nat.le_add_right _ 2) _) (Nat.le_add_right _ 2) _) (Nat.le_add_right _ 2) _) (Nat.le_add_right _ 2) _
        · have hne : x ≠ e := fun h => by rw [h] at t4; simp at t4
          have HNE := Lib.hid hne
          clear hc hne
          (refine wp_region_below (by kernel_rfl) (by kernel_rfl) ?_; (repeat (first | (go_big_quiet_step (first | (go_at_call 60; refine BW.calls (same_b x e _ _ HC.out)))) | ((with_reducible refine wpQuiet_step ?_); intro K hK; go_simp; first | ((with_reducible refine hK _ ?_); clear hK K) | (apply Exists.intro; refine ⟨fun _ => ?_, hK _ ?_⟩; (first | (go_at_call 60; refine BW.calls (same_b x e _ _ HC.out))); clear hK K)))); (with_reducible refine wpQuiet_nil ?_); intro wq hw'; obtain ⟨⟨wy, hbq⟩, hw''⟩ := hw'; subst hw'')
          go_wp2
          go_roundw
          case rel =>
            refine ⟨k + 1, by omega, by go_num, fun j hj => ?_, thenB HB.out hbq⟩
            by_cases h : j = k
            · subst h; rw [G0.out]; exact fun h => HNE.out (Option.some.inj h)
            · exact HA.out j (by omega)
          case measure => simp [intOf]; omega
      · have hne : x ≠ e := fun h => of_decide_eq_false hc (by rw [h]; exact ⟨rfl, rfl, rfl, rfl⟩)
        have HNE := Lib.hid hne
        have HC := Lib.hid hc
        clear hc hne
        (refine wp_region_below (by kernel_rfl) (by kernel_rfl) ?_; (repeat (first | (go_big_quiet_step (first | (go_at_call 60; refine BW.calls (same_b x e _ _ HC.out)))) | ((with_reducible refine wpQuiet_step ?_); intro K hK; go_simp; first | ((with_reducible refine hK _ ?_); clear hK K) | (apply Exists.intro; refine ⟨fun _ => ?_, hK _ ?_⟩; (first | (go_at_call 60; refine BW.calls (same_b x e _ _ HC.out))); clear hK K)))); (with_reducible refine wpQuiet_nil ?_); intro wq hw'; obtain ⟨⟨wy, hbq⟩, hw''⟩ := hw'; subst hw'')
        go_wp2
        go_roundw
        case rel =>
          refine ⟨k + 1, by omega, by go_num, fun j hj => ?_, thenB HB.out hbq⟩
          by_cases h : j = k
          · subst h; rw [G0.out]; exact fun h => HNE.out (Option.some.inj h)
          · exact HA.out j (by omega)
        case measure => simp [intOf]; omega
    · obtain rfl : k = m.tlb.length := by omega
      have hlt' : ¬ ((m.tlb.length : Nat) : Int) < (m.tlb.length : Int) := by omega
      have hno : e ∉ m.tlb := fun h => by
        obtain ⟨j, hj⟩ := List.getElem?_of_mem h
        exact HA.out j (List.getElem?_eq_some_iff.1 hj).1 hj
      have HNO := Lib.hid hno
      clear hno hall hb z3 ze z4 z5
      by_cases hr : m.tlb.length < 256
      rotate_left
      · have hr' : ¬ (m.tlb.length : Int) < 256 := by omega
        have HS : Hid ({ m with tlb := addL m.tlb e } = m) := Lib.hid (by have : addL m.tlb e = m.tlb := if_pos (Or.inr hr); rw [this])
        have HBQ : Hid (Below w2.heap.size w2 wr) := HB
        have hoff := OwnM.off OW.out ZZ4.out
        go_wp2
        refine bodyPost_ret (v := .agg #[.slice B0 m.ws.length d0, .slice B1 m.pend.length d1, .slice B2 m.tlb.length d2, .slice B3 m.wc.length d3]) (by simp [results, Try.results59, go_sem, *]) rfl ⟨_, _, _, _, rfl, ?_, ?_⟩
        · rw [HS.out]
          exact OwnM.setOff (OwnM.setOff (OwnM.setOff (OwnM.setOff OW.out hoff 0 _) hoff 1 _) hoff 2 _) hoff 3 _
        · exact Below.setCell (Below.setCell (Below.setCell (Below.setCell (thenB HBW.out HB.out) (Nat.le_add_right _ 2) _) (Nat.le_add_right _ 2) _) (Nat.le_add_right _ 2) _) (Nat.le_add_right _ 2) _
      · have hr' : (m.tlb.length : Int) < 256 := by omega
        have HS : Hid ({ m with tlb := addL m.tlb e } = { m with tlb := m.tlb ++ [e] }) := Lib.hid (by have : addL m.tlb e = m.tlb ++ [e] := if_neg (fun h => by rcases h with h | h; exact HNO.out h; exact h hr); rw [this])
        have hbw : w.heap.size ≤ wr.heap.size := by omega
        go_wp2_with (at_builtin; refine append1 40 5 40 27 (.agg #[.int .i64 0, .int .i64 0, .int .i64 0, .int .i64 0, .bool false]) Try.underlying27 infoTlS rfl (by decide) STlb.len STlb.one rfl (.tmp 40) (.tmp 42) rfl w.heap.size (.slice B2 m.tlb.length d2) m.tlb e _ rfl rfl rfl OW.out.tlb (by omega) (by decide) hbw ?_)
        intro v' wq hoq hg
        have zq5 := zKept (T := 30) hg OW.out.tlb ZZ5.out (by decide)
        have zq4 := zKept (T := 30) hg OW.out.tlb ZZ4.out (by decide)
        have PQ : OwnM w.heap.size wq (.slice B0 m.ws.length d0) (.slice B1 m.pend.length d1) v' (.slice B3 m.wc.length d3) { m with tlb := m.tlb ++ [e] } := ⟨OW.out.ws.kept hg (own_apart (by decide) OW.out.ws OW.out.tlb), OW.out.pend.kept hg (own_apart (by decide) OW.out.pend OW.out.tlb), hoq, OW.out.wc.kept hg (own_apart (by decide) OW.out.wc OW.out.tlb)⟩
        have hbq : Below w.heap.size w wq := Own.grown OW.out.tlb (thenB HBW.out HB.out) hbw hg
        obtain ⟨Aq, cq, e'⟩ := hoq.shape
        subst e'
        obtain ⟨i0, i1, i2, i3, j0, j1, j2, j3⟩ := zCells zq5
        obtain ⟨k0, k1, k2, k3, l0, l1, l2, l3⟩ := zCells zq4
        have ZQ4 := Lib.hid zq4
        have ZQ5 := Lib.hid zq5
        have P := Lib.hid PQ
        have HQ := Lib.hid hbq
        clear zq5 zq4 PQ hbq hoq hg r0 r1 r2 r3 q0 q1 q2 q3 p0 p1 p2 p3 f5 x2 e0 e1 e2 e3 e4
        go_wp2
        have o4 := OwnM.off P.out ZQ4.out
        have o5 := OwnM.off P.out ZQ5.out
        refine bodyPost_ret (v := .agg #[.slice B0 m.ws.length d0, .slice B1 m.pend.length d1, .slice Aq (m.tlb ++ [e]).length cq, .slice B3 m.wc.length d3]) (by simp [results, Try.results59, go_sem, *]) rfl ⟨_, _, _, _, rfl, ?_, ?_⟩
        · rw [HS.out]
          exact OwnM.setOff (OwnM.setOff (OwnM.setOff (OwnM.setOff (OwnM.setOff P.out o5 2 _) o4 0 _) o4 1 _) o4 2 _) o4 3 _
        · exact Below.setCell (Below.setCell (Below.setCell (Below.setCell (Below.setCell HQ.out (Nat.le_of_lt (Nat.lt_of_le_of_lt (Nat.le_add_right _ 2) s2)) _) (Nat.le_add_right _ 2) _) (Nat.le_add_right _ 2) _) (Nat.le_add_right _ 2) _) (Nat.le_add_right _ 2) _
end Go.Proofs.Ythphfcheencbgaa.Mmu
