/- Walks of the program's addStep and addWhole. -/
import Derived.Test.YtomomaoncmgfpaaInfoM
import Derived.Test.YtomomaoncmgfpaaAddPure
import Derived.Test.YtomomaoncmgfpaaMachG
import Derived.Test.YtomomaoncmgfpaaMachOf
namespace Go.Proofs.Ytomomaoncmgfpaa.Mmu
open Go.RowKit Go.Proofs.Ytomomaoncmgfpaa.Base Go.Proofs.Ytomomaoncmgfpaa.Kinds Go.Proofs.Ytomomaoncmgfpaa.DecMath Go.Proofs.Ytomomaoncmgfpaa.L1
set_option linter.unusedVariables false
set_option linter.unusedSimpArgs false
/-- A method of the machine inside has answered val and left the machine m. -/
def XPost (base p : Nat) (w : World) (v0 v1 v2 : Value) (m : SM) (ls : List Int) (val : Value) (e : Ending) (w' : World) : Prop :=
  e = .returned val ∧ ∃ v3 v4, OwnX base w' p v0 v1 v2 v3 v4 m ls ∧ Below base w w' ∧ KeepX w w'
theorem keepSet {α : Type} {enc : α → List Value} {sz E b : Nat} {base p : Nat} {w w1 : World} {v0 v1 v2 v3 v4 v : Value} {l : List α} {m : SM} {ls : List Int} (h : OwnX base w p v0 v1 v2 v3 v4 m ls) (o : Own enc sz E b w v l) (hE : inX E) (hne : E ≠ 97) (hg : w.grownBy w1 v.ownBlock) (i : Nat) (u : Value) : KeepX w (w1.setCell ⟨p, i, none⟩ u) :=
  (KeepX.grown o hE hg).trans (KeepX.set (by rw [hg.block p h.lt (h.off o hne)]; exact h.box) (Or.inl rfl) i u)

set_option maxRecDepth 100000 in
set_option maxHeartbeats 8000000 in
theorem addStep_any (base p : Nat) (v0 v1 v2 v3 v4 : Value) (m : SM) (ls : List Int) (pg cn lv tb : Int) (dm : Bool) (w : World) (X : OwnX base w p v0 v1 v2 v3 v4 m ls) (hn : m.wc.length ≤ 256) (hcn : cov (lv - 1) = cn) :
    Calls Try.prog 53 #[.pointer (some ⟨p, 0, none⟩), .agg #[.int .i64 pg, .int .i64 cn, .bool dm, .int .i64 lv, .int .i64 tb]] w (XPost base p w v0 v1 v2 { m with wc := addL m.wc ⟨lv, pg, tb, dm⟩ } ls (.tuple #[])) := by
  obtain ⟨A4, c4, e4⟩ := X.wc.shape
  subst e4
  have HX := Lib.hid X
  have hp1 : base ≤ p := X.low
  have hp2 : p < w.heap.size := X.lt
  have HCN := Lib.hid hcn
  clear hcn
  clear X
  go_enter Try.func53, Try.ntmps53
  go_upto_region 1 with fail
  refine ((St.start w).push _ _).gen (fun w1 S1' _ => ?_)
  have S1 := Lib.hid S1'
  have hcx := S1'.b
  have X1 := Lib.hid (HX.out.below hcx)
  clear S1' hcx
  have q0 := X1.out.cell.2.2.2.2
  by_cases hfull : m.wc.length < 256
  rotate_left
  · have hge : (256 : Int) ≤ (m.wc.length : Int) := by omega
    have HA : Hid (addL m.wc ⟨lv, pg, tb, dm⟩ = m.wc) := Lib.hid (if_pos (Or.inr hfull))
    go_wp2
    refine bodyPost_ret (v := .tuple #[]) (by simp [results, Try.results53, go_sem]) rfl ⟨rfl, v3, .slice A4 m.wc.length c4, ?_, (S1.out.b).mono (by omega), KeepX.of_below S1.out.b⟩
    rw [HA.out]; exact X1.out
  have hge : ¬ (256 : Int) ≤ (m.wc.length : Int) := by omega
  go_wp2
  clear q0
  go_loopw [17] (fun i wr => ∃ k : Nat, k ≤ m.wc.length ∧ i = .int .i64 k ∧ (∀ j : Nat, j < k → m.wc[j]? ≠ some ⟨lv, pg, tb, dm⟩) ∧ Below w1.heap.size w1 wr) (fun i _ => m.wc.length - (intOf i).toNat)
  case atStart => exact ⟨0, Nat.zero_le _, rfl, by omega, Below.refl _ _⟩
  case round =>
    obtain ⟨k, hk, rfl, hall, hb⟩ := hrel
    have HALL := Lib.hid hall
    have S2 := Lib.hid (S1.out.below hb)
    have X2 := Lib.hid (X1.out.below hb)
    have HB := Lib.hid hb
    clear hall hb
    by_cases hlt : k < m.wc.length
    · have hlt' : (k : Int) < (m.wc.length : Int) := by omega
      obtain ⟨a0, x, ea, g0, u0, u1, u2, u3, u4⟩ := step_at (X2.out.wc.rd stepLen) hlt
      cases ea
      have G0 := Lib.hid g0
      clear g0
      have sT0 := S2.out
      obtain ⟨p0_0, p0_1, p0_2, p0_3, p0_4⟩ := sT0.c5
      have sT1 := sT0.tail
      clear sT0 sT1
      have hzl : w.heap.size < wr.heap.size := S2.out.lt _ (List.mem_cons_self ..)
      have keep : x ≠ ⟨lv, pg, tb, dm⟩ → ∀ wr', Below w1.heap.size w1 wr' → ∃ k' : Nat, k' ≤ m.wc.length ∧ Value.int .i64 (((k + 1 : Nat) : Int)) = .int .i64 k' ∧ (∀ j : Nat, j < k' → m.wc[j]? ≠ some ⟨lv, pg, tb, dm⟩) ∧ Below w1.heap.size w1 wr' := fun h wr' hb => ⟨k + 1, by omega, rfl, fun j hj => by
        by_cases e : j = k
        · subst e; rw [G0.out]; exact fun q => h (Option.some.inj q)
        · exact HALL.out j (by omega), hb⟩
      have KEEP := Lib.hid keep
      clear keep
      rcases Bool.eq_false_or_eq_true (x.Page == pg) with t0 | t0
      rotate_left
      · have HNE : Hid (x ≠ ⟨lv, pg, tb, dm⟩) := Lib.hid (fun h => by subst h; simp at t0)
        go_wp2
        go_roundw
        case rel =>
          have := KEEP.out HNE.out _ (allocB HB.out (.cells #[.int .i64 x.Page, .int .i64 (cov (x.Level - 1)), .bool x.Doomed, .int .i64 x.Level, .int .i64 x.Table] 103))
          first
            | (simpa using this; done)
            | ((repeat apply Exists.intro); refine ⟨?_, rfl⟩; simpa using this)
        case measure => simp [intOf]; omega
      rcases Bool.eq_false_or_eq_true (cov (x.Level - 1) == cn) with t1 | t1
      rotate_left
      · have HNE : Hid (x ≠ ⟨lv, pg, tb, dm⟩) := Lib.hid (fun h => by subst h; have := HCN.out; simp [this] at t1; try simp at t1)
        go_wp2
        go_roundw
        case rel =>
          have := KEEP.out HNE.out _ (allocB HB.out (.cells #[.int .i64 x.Page, .int .i64 (cov (x.Level - 1)), .bool x.Doomed, .int .i64 x.Level, .int .i64 x.Table] 103))
          first
            | (simpa using this; done)
            | ((repeat apply Exists.intro); refine ⟨?_, rfl⟩; simpa using this)
        case measure => simp [intOf]; omega
      rcases Bool.eq_false_or_eq_true (x.Doomed == dm) with t2 | t2
      rotate_left
      · have HNE : Hid (x ≠ ⟨lv, pg, tb, dm⟩) := Lib.hid (fun h => by subst h; simp at t2)
        go_wp2
        go_roundw
        case rel =>
          have := KEEP.out HNE.out _ (allocB HB.out (.cells #[.int .i64 x.Page, .int .i64 (cov (x.Level - 1)), .bool x.Doomed, .int .i64 x.Level, .int .i64 x.Table] 103))
          first
            | (simpa using this; done)
            | ((repeat apply Exists.intro); refine ⟨?_, rfl⟩; simpa using this)
        case measure => simp [intOf]; omega
      rcases Bool.eq_false_or_eq_true (x.Level == lv) with t3 | t3
      rotate_left
      · have HNE : Hid (x ≠ ⟨lv, pg, tb, dm⟩) := Lib.hid (fun h => by subst h; simp at t3)
        go_wp2
        go_roundw
        case rel =>
          have := KEEP.out HNE.out _ (allocB HB.out (.cells #[.int .i64 x.Page, .int .i64 (cov (x.Level - 1)), .bool x.Doomed, .int .i64 x.Level, .int .i64 x.Table] 103))
          first
            | (simpa using this; done)
            | ((repeat apply Exists.intro); refine ⟨?_, rfl⟩; simpa using this)
        case measure => simp [intOf]; omega
      rcases Bool.eq_false_or_eq_true (x.Table == tb) with t4 | t4
      rotate_left
      · have HNE : Hid (x ≠ ⟨lv, pg, tb, dm⟩) := Lib.hid (fun h => by subst h; simp at t4)
        go_wp2
        go_roundw
        case rel =>
          have := KEEP.out HNE.out _ (allocB HB.out (.cells #[.int .i64 x.Page, .int .i64 (cov (x.Level - 1)), .bool x.Doomed, .int .i64 x.Level, .int .i64 x.Table] 103))
          first
            | (simpa using this; done)
            | ((repeat apply Exists.intro); refine ⟨?_, rfl⟩; simpa using this)
        case measure => simp [intOf]; omega
      have HEQ : Hid (x = ⟨lv, pg, tb, dm⟩) := Lib.hid (by
        obtain ⟨y0, y1, y2, y3⟩ := x
        simp only [beq_iff_eq] at t0 t1 t2 t3 t4
        simp only [SWc.mk.injEq]
        exact ⟨t3, t0, t4, t2⟩)
      have HA : Hid (addL m.wc ⟨lv, pg, tb, dm⟩ = m.wc) := Lib.hid (if_pos (Or.inl (by rw [← HEQ.out]; exact List.mem_of_getElem? G0.out)))
      go_wp2
      refine bodyPost_ret (v := .tuple #[]) (by simp [results, Try.results53, go_sem]) rfl ⟨rfl, v3, .slice (some a0) m.wc.length c4, ?_, Below.alloc (S2.out.b.mono (by omega)) (by have := S2.out.b.size; omega) _, KeepX.of_below (allocB S2.out.b _)⟩
      rw [HA.out]; exact X2.out.below (allocB (Below.refl _ _) _)
    · have hlt' : ¬ (k : Int) < (m.wc.length : Int) := by omega
      obtain rfl : k = m.wc.length := by omega
      have HA : Hid (addL m.wc ⟨lv, pg, tb, dm⟩ = m.wc ++ [⟨lv, pg, tb, dm⟩]) := Lib.hid (if_neg (by
        rintro (h | h)
        · obtain ⟨j, hj⟩ := List.getElem?_of_mem h
          exact HALL.out j (List.getElem?_eq_some_iff.1 hj).1 hj
        · exact h hfull))
      have sT0 := S2.out
      obtain ⟨p0_0, p0_1, p0_2, p0_3, p0_4⟩ := sT0.c5
      have sT1 := sT0.tail
      clear sT0 sT1
      go_upto_region 7 with fail
      have XD := Lib.hid X2.out.drew
      have f3 := X2.out.cell.2.2.2.2
      have hun : some w.heap.size ≠ (Value.slice A4 m.wc.length c4).ownBlock := fun e => by have := (HX.out.wc.lt _ e.symm).2; omega
      have hup : some p ≠ (Value.slice A4 m.wc.length c4).ownBlock := X2.out.off X2.out.wc (by decide)
      have HUN := Lib.hid hun
      have HUP := Lib.hid hup
      have hp3 : p < wr.heap.size := X2.out.lt
      have hpn : p ≠ w.heap.size := by omega
      have hbs : base ≤ wr.heap.size := by omega
      clear hun hup
      refine wp_region_F (fun w' => w'.cell? ⟨w.heap.size, 0, none⟩ = some (.int .i64 pg) ∧ w'.cell? ⟨w.heap.size, 1, none⟩ = some (.int .i64 cn) ∧ w'.cell? ⟨w.heap.size, 2, none⟩ = some (.bool dm) ∧ w'.cell? ⟨w.heap.size, 3, none⟩ = some (.int .i64 lv) ∧ w'.cell? ⟨w.heap.size, 4, none⟩ = some (.int .i64 tb) ∧ w'.cell? ⟨p, 4, none⟩ = some (.slice A4 m.wc.length c4)) 10 (by kernel_rfl) ⟨p0_0, p0_1, p0_2, p0_3, p0_4, f3⟩ (fun hS => ?_)
      refine wpAnyF_take (i := 0) (v := ?_) 25 rfl rfl (by kernel_rfl) (by kernel_rfl) (by kernel_rfl) (by kernel_rfl) (fun _ _ _ h => h) (Or.inl ⟨by rfl, fun w' hSw => ?_⟩) hS ?_
      rotate_left
      · (try dsimp only at hSw); go_simp; (try with_reducible rfl)
      try simp only [Act.put, List.setIfInBounds_toArray, List.set_cons_zero, List.set_cons_succ]
      refine wpAnyF_take (i := 1) (v := ?_) 26 rfl rfl (by kernel_rfl) (by kernel_rfl) (by kernel_rfl) (by kernel_rfl) (fun _ _ _ h => h) (Or.inl ⟨by rfl, fun w' hSw => ?_⟩) hS ?_
      rotate_left
      · (try dsimp only at hSw); go_simp; (try with_reducible rfl)
      try simp only [Act.put, List.setIfInBounds_toArray, List.set_cons_zero, List.set_cons_succ]
      refine wpAnyF_take (i := 2) (v := ?_) 27 rfl rfl (by kernel_rfl) (by kernel_rfl) (by kernel_rfl) (by kernel_rfl) (fun _ _ _ h => h) (Or.inl ⟨by rfl, fun w' hSw => ?_⟩) hS ?_
      rotate_left
      · (try dsimp only at hSw); go_simp; (try with_reducible rfl)
      try simp only [Act.put, List.setIfInBounds_toArray, List.set_cons_zero, List.set_cons_succ]
      refine wpAnyF_take (i := 3) (v := ?_) 28 rfl rfl (by kernel_rfl) (by kernel_rfl) (by kernel_rfl) (by kernel_rfl) (fun _ _ _ h => h) (Or.inl ⟨by rfl, fun w' hSw => ?_⟩) hS ?_
      rotate_left
      · (try dsimp only at hSw); go_simp; (try with_reducible rfl)
      try simp only [Act.put, List.setIfInBounds_toArray, List.set_cons_zero, List.set_cons_succ]
      refine wpAnyF_take (i := 4) (v := ?_) 29 rfl rfl (by kernel_rfl) (by kernel_rfl) (by kernel_rfl) (by kernel_rfl) (fun _ _ _ h => h) (Or.inl ⟨by rfl, fun w' hSw => ?_⟩) hS ?_
      rotate_left
      · (try dsimp only at hSw); go_simp; (try with_reducible rfl)
      try simp only [Act.put, List.setIfInBounds_toArray, List.set_cons_zero, List.set_cons_succ]
      refine wpAnyF_take (i := 5) (v := ?_) 30 rfl rfl (by kernel_rfl) (by kernel_rfl) (by kernel_rfl) (by kernel_rfl) (fun _ _ _ h => h) (Or.inl ⟨by rfl, fun w' hSw => ?_⟩) hS ?_
      rotate_left
      · (try dsimp only at hSw); go_simp; (try with_reducible rfl)
      try simp only [Act.put, List.setIfInBounds_toArray, List.set_cons_zero, List.set_cons_succ]
      refine wpAnyF_one (i := 6) (by kernel_rfl) rfl (by rfl) (fun K hK => ?_)
      go_simp
      have hA := keep6 hS (World.grownBy_alloc wr.drew (.cells #[.int .i64 pg, .int .i64 cn, .bool dm, .int .i64 lv, .int .i64 tb] 103) none) (by simp) (by simp)
      refine hK _ _ (fun _ => hA) ?_
      clear hK K
      try simp only [Act.put, List.setIfInBounds_toArray, List.set_cons_zero, List.set_cons_succ]
      refine wpAnyF_one (i := 7) (by kernel_rfl) rfl (by rfl) (fun K hK => ?_)
      refine wp_appendAll 103 5 40 95 (.agg #[.int .i64 0, .int .i64 0, .bool false, .int .i64 0, .int .i64 0]) Try.underlying95 infoSt rfl (by decide) stepLen stepOne (.tmp 29) (.tmp 31) rfl base _ _ m.wc [⟨lv, pg, tb, dm⟩] rfl rfl (XD.out.wc.alloc _) (rd_laid stepLen wr.drew _ _ (by simp [stepEnc, HCN.out])) (by simp; omega) (by decide) (by simp; omega) ?_
      intro vT wT hoT hgT
      have sT1 := hgT.cell (XD.out.below (allocB (Below.refl _ _) _)).cell.2.2.2.2 HUP.out
      have sT2 : wT.frozen? ⟨p, 4, none⟩ = false := (hgT.frozen_far ⟨p, 4, none⟩ (XD.out.below (allocB (Below.refl _ _) _)).lt HUP.out).trans ((XD.out.below (allocB (Below.refl _ _) _)).frozen 4)
      obtain ⟨BT, dT, rfl⟩ := hoT.shape
      have hT := keep6 hA hgT HUN.out HUP.out
      refine hK _ _ (fun _ => hT) ?_
      clear hK K
      try simp only [Act.put, List.setIfInBounds_toArray, List.set_cons_zero, List.set_cons_succ]
      refine wpAnyF_one (i := 8) (by kernel_rfl) rfl (by rfl) (fun K hK => ?_)
      go_simp
      refine hK _ _ (fun _ => hT) ?_
      clear hK K
      try simp only [Act.put, List.setIfInBounds_toArray, List.set_cons_zero, List.set_cons_succ]
      refine wpAnyF_one (i := 9) (by kernel_rfl) rfl (by rfl) (fun K hK => ?_)
      go_simp
      refine hK _ _ (fun _ => hT) ?_
      clear hK K
      try simp only [Act.put, List.setIfInBounds_toArray, List.set_cons_zero, List.set_cons_succ]
      refine wpAnyF_one (i := 10) (by kernel_rfl) rfl (by rfl) (fun K hK => ?_)
      go_simp
      refine hK _ _ (fun h => absurd rfl h) ?_
      clear hK K
      try simp only [Act.put, List.setIfInBounds_toArray, List.set_cons_zero, List.set_cons_succ]
      refine wpAnyF_done (by kernel_rfl) ?_ _
      refine NoPanic.normal ?_
      have hg3 : wr.drew.grownBy wT (Value.slice A4 m.wc.length c4).ownBlock := World.grownBy.trans (World.grownBy_alloc wr.drew _ _) hgT
      rw [show (m.wc ++ [(⟨lv, pg, tb, dm⟩ : SWc)]).length = m.wc.length + 1 from by simp] at hoT
      have HXN := Lib.hid (XD.out.setWc hg3 hoT)
      have HBT := Lib.hid ((Own.grown XD.out.wc (S2.out.b.mono (show base ≤ w.heap.size by omega)).drew (show base ≤ wr.drew.heap.size from hbs) hg3).setCell (p := ⟨p, 4, none⟩) hp1 (.slice BT (m.wc.length + 1) dT))
      have HKX := Lib.hid ((KeepX.of_below S2.out.b.drew).trans (keepSet XD.out XD.out.wc (by decide) (by decide) hg3 4 (.slice BT (m.wc.length + 1) dT)))
      clear hg3 hoT hgT hA hT
      go_wp2
      go_end0
      rw [← HA.out] at HXN
      exact ⟨rfl, _, _, HXN.out, HBT.out, HKX.out⟩

set_option maxRecDepth 100000 in
set_option maxHeartbeats 8000000 in
theorem addWhole_any (base p : Nat) (v0 v1 v2 v3 v4 : Value) (m : SM) (ls : List Int) (pg sz out pm : Int) (dm : Bool) (w : World) (X : OwnX base w p v0 v1 v2 v3 v4 m ls) (hn : m.tlb.length ≤ 256) :
    Calls Try.prog 54 #[.pointer (some ⟨p, 0, none⟩), .agg #[.int .i64 pg, .int .i64 sz, .bool dm, .int .i64 out, .int .i64 pm]] w (XPost base p w v0 v1 v2 { m with tlb := addL m.tlb ⟨pg, sz, out, pm, dm⟩ } ls (.tuple #[])) := by
  obtain ⟨A4, c4, e4⟩ := X.tlb.shape
  subst e4
  have HX := Lib.hid X
  have hp1 : base ≤ p := X.low
  have hp2 : p < w.heap.size := X.lt
  skip
  clear X
  go_enter Try.func54, Try.ntmps54
  go_upto_region 1 with fail
  refine ((St.start w).push _ _).gen (fun w1 S1' _ => ?_)
  have S1 := Lib.hid S1'
  have hcx := S1'.b
  have X1 := Lib.hid (HX.out.below hcx)
  clear S1' hcx
  have q0 := X1.out.cell.2.2.2.1
  by_cases hfull : m.tlb.length < 256
  rotate_left
  · have hge : (256 : Int) ≤ (m.tlb.length : Int) := by omega
    have HA : Hid (addL m.tlb ⟨pg, sz, out, pm, dm⟩ = m.tlb) := Lib.hid (if_pos (Or.inr hfull))
    go_wp2
    refine bodyPost_ret (v := .tuple #[]) (by simp [results, Try.results54, go_sem]) rfl ⟨rfl, .slice A4 m.tlb.length c4, v4, ?_, (S1.out.b).mono (by omega), KeepX.of_below S1.out.b⟩
    rw [HA.out]; exact X1.out
  have hge : ¬ (256 : Int) ≤ (m.tlb.length : Int) := by omega
  go_wp2
  clear q0
  go_loopw [17] (fun i wr => ∃ k : Nat, k ≤ m.tlb.length ∧ i = .int .i64 k ∧ (∀ j : Nat, j < k → m.tlb[j]? ≠ some ⟨pg, sz, out, pm, dm⟩) ∧ Below w1.heap.size w1 wr) (fun i _ => m.tlb.length - (intOf i).toNat)
  case atStart => exact ⟨0, Nat.zero_le _, rfl, by omega, Below.refl _ _⟩
  case round =>
    obtain ⟨k, hk, rfl, hall, hb⟩ := hrel
    have HALL := Lib.hid hall
    have S2 := Lib.hid (S1.out.below hb)
    have X2 := Lib.hid (X1.out.below hb)
    have HB := Lib.hid hb
    clear hall hb
    by_cases hlt : k < m.tlb.length
    · have hlt' : (k : Int) < (m.tlb.length : Int) := by omega
      obtain ⟨a0, x, ea, g0, u0, u1, u2, u3, u4⟩ := whole_at (X2.out.tlb.rd wholeLen) hlt
      cases ea
      have G0 := Lib.hid g0
      clear g0
      have sT0 := S2.out
      obtain ⟨p0_0, p0_1, p0_2, p0_3, p0_4⟩ := sT0.c5
      have sT1 := sT0.tail
      clear sT0 sT1
      have hzl : w.heap.size < wr.heap.size := S2.out.lt _ (List.mem_cons_self ..)
      have keep : x ≠ ⟨pg, sz, out, pm, dm⟩ → ∀ wr', Below w1.heap.size w1 wr' → ∃ k' : Nat, k' ≤ m.tlb.length ∧ Value.int .i64 (((k + 1 : Nat) : Int)) = .int .i64 k' ∧ (∀ j : Nat, j < k' → m.tlb[j]? ≠ some ⟨pg, sz, out, pm, dm⟩) ∧ Below w1.heap.size w1 wr' := fun h wr' hb => ⟨k + 1, by omega, rfl, fun j hj => by
        by_cases e : j = k
        · subst e; rw [G0.out]; exact fun q => h (Option.some.inj q)
        · exact HALL.out j (by omega), hb⟩
      have KEEP := Lib.hid keep
      clear keep
      rcases Bool.eq_false_or_eq_true (x.Page == pg) with t0 | t0
      rotate_left
      · have HNE : Hid (x ≠ ⟨pg, sz, out, pm, dm⟩) := Lib.hid (fun h => by subst h; simp at t0)
        go_wp2
        go_roundw
        case rel =>
          have := KEEP.out HNE.out _ (allocB HB.out (.cells #[.int .i64 x.Page, .int .i64 x.Size, .bool x.Doomed, .int .i64 x.Out, .int .i64 x.Perm] 101))
          first
            | (simpa using this; done)
            | ((repeat apply Exists.intro); refine ⟨?_, rfl⟩; simpa using this)
        case measure => simp [intOf]; omega
      rcases Bool.eq_false_or_eq_true (x.Size == sz) with t1 | t1
      rotate_left
      · have HNE : Hid (x ≠ ⟨pg, sz, out, pm, dm⟩) := Lib.hid (fun h => by subst h; simp at t1)
        go_wp2
        go_roundw
        case rel =>
          have := KEEP.out HNE.out _ (allocB HB.out (.cells #[.int .i64 x.Page, .int .i64 x.Size, .bool x.Doomed, .int .i64 x.Out, .int .i64 x.Perm] 101))
          first
            | (simpa using this; done)
            | ((repeat apply Exists.intro); refine ⟨?_, rfl⟩; simpa using this)
        case measure => simp [intOf]; omega
      rcases Bool.eq_false_or_eq_true (x.Doomed == dm) with t2 | t2
      rotate_left
      · have HNE : Hid (x ≠ ⟨pg, sz, out, pm, dm⟩) := Lib.hid (fun h => by subst h; simp at t2)
        go_wp2
        go_roundw
        case rel =>
          have := KEEP.out HNE.out _ (allocB HB.out (.cells #[.int .i64 x.Page, .int .i64 x.Size, .bool x.Doomed, .int .i64 x.Out, .int .i64 x.Perm] 101))
          first
            | (simpa using this; done)
            | ((repeat apply Exists.intro); refine ⟨?_, rfl⟩; simpa using this)
        case measure => simp [intOf]; omega
      rcases Bool.eq_false_or_eq_true (x.Out == out) with t3 | t3
      rotate_left
      · have HNE : Hid (x ≠ ⟨pg, sz, out, pm, dm⟩) := Lib.hid (fun h => by subst h; simp at t3)
        go_wp2
        go_roundw
        case rel =>
          have := KEEP.out HNE.out _ (allocB HB.out (.cells #[.int .i64 x.Page, .int .i64 x.Size, .bool x.Doomed, .int .i64 x.Out, .int .i64 x.Perm] 101))
          first
            | (simpa using this; done)
            | ((repeat apply Exists.intro); refine ⟨?_, rfl⟩; simpa using this)
        case measure => simp [intOf]; omega
      rcases Bool.eq_false_or_eq_true (x.Perm == pm) with t4 | t4
      rotate_left
      · have HNE : Hid (x ≠ ⟨pg, sz, out, pm, dm⟩) := Lib.hid (fun h => by subst h; simp at t4)
        go_wp2
        go_roundw
        case rel =>
          have := KEEP.out HNE.out _ (allocB HB.out (.cells #[.int .i64 x.Page, .int .i64 x.Size, .bool x.Doomed, .int .i64 x.Out, .int .i64 x.Perm] 101))
          first
            | (simpa using this; done)
            | ((repeat apply Exists.intro); refine ⟨?_, rfl⟩; simpa using this)
        case measure => simp [intOf]; omega
      have HEQ : Hid (x = ⟨pg, sz, out, pm, dm⟩) := Lib.hid (by
        obtain ⟨y0, y1, y2, y3, y4⟩ := x
        simp only [beq_iff_eq] at t0 t1 t2 t3 t4
        simp only [STlb.mk.injEq]
        exact ⟨t0, t1, t3, t4, t2⟩)
      have HA : Hid (addL m.tlb ⟨pg, sz, out, pm, dm⟩ = m.tlb) := Lib.hid (if_pos (Or.inl (by rw [← HEQ.out]; exact List.mem_of_getElem? G0.out)))
      go_wp2
      refine bodyPost_ret (v := .tuple #[]) (by simp [results, Try.results54, go_sem]) rfl ⟨rfl, .slice (some a0) m.tlb.length c4, v4, ?_, Below.alloc (S2.out.b.mono (by omega)) (by have := S2.out.b.size; omega) _, KeepX.of_below (allocB S2.out.b _)⟩
      rw [HA.out]; exact X2.out.below (allocB (Below.refl _ _) _)
    · have hlt' : ¬ (k : Int) < (m.tlb.length : Int) := by omega
      obtain rfl : k = m.tlb.length := by omega
      have HA : Hid (addL m.tlb ⟨pg, sz, out, pm, dm⟩ = m.tlb ++ [⟨pg, sz, out, pm, dm⟩]) := Lib.hid (if_neg (by
        rintro (h | h)
        · obtain ⟨j, hj⟩ := List.getElem?_of_mem h
          exact HALL.out j (List.getElem?_eq_some_iff.1 hj).1 hj
        · exact h hfull))
      have sT0 := S2.out
      obtain ⟨p0_0, p0_1, p0_2, p0_3, p0_4⟩ := sT0.c5
      have sT1 := sT0.tail
      clear sT0 sT1
      go_upto_region 7 with fail
      have XD := Lib.hid X2.out.drew
      have f3 := X2.out.cell.2.2.2.1
      have hun : some w.heap.size ≠ (Value.slice A4 m.tlb.length c4).ownBlock := fun e => by have := (HX.out.tlb.lt _ e.symm).2; omega
      have hup : some p ≠ (Value.slice A4 m.tlb.length c4).ownBlock := X2.out.off X2.out.tlb (by decide)
      have HUN := Lib.hid hun
      have HUP := Lib.hid hup
      have hp3 : p < wr.heap.size := X2.out.lt
      have hpn : p ≠ w.heap.size := by omega
      have hbs : base ≤ wr.heap.size := by omega
      clear hun hup
      refine wp_region_F (fun w' => w'.cell? ⟨w.heap.size, 0, none⟩ = some (.int .i64 pg) ∧ w'.cell? ⟨w.heap.size, 1, none⟩ = some (.int .i64 sz) ∧ w'.cell? ⟨w.heap.size, 2, none⟩ = some (.bool dm) ∧ w'.cell? ⟨w.heap.size, 3, none⟩ = some (.int .i64 out) ∧ w'.cell? ⟨w.heap.size, 4, none⟩ = some (.int .i64 pm) ∧ w'.cell? ⟨p, 3, none⟩ = some (.slice A4 m.tlb.length c4)) 10 (by kernel_rfl) ⟨p0_0, p0_1, p0_2, p0_3, p0_4, f3⟩ (fun hS => ?_)
      refine wpAnyF_take (i := 0) (v := ?_) 25 rfl rfl (by kernel_rfl) (by kernel_rfl) (by kernel_rfl) (by kernel_rfl) (fun _ _ _ h => h) (Or.inl ⟨by rfl, fun w' hSw => ?_⟩) hS ?_
      rotate_left
      · (try dsimp only at hSw); go_simp; (try with_reducible rfl)
      try simp only [Act.put, List.setIfInBounds_toArray, List.set_cons_zero, List.set_cons_succ]
      refine wpAnyF_take (i := 1) (v := ?_) 26 rfl rfl (by kernel_rfl) (by kernel_rfl) (by kernel_rfl) (by kernel_rfl) (fun _ _ _ h => h) (Or.inl ⟨by rfl, fun w' hSw => ?_⟩) hS ?_
      rotate_left
      · (try dsimp only at hSw); go_simp; (try with_reducible rfl)
      try simp only [Act.put, List.setIfInBounds_toArray, List.set_cons_zero, List.set_cons_succ]
      refine wpAnyF_take (i := 2) (v := ?_) 27 rfl rfl (by kernel_rfl) (by kernel_rfl) (by kernel_rfl) (by kernel_rfl) (fun _ _ _ h => h) (Or.inl ⟨by rfl, fun w' hSw => ?_⟩) hS ?_
      rotate_left
      · (try dsimp only at hSw); go_simp; (try with_reducible rfl)
      try simp only [Act.put, List.setIfInBounds_toArray, List.set_cons_zero, List.set_cons_succ]
      refine wpAnyF_take (i := 3) (v := ?_) 28 rfl rfl (by kernel_rfl) (by kernel_rfl) (by kernel_rfl) (by kernel_rfl) (fun _ _ _ h => h) (Or.inl ⟨by rfl, fun w' hSw => ?_⟩) hS ?_
      rotate_left
      · (try dsimp only at hSw); go_simp; (try with_reducible rfl)
      try simp only [Act.put, List.setIfInBounds_toArray, List.set_cons_zero, List.set_cons_succ]
      refine wpAnyF_take (i := 4) (v := ?_) 29 rfl rfl (by kernel_rfl) (by kernel_rfl) (by kernel_rfl) (by kernel_rfl) (fun _ _ _ h => h) (Or.inl ⟨by rfl, fun w' hSw => ?_⟩) hS ?_
      rotate_left
      · (try dsimp only at hSw); go_simp; (try with_reducible rfl)
      try simp only [Act.put, List.setIfInBounds_toArray, List.set_cons_zero, List.set_cons_succ]
      refine wpAnyF_take (i := 5) (v := ?_) 30 rfl rfl (by kernel_rfl) (by kernel_rfl) (by kernel_rfl) (by kernel_rfl) (fun _ _ _ h => h) (Or.inl ⟨by rfl, fun w' hSw => ?_⟩) hS ?_
      rotate_left
      · (try dsimp only at hSw); go_simp; (try with_reducible rfl)
      try simp only [Act.put, List.setIfInBounds_toArray, List.set_cons_zero, List.set_cons_succ]
      refine wpAnyF_one (i := 6) (by kernel_rfl) rfl (by rfl) (fun K hK => ?_)
      go_simp
      have hA := keep6 hS (World.grownBy_alloc wr.drew (.cells #[.int .i64 pg, .int .i64 sz, .bool dm, .int .i64 out, .int .i64 pm] 101) none) (by simp) (by simp)
      refine hK _ _ (fun _ => hA) ?_
      clear hK K
      try simp only [Act.put, List.setIfInBounds_toArray, List.set_cons_zero, List.set_cons_succ]
      refine wpAnyF_one (i := 7) (by kernel_rfl) rfl (by rfl) (fun K hK => ?_)
      refine wp_appendAll 101 5 40 94 (.agg #[.int .i64 0, .int .i64 0, .bool false, .int .i64 0, .int .i64 0]) Try.underlying94 infoWh rfl (by decide) wholeLen wholeOne (.tmp 29) (.tmp 31) rfl base _ _ m.tlb [⟨pg, sz, out, pm, dm⟩] rfl rfl (XD.out.tlb.alloc _) (rd_laid wholeLen wr.drew _ _ rfl) (by simp; omega) (by decide) (by simp; omega) ?_
      intro vT wT hoT hgT
      have sT1 := hgT.cell (XD.out.below (allocB (Below.refl _ _) _)).cell.2.2.2.1 HUP.out
      have sT2 : wT.frozen? ⟨p, 3, none⟩ = false := (hgT.frozen_far ⟨p, 3, none⟩ (XD.out.below (allocB (Below.refl _ _) _)).lt HUP.out).trans ((XD.out.below (allocB (Below.refl _ _) _)).frozen 3)
      obtain ⟨BT, dT, rfl⟩ := hoT.shape
      have hT := keep6 hA hgT HUN.out HUP.out
      refine hK _ _ (fun _ => hT) ?_
      clear hK K
      try simp only [Act.put, List.setIfInBounds_toArray, List.set_cons_zero, List.set_cons_succ]
      refine wpAnyF_one (i := 8) (by kernel_rfl) rfl (by rfl) (fun K hK => ?_)
      go_simp
      refine hK _ _ (fun _ => hT) ?_
      clear hK K
      try simp only [Act.put, List.setIfInBounds_toArray, List.set_cons_zero, List.set_cons_succ]
      refine wpAnyF_one (i := 9) (by kernel_rfl) rfl (by rfl) (fun K hK => ?_)
      go_simp
      refine hK _ _ (fun _ => hT) ?_
      clear hK K
      try simp only [Act.put, List.setIfInBounds_toArray, List.set_cons_zero, List.set_cons_succ]
      refine wpAnyF_one (i := 10) (by kernel_rfl) rfl (by rfl) (fun K hK => ?_)
      go_simp
      refine hK _ _ (fun h => absurd rfl h) ?_
      clear hK K
      try simp only [Act.put, List.setIfInBounds_toArray, List.set_cons_zero, List.set_cons_succ]
      refine wpAnyF_done (by kernel_rfl) ?_ _
      refine NoPanic.normal ?_
      have hg3 : wr.drew.grownBy wT (Value.slice A4 m.tlb.length c4).ownBlock := World.grownBy.trans (World.grownBy_alloc wr.drew _ _) hgT
      rw [show (m.tlb ++ [(⟨pg, sz, out, pm, dm⟩ : STlb)]).length = m.tlb.length + 1 from by simp] at hoT
      have HXN := Lib.hid (XD.out.setTlb hg3 hoT)
      have HBT := Lib.hid ((Own.grown XD.out.tlb (S2.out.b.mono (show base ≤ w.heap.size by omega)).drew (show base ≤ wr.drew.heap.size from hbs) hg3).setCell (p := ⟨p, 3, none⟩) hp1 (.slice BT (m.tlb.length + 1) dT))
      have HKX := Lib.hid ((KeepX.of_below S2.out.b.drew).trans (keepSet XD.out XD.out.tlb (by decide) (by decide) hg3 3 (.slice BT (m.tlb.length + 1) dT)))
      clear hg3 hoT hgT hA hT
      go_wp2
      go_end0
      rw [← HA.out] at HXN
      exact ⟨rfl, _, _, HXN.out, HBT.out, HKX.out⟩

end Go.Proofs.Ytomomaoncmgfpaa.Mmu
