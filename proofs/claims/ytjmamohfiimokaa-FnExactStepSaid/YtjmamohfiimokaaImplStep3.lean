/- Walks of the program's operations: what a write does. -/
import Derived.Test.YtjmamohfiimokaaImplStep1
import Derived.Test.YtjmamohfiimokaaImplStep2
namespace Go.Proofs.Ytjmamohfiimokaa.Mmu
open Go.RowKit Go.Proofs.Ytjmamohfiimokaa.Base Go.Proofs.Ytjmamohfiimokaa.Kinds Go.Proofs.Ytjmamohfiimokaa.DecMath Go.Proofs.Ytjmamohfiimokaa.L1
set_option linter.unusedVariables false
set_option linter.unusedSimpArgs false
/-- The machine inside is turned; its lists are the call's own still. -/
def DoPost (base p : Nat) (w : World) (m : SM) (ls : List Int) (val : Value) (e : Ending) (w' : World) : Prop :=
  e = .returned val ∧ ∃ v0 v1 v2 v3 v4, OwnX base w' p v0 v1 v2 v3 v4 m ls ∧ Below base w w' ∧ KeepX w w'
theorem keep3w {w w' : World} {row : Option Nat} {b q i : Nat} {v0 v1 u : Value} (h : w.cell? ⟨b, 0, none⟩ = some v0 ∧ w.cell? ⟨b, 1, none⟩ = some v1 ∧ w.cell? ⟨q, i, none⟩ = some u) (hg : w.grownBy w' row) (h1 : some b ≠ row) (h2 : some q ≠ row) :
    w'.cell? ⟨b, 0, none⟩ = some v0 ∧ w'.cell? ⟨b, 1, none⟩ = some v1 ∧ w'.cell? ⟨q, i, none⟩ = some u := ⟨hg.cell h.1 h1, hg.cell h.2.1 h1, hg.cell h.2.2 h2⟩
theorem keepX_set {α : Type} {enc : α → List Value} {sz E b g o n c : Nat} {w : World} {l : List α} (h : Own enc sz E b w (.slice (some ⟨g, o, none⟩) n c) l) (hE : inX E) (i : Nat) (u : Value) : KeepX w (w.setCell ⟨g, i, none⟩ u) := by
  rcases h.2 with ⟨h2, _⟩ | ⟨g', cap, cur, hv, hb, hg, _⟩
  · simp at h2
  · simp only [Value.slice.injEq, Option.some.injEq, Addr.mk.injEq] at hv
    obtain ⟨⟨rfl, _⟩, _⟩ := hv
    exact KeepX.set hg hE i u
theorem genX {wb w : World} {base p : Nat} {v0 v1 v2 v3 v4 : Value} {m : SM} {ls : List Int} (X : OwnX base w p v0 v1 v2 v3 v4 m ls) (hb : Below base wb w) (hk : KeepX wb w) {G : World → Prop} (k : ∀ w', OwnX base w' p v0 v1 v2 v3 v4 m ls → Below base wb w' → KeepX wb w' → G w') : G w := k w X hb hk
set_option maxRecDepth 100000 in
set_option maxHeartbeats 8000000 in
theorem writeDo_any (base p : Nat) (v0 v1 v2 v3 v4 : Value) (m : SM) (ls : List Int) (a wd rest : Int) (w : World) (X : OwnX base w p v0 v1 v2 v3 v4 m ls) (hn : m.pend.length < 10000) (ha0 : 0 ≤ a) (ha1 : a < (ls.length : Int)) :
    Calls Try.prog 297 #[.agg #[.int .i64 a, .int .u64 wd, .int .i64 rest], .pointer (some ⟨p, 0, none⟩)] w (DoPost base p w { m with pend := m.pend ++ [⟨a, wd⟩] } (ls.set a.toNat wd) (.tuple #[])) := by
  obtain ⟨A2, c2, e2⟩ := X.pend.shape
  obtain ⟨A1, c1, e1⟩ := X.ls.shape
  subst e2 e1
  have HX := Lib.hid X
  have hp1 : base ≤ p := X.low
  have hp2 : p < w.heap.size := X.lt
  clear X
  go_enter Try.func297, Try.ntmps297
  go_upto_region 1 with fail
  refine ((St.start w).push _ _).gen (fun w1 S1' _ => ?_)
  have S1 := Lib.hid S1'
  have hs1 : w.heap.size < w1.heap.size := S1'.lt _ (List.mem_cons_self ..)
  have X1 := Lib.hid (HX.out.below S1'.b)
  clear S1'
  have sT0 := S1.out
  obtain ⟨p0_0, p0_1, p0_2⟩ := sT0.c3
  have sT1 := sT0.tail
  clear sT0 sT1
  have XD := Lib.hid X1.out.drew
  have f3 := X1.out.cell.2.2.1
  have hun : some w.heap.size ≠ (Value.slice A2 m.pend.length c2).ownBlock := fun e => by have := (HX.out.pend.lt _ e.symm).2; omega
  have hup : some p ≠ (Value.slice A2 m.pend.length c2).ownBlock := X1.out.off X1.out.pend (by decide)
  have HUN := Lib.hid hun
  have HUP := Lib.hid hup
  have hp3 : p < w1.heap.size := X1.out.lt
  have hpn : p ≠ w.heap.size := by omega
  have hbs : base ≤ w1.heap.size := by omega
  clear hun hup
  refine wp_region_F (fun w' => w'.cell? ⟨w.heap.size, 0, none⟩ = some (.int .i64 a) ∧ w'.cell? ⟨w.heap.size, 1, none⟩ = some (.int .u64 wd) ∧ w'.cell? ⟨p, 2, none⟩ = some (.slice A2 m.pend.length c2)) 14 (by kernel_rfl) ⟨p0_0, p0_1, f3⟩ (fun hS => ?_)
  refine wpAnyF_take (i := 0) (v := ?_) 4 rfl rfl (by kernel_rfl) (by kernel_rfl) (by kernel_rfl) (by kernel_rfl) (fun _ _ _ h => h) (Or.inl ⟨by rfl, fun w' hSw => ?_⟩) hS ?_
  rotate_left
  · (try dsimp only at hSw); go_simp; (try with_reducible rfl)
  try simp only [Act.put, List.setIfInBounds_toArray, List.set_cons_zero, List.set_cons_succ]
  refine wpAnyF_take (i := 1) (v := ?_) 5 rfl rfl (by kernel_rfl) (by kernel_rfl) (by kernel_rfl) (by kernel_rfl) (fun _ _ _ h => h) (Or.inl ⟨by rfl, fun w' hSw => ?_⟩) hS ?_
  rotate_left
  · (try dsimp only at hSw); go_simp; (try with_reducible rfl)
  try simp only [Act.put, List.setIfInBounds_toArray, List.set_cons_zero, List.set_cons_succ]
  refine wpAnyF_take (i := 2) (v := ?_) 6 rfl rfl (by kernel_rfl) (by kernel_rfl) (by kernel_rfl) (by kernel_rfl) (fun _ _ _ h => h) (Or.inl ⟨by rfl, fun w' hSw => ?_⟩) hS ?_
  rotate_left
  · (try dsimp only at hSw); go_simp; (try with_reducible rfl)
  try simp only [Act.put, List.setIfInBounds_toArray, List.set_cons_zero, List.set_cons_succ]
  refine wpAnyF_take (i := 3) (v := ?_) 7 rfl rfl (by kernel_rfl) (by kernel_rfl) (by kernel_rfl) (by kernel_rfl) (fun _ _ _ h => h) (Or.inl ⟨by rfl, fun w' hSw => ?_⟩) hS ?_
  rotate_left
  · (try dsimp only at hSw); go_simp; (try with_reducible rfl)
  try simp only [Act.put, List.setIfInBounds_toArray, List.set_cons_zero, List.set_cons_succ]
  refine wpAnyF_take (i := 4) (v := ?_) 8 rfl rfl (by kernel_rfl) (by kernel_rfl) (by kernel_rfl) (by kernel_rfl) (fun _ _ _ h => h) (Or.inl ⟨by rfl, fun w' hSw => ?_⟩) hS ?_
  rotate_left
  · (try dsimp only at hSw); go_simp; (try with_reducible rfl)
  try simp only [Act.put, List.setIfInBounds_toArray, List.set_cons_zero, List.set_cons_succ]
  refine wpAnyF_take (i := 5) (v := ?_) 9 rfl rfl (by kernel_rfl) (by kernel_rfl) (by kernel_rfl) (by kernel_rfl) (fun _ _ _ h => h) (Or.inl ⟨by rfl, fun w' hSw => ?_⟩) hS ?_
  rotate_left
  · (try dsimp only at hSw); go_simp; (try with_reducible rfl)
  try simp only [Act.put, List.setIfInBounds_toArray, List.set_cons_zero, List.set_cons_succ]
  refine wpAnyF_take (i := 6) (v := ?_) 10 rfl rfl (by kernel_rfl) (by kernel_rfl) (by kernel_rfl) (by kernel_rfl) (fun _ _ _ h => h) (Or.inl ⟨by rfl, fun w' hSw => ?_⟩) hS ?_
  rotate_left
  · (try dsimp only at hSw); go_simp; (try with_reducible rfl)
  try simp only [Act.put, List.setIfInBounds_toArray, List.set_cons_zero, List.set_cons_succ]
  refine wpAnyF_take (i := 7) (v := ?_) 11 rfl rfl (by kernel_rfl) (by kernel_rfl) (by kernel_rfl) (by kernel_rfl) (fun _ _ _ h => h) (Or.inl ⟨by rfl, fun w' hSw => ?_⟩) hS ?_
  rotate_left
  · (try dsimp only at hSw); go_simp; (try with_reducible rfl)
  try simp only [Act.put, List.setIfInBounds_toArray, List.set_cons_zero, List.set_cons_succ]
  refine wpAnyF_take (i := 8) (v := ?_) 12 rfl rfl (by kernel_rfl) (by kernel_rfl) (by kernel_rfl) (by kernel_rfl) (fun _ _ _ h => h) (Or.inl ⟨by rfl, fun w' hSw => ?_⟩) hS ?_
  rotate_left
  · (try dsimp only at hSw); go_simp; (try with_reducible rfl)
  try simp only [Act.put, List.setIfInBounds_toArray, List.set_cons_zero, List.set_cons_succ]
  refine wpAnyF_take (i := 9) (v := ?_) 13 rfl rfl (by kernel_rfl) (by kernel_rfl) (by kernel_rfl) (by kernel_rfl) (fun _ _ _ h => h) (Or.inl ⟨by rfl, fun w' hSw => ?_⟩) hS ?_
  rotate_left
  · (try dsimp only at hSw); go_simp; (try with_reducible rfl)
  try simp only [Act.put, List.setIfInBounds_toArray, List.set_cons_zero, List.set_cons_succ]
  refine wpAnyF_one (i := 10) (by kernel_rfl) rfl (by rfl) (fun K hK => ?_)
  go_simp
  have hA := keep3w hS (World.grownBy_alloc w1.drew (.cells #[.int .i64 a, .int .u64 wd] 103) none) (by simp) (by simp)
  refine hK _ _ (fun _ => hA) ?_
  clear hK K
  try simp only [Act.put, List.setIfInBounds_toArray, List.set_cons_zero, List.set_cons_succ]
  refine wpAnyF_one (i := 11) (by kernel_rfl) rfl (by rfl) (fun K hK => ?_)
  refine wp_appendAll 103 2 16 35 (.agg #[.int .i64 0, .int .u64 0]) Try.underlying35 infoWr rfl (by decide) SWrite.len SWrite.one (.tmp 8) (.tmp 14) rfl base _ _ m.pend [⟨a, wd⟩] rfl rfl (XD.out.pend.alloc _) (rd_laid SWrite.len w1.drew _ _ (by simp [SWrite.enc])) (by simp; omega) (by decide) (by simp; omega) ?_
  intro vT wT hoT hgT
  have sT1 := hgT.cell (XD.out.below (allocB (Below.refl _ _) _)).cell.2.2.1 HUP.out
  have sT2 : wT.frozen? ⟨p, 2, none⟩ = false := (hgT.frozen_far ⟨p, 2, none⟩ (XD.out.below (allocB (Below.refl _ _) _)).lt HUP.out).trans ((XD.out.below (allocB (Below.refl _ _) _)).frozen 2)
  obtain ⟨BT, dT, rfl⟩ := hoT.shape
  have hT := keep3w hA hgT HUN.out HUP.out
  refine hK _ _ (fun _ => hT) ?_
  clear hK K
  try simp only [Act.put, List.setIfInBounds_toArray, List.set_cons_zero, List.set_cons_succ]
  refine wpAnyF_one (i := 12) (by kernel_rfl) rfl (by rfl) (fun K hK => ?_)
  go_simp
  refine hK _ _ (fun _ => hT) ?_
  clear hK K
  try simp only [Act.put, List.setIfInBounds_toArray, List.set_cons_zero, List.set_cons_succ]
  refine wpAnyF_one (i := 13) (by kernel_rfl) rfl (by rfl) (fun K hK => ?_)
  go_simp
  refine hK _ _ (fun _ => hT) ?_
  clear hK K
  try simp only [Act.put, List.setIfInBounds_toArray, List.set_cons_zero, List.set_cons_succ]
  refine wpAnyF_one (i := 14) (by kernel_rfl) rfl (by rfl) (fun K hK => ?_)
  go_simp
  refine hK _ _ (fun h => absurd rfl h) ?_
  clear hK K
  try simp only [Act.put, List.setIfInBounds_toArray, List.set_cons_zero, List.set_cons_succ]
  refine wpAnyF_done (by kernel_rfl) ?_ _
  refine NoPanic.normal ?_
  have hg3 : w1.drew.grownBy wT (Value.slice A2 m.pend.length c2).ownBlock := World.grownBy.trans (World.grownBy_alloc w1.drew _ _) hgT
  rw [show (m.pend ++ [(⟨a, wd⟩ : SWrite)]).length = m.pend.length + 1 from by simp] at hoT
  have HXN := Lib.hid (XD.out.setPend hg3 hoT)
  have HBT := Lib.hid ((Own.grown XD.out.pend (S1.out.b.mono (show base ≤ w.heap.size by omega)).drew (show base ≤ w1.drew.heap.size from hbs) hg3).setCell (p := ⟨p, 2, none⟩) hp1 (.slice BT (m.pend.length + 1) dT))
  have HKX := Lib.hid ((KeepX.of_below S1.out.b.drew).trans ((KeepX.grown XD.out.pend (by decide) hg3).trans (KeepX.set (by rw [hg3.block p XD.out.lt (XD.out.off XD.out.pend (by decide))]; exact XD.out.box) (by decide) 2 (.slice BT (m.pend.length + 1) dT))))
  have HZ := Lib.hid (((KeepX.grown XD.out.pend (by decide) hg3).trans (KeepX.set (by rw [hg3.block p XD.out.lt (XD.out.off XD.out.pend (by decide))]; exact XD.out.box) (by decide) 2 (.slice BT (m.pend.length + 1) dT))).block _ _ _ S1.out.drew.head (by decide))
  clear hg3 hoT hgT hA hT sT1 sT2 p0_0 p0_1 p0_2 f3 hS XD X1 S1
  generalize (wT.setCell ⟨p, 2, none⟩ (.slice BT (m.pend.length + 1) dT)) = w2 at *
  have q0 : w2.cell? ⟨w.heap.size, 0, none⟩ = some (.int .i64 a) := by simp [World.cell?, HZ.out]
  have q1 : w2.cell? ⟨w.heap.size, 1, none⟩ = some (.int .u64 wd) := by simp [World.cell?, HZ.out]
  have k1 := HXN.out.cell.2.1
  obtain ⟨g, hA, hg1, hg2, hgf, hgc⟩ := HXN.out.ls.block wLen (by omega)
  subst hA
  have hlw : a.toNat < ls.length := by omega
  have hgf0 := hgf a.toNat
  have hgc0 := hgc a.toNat _ (List.getElem?_eq_getElem hlw) 0 _ rfl
  simp only [Nat.mul_one, Nat.add_zero] at hgc0
  clear hgf hgc
  go_upto_region 2 with fail
  go_still_tail 10, (by kernel_rfl)
  change wpList _ _ _ _ _ w2.drew
  have XE := Lib.hid (HXN.out.drew)
  have hgf3 : w2.drew.frozen? ⟨g, a.toNat, none⟩ = false := hgf0
  have hgc3 : w2.drew.cell? ⟨g, a.toNat, none⟩ = _ := hgc0
  have HB3 := Lib.hid (HBT.out.drew)
  have HK3 := Lib.hid (HKX.out.trans (KeepX.of_below (below_drewN (Below.refl _ _) 1)))
  clear hgf0 hgc0 q0 q1 k1 hg2 HXN HBT HKX HZ
  change Hid (KeepX w w2.drew) at HK3
  generalize w2.drew = w3 at *
  go_wp2
  refine bodyPost_end (v := .tuple #[]) (by simp [results, Try.results297, go_sem]) rfl ⟨rfl, _, _, _, _, _, XE.out.setWord a.toNat hlw wd, HB3.out.setCell hg1 _, HK3.out.trans (keepX_set XE.out.ls (by decide) _ _)⟩
end Go.Proofs.Ytjmamohfiimokaa.Mmu
