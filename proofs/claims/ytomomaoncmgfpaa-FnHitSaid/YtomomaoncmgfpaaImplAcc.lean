/- Walks of the program's access and Access. -/
import Derived.Test.YtomomaoncmgfpaaImplCache
import Derived.Test.YtomomaoncmgfpaaImplFill
namespace Go.Proofs.Ytomomaoncmgfpaa.Mmu
open Go.RowKit Go.Proofs.Ytomomaoncmgfpaa.Base Go.Proofs.Ytomomaoncmgfpaa.Kinds Go.Proofs.Ytomomaoncmgfpaa.DecMath Go.Proofs.Ytomomaoncmgfpaa.L1
set_option linter.unusedVariables false
set_option linter.unusedSimpArgs false
theorem cached_none (p : Nat) (v0 v1 v2 v3 v4 : Value) (m : SM) (page : Int) (w : World) (r : RdX w p v0 v1 v2 v3 v4 m) (hp : 0 ≤ page ∧ page < 4096) (hn : m.tlb.length ≤ 256) (hok : ∀ e ∈ m.tlb, okTlb e) (h : cacheP m.tlb page = none) :
    Calls Try.prog 55 #[.pointer (some ⟨p, 0, none⟩), .int .i64 page] w fun e w' => e = .returned (.tuple #[.agg #[.int .i64 0, .int .i64 0, .int .i64 0, .int .i64 0], .bool false]) ∧ Below w.heap.size w w' := by
  have := cached_any p v0 v1 v2 v3 v4 m page w r hp hn hok
  rwa [h] at this
theorem cached_some (p : Nat) (v0 v1 v2 v3 v4 : Value) (m : SM) (page : Int) (w : World) (r : RdX w p v0 v1 v2 v3 v4 m) (hp : 0 ≤ page ∧ page < 4096) (hn : m.tlb.length ≤ 256) (hok : ∀ e ∈ m.tlb, okTlb e) (a b c d : Int) (h : cacheP m.tlb page = some (a, b, c, d)) :
    Calls Try.prog 55 #[.pointer (some ⟨p, 0, none⟩), .int .i64 page] w fun e w' => e = .returned (.tuple #[.agg #[.int .i64 a, .int .i64 b, .int .i64 c, .int .i64 d], .bool true]) ∧ Below w.heap.size w w' := by
  have := cached_any p v0 v1 v2 v3 v4 m page w r hp hn hok
  rwa [h] at this
theorem and_need (pm need : Int) (hp : 0 ≤ pm ∧ pm < 8) (hn : needP need) : (Go.bits .and .i64 pm need != 0) = decide (pm / need % 2 = 1) := by
  have : pm = 0 ∨ pm = 1 ∨ pm = 2 ∨ pm = 3 ∨ pm = 4 ∨ pm = 5 ∨ pm = 6 ∨ pm = 7 := by omega
  rcases this with rfl | rfl | rfl | rfl | rfl | rfl | rfl | rfl <;> rcases hn with rfl | rfl | rfl <;> decide

theorem setK {w W : World} {z : Nat} (k : KeepX w W) (hz : w.heap.size ≤ z) (i : Nat) (u : Value) : KeepX w (W.setCell ⟨z, i, none⟩ u) := ⟨by simpa [World.setCell] using k.size, fun j cs T hj hT => by
    have := (Array.getElem?_eq_some_iff.1 hj).1
    rw [Below.heap_setCell _ _ _ _ (by simp; omega)]; exact k.block j cs T hj hT⟩
theorem set4K {w W : World} {z : Nat} (k : KeepX w W) (hz : w.heap.size ≤ z) (y0 y1 y2 y3 : Value) : KeepX w ((((W.setCell ⟨z, 0, none⟩ y0).setCell ⟨z, 1, none⟩ y1).setCell ⟨z, 2, none⟩ y2).setCell ⟨z, 3, none⟩ y3) := setK (setK (setK (setK k hz 0 y0) hz 1 y1) hz 2 y2) hz 3 y3
theorem set4B {base : Nat} {w W : World} {z : Nat} (b : Below base w W) (hz : base ≤ z) (y0 y1 y2 y3 : Value) : Below base w ((((W.setCell ⟨z, 0, none⟩ y0).setCell ⟨z, 1, none⟩ y1).setCell ⟨z, 2, none⟩ y2).setCell ⟨z, 3, none⟩ y3) :=
  (((b.setCell (p := ⟨z, 0, none⟩) hz y0).setCell (p := ⟨z, 1, none⟩) hz y1).setCell (p := ⟨z, 2, none⟩) hz y2).setCell (p := ⟨z, 3, none⟩) hz y3

set_option maxRecDepth 100000 in
set_option maxHeartbeats 8000000 in
theorem access_any (page need choice : Int) (hp : 0 ≤ page ∧ page < 4096) (hc : 0 ≤ choice ∧ choice ≤ 65535) (hn : needP need) (base p : Nat) (v0 v1 v2 v3 v4 : Value) (m : SM) (w : World) (X : OwnX base w p v0 v1 v2 v3 v4 m (latestOf m)) (hm : Walkable m) (hok : ∀ e ∈ m.tlb, okTlb e) (g : SM × Int × Int × Int × Int) (hg : accP m page choice = g) (gk go : Int) (hgl : lookP need g.2 = (gk, go)) :
    Calls Try.prog 35 #[.pointer (some ⟨p, 0, none⟩), .int .i64 page, .int .i64 need, .int .i64 choice] w (XPost base p w v0 v1 v2 g.1 (latestOf m) (.agg #[.int .i64 page, .int .i64 need, .int .i64 gk, .int .i64 go])) := by
  have HX := Lib.hid X
  have HM := Lib.hid hm
  have HOK := Lib.hid hok
  have HG := Lib.hid hg
  have HGL := Lib.hid hgl
  have HP := Lib.hid hp
  have HC := Lib.hid hc
  have HN := Lib.hid hn
  have hp2 : p < w.heap.size := X.lt
  have hp1 : base ≤ p := X.low
  have hbw : base ≤ w.heap.size := by omega
  obtain ⟨hp0, hp4⟩ := hp
  obtain ⟨hc0, hc1⟩ := hc
  have HPM : Hid (g.2.1 = 1 → 0 ≤ g.2.2.2.1 ∧ g.2.2.2.1 < 8) := Lib.hid (by
    rw [← hg]
    unfold accP
    split
    · rename_i h hh
      split at hh
      · unfold cacheP at hh
        split at hh
        · cases hh
        · rename_i a r hcl
          have ha := covL_mem (l := m.tlb) (page := page) (e := a) (by rw [hcl]; exact List.mem_cons_self ..)
          have := (hok a ha.1).2.2.2
          split at hh
          · obtain rfl := (Option.some.inj hh).symm; intro _; simp only; omega
          · obtain rfl := (Option.some.inj hh).symm; intro hz; simp at hz
      · cases hh
    · intro _; exact goP_perm page choice (4 - (beginP m page choice).1).toNat m (beginP m page choice).1 (beginP m page choice).2.1 (beginP m page choice).2.2)
  clear X hm hok hg hgl hn
  obtain ⟨b7, hb7⟩ : ∃ b, bitB choice 7 = b := ⟨_, rfl⟩
  obtain ⟨q, hq⟩ : ∃ q, cacheP m.tlb page = q := ⟨_, rfl⟩
  have HB7 := Lib.hid hb7
  have HQ := Lib.hid hq
  clear hb7 hq
  go_enter Try.func35, Try.ntmps35
  go_upto_region 2 with fail
  refine ((St.start w).push2 _ _ _ _).gen (fun w1 S1' _ => ?_)
  have X1 := Lib.hid (HX.out.below S1'.b)
  have B1 : Hid (Bx _ w1) := Lib.hid ⟨S1'.blk, S1'.ord⟩
  have H1 := Lib.hid (S1'.b.mono hbw)
  have K1 := Lib.hid (KeepX.of_below S1'.b)
  clear S1' HX
  cases b7
  · have HW : Hid (walkP m page choice = g) := Lib.hid (by rw [← HG.out]; unfold accP; rw [HB7.out]; rfl)
    have sT0 := B1.out
    obtain ⟨p0_0, p0_1, p0_2, p0_3⟩ := sT0.c4
    have pF0_0 := sT0.f 0
    have pF0_1 := sT0.f 1
    have pF0_2 := sT0.f 2
    have pF0_3 := sT0.f 3
    have sT1 := sT0.tail
    clear sT0 sT1
    go_upto_region 6 with (first | (go_at_call 52; refine (bitI_b choice 7 false _ hc0 hc1 (by omega) HB7.out).mono ?_; rintro e w1 ⟨rfl, rfl⟩) | (go_at_call 32; refine (implWalk_any page choice HP.out HC.out base p _ _ _ _ _ m _ X1.out HM.out g HW.out).mono ?_; rintro e w4 ⟨rfl, u5, u6, X4', hb4, hk4⟩; have X4 := Lib.hid X4'; have B4 := Lib.hid (B1.out.keep hk4 (by simp [inX])); have H4 := Lib.hid (H1.out.trans hb4); have K4 := Lib.hid (K1.out.trans hk4); clear X4' hb4 hk4; have sT0 := B4.out; obtain ⟨y0_0, y0_1, y0_2, y0_3⟩ := sT0.c4; have yF0_0 := sT0.f 0; have yF0_1 := sT0.f 1; have yF0_2 := sT0.f 2; have yF0_3 := sT0.f 3; have sT1 := sT0.tail; clear sT0 sT1))
    refine gen4 (B4.out.s0 _ _ _ _) (set4B (base := base) H4.out (by omega) _ _ _ _) (set4K K4.out (by omega) _ _ _ _) (X4.out.setBox4 B4.out.head (by decide) _ _ _ _) (fun w6 B6' b6' k6' X6' => ?_)
    have B6 := Lib.hid B6'
    have H6 := Lib.hid b6'
    have K6 := Lib.hid k6'
    have X6 := Lib.hid X6'
    clear p0_0 p0_1 p0_2 p0_3 pF0_0 pF0_1 pF0_2 pF0_3
    clear y0_0 y0_1 y0_2 y0_3 yF0_0 yF0_1 yF0_2 yF0_3
    clear B6' b6' k6' X6' B4 H4 K4 X4 B1 H1 K1 X1
    have sT0 := B6.out
    obtain ⟨p0_0, p0_1, p0_2, p0_3⟩ := sT0.c4
    have sT1 := sT0.tail
    clear sT0 sT1
    go_upto_region 7 with fail
    refine gen4 (B6.out.push _ _) (belowT H6.out hbw (allocB (Below.refl _ _) _)) (K6.out.trans (KeepX.of_below (allocB (Below.refl _ _) _))) (X6.out.below (allocB (Below.refl _ _) _)) (fun w7 B7' b7' k7' X7' => ?_)
    have B7 := Lib.hid B7'
    have H7 := Lib.hid b7'
    have K7 := Lib.hid k7'
    have X7 := Lib.hid X7'
    clear p0_0 p0_1 p0_2 p0_3
    clear B7' b7' k7' X7' B6 H6 K6 X6
    have sT0 := B7.out
    obtain ⟨p0_0, p0_1, p0_2, p0_3⟩ := sT0.c4
    have pF0_0 := sT0.f 0
    have pF0_1 := sT0.f 1
    have pF0_2 := sT0.f 2
    have pF0_3 := sT0.f 3
    have sT1 := sT0.tail
    obtain ⟨p1_0, p1_1, p1_2, p1_3⟩ := sT1.c4
    have sT2 := sT1.tail
    obtain ⟨p2_0, p2_1, p2_2, p2_3⟩ := sT2.c4
    have pF2_0 := sT2.f 0
    have pF2_1 := sT2.f 1
    have pF2_2 := sT2.f 2
    have pF2_3 := sT2.f 3
    have sT3 := sT2.tail
    clear sT0 sT1 sT2 sT3
    have hord := B7.out.ord
    simp at hord
    have n1 : ¬ (w6.heap.size = w.heap.size) := by omega
    have n2 : ¬ (w6.heap.size = w.heap.size + 1) := by omega
    clear hord
    by_cases hk : g.2.1 = 1
    · have hkb : (g.2.1 == 1) = true := by simpa using hk
      have hpm : 0 ≤ g.2.2.2.1 ∧ g.2.2.2.1 < 8 := HPM.out hk
      obtain ⟨ab, hab⟩ : ∃ b, decide (g.2.2.2.1 / need % 2 = 1) = b := ⟨_, rfl⟩
      have hbit : (Go.bits .and .i64 (g.2.2.2.1) need != 0) = ab := by rw [and_need _ _ hpm HN.out]; exact hab
      have HL : Hid ((if ab = true then (1, g.2.2.1) else (2, 0)) = (gk, go)) := Lib.hid (by rw [← HGL.out, ← hab]; unfold lookP; rw [if_pos hk]; simp)
      have HK := Lib.hid hk
      clear hpm hab hk
      cases ab
      · have hl := HL.out
        simp at hl
        obtain ⟨rfl, rfl⟩ := hl
        clear HL
        go_wp2
        refine bodyPost_ret (v := .agg #[.int .i64 page, .int .i64 need, .int .i64 2, .int .i64 0]) (by simp [results, Try.results35, go_sem, *]) rfl ⟨rfl, ?_⟩
        exact retX (X7.out.setBox (i := 2) B7.out.head (by decide) _) ((B7.out.set (l1 := []) 2 _).tail.tail.head) (by decide) (by omega) hbw (H7.out.setCell (by simp; have := H7.out.size; have := B7.out.ord; simp at this; omega) _) (setK K7.out (by have := B7.out.ord; simp at this; omega) 2 _) rfl _ _ _ _
      · have hl := HL.out
        simp at hl
        obtain ⟨rfl, rfl⟩ := hl
        clear HL
        go_wp2
        refine bodyPost_ret (v := .agg #[.int .i64 page, .int .i64 need, .int .i64 (g.2.1), .int .i64 (g.2.2.1)]) (by simp [results, Try.results35, go_sem, *]) rfl ⟨by rw [HK.out], ?_⟩
        exact retX (X7.out.setBox (i := 3) B7.out.head (by decide) _) ((B7.out.set (l1 := []) 3 _).tail.tail.head) (by decide) (by omega) hbw (H7.out.setCell (by simp; have := H7.out.size; have := B7.out.ord; simp at this; omega) _) (setK K7.out (by have := B7.out.ord; simp at this; omega) 3 _) rfl _ _ _ _
    · have hkb : (g.2.1 == 1) = false := by simpa using hk
      have hl : gk = g.2.1 ∧ go = 0 := by have := HGL.out; unfold lookP at this; rw [if_neg hk] at this; simp only [Prod.mk.injEq] at this; exact ⟨this.1.symm, this.2.symm⟩
      obtain ⟨rfl, rfl⟩ := hl
      clear hk
      go_wp2
      refine bodyPost_ret (v := .agg #[.int .i64 page, .int .i64 need, .int .i64 (g.2.1), .int .i64 0]) (by simp [results, Try.results35, go_sem, *]) rfl ⟨rfl, ?_⟩
      exact retX X7.out B7.out.tail.tail.head (by decide) (Nat.le_refl _) hbw H7.out K7.out rfl _ _ _ _
  · cases q with
    | none =>
      have HW : Hid (walkP m page choice = g) := Lib.hid (by rw [← HG.out]; unfold accP; rw [HB7.out, HQ.out]; rfl)
      have sT0 := B1.out
      obtain ⟨p0_0, p0_1, p0_2, p0_3⟩ := sT0.c4
      have pF0_0 := sT0.f 0
      have pF0_1 := sT0.f 1
      have pF0_2 := sT0.f 2
      have pF0_3 := sT0.f 3
      have sT1 := sT0.tail
      clear sT0 sT1
      go_upto_region 4 with (first | (go_at_call 52; refine (bitI_b choice 7 true _ hc0 hc1 (by omega) HB7.out).mono ?_; rintro e w1 ⟨rfl, rfl⟩) | (go_at_call 55; refine (cached_none p _ _ _ _ _ m page _ (OwnX.rd X1.out) HP.out HM.out.ntlb HOK.out HQ.out).mono ?_; rintro e w3 ⟨rfl, hb3⟩; have X3 := Lib.hid (X1.out.below hb3); have B3 := Lib.hid (B1.out.below hb3); have H3 := Lib.hid (belowT H1.out hbw hb3); have K3 := Lib.hid (K1.out.trans (KeepX.of_below hb3)); clear hb3; have sT0 := B3.out; obtain ⟨y0_0, y0_1, y0_2, y0_3⟩ := sT0.c4; have yF0_0 := sT0.f 0; have yF0_1 := sT0.f 1; have yF0_2 := sT0.f 2; have yF0_3 := sT0.f 3; have sT1 := sT0.tail; clear sT0 sT1))
      clear p0_0 p0_1 p0_2 p0_3 pF0_0 pF0_1 pF0_2 pF0_3
      clear X1 B1 H1 K1
      refine gen4 (B3.out.s0 _ _ _ _) (set4B (base := base) H3.out (by omega) _ _ _ _) (set4K K3.out (by omega) _ _ _ _) (X3.out.setBox4 B3.out.head (by decide) _ _ _ _) (fun w5 B5' b5' k5' X5' => ?_)
      have B1 := Lib.hid B5'
      have H1 := Lib.hid b5'
      have K1 := Lib.hid k5'
      have X1 := Lib.hid X5'
      clear y0_0 y0_1 y0_2 y0_3 yF0_0 yF0_1 yF0_2 yF0_3
      clear B5' b5' k5' X5' B3 H3 K3 X3
      have sT0 := B1.out
      obtain ⟨p0_0, p0_1, p0_2, p0_3⟩ := sT0.c4
      have pF0_0 := sT0.f 0
      have pF0_1 := sT0.f 1
      have pF0_2 := sT0.f 2
      have pF0_3 := sT0.f 3
      have sT1 := sT0.tail
      clear sT0 sT1
      go_upto_region 6 with (go_at_call 32; refine (implWalk_any page choice HP.out HC.out base p _ _ _ _ _ m _ X1.out HM.out g HW.out).mono ?_; rintro e w4 ⟨rfl, u5, u6, X4', hb4, hk4⟩; have X4 := Lib.hid X4'; have B4 := Lib.hid (B1.out.keep hk4 (by simp [inX])); have H4 := Lib.hid (H1.out.trans hb4); have K4 := Lib.hid (K1.out.trans hk4); clear X4' hb4 hk4; have sT0 := B4.out; obtain ⟨y0_0, y0_1, y0_2, y0_3⟩ := sT0.c4; have yF0_0 := sT0.f 0; have yF0_1 := sT0.f 1; have yF0_2 := sT0.f 2; have yF0_3 := sT0.f 3; have sT1 := sT0.tail; clear sT0 sT1)
      refine gen4 (B4.out.s0 _ _ _ _) (set4B (base := base) H4.out (by omega) _ _ _ _) (set4K K4.out (by omega) _ _ _ _) (X4.out.setBox4 B4.out.head (by decide) _ _ _ _) (fun w6 B6' b6' k6' X6' => ?_)
      have B6 := Lib.hid B6'
      have H6 := Lib.hid b6'
      have K6 := Lib.hid k6'
      have X6 := Lib.hid X6'
      clear p0_0 p0_1 p0_2 p0_3 pF0_0 pF0_1 pF0_2 pF0_3
      clear y0_0 y0_1 y0_2 y0_3 yF0_0 yF0_1 yF0_2 yF0_3
      clear B6' b6' k6' X6' B4 H4 K4 X4 B1 H1 K1 X1
      have sT0 := B6.out
      obtain ⟨p0_0, p0_1, p0_2, p0_3⟩ := sT0.c4
      have sT1 := sT0.tail
      clear sT0 sT1
      go_upto_region 7 with fail
      refine gen4 (B6.out.push _ _) (belowT H6.out hbw (allocB (Below.refl _ _) _)) (K6.out.trans (KeepX.of_below (allocB (Below.refl _ _) _))) (X6.out.below (allocB (Below.refl _ _) _)) (fun w7 B7' b7' k7' X7' => ?_)
      have B7 := Lib.hid B7'
      have H7 := Lib.hid b7'
      have K7 := Lib.hid k7'
      have X7 := Lib.hid X7'
      clear p0_0 p0_1 p0_2 p0_3
      clear B7' b7' k7' X7' B6 H6 K6 X6
      have sT0 := B7.out
      obtain ⟨p0_0, p0_1, p0_2, p0_3⟩ := sT0.c4
      have pF0_0 := sT0.f 0
      have pF0_1 := sT0.f 1
      have pF0_2 := sT0.f 2
      have pF0_3 := sT0.f 3
      have sT1 := sT0.tail
      obtain ⟨p1_0, p1_1, p1_2, p1_3⟩ := sT1.c4
      have sT2 := sT1.tail
      obtain ⟨p2_0, p2_1, p2_2, p2_3⟩ := sT2.c4
      have pF2_0 := sT2.f 0
      have pF2_1 := sT2.f 1
      have pF2_2 := sT2.f 2
      have pF2_3 := sT2.f 3
      have sT3 := sT2.tail
      clear sT0 sT1 sT2 sT3
      have hord := B7.out.ord
      simp at hord
      have n1 : ¬ (w6.heap.size = w.heap.size) := by omega
      have n2 : ¬ (w6.heap.size = w.heap.size + 1) := by omega
      clear hord
      by_cases hk : g.2.1 = 1
      · have hkb : (g.2.1 == 1) = true := by simpa using hk
        have hpm : 0 ≤ g.2.2.2.1 ∧ g.2.2.2.1 < 8 := HPM.out hk
        obtain ⟨ab, hab⟩ : ∃ b, decide (g.2.2.2.1 / need % 2 = 1) = b := ⟨_, rfl⟩
        have hbit : (Go.bits .and .i64 (g.2.2.2.1) need != 0) = ab := by rw [and_need _ _ hpm HN.out]; exact hab
        have HL : Hid ((if ab = true then (1, g.2.2.1) else (2, 0)) = (gk, go)) := Lib.hid (by rw [← HGL.out, ← hab]; unfold lookP; rw [if_pos hk]; simp)
        have HK := Lib.hid hk
        clear hpm hab hk
        cases ab
        · have hl := HL.out
          simp at hl
          obtain ⟨rfl, rfl⟩ := hl
          clear HL
          go_wp2
          refine bodyPost_ret (v := .agg #[.int .i64 page, .int .i64 need, .int .i64 2, .int .i64 0]) (by simp [results, Try.results35, go_sem, *]) rfl ⟨rfl, ?_⟩
          exact retX (X7.out.setBox (i := 2) B7.out.head (by decide) _) ((B7.out.set (l1 := []) 2 _).tail.tail.head) (by decide) (by omega) hbw (H7.out.setCell (by simp; have := H7.out.size; have := B7.out.ord; simp at this; omega) _) (setK K7.out (by have := B7.out.ord; simp at this; omega) 2 _) rfl _ _ _ _
        · have hl := HL.out
          simp at hl
          obtain ⟨rfl, rfl⟩ := hl
          clear HL
          go_wp2
          refine bodyPost_ret (v := .agg #[.int .i64 page, .int .i64 need, .int .i64 (g.2.1), .int .i64 (g.2.2.1)]) (by simp [results, Try.results35, go_sem, *]) rfl ⟨by rw [HK.out], ?_⟩
          exact retX (X7.out.setBox (i := 3) B7.out.head (by decide) _) ((B7.out.set (l1 := []) 3 _).tail.tail.head) (by decide) (by omega) hbw (H7.out.setCell (by simp; have := H7.out.size; have := B7.out.ord; simp at this; omega) _) (setK K7.out (by have := B7.out.ord; simp at this; omega) 3 _) rfl _ _ _ _
      · have hkb : (g.2.1 == 1) = false := by simpa using hk
        have hl : gk = g.2.1 ∧ go = 0 := by have := HGL.out; unfold lookP at this; rw [if_neg hk] at this; simp only [Prod.mk.injEq] at this; exact ⟨this.1.symm, this.2.symm⟩
        obtain ⟨rfl, rfl⟩ := hl
        clear hk
        go_wp2
        refine bodyPost_ret (v := .agg #[.int .i64 page, .int .i64 need, .int .i64 (g.2.1), .int .i64 0]) (by simp [results, Try.results35, go_sem, *]) rfl ⟨rfl, ?_⟩
        exact retX X7.out B7.out.tail.tail.head (by decide) (Nat.le_refl _) hbw H7.out K7.out rfl _ _ _ _
    | some h =>
      obtain ⟨h1, h2, h3, h4⟩ := h
      have HW : Hid (g = (m, h1, h2, h3, h4)) := Lib.hid (by rw [← HG.out]; unfold accP; rw [HB7.out, HQ.out]; rfl)
      have sT0 := B1.out
      obtain ⟨p0_0, p0_1, p0_2, p0_3⟩ := sT0.c4
      have pF0_0 := sT0.f 0
      have pF0_1 := sT0.f 1
      have pF0_2 := sT0.f 2
      have pF0_3 := sT0.f 3
      have sT1 := sT0.tail
      clear sT0 sT1
      go_upto_region 4 with (first | (go_at_call 52; refine (bitI_b choice 7 true _ hc0 hc1 (by omega) HB7.out).mono ?_; rintro e w1 ⟨rfl, rfl⟩) | (go_at_call 55; refine (cached_some p _ _ _ _ _ m page _ (OwnX.rd X1.out) HP.out HM.out.ntlb HOK.out h1 h2 h3 h4 HQ.out).mono ?_; rintro e w3 ⟨rfl, hb3⟩; have X3 := Lib.hid (X1.out.below hb3); have B3 := Lib.hid (B1.out.below hb3); have H3 := Lib.hid (belowT H1.out hbw hb3); have K3 := Lib.hid (K1.out.trans (KeepX.of_below hb3)); clear hb3; have sT0 := B3.out; obtain ⟨y0_0, y0_1, y0_2, y0_3⟩ := sT0.c4; have yF0_0 := sT0.f 0; have yF0_1 := sT0.f 1; have yF0_2 := sT0.f 2; have yF0_3 := sT0.f 3; have sT1 := sT0.tail; clear sT0 sT1))
      clear p0_0 p0_1 p0_2 p0_3 pF0_0 pF0_1 pF0_2 pF0_3
      clear X1 B1 H1 K1
      refine gen4 (B3.out.s0 _ _ _ _) (set4B (base := base) H3.out (by omega) _ _ _ _) (set4K K3.out (by omega) _ _ _ _) (X3.out.setBox4 B3.out.head (by decide) _ _ _ _) (fun w5 B5' b5' k5' X5' => ?_)
      have B1 := Lib.hid B5'
      have H1 := Lib.hid b5'
      have K1 := Lib.hid k5'
      have X1 := Lib.hid X5'
      clear y0_0 y0_1 y0_2 y0_3 yF0_0 yF0_1 yF0_2 yF0_3
      clear B5' b5' k5' X5' B3 H3 K3 X3
      have HGM : Hid (g.1 = m) := Lib.hid (by rw [HW.out])
      obtain rfl : h1 = g.2.1 := by rw [HW.out]
      obtain rfl : h2 = g.2.2.1 := by rw [HW.out]
      obtain rfl : h3 = g.2.2.2.1 := by rw [HW.out]
      obtain rfl : h4 = g.2.2.2.2 := by rw [HW.out]
      have B6 := B1
      have H6 := H1
      have K6 := K1
      have X6 := X1
      clear B1 H1 K1 X1
      go_upto_region 6 with fail
      have sT0 := B6.out
      obtain ⟨p0_0, p0_1, p0_2, p0_3⟩ := sT0.c4
      have sT1 := sT0.tail
      clear sT0 sT1
      go_upto_region 7 with fail
      refine gen4 (B6.out.push _ _) (belowT H6.out hbw (allocB (Below.refl _ _) _)) (K6.out.trans (KeepX.of_below (allocB (Below.refl _ _) _))) (X6.out.below (allocB (Below.refl _ _) _)) (fun w7 B7' b7' k7' X7' => ?_)
      have B7 := Lib.hid B7'
      have H7 := Lib.hid b7'
      have K7 := Lib.hid k7'
      have X7 := Lib.hid X7'
      clear p0_0 p0_1 p0_2 p0_3
      clear B7' b7' k7' X7' B6 H6 K6 X6
      have sT0 := B7.out
      obtain ⟨p0_0, p0_1, p0_2, p0_3⟩ := sT0.c4
      have pF0_0 := sT0.f 0
      have pF0_1 := sT0.f 1
      have pF0_2 := sT0.f 2
      have pF0_3 := sT0.f 3
      have sT1 := sT0.tail
      obtain ⟨p1_0, p1_1, p1_2, p1_3⟩ := sT1.c4
      have sT2 := sT1.tail
      obtain ⟨p2_0, p2_1, p2_2, p2_3⟩ := sT2.c4
      have pF2_0 := sT2.f 0
      have pF2_1 := sT2.f 1
      have pF2_2 := sT2.f 2
      have pF2_3 := sT2.f 3
      have sT3 := sT2.tail
      clear sT0 sT1 sT2 sT3
      have hord := B7.out.ord
      simp at hord
      have n1 : ¬ (w5.heap.size = w.heap.size) := by omega
      have n2 : ¬ (w5.heap.size = w.heap.size + 1) := by omega
      clear hord
      by_cases hk : g.2.1 = 1
      · have hkb : (g.2.1 == 1) = true := by simpa using hk
        have hpm : 0 ≤ g.2.2.2.1 ∧ g.2.2.2.1 < 8 := HPM.out hk
        obtain ⟨ab, hab⟩ : ∃ b, decide (g.2.2.2.1 / need % 2 = 1) = b := ⟨_, rfl⟩
        have hbit : (Go.bits .and .i64 (g.2.2.2.1) need != 0) = ab := by rw [and_need _ _ hpm HN.out]; exact hab
        have HL : Hid ((if ab = true then (1, g.2.2.1) else (2, 0)) = (gk, go)) := Lib.hid (by rw [← HGL.out, ← hab]; unfold lookP; rw [if_pos hk]; simp)
        have HK := Lib.hid hk
        clear hpm hab hk
        cases ab
        · have hl := HL.out
          simp at hl
          obtain ⟨rfl, rfl⟩ := hl
          clear HL
          go_wp2
          refine bodyPost_ret (v := .agg #[.int .i64 page, .int .i64 need, .int .i64 2, .int .i64 0]) (by simp [results, Try.results35, go_sem, *]) rfl ⟨rfl, ?_⟩
          exact retX (X7.out.setBox (i := 2) B7.out.head (by decide) _) ((B7.out.set (l1 := []) 2 _).tail.tail.head) (by decide) (by omega) hbw (H7.out.setCell (by simp; have := H7.out.size; have := B7.out.ord; simp at this; omega) _) (setK K7.out (by have := B7.out.ord; simp at this; omega) 2 _) HGM.out _ _ _ _
        · have hl := HL.out
          simp at hl
          obtain ⟨rfl, rfl⟩ := hl
          clear HL
          go_wp2
          refine bodyPost_ret (v := .agg #[.int .i64 page, .int .i64 need, .int .i64 (g.2.1), .int .i64 (g.2.2.1)]) (by simp [results, Try.results35, go_sem, *]) rfl ⟨by rw [HK.out], ?_⟩
          exact retX (X7.out.setBox (i := 3) B7.out.head (by decide) _) ((B7.out.set (l1 := []) 3 _).tail.tail.head) (by decide) (by omega) hbw (H7.out.setCell (by simp; have := H7.out.size; have := B7.out.ord; simp at this; omega) _) (setK K7.out (by have := B7.out.ord; simp at this; omega) 3 _) HGM.out _ _ _ _
      · have hkb : (g.2.1 == 1) = false := by simpa using hk
        have hl : gk = g.2.1 ∧ go = 0 := by have := HGL.out; unfold lookP at this; rw [if_neg hk] at this; simp only [Prod.mk.injEq] at this; exact ⟨this.1.symm, this.2.symm⟩
        obtain ⟨rfl, rfl⟩ := hl
        clear hk
        go_wp2
        refine bodyPost_ret (v := .agg #[.int .i64 page, .int .i64 need, .int .i64 (g.2.1), .int .i64 0]) (by simp [results, Try.results35, go_sem, *]) rfl ⟨rfl, ?_⟩
        exact retX X7.out B7.out.tail.tail.head (by decide) (Nat.le_refl _) hbw H7.out K7.out HGM.out _ _ _ _

end Go.Proofs.Ytomomaoncmgfpaa.Mmu

namespace Go.Proofs.Ytomomaoncmgfpaa.Mmu
open Go.RowKit Go.Proofs.Ytomomaoncmgfpaa.Base Go.Proofs.Ytomomaoncmgfpaa.Kinds Go.Proofs.Ytomomaoncmgfpaa.DecMath Go.Proofs.Ytomomaoncmgfpaa.L1
set_option linter.unusedVariables false
set_option linter.unusedSimpArgs false
theorem acc_small {m : SM} (hv : Valid m) (page choice : Int) : (accP m page choice).1.ws.length ≤ 1048576 ∧ (accP m page choice).1.pend.length ≤ 1048576 ∧ (accP m page choice).1.tlb.length ≤ 1048576 ∧ (accP m page choice).1.wc.length ≤ 1048576 := by
  obtain ⟨k1, k2, k3, k4⟩ := accP_keeps ⟨hv.ntlb, hv.nwc⟩ page choice
  rw [k1, k2]
  have := hv.frames
  have := hv.npend
  omega

set_option maxRecDepth 100000 in
set_option maxHeartbeats 4000000 in
theorem implAcc_v (v0 v1 v2 v3 : Value) (m : SM) (page need choice : Int) (w : World) (r : RdM w v0 v1 v2 v3 m) (HV : Hid (decide (Valid m) = false)) :
    Calls Try.prog 14 #[.agg #[v0, v1, v2, v3], .int .i64 page, .int .i64 need, .int .i64 choice] w (MSPost w (⟨[], [], [], []⟩, ⟨0, 0, 0, 0⟩)) := by
  obtain ⟨A0, c0, A1, c1, A2, c2, A3, c3, rfl, rfl, rfl, rfl, hl0, hk0, hl1, hk1, hl2, hk2, hl3, hk3⟩ := r.shape
  have R := Lib.hid r
  clear r
  go_enter Try.func14, Try.ntmps14
  go_upto_region 1 with fail
  refine ((St.start w).push3 _ _ _ _ _ _).gen (fun w1 S1' _ => ?_)
  have S1 := Lib.hid S1'
  clear S1'
  have sT0 := S1.out
  have sT1 := sT0.tail
  have sT2 := sT1.tail
  obtain ⟨p2_0, p2_1, p2_2, p2_3⟩ := sT2.c4
  have sT3 := sT2.tail
  clear sT0 sT1 sT2 sT3
  go_upto_region 2 with (first | (go_at_call 29; refine (machineOK_b _ _ _ _ m false _ (R.out.below S1.out.b) HV.out).mono ?_; rintro e w2 ⟨rfl, hb2⟩; have S2 := Lib.hid (S1.out.below hb2); clear hb2))
  clear p2_0 p2_1 p2_2 p2_3
  have sT0 := S2.out
  obtain ⟨p0_0, p0_1, p0_2, p0_3⟩ := sT0.c4
  have pF0_0 := sT0.f 0
  have pF0_1 := sT0.f 1
  have pF0_2 := sT0.f 2
  have pF0_3 := sT0.f 3
  have sT1 := sT0.tail
  obtain ⟨p1_0, p1_1, p1_2, p1_3⟩ := sT1.c4
  have pF1_0 := sT1.f 0
  have pF1_1 := sT1.f 1
  have pF1_2 := sT1.f 2
  have pF1_3 := sT1.f 3
  have sT2 := sT1.tail
  clear sT0 sT1 sT2
  go_wp2
  refine bodyPost_ret (v := .tuple #[.agg #[.slice none 0 0, .slice none 0 0, .slice none 0 0, .slice none 0 0], .agg #[.int .i64 0, .int .i64 0, .int .i64 0, .int .i64 0]]) (by simp [results, Try.results14, go_sem, *]) rfl ?_
  have z := ret_boxes (l1 := []) S2.out (nilM w.heap.size _) (by decide) (by decide)
  exact ⟨_, _, _, _, rfl, (z _ _ _ _ _ _ _ _).1, (z _ _ _ _ _ _ _ _).2⟩

set_option maxRecDepth 100000 in
set_option maxHeartbeats 4000000 in
theorem implAcc_p (v0 v1 v2 v3 : Value) (m : SM) (page need choice : Int) (w : World) (r : RdM w v0 v1 v2 v3 m) (HV : Hid (decide (Valid m) = true)) (HP : Hid (decide (0 ≤ page ∧ page < 4096) = false)) :
    Calls Try.prog 14 #[.agg #[v0, v1, v2, v3], .int .i64 page, .int .i64 need, .int .i64 choice] w (MSPost w (⟨[], [], [], []⟩, ⟨0, 0, 0, 0⟩)) := by
  obtain ⟨A0, c0, A1, c1, A2, c2, A3, c3, rfl, rfl, rfl, rfl, hl0, hk0, hl1, hk1, hl2, hk2, hl3, hk3⟩ := r.shape
  have R := Lib.hid r
  clear r
  go_enter Try.func14, Try.ntmps14
  go_upto_region 1 with fail
  refine ((St.start w).push3 _ _ _ _ _ _).gen (fun w1 S1' _ => ?_)
  have S1 := Lib.hid S1'
  clear S1'
  have sT0 := S1.out
  have sT1 := sT0.tail
  have sT2 := sT1.tail
  obtain ⟨p2_0, p2_1, p2_2, p2_3⟩ := sT2.c4
  have sT3 := sT2.tail
  clear sT0 sT1 sT2 sT3
  go_upto_region 2 with (first | (go_at_call 29; refine (machineOK_b _ _ _ _ m true _ (R.out.below S1.out.b) HV.out).mono ?_; rintro e w2 ⟨rfl, hb2⟩; have S2 := Lib.hid (S1.out.below hb2); clear hb2) | (go_at_call 23; refine (pageOKI_b _ false HP.out _).mono ?_; rintro e w2 ⟨rfl, rfl⟩))
  clear p2_0 p2_1 p2_2 p2_3
  have sT0 := S2.out
  obtain ⟨p0_0, p0_1, p0_2, p0_3⟩ := sT0.c4
  have pF0_0 := sT0.f 0
  have pF0_1 := sT0.f 1
  have pF0_2 := sT0.f 2
  have pF0_3 := sT0.f 3
  have sT1 := sT0.tail
  obtain ⟨p1_0, p1_1, p1_2, p1_3⟩ := sT1.c4
  have pF1_0 := sT1.f 0
  have pF1_1 := sT1.f 1
  have pF1_2 := sT1.f 2
  have pF1_3 := sT1.f 3
  have sT2 := sT1.tail
  clear sT0 sT1 sT2
  go_wp2
  refine bodyPost_ret (v := .tuple #[.agg #[.slice none 0 0, .slice none 0 0, .slice none 0 0, .slice none 0 0], .agg #[.int .i64 0, .int .i64 0, .int .i64 0, .int .i64 0]]) (by simp [results, Try.results14, go_sem, *]) rfl ?_
  have z := ret_boxes (l1 := []) S2.out (nilM w.heap.size _) (by decide) (by decide)
  exact ⟨_, _, _, _, rfl, (z _ _ _ _ _ _ _ _).1, (z _ _ _ _ _ _ _ _).2⟩

set_option maxRecDepth 100000 in
set_option maxHeartbeats 4000000 in
theorem implAcc_c (v0 v1 v2 v3 : Value) (m : SM) (page need choice : Int) (w : World) (r : RdM w v0 v1 v2 v3 m) (HV : Hid (decide (Valid m) = true)) (HP : Hid (decide (0 ≤ page ∧ page < 4096) = true)) (HC : Hid (decide (0 ≤ choice ∧ choice ≤ 65535) = false)) :
    Calls Try.prog 14 #[.agg #[v0, v1, v2, v3], .int .i64 page, .int .i64 need, .int .i64 choice] w (MSPost w (⟨[], [], [], []⟩, ⟨0, 0, 0, 0⟩)) := by
  obtain ⟨A0, c0, A1, c1, A2, c2, A3, c3, rfl, rfl, rfl, rfl, hl0, hk0, hl1, hk1, hl2, hk2, hl3, hk3⟩ := r.shape
  have R := Lib.hid r
  clear r
  go_enter Try.func14, Try.ntmps14
  go_upto_region 1 with fail
  refine ((St.start w).push3 _ _ _ _ _ _).gen (fun w1 S1' _ => ?_)
  have S1 := Lib.hid S1'
  clear S1'
  have sT0 := S1.out
  have sT1 := sT0.tail
  have sT2 := sT1.tail
  obtain ⟨p2_0, p2_1, p2_2, p2_3⟩ := sT2.c4
  have sT3 := sT2.tail
  clear sT0 sT1 sT2 sT3
  go_upto_region 2 with (first | (go_at_call 29; refine (machineOK_b _ _ _ _ m true _ (R.out.below S1.out.b) HV.out).mono ?_; rintro e w2 ⟨rfl, hb2⟩; have S2 := Lib.hid (S1.out.below hb2); clear hb2) | (go_at_call 23; refine (pageOKI_b _ true HP.out _).mono ?_; rintro e w2 ⟨rfl, rfl⟩) | (go_at_call 30; refine (choiceOKI_b _ false _ HC.out).mono ?_; rintro e w2 ⟨rfl, rfl⟩))
  clear p2_0 p2_1 p2_2 p2_3
  have sT0 := S2.out
  obtain ⟨p0_0, p0_1, p0_2, p0_3⟩ := sT0.c4
  have pF0_0 := sT0.f 0
  have pF0_1 := sT0.f 1
  have pF0_2 := sT0.f 2
  have pF0_3 := sT0.f 3
  have sT1 := sT0.tail
  obtain ⟨p1_0, p1_1, p1_2, p1_3⟩ := sT1.c4
  have pF1_0 := sT1.f 0
  have pF1_1 := sT1.f 1
  have pF1_2 := sT1.f 2
  have pF1_3 := sT1.f 3
  have sT2 := sT1.tail
  clear sT0 sT1 sT2
  go_wp2
  refine bodyPost_ret (v := .tuple #[.agg #[.slice none 0 0, .slice none 0 0, .slice none 0 0, .slice none 0 0], .agg #[.int .i64 0, .int .i64 0, .int .i64 0, .int .i64 0]]) (by simp [results, Try.results14, go_sem, *]) rfl ?_
  have z := ret_boxes (l1 := []) S2.out (nilM w.heap.size _) (by decide) (by decide)
  exact ⟨_, _, _, _, rfl, (z _ _ _ _ _ _ _ _).1, (z _ _ _ _ _ _ _ _).2⟩

set_option maxRecDepth 100000 in
set_option maxHeartbeats 4000000 in
theorem implAcc_n (v0 v1 v2 v3 : Value) (m : SM) (page need choice : Int) (w : World) (r : RdM w v0 v1 v2 v3 m) (HV : Hid (decide (Valid m) = true)) (HP : Hid (decide (0 ≤ page ∧ page < 4096) = true)) (HC : Hid (decide (0 ≤ choice ∧ choice ≤ 65535) = true)) (HN : Hid (decide (needP need) = false)) :
    Calls Try.prog 14 #[.agg #[v0, v1, v2, v3], .int .i64 page, .int .i64 need, .int .i64 choice] w (MSPost w (⟨[], [], [], []⟩, ⟨0, 0, 0, 0⟩)) := by
  obtain ⟨A0, c0, A1, c1, A2, c2, A3, c3, rfl, rfl, rfl, rfl, hl0, hk0, hl1, hk1, hl2, hk2, hl3, hk3⟩ := r.shape
  have R := Lib.hid r
  clear r
  go_enter Try.func14, Try.ntmps14
  go_upto_region 1 with fail
  refine ((St.start w).push3 _ _ _ _ _ _).gen (fun w1 S1' _ => ?_)
  have S1 := Lib.hid S1'
  clear S1'
  have sT0 := S1.out
  have sT1 := sT0.tail
  have sT2 := sT1.tail
  obtain ⟨p2_0, p2_1, p2_2, p2_3⟩ := sT2.c4
  have sT3 := sT2.tail
  clear sT0 sT1 sT2 sT3
  go_upto_region 2 with (first | (go_at_call 29; refine (machineOK_b _ _ _ _ m true _ (R.out.below S1.out.b) HV.out).mono ?_; rintro e w2 ⟨rfl, hb2⟩; have S2 := Lib.hid (S1.out.below hb2); clear hb2) | (go_at_call 23; refine (pageOKI_b _ true HP.out _).mono ?_; rintro e w2 ⟨rfl, rfl⟩) | (go_at_call 30; refine (choiceOKI_b _ true _ HC.out).mono ?_; rintro e w2 ⟨rfl, rfl⟩) | (go_at_call 34; refine (needOK_b _ false _ HN.out).mono ?_; rintro e w2 ⟨rfl, rfl⟩))
  clear p2_0 p2_1 p2_2 p2_3
  have sT0 := S2.out
  obtain ⟨p0_0, p0_1, p0_2, p0_3⟩ := sT0.c4
  have pF0_0 := sT0.f 0
  have pF0_1 := sT0.f 1
  have pF0_2 := sT0.f 2
  have pF0_3 := sT0.f 3
  have sT1 := sT0.tail
  obtain ⟨p1_0, p1_1, p1_2, p1_3⟩ := sT1.c4
  have pF1_0 := sT1.f 0
  have pF1_1 := sT1.f 1
  have pF1_2 := sT1.f 2
  have pF1_3 := sT1.f 3
  have sT2 := sT1.tail
  clear sT0 sT1 sT2
  go_wp2
  refine bodyPost_ret (v := .tuple #[.agg #[.slice none 0 0, .slice none 0 0, .slice none 0 0, .slice none 0 0], .agg #[.int .i64 0, .int .i64 0, .int .i64 0, .int .i64 0]]) (by simp [results, Try.results14, go_sem, *]) rfl ?_
  have z := ret_boxes (l1 := []) S2.out (nilM w.heap.size _) (by decide) (by decide)
  exact ⟨_, _, _, _, rfl, (z _ _ _ _ _ _ _ _).1, (z _ _ _ _ _ _ _ _).2⟩

set_option maxRecDepth 100000 in
set_option maxHeartbeats 4000000 in
theorem implAcc_good (v0 v1 v2 v3 : Value) (m : SM) (page need choice : Int) (w : World) (r : RdM w v0 v1 v2 v3 m) (hwf : WfM m) (HV : Hid (decide (Valid m) = true)) (HP : Hid (decide (0 ≤ page ∧ page < 4096) = true)) (HC : Hid (decide (0 ≤ choice ∧ choice ≤ 65535) = true)) (HN : Hid (decide (needP need) = true)) :
    Calls Try.prog 14 #[.agg #[v0, v1, v2, v3], .int .i64 page, .int .i64 need, .int .i64 choice] w (MSPost w ((accP m page choice).1, ⟨page, need, (lookP need (accP m page choice).2).1, (lookP need (accP m page choice).2).2⟩)) := by
  obtain ⟨A0, c0, A1, c1, A2, c2, A3, c3, rfl, rfl, rfl, rfl, hl0, hk0, hl1, hk1, hl2, hk2, hl3, hk3⟩ := r.shape
  have R := Lib.hid r
  have hv := of_decide_eq_true HV.out
  have WK := Lib.hid (Valid.walkable hv hwf)
  have HSM := Lib.hid (acc_small hv page choice)
  have V := Lib.hid hv
  obtain ⟨g, hg⟩ : ∃ x, accP m page choice = x := ⟨_, rfl⟩
  obtain ⟨gk, go, hgl⟩ : ∃ a b, lookP need g.2 = (a, b) := ⟨_, _, rfl⟩
  have HG := Lib.hid hg
  have HGL := Lib.hid hgl
  rw [hg] at HSM ⊢
  rw [hgl]
  simp only
  clear r hwf hg hgl hv
  go_enter Try.func14, Try.ntmps14
  go_upto_region 1 with fail
  refine ((St.start w).push3 _ _ _ _ _ _).gen (fun w1 S1' _ => ?_)
  have S1 := Lib.hid S1'
  clear S1'
  have sT0 := S1.out
  have sT1 := sT0.tail
  have sT2 := sT1.tail
  obtain ⟨p2_0, p2_1, p2_2, p2_3⟩ := sT2.c4
  have sT3 := sT2.tail
  clear sT0 sT1 sT2 sT3
  go_upto_region 3 with (first | (go_at_call 29; refine (machineOK_b _ _ _ _ m true _ (R.out.below S1.out.b) HV.out).mono ?_; rintro e w2 ⟨rfl, hb2⟩; have S2 := Lib.hid (S1.out.below hb2); clear hb2) | (go_at_call 23; refine (pageOKI_b _ true HP.out _).mono ?_; rintro e w2 ⟨rfl, rfl⟩) | (go_at_call 30; refine (choiceOKI_b _ true _ HC.out).mono ?_; rintro e w2 ⟨rfl, rfl⟩) | (go_at_call 34; refine (needOK_b _ true _ HN.out).mono ?_; rintro e w2 ⟨rfl, rfl⟩))
  clear p2_0 p2_1 p2_2 p2_3
  have sT0 := S2.out
  have sT1 := sT0.tail
  have sT2 := sT1.tail
  obtain ⟨p2_0, p2_1, p2_2, p2_3⟩ := sT2.c4
  have sT3 := sT2.tail
  clear sT0 sT1 sT2 sT3
  go_wp2_with fail
  refine (machOf_any _ _ _ _ m _ (R.out.below S2.out.b) V.out).mono ?_
  rintro e w3 ⟨p, u0, u1, u2, u3, u4, rfl, o3, hb3⟩
  have O3 := Lib.hid o3
  have S3 := Lib.hid (S2.out.below hb3)
  have HLT : Hid (∀ x ∈ ([(w.heap.size + 2, #[.int .i64 0, .int .i64 0, .int .i64 0, .int .i64 0], 49), (w.heap.size + 1, #[.slice none 0 0, .slice none 0 0, .slice none 0 0, .slice none 0 0], 46), (w.heap.size, #[.slice A0 m.ws.length c0, .slice A1 m.pend.length c1, .slice A2 m.tlb.length c2, .slice A3 m.wc.length c3], 46)] : List (Nat × Array Value × Nat)), x.1 < w2.heap.size) := Lib.hid S2.out.lt
  have HL0 : Hid (w.heap.size ≤ w2.heap.size) := Lib.hid S2.out.b.size
  clear o3 hb3 S2
  clear p2_0 p2_1 p2_2 p2_3
  go_wp2_with fail
  refine (access_any page need choice (of_decide_eq_true HP.out) (of_decide_eq_true HC.out) (of_decide_eq_true HN.out) w2.heap.size p _ _ _ _ _ m _ O3.out WK.out V.out.tlb g HG.out gk go HGL.out).mono ?_
  rintro e w4 ⟨rfl, u5, u6, o4, hb4, _⟩
  have O4 := Lib.hid o4
  have S4 := Lib.hid (st_low S3.out hb4 HLT.out HL0.out)
  clear o4 hb4 S3
  go_upto_region 5 with fail
  have O5 := Lib.hid (O4.out.below (allocB (Below.refl _ _) (.cells #[.int .i64 page, .int .i64 need, .int .i64 gk, .int .i64 go] 49)))
  refine (show ∀ {G : World → Prop}, (∀ w', St w _ w' → OwnX w2.heap.size w' p _ _ _ _ _ g.1 (latestOf m) → G w') → G _ from fun k => k _ (S4.out.push _ _) O5.out) (fun w5 S5' O5' => ?_)
  have S5 := Lib.hid S5'
  have X5 := Lib.hid O5'
  clear S5' O5' S4 O4 O5
  have sT0 := S5.out
  obtain ⟨p0_0, p0_1, p0_2, p0_3⟩ := sT0.c4
  have sT1 := sT0.tail
  obtain ⟨p1_0, p1_1, p1_2, p1_3⟩ := sT1.c4
  have pF1_0 := sT1.f 0
  have pF1_1 := sT1.f 1
  have pF1_2 := sT1.f 2
  have pF1_3 := sT1.f 3
  have sT2 := sT1.tail
  obtain ⟨p2_0, p2_1, p2_2, p2_3⟩ := sT2.c4
  have pF2_0 := sT2.f 0
  have pF2_1 := sT2.f 1
  have pF2_2 := sT2.f 2
  have pF2_3 := sT2.f 3
  have sT3 := sT2.tail
  have sT4 := sT3.tail
  clear sT0 sT1 sT2 sT3 sT4
  have hord := S5.out.ord
  simp at hord
  have n1 : ¬ (w.heap.size + 1 = w4.heap.size) := by omega
  have n2 : ¬ (w.heap.size + 1 + 1 = w4.heap.size) := by omega
  clear hord
  go_region_held3 (fun w' => w'.cell? ⟨w4.heap.size, 0, none⟩ = some (.int .i64 page) ∧ w'.cell? ⟨w4.heap.size, 1, none⟩ = some (.int .i64 need) ∧ w'.cell? ⟨w4.heap.size, 2, none⟩ = some (.int .i64 gk) ∧ w'.cell? ⟨w4.heap.size, 3, none⟩ = some (.int .i64 go))
    (first | go_keep | (with_reducible exact ⟨z0, z1, z2, z3⟩) | (with_reducible exact ⟨far4 z0 n1 _ _ _ _, far4 z1 n1 _ _ _ _, far4 z2 n1 _ _ _ _, far4 z3 n1 _ _ _ _⟩) | (with_reducible exact ⟨far4 (far4 z0 n1 _ _ _ _) n2 _ _ _ _, far4 (far4 z1 n1 _ _ _ _) n2 _ _ _ _, far4 (far4 z2 n1 _ _ _ _) n2 _ _ _ _, far4 (far4 z3 n1 _ _ _ _) n2 _ _ _ _⟩))
    ((go_at_call 33; refine (machine_any p _ _ _ _ _ g.1 _ (OwnX.rd X5.out.drew) HSM.out).mono ?_; rintro e w6 ⟨D0, D1, D2, D3, rfl, o6, hb6⟩; obtain ⟨C0, f0, C1, f1, C2, f2, C3, f3, rfl, rfl, rfl, rfl⟩ := o6.shape; have O6 := Lib.hid (o6.lower S5.out.b.size); have S6 := Lib.hid (S5.out.drew.below hb6); have z0 := bC hb6 p0_0; have z1 := bC hb6 p0_1; have z2 := bC hb6 p0_2; have z3 := bC hb6 p0_3; clear o6 hb6; have sT0 := S6.out; have sT1 := sT0.tail; obtain ⟨y1_0, y1_1, y1_2, y1_3⟩ := sT1.c4; have yF1_0 := sT1.f 0; have yF1_1 := sT1.f 1; have yF1_2 := sT1.f 2; have yF1_3 := sT1.f 3; have sT2 := sT1.tail; obtain ⟨y2_0, y2_1, y2_2, y2_3⟩ := sT2.c4; have yF2_0 := sT2.f 0; have yF2_1 := sT2.f 1; have yF2_2 := sT2.f 2; have yF2_3 := sT2.f 3; have sT3 := sT2.tail; clear sT0 sT1 sT2 sT3))
  go_wp2
  refine bodyPost_ret (v := .tuple #[.agg #[.slice C0 g.1.ws.length f0, .slice C1 g.1.pend.length f1, .slice C2 g.1.tlb.length f2, .slice C3 g.1.wc.length f3], .agg #[.int .i64 page, .int .i64 need, .int .i64 gk, .int .i64 go]]) (by simp [results, Try.results14, go_sem, *]) rfl ?_
  have z := ret_boxes (l1 := [_]) S6.out O6.out (by decide) (by decide)
  exact ⟨_, _, _, _, rfl, (z _ _ _ _ _ _ _ _).1, (z _ _ _ _ _ _ _ _).2⟩

theorem implAcc_any (v0 v1 v2 v3 : Value) (m : SM) (page need choice : Int) (w : World) (r : RdM w v0 v1 v2 v3 m) (hwf : WfM m) :
    Calls Try.prog 14 #[.agg #[v0, v1, v2, v3], .int .i64 page, .int .i64 need, .int .i64 choice] w (MSPost w (accessS m page need choice)) := by
  unfold accessS
  by_cases hv : Valid m
  rotate_left
  · rw [if_neg (fun h => hv h.1)]; exact implAcc_v v0 v1 v2 v3 m page need choice w r (Lib.hid (decide_eq_false hv))
  by_cases hp : 0 ≤ page ∧ page < 4096
  rotate_left
  · rw [if_neg (fun h => hp h.2.1)]; exact implAcc_p v0 v1 v2 v3 m page need choice w r (Lib.hid (decide_eq_true hv)) (Lib.hid (decide_eq_false hp))
  by_cases hc : 0 ≤ choice ∧ choice ≤ 65535
  rotate_left
  · rw [if_neg (fun h => hc h.2.2.1)]; exact implAcc_c v0 v1 v2 v3 m page need choice w r (Lib.hid (decide_eq_true hv)) (Lib.hid (decide_eq_true hp)) (Lib.hid (decide_eq_false hc))
  by_cases hn : needP need
  rotate_left
  · rw [if_neg (fun h => hn h.2.2.2)]; exact implAcc_n v0 v1 v2 v3 m page need choice w r (Lib.hid (decide_eq_true hv)) (Lib.hid (decide_eq_true hp)) (Lib.hid (decide_eq_true hc)) (Lib.hid (decide_eq_false hn))
  · rw [if_pos ⟨hv, hp, hc, hn⟩]; exact implAcc_good v0 v1 v2 v3 m page need choice w r hwf (Lib.hid (decide_eq_true hv)) (Lib.hid (decide_eq_true hp)) (Lib.hid (decide_eq_true hc)) (Lib.hid (decide_eq_true hn))
end Go.Proofs.Ytomomaoncmgfpaa.Mmu
