/- Walks of the law's small functions: wPick, wSameSeen, wSays, wSeesWalk. -/
import Derived.Test.YtomomaoncmgfpaaSpecPWalk
import Derived.Test.YtomomaoncmgfpaaAccMath
import Derived.Test.YtomomaoncmgfpaaDraw1
namespace Go.Proofs.Ytomomaoncmgfpaa.Draw
open Go.RowKit Go.Proofs.Ytomomaoncmgfpaa.Base Go.Proofs.Ytomomaoncmgfpaa.Kinds Go.Proofs.Ytomomaoncmgfpaa.DecMath Go.Proofs.Ytomomaoncmgfpaa.L1 Go.Proofs.Ytomomaoncmgfpaa.Mmu
set_option linter.unusedVariables false
set_option linter.unusedSimpArgs false
/-- What wPick takes. -/
def pickP (c : List Int) (i : Nat) : Int := if c = [] then (i : Int) else c.getD (i % c.length) 0
theorem pickP_range {c : List Int} (hb : Bytes c) (i : Nat) (hi : i ≤ 255) : 0 ≤ pickP c i ∧ pickP c i ≤ 255 := by
  unfold pickP
  split
  · omega
  · have := hb.get (i % c.length); omega
set_option maxRecDepth 100000 in
set_option maxHeartbeats 4000000 in
theorem pick_any (v : Value) (c : List Int) (i : Nat) (x : Int) (w : World) (r : Rd bEnc 1 w v c) (hb : Bytes c) (hL : c.length ≤ 1048576) (hi : i ≤ 255) (hx : pickP c i = x) :
    Calls Try.prog 11 #[v, .int .i64 (i : Int)] w fun e w' => e = .returned (.int .i64 x) ∧ Below w.heap.size w w' := by
  obtain ⟨A, cp, rfl, hc1, hc2⟩ := r.shape
  have R := Lib.hid r
  have HB := Lib.hid hb
  have HX := Lib.hid hx
  clear r hb hx
  by_cases h2 : c = []
  · subst h2
    have HX2 : Hid ((i : Int) = x) := Lib.hid (by rw [← HX.out]; unfold pickP; rw [if_pos rfl])
    go_enter Try.func11, Try.ntmps11
    go_wp2
    go_ret
    exact ⟨by rw [HX2.out]; rfl, Below.refl _ _⟩
  have hl0 : 0 < c.length := List.length_pos_iff.2 h2
  obtain ⟨L, hLe⟩ : ∃ L, c.length = L := ⟨_, rfl⟩
  obtain ⟨k, hk⟩ : ∃ k, i % L = k := ⟨_, rfl⟩
  rw [hLe] at hL hl0 hc1
  have hkl : k < L := by rw [← hk]; exact Nat.mod_lt _ hl0
  have hkl' : (k : Int) < (L : Int) := by omega
  have ek : Int.tmod (i : Int) (L : Int) = (k : Int) := by rw [Int.tmod_eq_emod_of_nonneg (by omega), ← hk]; simp
  have g2 : ((L : Int) == 0) = false := by simp; omega
  have g2' : (L == 0) = false := by simp; omega
  have g3 : ¬ (L : Int) = 0 := by omega
  obtain ⟨ad, rfl, c0⟩ : ∃ ad, A = some ad ∧ w.cell? (ad.add k) = some (.int .u8 (c.getD k 0)) := byte_at (cap := cp) (n := c.length) R.out (by omega)
  have hx : c.getD k 0 = x := by rw [← HX.out]; unfold pickP; rw [if_neg h2, hLe, hk]
  have hbx := HB.out.get k
  rw [hx] at c0 hbx
  have ew : IntKind.i64.wrap x = x := by rw [IntKind.wrap_i64]; omega
  rw [hLe]
  clear hLe hk hx h2
  go_enter Try.func11, Try.ntmps11
  go_wp2
  go_ret
  first
    | exact ⟨rfl, Below.refl _ _⟩
    | exact ⟨by simp [*], Below.refl _ _⟩
set_option maxRecDepth 100000 in
set_option maxHeartbeats 4000000 in
theorem sameSeen_any (s : SSeen) (w : World) : Calls Try.prog 36 #[s.val, s.val] w fun e w' => e = .returned (.bool true) ∧ Below w.heap.size w w' := by
  obtain ⟨a, b, c, d⟩ := s
  simp only [SSeen.val]
  go_enter Try.func36, Try.ntmps36
  have ha : (a == a) = true := by simp
  have hb : (b == b) = true := by simp
  have hc : (c == c) = true := by simp
  have hd : (d == d) = true := by simp
  go_wp2
  go_ret
  exact ⟨ret_bool (by simp), allocB (allocB (Below.refl _ _) _) _⟩
/-- What wSays says of a hit. -/
def saysP (q : Int × Int × Int × Int) (page need : Int) : SSeen := if q.1 = 1 then (if q.2.2.1 / need % 2 = 1 then ⟨page, need, 1, q.2.1⟩ else ⟨page, need, 2, 0⟩) else ⟨page, need, 0, 0⟩
set_option maxRecDepth 100000 in
set_option maxHeartbeats 4000000 in
theorem says_any (q : Int × Int × Int × Int) (page need : Int) (s : SSeen) (w : World) (hq : 0 ≤ q.2.2.1 ∧ q.2.2.1 < 8) (hn : needP need) (hs : saysP q page need = s) :
    Calls Try.prog 37 #[hitV q, .int .i64 page, .int .i64 need] w fun e w' => e = .returned s.val ∧ Below w.heap.size w w' := by
  obtain ⟨k, o, p, z⟩ := q
  dsimp only at hq
  have HS := Lib.hid hs
  have hn0 : 0 < need := by rcases hn with h | h | h <;> omega
  have hnz : ¬ need = 0 := by omega
  obtain ⟨u, hu⟩ : ∃ u, p / need = u := ⟨_, rfl⟩
  have hu0 : 0 ≤ u := by rw [← hu]; exact Int.ediv_nonneg hq.1 (by omega)
  have hu8 : u < 8 := by rw [← hu]; exact Int.lt_of_le_of_lt (Int.ediv_le_self _ hq.1) hq.2
  have eu : Int.tdiv p need = u := by rw [Int.tdiv_eq_ediv_of_nonneg hq.1]; exact hu
  have ew : IntKind.i64.wrap u = u := by rw [IntKind.wrap_i64]; omega
  have em : Int.tmod u 2 = u % 2 := Int.tmod_eq_emod_of_nonneg hu0
  have HU := Lib.hid hu
  unfold hitV
  dsimp only
  clear hs hu
  have bx := fun (w' : World) (h : Below w.heap.size w w') => h
  by_cases h1 : k = 1
  · subst h1
    have h1b : ((1 : Int) != 1) = false := rfl
    by_cases h2 : u % 2 = 1
    · have h2b : (u % 2 == 1) = true := by simpa using h2
      have HS2 : Hid (s = ⟨page, need, 1, o⟩) := Lib.hid (by rw [← HS.out]; unfold saysP; rw [if_pos rfl, if_pos (by dsimp only; rw [HU.out]; exact h2)])
      clear h2
      go_enter Try.func37, Try.ntmps37
      go_upto_region 1 with fail
      refine ((St.start w).push2 _ _ _ _).gen (fun w1 S1 _ => ?_)
      have HS1 := Lib.hid S1
      clear S1
      have sT0 := HS1.out
      obtain ⟨z0_0, z0_1, z0_2, z0_3⟩ := sT0.c4
      have zF0_0 := sT0.f 0
      have zF0_1 := sT0.f 1
      have zF0_2 := sT0.f 2
      have zF0_3 := sT0.f 3
      have sT1 := sT0.tail
      obtain ⟨z1_0, z1_1, z1_2, z1_3⟩ := sT1.c4
      have sT2 := sT1.tail
      clear sT0 sT1 sT2
      go_wp2
      exact bodyPost_ret (v := s.val) (by simp [results, Try.results37, go_sem, SSeen.val, HS2.out, *]) rfl ⟨rfl, (HS1.out.s0 _ _ _ _).b⟩
    · have h2b : (u % 2 == 1) = false := by simpa using h2
      have HS2 : Hid (s = ⟨page, need, 2, 0⟩) := Lib.hid (by rw [← HS.out]; unfold saysP; rw [if_pos rfl, if_neg (by dsimp only; rw [HU.out]; exact h2)])
      clear h2
      go_enter Try.func37, Try.ntmps37
      go_upto_region 1 with fail
      refine ((St.start w).push2 _ _ _ _).gen (fun w1 S1 _ => ?_)
      have HS1 := Lib.hid S1
      clear S1
      have sT0 := HS1.out
      obtain ⟨z0_0, z0_1, z0_2, z0_3⟩ := sT0.c4
      have zF0_0 := sT0.f 0
      have zF0_1 := sT0.f 1
      have zF0_2 := sT0.f 2
      have zF0_3 := sT0.f 3
      have sT1 := sT0.tail
      obtain ⟨z1_0, z1_1, z1_2, z1_3⟩ := sT1.c4
      have sT2 := sT1.tail
      clear sT0 sT1 sT2
      go_wp2
      exact bodyPost_ret (v := s.val) (by simp [results, Try.results37, go_sem, SSeen.val, HS2.out, *]) rfl ⟨rfl, (HS1.out.s0 _ _ _ _).b⟩
  · have h1b : (k != 1) = true := by simpa using h1
    have HS2 : Hid (s = ⟨page, need, 0, 0⟩) := Lib.hid (by rw [← HS.out]; unfold saysP; rw [if_neg (by dsimp only; exact h1)])
    clear h1
    go_enter Try.func37, Try.ntmps37
    go_upto_region 1 with fail
    refine ((St.start w).push2 _ _ _ _).gen (fun w1 S1 _ => ?_)
    have HS1 := Lib.hid S1
    clear S1
    have sT0 := HS1.out
    obtain ⟨z0_0, z0_1, z0_2, z0_3⟩ := sT0.c4
    have zF0_0 := sT0.f 0
    have zF0_1 := sT0.f 1
    have zF0_2 := sT0.f 2
    have zF0_3 := sT0.f 3
    have sT1 := sT0.tail
    obtain ⟨z1_0, z1_1, z1_2, z1_3⟩ := sT1.c4
    have sT2 := sT1.tail
    clear sT0 sT1 sT2
    go_wp2
    exact bodyPost_ret (v := s.val) (by simp [results, Try.results37, go_sem, SSeen.val, HS2.out, *]) rfl ⟨rfl, (HS1.out.s0 _ _ _ _).b⟩
/-- What is seen of a hit. -/
def seenP (q : Int × Int × Int × Int) (page need : Int) : SSeen := ⟨page, need, (lookP need q).1, (lookP need q).2⟩
set_option maxRecDepth 100000 in
set_option maxHeartbeats 4000000 in
theorem sees_any (q : Int × Int × Int × Int) (page need : Int) (s : SSeen) (w : World) (hk : q.1 = 0 ∨ q.1 = 1 ∨ q.1 = 3) (hq : 0 ≤ q.2.2.1 ∧ q.2.2.1 < 8) (hn : needP need) (hs : seenP q page need = s) :
    Calls Try.prog 15 #[hitV q, .int .i64 page, .int .i64 need, s.val] w fun e w' => e = .returned (.bool true) ∧ Below w.heap.size w w' := by
  obtain ⟨k, o, p, z⟩ := q
  dsimp only at hq hk
  have HQ := Lib.hid hq
  have HN := Lib.hid hn
  have HS := Lib.hid hs
  have HK := Lib.hid hk
  clear hs hn hq hk
  by_cases h3 : k = 3
  · subst h3
    have HS2 : Hid (s = ⟨page, need, 3, 0⟩) := Lib.hid (by rw [← HS.out]; simp [seenP, lookP])
    obtain ⟨sa, sb, sc, sd⟩ := s
    have h3b : ((3 : Int) == 3) = true := rfl
    unfold hitV SSeen.val
    dsimp only
    go_enter Try.func15, Try.ntmps15
    go_upto_region 1 with fail
    refine ((St.start w).push2 _ _ _ _).gen (fun w1 S1 _ => ?_)
    have HS1 := Lib.hid S1
    clear S1
    have sT0 := HS1.out
    obtain ⟨z0_0, z0_1, z0_2, z0_3⟩ := sT0.c4
    have sT1 := sT0.tail
    obtain ⟨z1_0, z1_1, z1_2, z1_3⟩ := sT1.c4
    have sT2 := sT1.tail
    clear sT0 sT1 sT2
    obtain ⟨rfl, rfl, rfl, rfl⟩ := SSeen.mk.inj HS2.out
    go_wp2_with (go_at_call 36; refine (sameSeen_any ⟨_, _, _, _⟩ _).mono ?_; rintro e w2 ⟨rfl, hb2⟩; have HB2 := Lib.hid (thenB HS1.out.b hb2); clear hb2)
    go_ret
    exact ⟨rfl, HB2.out⟩
  · have h3b : (k == 3) = false := by simpa using h3
    have HP : Hid (saysP (k, o, p, z) page need = s) := Lib.hid (by
      rw [← HS.out]
      unfold saysP seenP lookP
      dsimp only
      split
      · split <;> rfl
      · have : k = 0 := by have := HK.out; omega
        rw [this])
    clear h3
    obtain ⟨sa, sb, sc, sd⟩ := s
    unfold SSeen.val
    dsimp only
    rw [show hitV (k, o, p, z) = .agg #[.int .i64 k, .int .i64 o, .int .i64 p, .int .i64 z] from rfl]
    go_enter Try.func15, Try.ntmps15
    go_upto_region 1 with fail
    refine ((St.start w).push2 _ _ _ _).gen (fun w1 S1 _ => ?_)
    have HS1 := Lib.hid S1
    clear S1
    have sT0 := HS1.out
    obtain ⟨z0_0, z0_1, z0_2, z0_3⟩ := sT0.c4
    have sT1 := sT0.tail
    obtain ⟨z1_0, z1_1, z1_2, z1_3⟩ := sT1.c4
    have sT2 := sT1.tail
    clear sT0 sT1 sT2
    go_upto_region 3 with fail
    have hbc := HS1.out
    clear z0_0 z0_1 z0_2 z0_3 z1_0 z1_1 z1_2 z1_3
    have sT0 := hbc
    obtain ⟨z0_0, z0_1, z0_2, z0_3⟩ := sT0.c4
    have sT1 := sT0.tail
    have zB0_0 := BW.cell z0_0
    have zB0_1 := BW.cell z0_1
    have zB0_2 := BW.cell z0_2
    have zB0_3 := BW.cell z0_3
    clear z0_0 z0_1 z0_2 z0_3
    obtain ⟨z1_0, z1_1, z1_2, z1_3⟩ := sT1.c4
    have sT2 := sT1.tail
    have zB1_0 := BW.cell z1_0
    have zB1_1 := BW.cell z1_1
    have zB1_2 := BW.cell z1_2
    have zB1_3 := BW.cell z1_3
    clear z1_0 z1_1 z1_2 z1_3
    clear sT0 sT1 sT2
    clear hbc
    (refine wp_region_below (by kernel_rfl) (by kernel_rfl) ?_; (repeat (first | (go_big_quiet_step (first | (go_at_call 37; exact BW.calls (says_any (k, o, p, z) page need ⟨sa, sb, sc, sd⟩ _ HQ.out HN.out HP.out)) | (go_at_call 36; exact BW.calls (sameSeen_any ⟨sa, sb, sc, sd⟩ _)))) | ((with_reducible refine wpQuiet_step ?_); intro K hK; go_simp; first | ((with_reducible refine hK _ ?_); clear hK K) | (apply Exists.intro; refine ⟨fun _ => ?_, hK _ ?_⟩; (first | (go_at_call 37; exact BW.calls (says_any (k, o, p, z) page need ⟨sa, sb, sc, sd⟩ _ HQ.out HN.out HP.out)) | (go_at_call 36; exact BW.calls (sameSeen_any ⟨sa, sb, sc, sd⟩ _))); clear hK K)))); (with_reducible refine wpQuiet_nil ?_); intro wq hw'; obtain ⟨⟨wy, hbq⟩, hw''⟩ := hw'; subst hw'')
    have HS2 := Lib.hid (HS1.out.below hbq)
    go_wp2
    go_ret
    exact ⟨rfl, HS2.out.b⟩
end Go.Proofs.Ytomomaoncmgfpaa.Draw
