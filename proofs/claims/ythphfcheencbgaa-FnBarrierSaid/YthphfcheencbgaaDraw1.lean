/- Walks of the reference's l1Take, l1Size and Encode. -/
import Derived.Test.YthphfcheencbgaaL1
import Derived.Test.YthphfcheencbgaaDrawMath
import Derived.Deep.Cut
import Derived.Deep.CutRange
namespace Go.Proofs.Ythphfcheencbgaa.Draw
open Go.RowKit Go.Proofs.Ythphfcheencbgaa.Base Go.Proofs.Ythphfcheencbgaa.Kinds Go.Proofs.Ythphfcheencbgaa.DecMath Go.Proofs.Ythphfcheencbgaa.L1
set_option linter.unusedVariables false
set_option linter.unusedSimpArgs false

def bEnc (x : Int) : List Value := [.int .u8 x]
theorem bLen (x : Int) : (bEnc x).length = 1 := rfl
theorem byte_at {w : World} {A : Option Addr} {n cap k : Nat} {l : List Int} (h : Rd bEnc 1 w (.slice A n cap) l) (hk : k < l.length) : ∃ ad, A = some ad ∧ w.cell? (ad.add k) = some (.int .u8 (l.getD k 0)) := by
  obtain ⟨ad, x, e, hx, hu⟩ := h.get hk
  have hx2 : l.getD k 0 = x := by rw [List.getD_eq_getElem?_getD, hx]; rfl
  exact ⟨ad, e, by rw [hx2]; simpa using hu 0 _ rfl⟩

set_option maxRecDepth 100000 in
set_option maxHeartbeats 4000000 in
theorem take_any (v : Value) (c : List Int) (p : Nat) (n : Int) (w : World) (r : Rd bEnc 1 w v c) (hb : Bytes c) (hL : c.length ≤ 1048576) (hp : p ≤ 100000) (hn : n ≤ 100000) :
    Calls Try.prog 8 #[v, .int .i64 p, .int .i64 n] w fun e w' => e = .returned (.tuple #[.int .i64 (takeP c p n), .int .i64 ((p + 1 : Nat) : Int)]) ∧ Below w.heap.size w w' := by
  obtain ⟨A, cp, rfl, hc1, hc2⟩ := r.shape
  have R := Lib.hid r
  clear r
  obtain ⟨t, ht⟩ : ∃ t, takeP c p n = t := ⟨_, rfl⟩
  rw [ht]
  have HT := Lib.hid ht
  have ep : IntKind.i64.wrap ((p : Int) + 1) = ((p + 1 : Nat) : Int) := by rw [IntKind.wrap_i64]; omega
  have HB := Lib.hid hb
  clear ht hb
  by_cases h1 : n < 1
  · have HT2 : Hid (t = 0) := Lib.hid (by rw [← HT.out]; unfold takeP; rw [if_pos (Or.inl h1)])
    have g1 : decide (n < 1) = true := decide_eq_true h1
    go_enter Try.func8, Try.ntmps8
    go_wp2
    exact bodyPost_ret (v := .tuple #[.int .i64 t, .int .i64 ((p + 1 : Nat) : Int)]) (by simp [results, Try.results8, go_sem, HT2.out]) rfl ⟨rfl, Below.refl _ _⟩
  by_cases h2 : c = []
  · subst h2
    have HT2 : Hid (t = 0) := Lib.hid (by rw [← HT.out]; unfold takeP; rw [if_pos (Or.inr List.length_nil)])
    have g1 : decide (n < 1) = false := decide_eq_false h1
    go_enter Try.func8, Try.ntmps8
    go_wp2
    exact bodyPost_ret (v := .tuple #[.int .i64 t, .int .i64 ((p + 1 : Nat) : Int)]) (by simp [results, Try.results8, go_sem, HT2.out]) rfl ⟨rfl, Below.refl _ _⟩
  have hl0 : 0 < c.length := List.length_pos_iff.2 h2
  obtain ⟨L, hLe⟩ : ∃ L, c.length = L := ⟨_, rfl⟩
  rw [hLe] at hL hl0 hc1
  have HLE := Lib.hid hLe
  have g1 : decide (n < 1) = false := decide_eq_false h1
  have g2 : ((L : Int) == 0) = false := by simp; omega
  have g3 : ¬ (L : Int) = 0 := by omega
  have hlast : ¬ (n < 1 ∨ c.length = 0) := by omega
  have rd : ∀ k : Nat, k < L → ∃ ad, A = some ad ∧ w.cell? (ad.add k) = some (.int .u8 (c.getD k 0)) := fun k hk => byte_at (cap := cp) (n := c.length) R.out (by omega)
  have hn0 : ¬ n = 0 := by omega
  by_cases hpl : p < L
  · have hpl' : (p : Int) < (L : Int) := by omega
    obtain ⟨ad, rfl, c0⟩ := rd p hpl
    by_cases hn256 : 256 < n
    · have hn256' : decide (256 < n) = true := decide_eq_true hn256
      obtain ⟨m, hm⟩ : ∃ m, (p + 1) % L = m := ⟨_, rfl⟩
      have em : m < L := by rw [← hm]; exact Nat.mod_lt _ hl0
      obtain ⟨ad', hae, c1⟩ := rd m em
      cases hae
      have em0 : ((p : Int) + 1) % (L : Int) = (m : Int) := by rw [← hm]; simp
      have em1 : Int.tmod ((p : Int) + 1) (L : Int) = (m : Int) := by rw [Int.tmod_eq_emod_of_nonneg (by omega)]; exact em0
      have em2 : (m : Int) < (L : Int) := by omega
      obtain ⟨x0, hx0⟩ : ∃ x, c.getD p 0 = x := ⟨_, rfl⟩
      obtain ⟨x1, hx1⟩ : ∃ x, c.getD m 0 = x := ⟨_, rfl⟩
      have b0 := HB.out.get p
      have b1 := HB.out.get m
      rw [hx0] at c0 b0
      rw [hx1] at c1 b1
      have HT2 : Hid (t = (x0 * 251 + x1 * 7 + (p : Int)) % n) := Lib.hid (by rw [← HT.out]; unfold takeP; rw [if_neg hlast, HLE.out, if_pos hpl, if_pos hn256, hm, hx0, hx1])
      have cv0 : IntKind.i64.wrap x0 = x0 := by rw [IntKind.wrap_i64]; omega
      have cv1 : IntKind.i64.wrap x1 = x1 := by rw [IntKind.wrap_i64]; omega
      have w0 : IntKind.i64.wrap (x0 * 251) = x0 * 251 := by rw [IntKind.wrap_i64]; omega
      have w1 : IntKind.i64.wrap (x1 * 7) = x1 * 7 := by rw [IntKind.wrap_i64]; omega
      have w2 : IntKind.i64.wrap (x0 * 251 + x1 * 7) = x0 * 251 + x1 * 7 := by rw [IntKind.wrap_i64]; omega
      have w3 : IntKind.i64.wrap (x0 * 251 + x1 * 7 + (p : Int)) = x0 * 251 + x1 * 7 + (p : Int) := by rw [IntKind.wrap_i64]; omega
      have w4 : Int.tmod (x0 * 251 + x1 * 7 + (p : Int)) n = (x0 * 251 + x1 * 7 + (p : Int)) % n := Int.tmod_eq_emod_of_nonneg (by omega)
      have cb0 := BW.cell c0
      have cb1 := BW.cell c1
      clear hx0 hx1 c0 c1 b0 b1 rd h1 h2 hm
      go_enter Try.func8, Try.ntmps8
      go_upto_region 5 with fail
      (refine wp_region_below (by kernel_rfl) (by kernel_rfl) ?_; (repeat (first | (go_big_quiet_step (fail)) | ((with_reducible refine wpQuiet_step ?_); intro K hK; go_simp; first | ((with_reducible refine hK _ ?_); clear hK K) | (apply Exists.intro; refine ⟨fun _ => ?_, hK _ ?_⟩; (fail); clear hK K)))); (with_reducible refine wpQuiet_nil ?_); intro wq hw'; obtain ⟨⟨wy, hbq⟩, hw''⟩ := hw'; subst hw'')
      go_wp2
      exact bodyPost_ret (v := .tuple #[.int .i64 t, .int .i64 ((p + 1 : Nat) : Int)]) (by simp [results, Try.results8, go_sem, HT2.out]) rfl ⟨rfl, hbq⟩
    · have hn256' : decide (256 < n) = false := decide_eq_false hn256
      obtain ⟨x0, hx0⟩ : ∃ x, c.getD p 0 = x := ⟨_, rfl⟩
      have b0 := HB.out.get p
      rw [hx0] at c0 b0
      have HT2 : Hid (t = x0 % n) := Lib.hid (by rw [← HT.out]; unfold takeP; rw [if_neg hlast, HLE.out, if_pos hpl, if_neg hn256, hx0])
      have cv0 : IntKind.i64.wrap x0 = x0 := by rw [IntKind.wrap_i64]; omega
      have w4 : Int.tmod x0 n = x0 % n := Int.tmod_eq_emod_of_nonneg (by omega)
      clear hx0 b0 rd h1 h2
      go_enter Try.func8, Try.ntmps8
      go_wp2
      exact bodyPost_ret (v := .tuple #[.int .i64 t, .int .i64 ((p + 1 : Nat) : Int)]) (by simp [results, Try.results8, go_sem, HT2.out]) rfl ⟨rfl, Below.refl _ _⟩
  · have hpl' : ¬ (p : Int) < (L : Int) := by omega
    obtain ⟨m, hm⟩ : ∃ m, p % L = m := ⟨_, rfl⟩
    obtain ⟨m2, hm2⟩ : ∃ m, (p * 7 + 3) % L = m := ⟨_, rfl⟩
    obtain ⟨d, hd⟩ : ∃ m, p / L = m := ⟨_, rfl⟩
    have em : m < L := by rw [← hm]; exact Nat.mod_lt _ hl0
    have em' : m2 < L := by rw [← hm2]; exact Nat.mod_lt _ hl0
    have hdp : d ≤ p := by rw [← hd]; exact Nat.div_le_self _ _
    obtain ⟨ad, rfl, c0⟩ := rd m em
    obtain ⟨ad', hae, c1⟩ := rd m2 em'
    cases hae
    have em0 : (p : Int) % (L : Int) = (m : Int) := by rw [← hm]; simp
    have em1 : Int.tmod (p : Int) (L : Int) = (m : Int) := by rw [Int.tmod_eq_emod_of_nonneg (by omega)]; exact em0
    have em2 : (m : Int) < (L : Int) := by omega
    have en0 : ((p : Int) * 7 + 3) % (L : Int) = (m2 : Int) := by rw [← hm2]; simp
    have en1 : Int.tmod ((p : Int) * 7 + 3) (L : Int) = (m2 : Int) := by rw [Int.tmod_eq_emod_of_nonneg (by omega)]; exact en0
    have en2 : (m2 : Int) < (L : Int) := by omega
    have ed0 : (p : Int) / (L : Int) = (d : Int) := by rw [← hd]; simp
    have ed1 : Int.tdiv (p : Int) (L : Int) = (d : Int) := by rw [Int.tdiv_eq_ediv_of_nonneg (by omega)]; exact ed0
    have ew0 : IntKind.i64.wrap ((p : Int) * 7) = (p : Int) * 7 := by rw [IntKind.wrap_i64]; omega
    have ew1 : IntKind.i64.wrap ((p : Int) * 7 + 3) = (p : Int) * 7 + 3 := by rw [IntKind.wrap_i64]; omega
    have ew2 : IntKind.i64.wrap (d : Int) = (d : Int) := by rw [IntKind.wrap_i64]; omega
    have ew3 : IntKind.i64.wrap ((d : Int) * 53) = (d : Int) * 53 := by rw [IntKind.wrap_i64]; omega
    have ew4 : IntKind.i64.wrap ((p : Int) * 29) = (p : Int) * 29 := by rw [IntKind.wrap_i64]; omega
    obtain ⟨x0, hx0⟩ : ∃ x, c.getD m 0 = x := ⟨_, rfl⟩
    obtain ⟨x1, hx1⟩ : ∃ x, c.getD m2 0 = x := ⟨_, rfl⟩
    have b0 := HB.out.get m
    have b1 := HB.out.get m2
    rw [hx0] at c0 b0
    rw [hx1] at c1 b1
    obtain ⟨y, hy⟩ : ∃ y, x0 * 131 + x1 * 1117 + (p : Int) * 29 + (d : Int) * 53 = y := ⟨_, rfl⟩
    have hyb : 0 ≤ y ∧ y < 1000000000 := by omega
    have hxx := xor_nonneg y (y / 64) (by omega) (by omega) (by omega) (by omega)
    obtain ⟨z, hz⟩ : ∃ z, Go.bits .xor .i64 y (y / 64) = z := ⟨_, rfl⟩
    rw [hz] at hxx
    have HT2 : Hid (t = z % n) := Lib.hid (by
      rw [← HT.out]; unfold takeP; rw [if_neg hlast, HLE.out, if_neg hpl]
      have hf : farX c p = y := by unfold farX; rw [HLE.out, hm, hm2, hd, hx0, hx1]; exact hy
      rw [hf, hz])
    have cv0 : IntKind.i64.wrap x0 = x0 := by rw [IntKind.wrap_i64]; omega
    have cv1 : IntKind.i64.wrap x1 = x1 := by rw [IntKind.wrap_i64]; omega
    have w0 : IntKind.i64.wrap (x0 * 131) = x0 * 131 := by rw [IntKind.wrap_i64]; omega
    have w1 : IntKind.i64.wrap (x1 * 1117) = x1 * 1117 := by rw [IntKind.wrap_i64]; omega
    have w2 : IntKind.i64.wrap (x0 * 131 + x1 * 1117) = x0 * 131 + x1 * 1117 := by rw [IntKind.wrap_i64]; omega
    have w3 : IntKind.i64.wrap (x0 * 131 + x1 * 1117 + (p : Int) * 29) = x0 * 131 + x1 * 1117 + (p : Int) * 29 := by rw [IntKind.wrap_i64]; omega
    have w4 : IntKind.i64.wrap (x0 * 131 + x1 * 1117 + (p : Int) * 29 + (d : Int) * 53) = y := by rw [IntKind.wrap_i64]; omega
    have w5 : Int.tdiv y 64 = y / 64 := Int.tdiv_eq_ediv_of_nonneg (by omega)
    have w6 : IntKind.i64.wrap (y / 64) = y / 64 := by rw [IntKind.wrap_i64]; omega
    have w7 : Int.tmod z n = z % n := Int.tmod_eq_emod_of_nonneg (by omega)
    clear hx0 hx1 b0 b1 rd h1 h2 hm hm2 hd hy
    go_enter Try.func8, Try.ntmps8
    go_wp2
    exact bodyPost_ret (v := .tuple #[.int .i64 t, .int .i64 ((p + 1 : Nat) : Int)]) (by simp [results, Try.results8, go_sem, HT2.out]) rfl ⟨rfl, Below.refl _ _⟩

set_option maxRecDepth 100000 in
set_option maxHeartbeats 4000000 in
theorem size_any (v : Value) (c : List Int) (per lo hi : Nat) (w : World) (r : Rd bEnc 1 w v c) (hL : c.length ≤ 1048576) (hp : 0 < per) (hlo : lo ≤ 1000) (hhi : hi ≤ 1000) (hper : per ≤ 1000) :
    Calls Try.prog 29 #[v, .int .i64 per, .int .i64 lo, .int .i64 hi] w fun e w' => e = .returned (.int .i64 (sizeP c per lo hi)) ∧ Below w.heap.size w w' := by
  obtain ⟨A, cp, rfl, hc1, hc2⟩ := r.shape
  obtain ⟨t, ht⟩ : ∃ t, sizeP c per lo hi = t := ⟨_, rfl⟩
  obtain ⟨L, hLe⟩ : ∃ L, c.length = L := ⟨_, rfl⟩
  obtain ⟨d, hd⟩ : ∃ d, L / per = d := ⟨_, rfl⟩
  have hdp : d ≤ L := by rw [← hd]; exact Nat.div_le_self _ _
  have HT : Hid ((if hi < lo + d then hi else lo + d) = t) := Lib.hid (by rw [← ht]; unfold sizeP; rw [hLe, hd])
  rw [hLe] at hL hc1
  rw [ht, hLe]
  have g1 : ¬ (per : Int) = 0 := by omega
  have g2 : ((per : Int) == 0) = false := by simp; omega
  have ed0 : (L : Int) / (per : Int) = (d : Int) := by rw [← hd]; simp
  have ed1 : Int.tdiv (L : Int) (per : Int) = (d : Int) := by rw [Int.tdiv_eq_ediv_of_nonneg (by omega)]; exact ed0
  have ew2 : IntKind.i64.wrap (d : Int) = (d : Int) := by rw [IntKind.wrap_i64]; omega
  have ew3 : IntKind.i64.wrap ((lo : Int) + (d : Int)) = ((lo + d : Nat) : Int) := by rw [IntKind.wrap_i64]; omega
  clear r ht hd hLe
  by_cases hlt : hi < lo + d
  · have hlt' : decide ((hi : Int) < ((lo + d : Nat) : Int)) = true := by simp; omega
    have hlt2 : decide (hi < lo + d) = true := decide_eq_true hlt
    have HT2 : Hid (hi = t) := Lib.hid (by have := HT.out; rwa [if_pos hlt] at this)
    go_enter Try.func29, Try.ntmps29
    go_wp2
    all_goals
      first
        | (go_ret; exact ⟨ret_int (by rw [HT2.out]), Below.refl _ _⟩)
        | (exfalso; omega)
  · have hlt' : decide ((hi : Int) < ((lo + d : Nat) : Int)) = false := by simp; omega
    have HT2 : Hid (lo + d = t) := Lib.hid (by have := HT.out; rwa [if_neg hlt] at this)
    go_enter Try.func29, Try.ntmps29
    go_wp2
    all_goals
      first
        | (go_ret; exact ⟨ret_int (by rw [← HT2.out]; try simp), Below.refl _ _⟩)
        | (exfalso; omega)

theorem specDecode_b (l x : Int) (d : Int × Int × Int) (hd : dec l x = d) (w : World) (hx : 0 ≤ x ∧ x < 18446744073709551616) :
    Calls Try.prog 32 #[.int .i64 l, .int .u64 x] w fun e w' => e = .returned (.agg #[.int .i64 d.1, .int .i64 d.2.1, .int .i64 d.2.2]) ∧ Below w.heap.size w w' := by
  rw [← hd]; exact specDecode_any l x w hx.1 hx.2
set_option maxRecDepth 100000 in
set_option maxHeartbeats 4000000 in
theorem specEncode_any (l k o p : Int) (w : World) : Calls Try.prog 14 #[.int .i64 l, .agg #[.int .i64 k, .int .i64 o, .int .i64 p]] w fun e w' => e = .returned (.int .u64 (enc l (k, o, p))) ∧ Below w.heap.size w w' := by
  obtain ⟨t, ht⟩ : ∃ t, enc l (k, o, p) = t := ⟨_, rfl⟩
  rw [ht]
  have HT := Lib.hid ht
  clear ht
  by_cases hbad : (k ≠ 1 ∧ k ≠ 2 ∧ k ≠ 3) ∨ o < 0 ∨ o ≥ 65536 ∨ p < 0 ∨ p > 7
  · have HT2 : Hid (t = 0) := Lib.hid (by rw [← HT.out]; unfold enc; rw [if_pos hbad])
    have HB := Lib.hid hbad
    clear hbad
    go_enter Try.func14, Try.ntmps14
    go_upto_region 8 with fail
    all_goals
      first
        | (go_ret; exact ⟨ret_int HT2.out.symm, allocB (Below.refl _ _) _⟩)
        | (exfalso; have hh := HB.out; (try simp at *); omega)
  have hk : k = 1 ∨ k = 2 ∨ k = 3 := by omega
  have ho0 : ¬ o < 0 := by omega
  have ho1 : ¬ 65536 ≤ o := by omega
  have hp0 : ¬ p < 0 := by omega
  have hp1 : ¬ 7 < p := by omega
  have v0 : IntKind.u64.wrap p = p := by rw [BitsMath.u64_wrap]; omega
  have v1 : IntKind.u64.wrap o = o := by rw [BitsMath.u64_wrap]; omega
  have v2 : IntKind.u64.wrap (p * 4) = p * 4 := by rw [BitsMath.u64_wrap]; omega
  have v3 : IntKind.u64.wrap (1 + p * 4) = 1 + p * 4 := by rw [BitsMath.u64_wrap]; omega
  have v4 : IntKind.u64.wrap (o * 4096) = o * 4096 := by rw [BitsMath.u64_wrap]; omega
  have v5 : IntKind.u64.wrap (1 + p * 4 + o * 4096) = 1 + p * 4 + o * 4096 := by rw [BitsMath.u64_wrap]; omega
  have v6 : IntKind.u64.wrap (1 + p * 4 + o * 4096 + 2) = 1 + p * 4 + o * 4096 + 2 := by rw [BitsMath.u64_wrap]; omega
  obtain ⟨x, hx⟩ : ∃ x, 1 + p * 4 + o * 4096 + (if k = 2 then 0 else 2) = x := ⟨_, rfl⟩
  obtain ⟨q, hq⟩ : ∃ q, dec l x = q := ⟨_, rfl⟩
  have hxb : 0 ≤ x ∧ x < 18446744073709551616 := by rw [← hx]; split <;> omega
  have HT2 : Hid (t = if q.1 = k ∧ q.2.1 = o ∧ q.2.2 = p then x else 0) := Lib.hid (by
    rw [← HT.out]; unfold enc; rw [if_neg hbad]
    simp only
    rw [hx, hq]
    by_cases e : q = (k, o, p)
    · rw [if_pos e, e]; simp
    · rw [if_neg e, if_neg (fun h => e (by obtain ⟨q1, q2, q3⟩ := q; simp_all))])
  have HQ := Lib.hid hq
  have HXB := Lib.hid hxb
  clear hq hxb hbad
  rcases hk with rfl | rfl | rfl
  · have hx1 : 1 + p * 4 + o * 4096 + 2 = x := by simpa using hx
    clear hx
    go_enter Try.func14, Try.ntmps14
    go_upto_region 8 with fail
    refine ((St.start w).push _ _).gen (fun w1 S1 _ => ?_)
    have HS := Lib.hid S1
    have sT0 := S1
    obtain ⟨z0_0, z0_1, z0_2⟩ := sT0.c3
    have sT1 := sT0.tail
    have zB0_0 := BW.cell z0_0
    have zB0_1 := BW.cell z0_1
    have zB0_2 := BW.cell z0_2
    clear z0_0 z0_1 z0_2
    clear sT0 sT1
    clear S1
    (refine wp_region_below (by kernel_rfl) (by kernel_rfl) ?_; (repeat (first | (go_big_quiet_step (first | (go_at_call 32; exact BW.calls (specDecode_b l x q HQ.out _ HXB.out)) | (go_at_call 34; exact BW.calls (sameDesc_any _ _ _ _ _ _ _)))) | ((with_reducible refine wpQuiet_step ?_); intro K hK; go_simp; first | ((with_reducible refine hK _ ?_); clear hK K) | (apply Exists.intro; refine ⟨fun _ => ?_, hK _ ?_⟩; (first | (go_at_call 32; exact BW.calls (specDecode_b l x q HQ.out _ HXB.out)) | (go_at_call 34; exact BW.calls (sameDesc_any _ _ _ _ _ _ _))); clear hK K)))); (with_reducible refine wpQuiet_nil ?_); intro wq hw'; obtain ⟨⟨wy, hbq⟩, hw''⟩ := hw'; subst hw'')
    go_wp2
    all_goals
      go_ret
      refine ⟨ret_int ?_, thenB HS.out.b hbq⟩
      rw [HT2.out]
      split <;> simp_all
  · have hx1 : 1 + p * 4 + o * 4096 = x := by simpa using hx
    clear hx
    go_enter Try.func14, Try.ntmps14
    go_upto_region 8 with fail
    refine ((St.start w).push _ _).gen (fun w1 S1 _ => ?_)
    have HS := Lib.hid S1
    have sT0 := S1
    obtain ⟨z0_0, z0_1, z0_2⟩ := sT0.c3
    have sT1 := sT0.tail
    have zB0_0 := BW.cell z0_0
    have zB0_1 := BW.cell z0_1
    have zB0_2 := BW.cell z0_2
    clear z0_0 z0_1 z0_2
    clear sT0 sT1
    clear S1
    (refine wp_region_below (by kernel_rfl) (by kernel_rfl) ?_; (repeat (first | (go_big_quiet_step (first | (go_at_call 32; exact BW.calls (specDecode_b l x q HQ.out _ HXB.out)) | (go_at_call 34; exact BW.calls (sameDesc_any _ _ _ _ _ _ _)))) | ((with_reducible refine wpQuiet_step ?_); intro K hK; go_simp; first | ((with_reducible refine hK _ ?_); clear hK K) | (apply Exists.intro; refine ⟨fun _ => ?_, hK _ ?_⟩; (first | (go_at_call 32; exact BW.calls (specDecode_b l x q HQ.out _ HXB.out)) | (go_at_call 34; exact BW.calls (sameDesc_any _ _ _ _ _ _ _))); clear hK K)))); (with_reducible refine wpQuiet_nil ?_); intro wq hw'; obtain ⟨⟨wy, hbq⟩, hw''⟩ := hw'; subst hw'')
    go_wp2
    all_goals
      go_ret
      refine ⟨ret_int ?_, thenB HS.out.b hbq⟩
      rw [HT2.out]
      split <;> simp_all
  · have hx1 : 1 + p * 4 + o * 4096 + 2 = x := by simpa using hx
    clear hx
    go_enter Try.func14, Try.ntmps14
    go_upto_region 8 with fail
    refine ((St.start w).push _ _).gen (fun w1 S1 _ => ?_)
    have HS := Lib.hid S1
    have sT0 := S1
    obtain ⟨z0_0, z0_1, z0_2⟩ := sT0.c3
    have sT1 := sT0.tail
    have zB0_0 := BW.cell z0_0
    have zB0_1 := BW.cell z0_1
    have zB0_2 := BW.cell z0_2
    clear z0_0 z0_1 z0_2
    clear sT0 sT1
    clear S1
    (refine wp_region_below (by kernel_rfl) (by kernel_rfl) ?_; (repeat (first | (go_big_quiet_step (first | (go_at_call 32; exact BW.calls (specDecode_b l x q HQ.out _ HXB.out)) | (go_at_call 34; exact BW.calls (sameDesc_any _ _ _ _ _ _ _)))) | ((with_reducible refine wpQuiet_step ?_); intro K hK; go_simp; first | ((with_reducible refine hK _ ?_); clear hK K) | (apply Exists.intro; refine ⟨fun _ => ?_, hK _ ?_⟩; (first | (go_at_call 32; exact BW.calls (specDecode_b l x q HQ.out _ HXB.out)) | (go_at_call 34; exact BW.calls (sameDesc_any _ _ _ _ _ _ _))); clear hK K)))); (with_reducible refine wpQuiet_nil ?_); intro wq hw'; obtain ⟨⟨wy, hbq⟩, hw''⟩ := hw'; subst hw'')
    go_wp2
    all_goals
      go_ret
      refine ⟨ret_int ?_, thenB HS.out.b hbq⟩
      rw [HT2.out]
      split <;> simp_all
end Go.Proofs.Ythphfcheencbgaa.Draw
