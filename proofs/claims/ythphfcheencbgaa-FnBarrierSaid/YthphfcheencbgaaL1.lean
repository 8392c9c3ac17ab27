/- Walks of the reference's and the program's functions on words: fields, Decode, Encode. Each answers as the numbers of DecMath say. Walks of small functions on words, pages and sizes of memories, of the reference and of the program. Walks of the functions that read a memory: a child of an entry, a page's walk. Walks of the reference's functions on entries of the caches. -/
import Derived.Test.YthphfcheencbgaaProg
import Derived.Test.YthphfcheencbgaaGround
import Derived.Laws.ShiftsVar
import Derived.Laws.ShiftsVarLaws
import Derived.BigQuiet
import Derived.Deep.QuietTactic
import Derived.Deep.RegionHeld3
import Derived.Test.YthphfcheencbgaaMachG
namespace Go.Proofs.Ythphfcheencbgaa.L1
open Go.RowKit Go.Proofs.Ythphfcheencbgaa.Base Go.Proofs.Ythphfcheencbgaa.DecMath Go.Proofs.Ythphfcheencbgaa.BitsMath
set_option linter.unusedVariables false
set_option linter.unusedSimpArgs false

theorem pow_pos (n : Nat) : (0 : Int) < 2 ^ n := by exact_mod_cast Nat.two_pow_pos n
theorem wrap_pow (n : Nat) (h : n < 64) : IntKind.u64.wrap (2 ^ n) = 2 ^ n := by
  have hp : (2 : Int) ^ n < 2 ^ 64 := by exact_mod_cast Nat.pow_lt_pow_right (by decide) h
  have := pow_pos n
  rw [u64_wrap]; omega

/-- The number in the bits lo .. hi-1. -/
def fieldV (x lo hi : Int) : Int := x / 2 ^ lo.toNat % 2 ^ (hi - lo).toNat
theorem fieldV_b (x lo hi : Int) : 0 ≤ fieldV x lo hi ∧ fieldV x lo hi < 2 ^ (hi - lo).toNat := by
  have := pow_pos (hi - lo).toNat
  exact ⟨Int.emod_nonneg _ (by omega), Int.emod_lt_of_pos _ this⟩
theorem f0 (x : Int) : fieldV x 0 1 = x % 2 := by simp [fieldV]
theorem f1 (x : Int) : fieldV x 1 2 = x / 2 % 2 := by simp [fieldV]
theorem f5 (x : Int) : fieldV x 5 12 = x / 32 % 128 := by simp [fieldV]
theorem f28 (x : Int) : fieldV x 28 64 = x / 268435456 % 68719476736 := by simp [fieldV]
theorem f12 (x : Int) : fieldV x 12 28 = x / 4096 % 65536 := by simp [fieldV]
theorem f2 (x : Int) : fieldV x 2 5 = x / 4 % 8 := by simp [fieldV]

set_option maxRecDepth 100000 in
set_option maxHeartbeats 1000000 in
theorem l1Field_any (x lo hi : Int) (w : World) (h0 : 0 ≤ lo) (h1 : lo < hi) (h2 : hi ≤ 64) (h3 : hi - lo < 64) (hx : 0 ≤ x) :
    Calls Try.prog 53 #[.int .u64 x, .int .i64 lo, .int .i64 hi] w fun e w' => e = .returned (.int .u64 (fieldV x lo hi)) ∧ w = w' := by
  have hp := pow_pos (hi - lo).toNat
  have HW := Lib.hid (wrap_pow (hi - lo).toNat (by omega))
  go_enter Try.func53, Try.ntmps53
  go_wp2
  · have h : IntKind.u64.wrap (2 ^ (hi - lo).toNat) = 0 := by assumption
    rw [HW.out] at h; omega
  · go_ret
    refine ⟨ret_int ?_, rfl⟩
    rw [HW.out, Int.tmod_eq_emod_of_nonneg (Int.ediv_nonneg hx (Int.le_of_lt (pow_pos _)))]
    rfl

theorem l1Bit_any (x b : Int) (w : World) (h0 : 0 ≤ b) (h1 : b < 64) (hx : 0 ≤ x) :
    Calls Try.prog 38 #[.int .u64 x, .int .i64 b] w fun e w' => e = .returned (.int .i64 (fieldV x b (b + 1))) ∧ w = w' := by
  have hr0 := (fieldV_b x b (b + 1)).1
  have hr1 : fieldV x b (b + 1) < 2 := by have := (fieldV_b x b (b + 1)).2; rw [show b + 1 - b = 1 by omega] at this; simpa using this
  go_enter Try.func38, Try.ntmps38
  go_wp2_with (go_at_call 53; refine (l1Field_any _ _ _ _ h0 (by omega) (by omega) (by omega) hx).mono ?_; rintro e w' ⟨rfl, rfl⟩)
  go_ret
  exact ⟨rfl, rfl⟩

set_option maxRecDepth 100000 in
set_option maxHeartbeats 4000000 in
theorem specDecode_any (l x : Int) (w : World) (hx : 0 ≤ x) (hx' : x < 18446744073709551616) :
    Calls Try.prog 32 #[.int .i64 l, .int .u64 x] w fun e w' => e = .returned (.agg #[.int .i64 (dec l x).1, .int .i64 (dec l x).2.1, .int .i64 (dec l x).2.2]) ∧ Below w.heap.size w w' := by
  have hb1 := fieldV_b x 1 2
  have hb0 := fieldV_b x 0 1
  have h5 := (fieldV_b x 5 12).1
  have h28 := (fieldV_b x 28 64).1
  have h12 := fieldV_b x 12 28
  have h2 := fieldV_b x 2 5
  have HD : Hid (dec l x = if l < 1 ∨ l > 3 then (4, 0, 0) else if fieldV x 0 1 = 0 then (0, 0, 0) else if fieldV x 5 12 ≠ 0 ∨ fieldV x 28 64 ≠ 0 then (4, 0, 0) else if l ≤ 2 ∧ fieldV x 1 2 = 1 ∧ fieldV x 2 5 = 0 then (1, fieldV x 12 28, 0) else if l = 2 ∧ fieldV x 1 2 = 0 ∧ fieldV x 2 5 > 0 ∧ fieldV x 12 28 % 16 = 0 then (2, fieldV x 12 28, fieldV x 2 5) else if l = 3 ∧ fieldV x 1 2 = 1 ∧ fieldV x 2 5 > 0 then (3, fieldV x 12 28, fieldV x 2 5) else (4, 0, 0)) := by
    rw [f0, f1, f5, f28, f12, f2]; rfl
  generalize dec l x = d at HD ⊢
  simp at h12 h2 hb0 hb1
  obtain ⟨h12, h12'⟩ := h12
  obtain ⟨h2, h2'⟩ := h2
  obtain ⟨hb0, hb0'⟩ := hb0
  obtain ⟨hb1, hb1'⟩ := hb1
  go_enter Try.func32, Try.ntmps32
  (go_wp2_with (first | (go_at_call 38; refine (l1Bit_any _ _ _ (by decide) (by decide) hx).mono ?_; rintro e w' ⟨rfl, rfl⟩) | (go_at_call 53; refine (l1Field_any _ _ _ _ (by decide) (by decide) (by decide) (by decide) hx).mono ?_; rintro e w' ⟨rfl, rfl⟩)))
  all_goals
    refine bodyPost_ret (v := .agg #[.int .i64 d.1, .int .i64 d.2.1, .int .i64 d.2.2]) ?_ rfl ⟨rfl, ?_⟩
    · have hd := HD.out
      clear HD
      simp [results, Try.results32, go_sem]
      repeat (first
        | (rw [if_pos (by first | omega | (simp_all; done) | (simp_all; omega))] at hd)
        | (rw [if_neg (by first | omega | (simp_all; done) | (simp_all; omega))] at hd))
      rw [hd]
      simp
    · repeat (first | exact Below.refl _ _ | refine Below.alloc ?_ (by simp) _)
end Go.Proofs.Ythphfcheencbgaa.L1

namespace Go.Proofs.Ythphfcheencbgaa.L1
open Go.RowKit Go.Proofs.Ythphfcheencbgaa.Base Go.Proofs.Ythphfcheencbgaa.DecMath Go.Proofs.Ythphfcheencbgaa.BitsMath
set_option linter.unusedVariables false
set_option linter.unusedSimpArgs false

set_option maxRecDepth 100000 in
set_option maxHeartbeats 4000000 in
theorem kindOf_any (l x : Int) (w : World) (hx : 0 ≤ x) (hx' : x < 18446744073709551616) :
    Calls Try.prog 85 #[.int .i64 l, .int .u64 x] w fun e w' => e = .returned (.int .i64 (dec l x).1) ∧ w = w' := by
  have m7 : Go.bits .and .u64 (x / 4) 7 = fieldV x 2 5 := by rw [f2]; exact and7 _ (by omega) (by omega)
  have mo : Go.bits .and .u64 (x / 4096) 65535 = fieldV x 12 28 := by rw [f12]; exact and65535 _ (by omega) (by omega)
  have m1 : Go.bits .and .u64 (x / 2) 1 = fieldV x 1 2 := by rw [f1]; exact and1 _ (by omega) (by omega)
  have m0 : Go.bits .and .u64 x 1 = fieldV x 0 1 := by rw [f0]; exact and1 _ hx hx'
  have mr := rest_zero x hx hx'
  have hb1 := fieldV_b x 1 2
  have hb0 := fieldV_b x 0 1
  have h12 := fieldV_b x 12 28
  have h2 := fieldV_b x 2 5
  generalize hr : Go.bits .andNot .u64 x 268431391 = r at mr
  have HD : Hid (dec l x = if l < 1 ∨ l > 3 then (4, 0, 0) else if fieldV x 0 1 = 0 then (0, 0, 0) else if r ≠ 0 then (4, 0, 0) else if l ≤ 2 ∧ fieldV x 1 2 = 1 ∧ fieldV x 2 5 = 0 then (1, fieldV x 12 28, 0) else if l = 2 ∧ fieldV x 1 2 = 0 ∧ fieldV x 2 5 > 0 ∧ fieldV x 12 28 % 16 = 0 then (2, fieldV x 12 28, fieldV x 2 5) else if l = 3 ∧ fieldV x 1 2 = 1 ∧ fieldV x 2 5 > 0 then (3, fieldV x 12 28, fieldV x 2 5) else (4, 0, 0)) := by
    rw [f0, f1, f12, f2]
    show dec l x = _
    unfold dec
    by_cases hz : r = 0
    · have := mr.mp hz
      simp [hz, this.1, this.2]
    · have h : (x / 32) % 128 ≠ 0 ∨ (x / 268435456) % 68719476736 ≠ 0 := by
        by_cases g : (x / 32) % 128 = 0
        · exact Or.inr fun g' => hz (mr.mpr ⟨g, g'⟩)
        · exact Or.inl g
      simp only [hz, h, ne_eq, not_false_eq_true, if_true]
  clear mr
  generalize dec l x = d at HD ⊢
  simp at h12 h2 hb0 hb1
  obtain ⟨h12, h12'⟩ := h12
  obtain ⟨h2, h2'⟩ := h2
  obtain ⟨hb0, hb0'⟩ := hb0
  obtain ⟨hb1, hb1'⟩ := hb1
  go_enter Try.func85, Try.ntmps85
  go_wp2
  all_goals
    go_ret
    refine ⟨ret_int ?_, rfl⟩
    have hd := HD.out
    clear HD m7 mo m1 m0 hr
    repeat (first
      | (rw [if_pos (by first | omega | (simp_all; done) | (simp_all; omega))] at hd)
      | (rw [if_neg (by first | omega | (simp_all; done) | (simp_all; omega))] at hd))
    rw [hd]

set_option maxRecDepth 100000 in
set_option maxHeartbeats 4000000 in
theorem implDecode_any (l x : Int) (w : World) (hx : 0 ≤ x) (hx' : x < 18446744073709551616) :
    Calls Try.prog 84 #[.int .i64 l, .int .u64 x] w fun e w' => e = .returned (.agg #[.int .i64 (dec l x).1, .int .i64 (dec l x).2.1, .int .i64 (dec l x).2.2]) ∧ Below w.heap.size w w' := by
  have m7 : Go.bits .and .u64 (x / 4) 7 = x / 4 % 8 := and7 _ (by omega) (by omega)
  have mo : Go.bits .and .u64 (x / 4096) 65535 = x / 4096 % 65536 := and65535 _ (by omega) (by omega)
  have hs : Hid (((dec l x).1 = 0 ∨ (dec l x).1 = 4) ∧ (dec l x).2 = (0, 0) ∨ (dec l x).1 ≠ 0 ∧ (dec l x).1 ≠ 4 ∧ (dec l x).2 = (x / 4096 % 65536, x / 4 % 8)) := by
    show _ ∨ _
    unfold dec
    repeat' split
    all_goals simp
    omega
  generalize hd : dec l x = d at hs
  go_enter Try.func84, Try.ntmps84
  go_wp2_with (go_at_call 85; refine (kindOf_any _ _ _ hx hx').mono ?_; rw [hd]; rintro e w' ⟨rfl, rfl⟩)
  all_goals
    refine bodyPost_ret (v := .agg #[.int .i64 d.1, .int .i64 d.2.1, .int .i64 d.2.2]) ?_ rfl ⟨rfl, ?_⟩
    · obtain ⟨k, o, p⟩ := d
      have h := hs.out
      clear hs hd
      simp only [Prod.mk.injEq] at h
      simp [results, Try.results84, go_sem]
      simp_all
    · repeat (first | exact Below.refl _ _ | refine Below.alloc ?_ (by simp) _)

theorem sameDesc_any (a b c a' b' c' : Int) (w : World) :
    Calls Try.prog 34 #[.agg #[.int .i64 a, .int .i64 b, .int .i64 c], .agg #[.int .i64 a', .int .i64 b', .int .i64 c']] w fun e w' => e = .returned (.bool (decide (a = a' ∧ b = b' ∧ c = c'))) ∧ Below w.heap.size w w' := by
  go_enter Try.func34, Try.ntmps34
  go_wp2
  all_goals (go_ret; exact ⟨ret_bool (by rw [Bool.eq_iff_iff]; simp_all; try omega), by repeat (first | exact Below.refl _ _ | refine Below.alloc ?_ (by simp) _)⟩)

theorem cover_any (l : Int) (w : World) : Calls Try.prog 43 #[.int .i64 l] w fun e w' => e = .returned (.int .i64 (cov l)) ∧ w = w' := by
  have hc : Hid (cov l = if l = 1 then 256 else if l = 2 then 16 else 1) := rfl
  generalize cov l = c at hc ⊢
  go_enter Try.func43, Try.ntmps43
  go_wp2
  all_goals (go_ret; exact ⟨ret_int (by rw [hc.out]; simp_all), rfl⟩)

theorem l1Covers_any (l : Int) (w : World) : Calls Try.prog 22 #[.int .i64 l] w fun e w' => e = .returned (.int .i64 (cov l)) ∧ w = w' := by
  have hc : Hid (cov l = if l = 1 then 256 else if l = 2 then 16 else 1) := rfl
  generalize cov l = c at hc ⊢
  go_enter Try.func22, Try.ntmps22
  go_wp2
  all_goals (go_ret; exact ⟨ret_int (by rw [hc.out]; simp_all), rfl⟩)

theorem pageOK_any (p : Int) (w : World) : Calls Try.prog 97 #[.int .i64 p] w fun e w' => e = .returned (.bool (decide (0 ≤ p ∧ p < 4096))) ∧ w = w' := by
  go_enter Try.func97, Try.ntmps97
  go_wp2
  all_goals (go_ret; exact ⟨ret_bool (by rw [Bool.eq_iff_iff]; simp_all; try omega), rfl⟩)

theorem l2PageOk_any (p : Int) (w : World) : Calls Try.prog 54 #[.int .i64 p] w fun e w' => e = .returned (.bool (decide (0 ≤ p ∧ p < 4096))) ∧ w = w' := by
  go_enter Try.func54, Try.ntmps54
  go_wp2
  all_goals (go_ret; exact ⟨ret_bool (by rw [Bool.eq_iff_iff]; simp_all; try omega), rfl⟩)

theorem l2Index_any (l p : Int) (w : World) (hl : l = 1 ∨ l = 2 ∨ l = 3) (hp : 0 ≤ p) (hp' : p < 4096) : Calls Try.prog 33 #[.int .i64 p, .int .i64 l] w fun e w' => e = .returned (.int .i64 (idx l p)) ∧ w = w' := by
  have hc : Hid (idx l p = if l = 1 then p / 256 else if l = 2 then p / 16 % 16 else p % 16) := by
    show idx l p = _
    unfold idx cov
    rcases hl with rfl | rfl | rfl <;> simp; omega
  generalize idx l p = i at hc ⊢
  have HL := Lib.hid hl
  clear hl
  go_enter Try.func33, Try.ntmps33
  go_wp2
  all_goals (go_ret; exact ⟨ret_int (by rw [hc.out]; simp_all), rfl⟩)

/-- The number of frames of a valid memory, 0 of another. -/
def framesOf (n : Nat) : Int := if n % 16 = 0 ∧ 16 ≤ n ∧ n ≤ 8192 then (n / 16 : Nat) else 0

theorem l1Frames_any (A : Option Addr) (n c : Nat) (w : World) (hn : n ≤ c) (hc : c ≤ 9223372036854775807) :
    Calls Try.prog 11 #[.agg #[.slice A n c]] w fun e w' => e = .returned (.int .i64 (framesOf n)) ∧ Below w.heap.size w w' := by
  have HF : Hid (framesOf n = if n % 16 = 0 ∧ 16 ≤ n ∧ n ≤ 8192 then ((n / 16 : Nat) : Int) else 0) := rfl
  generalize framesOf n = f at HF ⊢
  go_enter Try.func11, Try.ntmps11
  go_wp2
  all_goals
    go_ret
    refine ⟨ret_int ?_, by repeat (first | exact Below.refl _ _ | refine Below.alloc ?_ (by simp) _)⟩
    rw [HF.out]
    first
      | (rw [if_pos (by simp_all; omega)]; try omega)
      | (rw [if_neg (by simp_all; try omega)])

theorem memOK_any (A : Option Addr) (n c : Nat) (w : World) (hn : n ≤ c) (hc : c ≤ 9223372036854775807) :
    Calls Try.prog 42 #[.agg #[.slice A n c]] w fun e w' => e = .returned (.bool (decide (n % 16 = 0 ∧ 16 ≤ n ∧ n ≤ 8192))) ∧ Below w.heap.size w w' := by
  go_enter Try.func42, Try.ntmps42
  go_wp2
  go_ways
  all_goals (go_ret; exact ⟨ret_bool (by rw [Bool.eq_iff_iff]; simp_all; try omega), by repeat (first | exact Below.refl _ _ | refine Below.alloc ?_ (by simp) _)⟩)

theorem frames_any (A : Option Addr) (n c : Nat) (w : World) (hn : n ≤ c) (hc : c ≤ 9223372036854775807) :
    Calls Try.prog 44 #[.agg #[.slice A n c]] w fun e w' => e = .returned (.int .i64 ((n / 16 : Nat) : Int)) ∧ Below w.heap.size w w' := by
  go_enter Try.func44, Try.ntmps44
  go_wp2
  all_goals (go_ret; exact ⟨ret_int (by simp), by repeat (first | exact Below.refl _ _ | refine Below.alloc ?_ (by simp) _)⟩)

end Go.Proofs.Ythphfcheencbgaa.L1

namespace Go.Proofs.Ythphfcheencbgaa.L1
open Go.RowKit Go.Proofs.Ythphfcheencbgaa.Base Go.Proofs.Ythphfcheencbgaa.DecMath Go.Proofs.Ythphfcheencbgaa.BitsMath
set_option linter.unusedVariables false
set_option linter.unusedSimpArgs false

/-- Child of an entry: its frame, or -1. -/
def childP (n : Nat) (l x : Int) : Int := if (dec l x).1 = 1 ∧ (dec l x).2.1 < ((n / 16 : Nat) : Int) then (dec l x).2.1 else -1

set_option maxRecDepth 100000 in
set_option maxHeartbeats 4000000 in
theorem child_any (A : Option Addr) (n c : Nat) (l x : Int) (w : World) (hn : n ≤ c) (hc : c ≤ 9223372036854775807) (hx : 0 ≤ x) (hx' : x < 18446744073709551616) :
    Calls Try.prog 83 #[.agg #[.slice A n c], .int .i64 l, .int .u64 x] w fun e w' => e = .returned (.int .i64 (childP n l x)) ∧ Below w.heap.size w w' := by
  have HF : Hid (childP n l x = if (dec l x).1 = 1 ∧ (dec l x).2.1 < ((n / 16 : Nat) : Int) then (dec l x).2.1 else -1) := rfl
  have ho := dec_out l x
  generalize childP n l x = r at HF ⊢
  generalize hd : dec l x = d at HF ho
  obtain ⟨k, o, p⟩ := d
  have HD := Lib.hid hd
  clear hd
  simp only at ho
  obtain ⟨ho1, ho2, ho3, ho4⟩ := ho
  by_cases hk : k = 1
  · subst hk
    go_enter Try.func83, Try.ntmps83
    go_wp2_with (go_at_call 84; refine (implDecode_any _ _ _ hx hx').mono ?_; rw [HD.out]; rintro e w1 ⟨rfl, hb1⟩)
    have hz1 : w.heap.size < w1.heap.size := by have := hb1.size; simp at this; omega
    have hm : w1.cell? ⟨w.heap.size, 0, none⟩ = some (.slice A n c) := (hb1.cell (by simp)).trans (by go_simp)
    obtain ⟨w2, hw2⟩ : ∃ w2, w1.alloc (.cells #[.int .i64 1, .int .i64 o, .int .i64 p] 54) = w2 := ⟨_, rfl⟩
    have k0 : w2.cell? ⟨w1.heap.size, 0, none⟩ = some (.int .i64 1) := by rw [← hw2]; clear hw2; go_simp
    have k1 : w2.cell? ⟨w1.heap.size, 1, none⟩ = some (.int .i64 o) := by rw [← hw2]; clear hw2; go_simp
    have k2 : w2.cell? ⟨w.heap.size, 0, none⟩ = some (.slice A n c) := by rw [← hw2, World.cell?_alloc_lt _ _ _ hz1]; exact hm
    have hb2 : Below w.heap.size w w2 := by rw [← hw2]; exact (((Below.refl _ _).alloc (Nat.le_refl _) _).trans (hb1.mono (by simp))).alloc (by omega) _
    have hz2 : w1.heap.size < w2.heap.size := by rw [← hw2]; simp
    rw [hw2]
    clear hw2 hm hb1
    go_region_held3 (fun w' => w'.cell? ⟨w1.heap.size, 0, none⟩ = some (.int .i64 1) ∧ w'.cell? ⟨w1.heap.size, 1, none⟩ = some (.int .i64 o) ∧ w'.cell? ⟨w.heap.size, 0, none⟩ = some (.slice A n c)) (first | go_keep | exact ⟨(hb3.cell (by simpa using hz2)).trans k0, (hb3.cell (by simpa using hz2)).trans k1, (hb3.cell (by simp; omega)).trans k2⟩)
      (first | (go_at_call 44; refine (frames_any A n c _ hn hc).mono ?_; rintro e w3 ⟨rfl, hb3⟩))
    have q1 : w3.cell? ⟨w1.heap.size, 1, none⟩ = some (.int .i64 o) := (hb3.cell (by simpa using hz2)).trans k1
    go_wp2
    all_goals
      go_ret
      refine ⟨ret_int ?_, thenB hb2.drew hb3⟩
      rw [HF.out]
      first
        | (rw [if_pos (by simp_all)]; done)
        | (rw [if_neg (by simp_all)])
  · have HK := Lib.hid hk
    have hk' : (k == 1) = false := by simpa using hk
    clear hk
    go_enter Try.func83, Try.ntmps83
    go_wp2_with (go_at_call 84; refine (implDecode_any _ _ _ hx hx').mono ?_; rw [HD.out]; rintro e w1 ⟨rfl, hb1⟩)
    go_quiet (fail)
    go_wp2
    go_ret
    refine ⟨ret_int ?_, ?_⟩
    · rw [HF.out, if_neg (by have := HK.out; omega)]
    · exact below_drewN ((((Below.refl _ _).alloc (Nat.le_refl _) _).trans (hb1.mono (by simp))).alloc (by have := hb1.size; simp at this; omega) _) _
end Go.Proofs.Ythphfcheencbgaa.L1

namespace Go.Proofs.Ythphfcheencbgaa.Mmu
open Go.RowKit Go.Proofs.Ythphfcheencbgaa.Base Go.Proofs.Ythphfcheencbgaa.Kinds Go.Proofs.Ythphfcheencbgaa.DecMath Go.Proofs.Ythphfcheencbgaa.L1
set_option linter.unusedVariables false
set_option linter.unusedSimpArgs false

theorem pageOk_b (p : Int) (b : Bool) (h : decide (0 ≤ p ∧ p < 4096) = b) (w : World) : Calls Try.prog 54 #[.int .i64 p] w fun e w' => e = .returned (.bool b) ∧ w' = w :=
  (l2PageOk_any p w).mono (by rintro e w' ⟨rfl, rfl⟩; exact ⟨by rw [h], rfl⟩)
theorem covers_b (l c : Int) (h : cov l = c) (w : World) : Calls Try.prog 22 #[.int .i64 l] w fun e w' => e = .returned (.int .i64 c) ∧ w' = w :=
  (l1Covers_any l w).mono (by rintro e w' ⟨rfl, rfl⟩; exact ⟨by rw [h], rfl⟩)

end Go.Proofs.Ythphfcheencbgaa.Mmu
