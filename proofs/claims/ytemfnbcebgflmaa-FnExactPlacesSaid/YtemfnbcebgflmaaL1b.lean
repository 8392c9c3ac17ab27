/- Walks of small functions on words, pages and sizes of memories, of the reference and of the program. -/
import Derived.Test.YtemfnbcebgflmaaL1a
import Derived.BigQuiet
import Derived.Deep.QuietTactic
namespace Go.Proofs.Ytemfnbcebgflmaa.L1
open Go.RowKit Go.Proofs.Ytemfnbcebgflmaa.Base Go.Proofs.Ytemfnbcebgflmaa.DecMath Go.Proofs.Ytemfnbcebgflmaa.BitsMath
set_option linter.unusedVariables false
set_option linter.unusedSimpArgs false

set_option maxRecDepth 100000 in
set_option maxHeartbeats 4000000 in
theorem kindOf_any (l x : Int) (w : World) (hx : 0 ≤ x) (hx' : x < 18446744073709551616) :
    Calls Try.prog 58 #[.int .i64 l, .int .u64 x] w fun e w' => e = .returned (.int .i64 (dec l x).1) ∧ w = w' := by
  have m7 : Go.bits .and .u64 (x / 4) 7 = fieldV x 2 5 := by rw [f2]; exact and7 _ (by omega) (by omega)
  have mo : Go.bits .and .u64 (x / 4096) 65535 = fieldV x 12 28 := by rw [f12]; exact and65535 _ (by omega) (by omega)
  have m1 : Go.bits .and .u64 (x / 2) 1 = fieldV x 1 2 := by rw [f1]; exact and1 _ (by omega) (by omega)
  have m0 : Go.bits .and .u64 x 1 = fieldV x 0 1 := by rw [f0]; exact and1 _ hx hx'
  have mr := rest_zero x hx hx'
  have hb1 := fieldV_b x 1 2
  have hb0 := fieldV_b x 0 1
  have h12 := fieldV_b x 12 28
  have h2 := fieldV_b x 2 5
  generalize hr : Go.bits .andNot .u64 x 268431391 = r at mr
  have HD : Hid (dec l x = if l < 1 ∨ l > 3 then (4, 0, 0) else if fieldV x 0 1 = 0 then (0, 0, 0) else if r ≠ 0 then (4, 0, 0) else if l ≤ 2 ∧ fieldV x 1 2 = 1 ∧ fieldV x 2 5 = 0 then (1, fieldV x 12 28, 0) else if l = 2 ∧ fieldV x 1 2 = 0 ∧ fieldV x 2 5 > 0 ∧ fieldV x 12 28 % 16 = 0 then (2, fieldV x 12 28, fieldV x 2 5) else if l = 3 ∧ fieldV x 1 2 = 1 ∧ fieldV x 2 5 > 0 then (3, fieldV x 12 28, fieldV x 2 5) else (4, 0, 0)) := by
    rw [f0, f1, f12, f2]
    show dec l x = _
    unfold dec
    by_cases hz : r = 0
    · have := mr.mp hz
      simp [hz, this.1, this.2]
    · have h : (x / 32) % 128 ≠ 0 ∨ (x / 268435456) % 68719476736 ≠ 0 := by
        by_cases g : (x / 32) % 128 = 0
        · exact Or.inr fun g' => hz (mr.mpr ⟨g, g'⟩)
        · exact Or.inl g
      simp only [hz, h, ne_eq, not_false_eq_true, if_true]
  clear mr
  generalize dec l x = d at HD ⊢
  simp at h12 h2 hb0 hb1
  obtain ⟨h12, h12'⟩ := h12
  obtain ⟨h2, h2'⟩ := h2
  obtain ⟨hb0, hb0'⟩ := hb0
  obtain ⟨hb1, hb1'⟩ := hb1
  go_enter Try.func58, Try.ntmps58
  go_wp2
  all_goals
    go_ret
    refine ⟨ret_int ?_, rfl⟩
    have hd := HD.out
    clear HD m7 mo m1 m0 hr
    repeat (first
      | (rw [if_pos (by first | omega | (simp_all; done) | (simp_all; omega))] at hd)
      | (rw [if_neg (by first | omega | (simp_all; done) | (simp_all; omega))] at hd))
    rw [hd]

set_option maxRecDepth 100000 in
set_option maxHeartbeats 4000000 in
theorem implDecode_any (l x : Int) (w : World) (hx : 0 ≤ x) (hx' : x < 18446744073709551616) :
    Calls Try.prog 16 #[.int .i64 l, .int .u64 x] w fun e w' => e = .returned (.agg #[.int .i64 (dec l x).1, .int .i64 (dec l x).2.1, .int .i64 (dec l x).2.2]) ∧ Below w.heap.size w w' := by
  have m7 : Go.bits .and .u64 (x / 4) 7 = x / 4 % 8 := and7 _ (by omega) (by omega)
  have mo : Go.bits .and .u64 (x / 4096) 65535 = x / 4096 % 65536 := and65535 _ (by omega) (by omega)
  have hs : Hid (((dec l x).1 = 0 ∨ (dec l x).1 = 4) ∧ (dec l x).2 = (0, 0) ∨ (dec l x).1 ≠ 0 ∧ (dec l x).1 ≠ 4 ∧ (dec l x).2 = (x / 4096 % 65536, x / 4 % 8)) := by
    show _ ∨ _
    unfold dec
    repeat' split
    all_goals simp
    omega
  generalize hd : dec l x = d at hs
  go_enter Try.func16, Try.ntmps16
  go_wp2_with (go_at_call 58; refine (kindOf_any _ _ _ hx hx').mono ?_; rw [hd]; rintro e w' ⟨rfl, rfl⟩)
  all_goals
    refine bodyPost_ret (v := .agg #[.int .i64 d.1, .int .i64 d.2.1, .int .i64 d.2.2]) ?_ rfl ⟨rfl, ?_⟩
    · obtain ⟨k, o, p⟩ := d
      have h := hs.out
      clear hs hd
      simp only [Prod.mk.injEq] at h
      simp [results, Try.results16, go_sem]
      simp_all
    · repeat (first | exact Below.refl _ _ | refine Below.alloc ?_ (by simp) _)

theorem sameDesc_any (a b c a' b' c' : Int) (w : World) :
    Calls Try.prog 65 #[.agg #[.int .i64 a, .int .i64 b, .int .i64 c], .agg #[.int .i64 a', .int .i64 b', .int .i64 c']] w fun e w' => e = .returned (.bool (decide (a = a' ∧ b = b' ∧ c = c'))) ∧ Below w.heap.size w w' := by
  go_enter Try.func65, Try.ntmps65
  go_wp2
  all_goals (go_ret; exact ⟨ret_bool (by rw [Bool.eq_iff_iff]; simp_all; try omega), by repeat (first | exact Below.refl _ _ | refine Below.alloc ?_ (by simp) _)⟩)

theorem cover_any (l : Int) (w : World) : Calls Try.prog 131 #[.int .i64 l] w fun e w' => e = .returned (.int .i64 (cov l)) ∧ w = w' := by
  have hc : Hid (cov l = if l = 1 then 256 else if l = 2 then 16 else 1) := rfl
  generalize cov l = c at hc ⊢
  go_enter Try.func131, Try.ntmps131
  go_wp2
  all_goals (go_ret; exact ⟨ret_int (by rw [hc.out]; simp_all), rfl⟩)

theorem l1Covers_any (l : Int) (w : World) : Calls Try.prog 127 #[.int .i64 l] w fun e w' => e = .returned (.int .i64 (cov l)) ∧ w = w' := by
  have hc : Hid (cov l = if l = 1 then 256 else if l = 2 then 16 else 1) := rfl
  generalize cov l = c at hc ⊢
  go_enter Try.func127, Try.ntmps127
  go_wp2
  all_goals (go_ret; exact ⟨ret_int (by rw [hc.out]; simp_all), rfl⟩)

theorem pageOK_any (p : Int) (w : World) : Calls Try.prog 68 #[.int .i64 p] w fun e w' => e = .returned (.bool (decide (0 ≤ p ∧ p < 4096))) ∧ w = w' := by
  go_enter Try.func68, Try.ntmps68
  go_wp2
  all_goals (go_ret; exact ⟨ret_bool (by rw [Bool.eq_iff_iff]; simp_all; try omega), rfl⟩)

theorem l2PageOk_any (p : Int) (w : World) : Calls Try.prog 66 #[.int .i64 p] w fun e w' => e = .returned (.bool (decide (0 ≤ p ∧ p < 4096))) ∧ w = w' := by
  go_enter Try.func66, Try.ntmps66
  go_wp2
  all_goals (go_ret; exact ⟨ret_bool (by rw [Bool.eq_iff_iff]; simp_all; try omega), rfl⟩)

theorem index_any (l p : Int) (w : World) (hl : l = 1 ∨ l = 2 ∨ l = 3) (hp : 0 ≤ p) (hp' : p < 4096) : Calls Try.prog 123 #[.int .i64 l, .int .i64 p] w fun e w' => e = .returned (.int .i64 (idx l p)) ∧ w = w' := by
  have hc : Hid (idx l p = p / cov l % 16) := rfl
  have hv : Hid (cov l = 256 ∨ cov l = 16 ∨ cov l = 1) := by show _ ∨ _; rcases hl with rfl | rfl | rfl <;> simp [cov]
  generalize idx l p = i at hc ⊢
  generalize hcv : cov l = c at hc hv
  have h1 : 1 ≤ c := by rcases hv.out with h | h | h <;> omega
  have h2 : c ≤ 256 := by rcases hv.out with h | h | h <;> omega
  have h3 : 0 ≤ p / c := Int.ediv_nonneg hp (by omega)
  have h4 : p / c < 4096 := Int.lt_of_le_of_lt (Int.ediv_le_self _ hp) hp'
  go_enter Try.func123, Try.ntmps123
  go_wp2_with (go_at_call 131; refine (cover_any _ _).mono ?_; rw [hcv]; rintro e w' ⟨rfl, rfl⟩)
  go_ret
  exact ⟨ret_int (by rw [hc.out]), rfl⟩

theorem l2Index_any (l p : Int) (w : World) (hl : l = 1 ∨ l = 2 ∨ l = 3) (hp : 0 ≤ p) (hp' : p < 4096) : Calls Try.prog 122 #[.int .i64 p, .int .i64 l] w fun e w' => e = .returned (.int .i64 (idx l p)) ∧ w = w' := by
  have hc : Hid (idx l p = if l = 1 then p / 256 else if l = 2 then p / 16 % 16 else p % 16) := by
    show idx l p = _
    unfold idx cov
    rcases hl with rfl | rfl | rfl <;> simp; omega
  generalize idx l p = i at hc ⊢
  have HL := Lib.hid hl
  clear hl
  go_enter Try.func122, Try.ntmps122
  go_wp2
  all_goals (go_ret; exact ⟨ret_int (by rw [hc.out]; simp_all), rfl⟩)

/-- The number of frames of a valid memory, 0 of another. -/
def framesOf (n : Nat) : Int := if n % 16 = 0 ∧ 16 ≤ n ∧ n ≤ 8192 then (n / 16 : Nat) else 0

theorem l1Frames_any (A : Option Addr) (n c : Nat) (w : World) (hn : n ≤ c) (hc : c ≤ 9223372036854775807) :
    Calls Try.prog 71 #[.agg #[.slice A n c]] w fun e w' => e = .returned (.int .i64 (framesOf n)) ∧ Below w.heap.size w w' := by
  have HF : Hid (framesOf n = if n % 16 = 0 ∧ 16 ≤ n ∧ n ≤ 8192 then ((n / 16 : Nat) : Int) else 0) := rfl
  generalize framesOf n = f at HF ⊢
  go_enter Try.func71, Try.ntmps71
  go_wp2
  all_goals
    go_ret
    refine ⟨ret_int ?_, by repeat (first | exact Below.refl _ _ | refine Below.alloc ?_ (by simp) _)⟩
    rw [HF.out]
    first
      | (rw [if_pos (by simp_all; omega)]; try omega)
      | (rw [if_neg (by simp_all; try omega)])

theorem memOK_any (A : Option Addr) (n c : Nat) (w : World) (hn : n ≤ c) (hc : c ≤ 9223372036854775807) :
    Calls Try.prog 74 #[.agg #[.slice A n c]] w fun e w' => e = .returned (.bool (decide (n % 16 = 0 ∧ 16 ≤ n ∧ n ≤ 8192))) ∧ Below w.heap.size w w' := by
  go_enter Try.func74, Try.ntmps74
  go_wp2
  go_ways
  all_goals (go_ret; exact ⟨ret_bool (by rw [Bool.eq_iff_iff]; simp_all; try omega), by repeat (first | exact Below.refl _ _ | refine Below.alloc ?_ (by simp) _)⟩)

theorem frames_any (A : Option Addr) (n c : Nat) (w : World) (hn : n ≤ c) (hc : c ≤ 9223372036854775807) :
    Calls Try.prog 124 #[.agg #[.slice A n c]] w fun e w' => e = .returned (.int .i64 ((n / 16 : Nat) : Int)) ∧ Below w.heap.size w w' := by
  go_enter Try.func124, Try.ntmps124
  go_wp2
  all_goals (go_ret; exact ⟨ret_int (by simp), by repeat (first | exact Below.refl _ _ | refine Below.alloc ?_ (by simp) _)⟩)

end Go.Proofs.Ytemfnbcebgflmaa.L1
