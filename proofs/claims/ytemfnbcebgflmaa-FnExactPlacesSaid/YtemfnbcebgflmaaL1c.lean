/- Walks of the functions that read a memory: a child of an entry, a page's walk. -/
import Derived.Test.YtemfnbcebgflmaaL1b
import Derived.Deep.RegionHeld3
namespace Go.Proofs.Ytemfnbcebgflmaa.L1
open Go.RowKit Go.Proofs.Ytemfnbcebgflmaa.Base Go.Proofs.Ytemfnbcebgflmaa.DecMath Go.Proofs.Ytemfnbcebgflmaa.BitsMath
set_option linter.unusedVariables false
set_option linter.unusedSimpArgs false

/-- Child of an entry: its frame, or -1. -/
def childP (n : Nat) (l x : Int) : Int := if (dec l x).1 = 1 ∧ (dec l x).2.1 < ((n / 16 : Nat) : Int) then (dec l x).2.1 else -1

set_option maxRecDepth 100000 in
set_option maxHeartbeats 4000000 in
theorem child_any (A : Option Addr) (n c : Nat) (l x : Int) (w : World) (hn : n ≤ c) (hc : c ≤ 9223372036854775807) (hx : 0 ≤ x) (hx' : x < 18446744073709551616) :
    Calls Try.prog 130 #[.agg #[.slice A n c], .int .i64 l, .int .u64 x] w fun e w' => e = .returned (.int .i64 (childP n l x)) ∧ Below w.heap.size w w' := by
  have HF : Hid (childP n l x = if (dec l x).1 = 1 ∧ (dec l x).2.1 < ((n / 16 : Nat) : Int) then (dec l x).2.1 else -1) := rfl
  have ho := dec_out l x
  generalize childP n l x = r at HF ⊢
  generalize hd : dec l x = d at HF ho
  obtain ⟨k, o, p⟩ := d
  have HD := Lib.hid hd
  clear hd
  simp only at ho
  obtain ⟨ho1, ho2, ho3, ho4⟩ := ho
  by_cases hk : k = 1
  · subst hk
    go_enter Try.func130, Try.ntmps130
    go_wp2_with (go_at_call 16; refine (implDecode_any _ _ _ hx hx').mono ?_; rw [HD.out]; rintro e w1 ⟨rfl, hb1⟩)
    have hz1 : w.heap.size < w1.heap.size := by have := hb1.size; simp at this; omega
    have hm : w1.cell? ⟨w.heap.size, 0, none⟩ = some (.slice A n c) := (hb1.cell (by simp)).trans (by go_simp)
    obtain ⟨w2, hw2⟩ : ∃ w2, w1.alloc (.cells #[.int .i64 1, .int .i64 o, .int .i64 p] 25) = w2 := ⟨_, rfl⟩
    have k0 : w2.cell? ⟨w1.heap.size, 0, none⟩ = some (.int .i64 1) := by rw [← hw2]; clear hw2; go_simp
    have k1 : w2.cell? ⟨w1.heap.size, 1, none⟩ = some (.int .i64 o) := by rw [← hw2]; clear hw2; go_simp
    have k2 : w2.cell? ⟨w.heap.size, 0, none⟩ = some (.slice A n c) := by rw [← hw2, World.cell?_alloc_lt _ _ _ hz1]; exact hm
    have hb2 : Below w.heap.size w w2 := by rw [← hw2]; exact (((Below.refl _ _).alloc (Nat.le_refl _) _).trans (hb1.mono (by simp))).alloc (by omega) _
    have hz2 : w1.heap.size < w2.heap.size := by rw [← hw2]; simp
    rw [hw2]
    clear hw2 hm hb1
    go_region_held3 (fun w' => w'.cell? ⟨w1.heap.size, 0, none⟩ = some (.int .i64 1) ∧ w'.cell? ⟨w1.heap.size, 1, none⟩ = some (.int .i64 o) ∧ w'.cell? ⟨w.heap.size, 0, none⟩ = some (.slice A n c)) (first | go_keep | exact ⟨(hb3.cell (by simpa using hz2)).trans k0, (hb3.cell (by simpa using hz2)).trans k1, (hb3.cell (by simp; omega)).trans k2⟩)
      (first | (go_at_call 124; refine (frames_any A n c _ hn hc).mono ?_; rintro e w3 ⟨rfl, hb3⟩))
    have q1 : w3.cell? ⟨w1.heap.size, 1, none⟩ = some (.int .i64 o) := (hb3.cell (by simpa using hz2)).trans k1
    go_wp2
    all_goals
      go_ret
      refine ⟨ret_int ?_, thenB hb2.drew hb3⟩
      rw [HF.out]
      first
        | (rw [if_pos (by simp_all)]; done)
        | (rw [if_neg (by simp_all)])
  · have HK := Lib.hid hk
    have hk' : (k == 1) = false := by simpa using hk
    clear hk
    go_enter Try.func130, Try.ntmps130
    go_wp2_with (go_at_call 16; refine (implDecode_any _ _ _ hx hx').mono ?_; rw [HD.out]; rintro e w1 ⟨rfl, hb1⟩)
    go_quiet (fail)
    go_wp2
    go_ret
    refine ⟨ret_int ?_, ?_⟩
    · rw [HF.out, if_neg (by have := HK.out; omega)]
    · exact below_drewN ((((Below.refl _ _).alloc (Nat.le_refl _) _).trans (hb1.mono (by simp))).alloc (by have := hb1.size; simp at this; omega) _) _
end Go.Proofs.Ytemfnbcebgflmaa.L1
