/- Walks of the reference's l1Covers, l5Hits and l5Needs. -/
import Derived.Test.YtkdclihnmocepaaSpecAt
namespace Go.Proofs.Ytkdclihnmocepaa.Mmu
open Go.RowKit Go.Proofs.Ytkdclihnmocepaa.Base Go.Proofs.Ytkdclihnmocepaa.Kinds
set_option linter.unusedVariables false
set_option linter.unusedSimpArgs false

theorem infoHit : (Try.prog.info? 39).map (fun i => (i.zero, i.size, i.bytes)) = some (some (.agg #[.int .i64 0, .int .i64 0, .int .i64 0, .int .i64 0]), 4, 32) := by kernel_rfl
theorem specHit_b (v : Value) (l : List SSpan) (p : Int) (w : World) (r : Rd SSpan.enc 5 w v l) (hv : ValidS l) (hp : 0 ≤ p ∧ p < 4096) (h : SHit) (hh : atS l p = h) :
    Calls Try.prog 19 #[v, .int .i64 p] w fun e w' => e = .returned (.agg #[.int .i64 h.Kind, .int .i64 h.Out, .int .i64 h.Perm, .int .i64 h.Size]) ∧ Below w.heap.size w w' := by
  rw [← hh]; exact specHit_any v l p w r hv hp

theorem take_hits {l : List SSpan} {k : Nat} (hk : k < 4096) : (hitsS l).take k ++ [atS l (k : Int)] = (hitsS l).take (k + 1) := (take_snoc (hitsS_get l hk)).symm
set_option maxRecDepth 100000 in
set_option maxHeartbeats 4000000 in
theorem specHits_any (v : Value) (l : List SSpan) (w : World) (r : Rd SSpan.enc 5 w v l) (hv : ValidS l) :
    Calls Try.prog 11 #[v] w fun e w' => ∃ v', e = .returned v' ∧ Own SHit.enc 4 39 w.heap.size w' v' (hitsS l) ∧ Below w.heap.size w w' := by
  have R := Lib.hid r
  have HV := Lib.hid hv
  clear r hv
  have HLEN := Lib.hid (hitsS_len l)
  have HT : Hid (∀ k, k < 4096 → (hitsS l).take k ++ [atS l (k : Int)] = (hitsS l).take (k + 1)) := Lib.hid (fun k hk => take_hits hk)
  obtain ⟨H, hH⟩ : ∃ H, hitsS l = H := ⟨_, rfl⟩
  rw [hH] at HLEN HT ⊢
  clear hH
  go_enter Try.func11, Try.ntmps11
  go_wp2
  go_loopw [3, 4] (fun v i wr => ∃ (k : Nat) (A : Option Addr) (c : Nat), k ≤ 4096 ∧ v = .slice A k c ∧ i = .int .i64 k ∧ Hid (Own SHit.enc 4 39 w.heap.size wr v (H.take k)) ∧ Hid (Below w.heap.size w wr)) (fun _ i _ => 4096 - (intOf i).toNat)
  case atStart =>
    refine ⟨0, _, _, Nat.zero_le _, rfl, rfl, Lib.hid ?_, Lib.hid ((Below.refl _ _).alloc (Nat.le_refl _) _)⟩
    simpa using Own.made SHit.enc 4 39 (base := w.heap.size) w (Nat.le_refl _)
  case round =>
    obtain ⟨k, Av, cv, hk, rfl, rfl, HO, HB⟩ := hrel
    by_cases hlt : k < 4096
    · have hlt' : (k : Int) < 4096 := by omega
      obtain ⟨h, hh⟩ : ∃ h, atS l (k : Int) = h := ⟨_, rfl⟩
      have HH := Lib.hid hh
      clear hh
      go_wp2_with (first
        | (go_at_call 19; refine (specHit_b v l (k : Int) _ (R.out.below HB.out) HV.out ⟨by omega, by omega⟩ h HH.out).mono ?_; rintro e w2 ⟨rfl, hb2⟩; have HO2 := Lib.hid (HO.out.below hb2); have HB2 := Lib.hid (thenB HB.out hb2); have hzz := HB2.out.size; clear hb2)
        | (at_builtin; refine append1 39 4 32 32 (.agg #[.int .i64 0, .int .i64 0, .int .i64 0, .int .i64 0]) Try.underlying32 infoHit rfl (by decide) SHit.len SHit.one rfl (.tmp 10) (.tmp 14) rfl w.heap.size (.slice Av k cv) (H.take k) h _ rfl rfl rfl HO2.out (by rw [take_len (by have := HLEN.out; omega)]; omega) (by decide) hzz ?_))
      intro v1 wq ho1 hg1
      have HB3 := Lib.hid (Own.grown HO2.out HB2.out HB2.out.size hg1)
      have ho3 : Own SHit.enc 4 39 w.heap.size wq v1 (H.take (k + 1)) := by rw [← HT.out k hlt, HH.out]; exact ho1
      obtain ⟨Aq, cq, rfl⟩ : ∃ A c, v1 = .slice A (k + 1) c := by have := ho3.shape; rwa [take_len (by have := HLEN.out; omega)] at this
      have HO3 := Lib.hid ho3
      clear hg1 ho1 ho3
      go_wp2
      go_roundw
      case rel => exact ⟨k + 1, _, _, by omega, rfl, by go_num, HO3, HB3⟩
      case measure => simp [intOf]; omega
    · obtain rfl : k = 4096 := by omega
      go_wp2
      go_ret
      have := HO.out
      rw [List.take_of_length_le (by have := HLEN.out; omega)] at this
      exact ⟨_, rfl, this, HB.out⟩

/-- Is a table of the level needed for the pages from page on? -/
def needS (H : List SHit) (level : Int) (page : Nat) : Prop := ∃ (k : Nat) (h : SHit), k < (if level = 2 then 256 else 16) ∧ H[page + k]? = some h ∧ h.Kind = 1 ∧ (level = 2 ∨ h.Size = 1)
noncomputable instance (H : List SHit) (level : Int) (page : Nat) : Decidable (needS H level page) := Classical.propDecidable _

theorem covers3_any (l : Int) (w : World) : Calls Try.prog 23 #[.int .i64 l] w fun e w' => e = .returned (.int .i64 (if l = 1 then 256 else if l = 2 then 16 else 1)) ∧ w = w' := by
  go_enter Try.func23, Try.ntmps23
  go_wp2
  all_goals (go_ret; exact ⟨ret_int (by simp_all), rfl⟩)

set_option maxRecDepth 100000 in
set_option maxHeartbeats 4000000 in
theorem specNeeds_any (v : Value) (H : List SHit) (level : Int) (page : Nat) (w : World) (r : Rd SHit.enc 4 w v H) (hl : level = 2 ∨ level = 3) (hp : page + (if level = 2 then 256 else 16) ≤ H.length) (hn : H.length = 4096) :
    Calls Try.prog 18 #[v, .int .i64 level, .int .i64 page] w fun e w' => e = .returned (.bool (decide (needS H level page))) ∧ Below w.heap.size w w' := by
  obtain ⟨A, c, rfl, hc, hk⟩ := r.shape
  have R := Lib.hid r
  clear r
  obtain ⟨n, hn0⟩ : ∃ n : Nat, n = (if level = 2 then 256 else 16) := ⟨_, rfl⟩
  have HN : Hid (∀ d : Prop, (d ↔ ∃ (k : Nat) (h : SHit), k < n ∧ H[page + k]? = some h ∧ h.Kind = 1 ∧ (level = 2 ∨ h.Size = 1)) → ∀ b : Bool, (b = true ↔ d) → b = decide (needS H level page)) := Lib.hid (fun d hd b hb => by
    rw [Bool.eq_iff_iff, hb, hd, decide_eq_true_iff, hn0]; exact Iff.rfl)
  have hcov : (if level - 1 = 1 then (256 : Int) else if level - 1 = 2 then 16 else 1) = n := by
    rcases hl with e | e <;> subst e <;> simp [hn0]
  have HC := Lib.hid hcov
  rw [← hn0] at hp
  have hn256 : n ≤ 256 := by rw [hn0]; split <;> omega
  have ew : IntKind.i64.wrap (level - 1) = level - 1 := by rw [IntKind.wrap_i64]; omega
  have hl1 : (level == 1) = false := by simp; omega
  have hc4 : H.length ≤ 4096 := by omega
  have HL := Lib.hid hl
  clear hn0 hcov hl hn
  go_enter Try.func18, Try.ntmps18
  go_wp2
  go_loopw [7] (fun i wr => ∃ k : Nat, k ≤ n ∧ i = .int .i64 k ∧ Hid (∀ (j : Nat) h, j < k → H[page + j]? = some h → ¬ (h.Kind = 1 ∧ (level = 2 ∨ h.Size = 1))) ∧ Hid (Below w.heap.size w wr)) (fun i _ => n - (intOf i).toNat)
  case atStart => exact ⟨0, Nat.zero_le _, rfl, Lib.hid (fun j h hj => by omega), Lib.hid (Below.refl _ _)⟩
  case round =>
    obtain ⟨k, hkn, rfl, hall, HB⟩ := hrel
    by_cases hlt : k < n
    · have hlt' : (k : Int) < (n : Int) := by omega
      have e5 : IntKind.i64.wrap ((page : Int) + (k : Int)) = ((page + k : Nat) : Int) := by rw [IntKind.wrap_i64]; omega
      have hlt2 : ((page + k : Nat) : Int) < (H.length : Int) := by omega
      obtain ⟨ad, h, rfl, hx, q0, q1, q2, q3⟩ := SHit.at (k := page + k) (R.out.below HB.out) (by omega)
      have HX := Lib.hid hx
      clear hx
      go_upto_region 7 with (first | (go_at_call 23; refine (covers3_any (level - 1) _).mono ?_; rw [HC.out]; rintro e w2 ⟨rfl, rfl⟩))
      refine ((St.start wr).push _ _).gen (fun w1 S1 _ => ?_)
      have HB1 := Lib.hid (thenB HB.out S1.b)
      have sT0 := S1
      obtain ⟨z0_0, z0_1, z0_2, z0_3⟩ := sT0.c4
      have sT1 := sT0.tail
      clear sT0 sT1
      clear S1 q0 q1 q2 q3 HB
      go_wp2
      all_goals
        first
          | (go_ret
             refine ⟨ret_bool (HN.out True ?_ true (by simp)), HB1.out⟩
             exact ⟨fun _ => ⟨k, h, hlt, HX.out, by assumption, by first | (left; assumption) | (right; assumption) | (have := HL.out; right; simp_all; done)⟩, fun _ => trivial⟩)
          | (go_roundw
             case rel =>
               have this : ∃ j : Nat, j ≤ n ∧ Value.int .i64 ((k : Int) + 1) = .int .i64 j ∧ Hid (∀ (i : Nat) h, i < j → H[page + i]? = some h → ¬ (h.Kind = 1 ∧ (level = 2 ∨ h.Size = 1))) ∧ Hid (Below w.heap.size w w1) := by
                 refine ⟨k + 1, by omega, by simp, Lib.hid (fun j x hj hx => ?_), HB1⟩
                 rcases Nat.lt_or_ge j k with g | g
                 · exact hall.out j x g hx
                 · obtain rfl : j = k := by omega
                   obtain rfl : h = x := Option.some.inj (HX.out.symm.trans hx)
                   rintro ⟨a1, a2⟩
                   simp_all
               first | (simpa using this; done) | ((repeat apply Exists.intro); refine ⟨?_, rfl⟩; simpa using this)
             case measure => simp [intOf]; omega)
    · obtain rfl : k = n := by omega
      go_wp2_with (first | (go_at_call 23; refine (covers3_any (level - 1) _).mono ?_; rw [HC.out]; rintro e w2 ⟨rfl, rfl⟩))
      go_ret
      refine ⟨ret_bool (HN.out False ?_ false (by simp)), HB.out⟩
      exact ⟨fun h => h.elim, fun ⟨j, h, hj, hx, hh⟩ => hall.out j h hj hx hh⟩
end Go.Proofs.Ytkdclihnmocepaa.Mmu
