/- Walks of the reference's l5Wanted and TablesNeeded. -/
import Derived.Test.YtkdclihnmocepaaSpecHits
namespace Go.Proofs.Ytkdclihnmocepaa.Mmu
open Go.RowKit Go.Proofs.Ytkdclihnmocepaa.Base Go.Proofs.Ytkdclihnmocepaa.Kinds
set_option linter.unusedVariables false
set_option linter.unusedSimpArgs false

/-- The tables of one group of sixteen pages. -/
noncomputable def grpS (H : List SHit) (g : Nat) : List SPlace :=
  (if g % 16 = 0 ∧ needS H 2 (16 * g) then [⟨-1, 2, ((16 * g : Nat) : Int)⟩] else []) ++ (if needS H 3 (16 * g) then [⟨-1, 3, ((16 * g : Nat) : Int)⟩] else [])
/-- The tables that are needed, of the first k groups. -/
noncomputable def wantTo (H : List SHit) (k : Nat) : List SPlace := ⟨-1, 1, 0⟩ :: (List.range k).flatMap (grpS H)
theorem wantTo_step (H : List SHit) (k : Nat) : wantTo H (k + 1) = wantTo H k ++ grpS H k := by
  unfold wantTo; rw [List.range_succ, List.flatMap_append]; simp
theorem grpS_len (H : List SHit) (g : Nat) : (grpS H g).length ≤ 2 := by
  unfold grpS
  rw [List.length_append]
  split <;> split <;> simp
theorem wantTo_len (H : List SHit) (k : Nat) : (wantTo H k).length ≤ 1 + 2 * k := by
  induction k with
  | zero => simp [wantTo]
  | succ k ih => rw [wantTo_step, List.length_append]; have := grpS_len H k; omega

theorem infoPl : (Try.prog.info? 50).map (fun i => (i.zero, i.size, i.bytes)) = some (some (.agg #[.int .i64 0, .int .i64 0, .int .i64 0]), 3, 24) := by kernel_rfl
theorem Own.one1 {α : Type} {enc : α → List Value} (sz E : Nat) {base : Nat} (w : World) (hb : base ≤ w.heap.size) (x : α) (hlen : ∀ x, (enc x).length = sz) (cs : Array Value) (hcs : cs = (enc x).toArray) : Own enc sz E base (w.alloc (.cells cs E)) (.slice (some ⟨w.heap.size, 0, none⟩) 1 1) [x] := by
  subst hcs
  exact ⟨by simp [hlen], .inr ⟨w.heap.size, 1, _, rfl, hb, heap_alloc_new w _, Nat.le_refl _, by unfold maxLen; omega, by simp [hlen], by simp [List.take_of_length_le, hlen]⟩⟩
theorem Own.cong {α : Type} {enc : α → List Value} {sz E base : Nat} {w : World} {v : Value} {l l' : List α} (h : Own enc sz E base w v l) (e : l = l') : Own enc sz E base w v l' := e ▸ h
theorem needs_b (v : Value) (H : List SHit) (level : Int) (page : Nat) (w : World) (r : Rd SHit.enc 4 w v H) (hl : level = 2 ∨ level = 3) (hp : page + (if level = 2 then 256 else 16) ≤ H.length) (hn : H.length = 4096) (b : Bool) (hb : decide (needS H level page) = b) :
    Calls Try.prog 18 #[v, .int .i64 level, .int .i64 page] w fun e w' => e = .returned (.bool b) ∧ Below w.heap.size w w' := by
  rw [← hb]; exact specNeeds_any v H level page w r hl hp hn

set_option maxRecDepth 100000 in
set_option maxHeartbeats 4000000 in
theorem specWanted_any (v : Value) (H : List SHit) (w : World) (r : Rd SHit.enc 4 w v H) (hn : H.length = 4096) :
    Calls Try.prog 10 #[v] w fun e w' => ∃ v', e = .returned v' ∧ Own SPlace.enc 3 50 w.heap.size w' v' (wantTo H 256) ∧ Below w.heap.size w w' := by
  have R := Lib.hid r
  have HN := Lib.hid hn
  clear r hn
  have HLEN := Lib.hid (wantTo_len H)
  have HST := Lib.hid (wantTo_step H)
  go_enter Try.func10, Try.ntmps10
  go_wp2
  go_loopw [3, 4] (fun v i wr => ∃ (k n : Nat) (A : Option Addr) (c : Nat), k ≤ 256 ∧ v = .slice A n c ∧ i = .int .i64 ((16 * k : Nat) : Int) ∧ Hid (n = (wantTo H k).length) ∧ Hid (Own SPlace.enc 3 50 w.heap.size wr v (wantTo H k)) ∧ Hid (Below w.heap.size w wr)) (fun _ i _ => 4096 - (intOf i).toNat)
  case atStart =>
    refine ⟨0, 1, _, _, Nat.zero_le _, rfl, rfl, Lib.hid rfl, Lib.hid ?_, Lib.hid ((Below.refl _ _).alloc (Nat.le_refl _) _)⟩
    exact Own.one1 3 50 w (Nat.le_refl _) (⟨-1, 1, 0⟩ : SPlace) SPlace.len _ rfl
  case round =>
    obtain ⟨k, n, Av, cv, hk, rfl, rfl, HNN, HO, HB⟩ := hrel
    by_cases hlt : k < 256
    · obtain ⟨q, hq⟩ : ∃ q, q = 16 * k := ⟨_, rfl⟩
      rw [← hq]
      have hlt' : (q : Int) < 4096 := by omega
      have eq16 : IntKind.i64.wrap ((q : Int) + 16) = ((16 * (k + 1) : Nat) : Int) := by rw [IntKind.wrap_i64]; omega
      obtain ⟨b1, hb1⟩ : ∃ b, decide (k % 16 = 0) = b := ⟨_, rfl⟩
      obtain ⟨b2, hb2⟩ : ∃ b, decide (needS H 2 q) = b := ⟨_, rfl⟩
      obtain ⟨b3, hb3⟩ : ∃ b, decide (needS H 3 q) = b := ⟨_, rfl⟩
      have e1 : ((q : Int) % 256 == 0) = b1 := by rw [← hb1, Bool.eq_iff_iff]; simp; omega
      have p2 : b1 = true → q + 256 ≤ 4096 := by intro h; rw [h] at hb1; have := of_decide_eq_true hb1; omega
      have P2 := Lib.hid p2
      have hlb : n ≤ 1 + 2 * k := by rw [HNN.out]; exact HLEN.out k
      have HB2 := Lib.hid hb2
      have HB3 := Lib.hid hb3
      have HG : Hid (grpS H k = (if b1 = true ∧ b2 = true then [⟨-1, 2, (q : Int)⟩] else []) ++ (if b3 = true then [⟨-1, 3, (q : Int)⟩] else [])) := Lib.hid (by
        unfold grpS; rw [← hb1, ← hb2, ← hb3]; simp only [decide_eq_true_eq, hq])
      have HQ := Lib.hid hq
      have HLB := Lib.hid hlb
      clear hb1 hb2 hb3 hq hlb p2
      cases b1
      · cases b3
        · go_wp2_with (first | (go_at_call 18; refine (needs_b v H 3 q _ ((R.out.below HB.out)) (by decide) (by have := HN.out; have := HQ.out; simp; omega) HN.out false HB3.out).mono ?_; rintro e wn3 ⟨rfl, hbn3⟩; have HO3 := Lib.hid (HO.out.below hbn3); have HBn3 := Lib.hid (thenB HB.out hbn3); clear hbn3))
          go_roundw
          case rel =>
            have hw := Own.cong HO3.out (l' := wantTo H (k + 1)) (by rw [HST.out, HG.out]; simp)
            obtain ⟨A', c', hv'⟩ := hw.shape
            simp only [Value.slice.injEq] at hv'
            exact ⟨k + 1, _, _, _, by omega, rfl, by first | rfl | (simp; done) | (simp; omega), Lib.hid hv'.2.1, Lib.hid hw, HBn3⟩
          case measure => have := HQ.out; simp [intOf]; omega
        · go_wp2_with (first | (go_at_call 18; refine (needs_b v H 3 q _ ((R.out.below HB.out)) (by decide) (by have := HN.out; have := HQ.out; simp; omega) HN.out true HB3.out).mono ?_; rintro e wn3 ⟨rfl, hbn3⟩; have HO3 := Lib.hid (HO.out.below hbn3); have HBn3 := Lib.hid (thenB HB.out hbn3); clear hbn3) | (at_builtin; refine append1 50 3 24 30 (.agg #[.int .i64 0, .int .i64 0, .int .i64 0]) Try.underlying30 infoPl rfl (by decide) SPlace.len SPlace.one rfl (.tmp 27) (.tmp 30) rfl w.heap.size (.slice Av n cv) (wantTo H k) ⟨-1, 3, (q : Int)⟩ _ rfl rfl rfl HO3.out (by have := HLB.out; have := HNN.out;  omega) (by decide) HBn3.out.size ?_))
          intro v2 wz ho1 hg1
          have HBz := Lib.hid (Own.grown HO3.out HBn3.out HBn3.out.size hg1)
          obtain ⟨Az, nz, cz, rfl⟩ : ∃ A n c, v2 = .slice A n c := by obtain ⟨A, c, h⟩ := ho1.shape; exact ⟨A, _, c, h⟩
          have HOz := Lib.hid ho1
          clear ho1 hg1
          go_wp2
          go_roundw
          case rel =>
            have hw := Own.cong HOz.out (l' := wantTo H (k + 1)) (by rw [HST.out, HG.out]; simp)
            obtain ⟨A', c', hv'⟩ := hw.shape
            simp only [Value.slice.injEq] at hv'
            exact ⟨k + 1, _, _, _, by omega, rfl, by first | rfl | (simp; done) | (simp; omega), Lib.hid hv'.2.1, Lib.hid hw, HBz⟩
          case measure => have := HQ.out; simp [intOf]; omega
      · cases b2
        · cases b3
          · go_upto_region 7 with (first | (go_at_call 18; refine (needs_b v H 2 q _ ((R.out.below HB.out)) (by decide) (by have := HN.out; have := HQ.out; have := P2.out rfl; simp; omega) HN.out false HB2.out).mono ?_; rintro e wn2 ⟨rfl, hbn2⟩; have HO2 := Lib.hid (HO.out.below hbn2); have HBn2 := Lib.hid (thenB HB.out hbn2); clear hbn2))
            go_wp2_with (first | (go_at_call 18; refine (needs_b v H 3 q _ ((R.out.below HBn2.out)) (by decide) (by have := HN.out; have := HQ.out; simp; omega) HN.out false HB3.out).mono ?_; rintro e wn3 ⟨rfl, hbn3⟩; have HO3 := Lib.hid (HO2.out.below hbn3); have HBn3 := Lib.hid (thenB HBn2.out hbn3); clear hbn3))
            go_roundw
            case rel =>
              have hw := Own.cong HO3.out (l' := wantTo H (k + 1)) (by rw [HST.out, HG.out]; simp)
              obtain ⟨A', c', hv'⟩ := hw.shape
              simp only [Value.slice.injEq] at hv'
              exact ⟨k + 1, _, _, _, by omega, rfl, by first | rfl | (simp; done) | (simp; omega), Lib.hid hv'.2.1, Lib.hid hw, HBn3⟩
            case measure => have := HQ.out; simp [intOf]; omega
          · go_upto_region 7 with (first | (go_at_call 18; refine (needs_b v H 2 q _ ((R.out.below HB.out)) (by decide) (by have := HN.out; have := HQ.out; have := P2.out rfl; simp; omega) HN.out false HB2.out).mono ?_; rintro e wn2 ⟨rfl, hbn2⟩; have HO2 := Lib.hid (HO.out.below hbn2); have HBn2 := Lib.hid (thenB HB.out hbn2); clear hbn2))
            go_wp2_with (first | (go_at_call 18; refine (needs_b v H 3 q _ ((R.out.below HBn2.out)) (by decide) (by have := HN.out; have := HQ.out; simp; omega) HN.out true HB3.out).mono ?_; rintro e wn3 ⟨rfl, hbn3⟩; have HO3 := Lib.hid (HO2.out.below hbn3); have HBn3 := Lib.hid (thenB HBn2.out hbn3); clear hbn3) | (at_builtin; refine append1 50 3 24 30 (.agg #[.int .i64 0, .int .i64 0, .int .i64 0]) Try.underlying30 infoPl rfl (by decide) SPlace.len SPlace.one rfl (.tmp 27) (.tmp 30) rfl w.heap.size (.slice Av n cv) (wantTo H k) ⟨-1, 3, (q : Int)⟩ _ rfl rfl rfl HO3.out (by have := HLB.out; have := HNN.out;  omega) (by decide) HBn3.out.size ?_))
            intro v2 wz ho1 hg1
            have HBz := Lib.hid (Own.grown HO3.out HBn3.out HBn3.out.size hg1)
            obtain ⟨Az, nz, cz, rfl⟩ : ∃ A n c, v2 = .slice A n c := by obtain ⟨A, c, h⟩ := ho1.shape; exact ⟨A, _, c, h⟩
            have HOz := Lib.hid ho1
            clear ho1 hg1
            go_wp2
            go_roundw
            case rel =>
              have hw := Own.cong HOz.out (l' := wantTo H (k + 1)) (by rw [HST.out, HG.out]; simp)
              obtain ⟨A', c', hv'⟩ := hw.shape
              simp only [Value.slice.injEq] at hv'
              exact ⟨k + 1, _, _, _, by omega, rfl, by first | rfl | (simp; done) | (simp; omega), Lib.hid hv'.2.1, Lib.hid hw, HBz⟩
            case measure => have := HQ.out; simp [intOf]; omega
        · cases b3
          · go_wp2_with (first | (go_at_call 18; refine (needs_b v H 2 q _ ((R.out.below HB.out)) (by decide) (by have := HN.out; have := HQ.out; have := P2.out rfl; simp; omega) HN.out true HB2.out).mono ?_; rintro e wn2 ⟨rfl, hbn2⟩; have HO2 := Lib.hid (HO.out.below hbn2); have HBn2 := Lib.hid (thenB HB.out hbn2); clear hbn2) | (at_builtin; refine append1 50 3 24 30 (.agg #[.int .i64 0, .int .i64 0, .int .i64 0]) Try.underlying30 infoPl rfl (by decide) SPlace.len SPlace.one rfl (.tmp 19) (.tmp 22) rfl w.heap.size (.slice Av n cv) (wantTo H k) ⟨-1, 2, (q : Int)⟩ _ rfl rfl rfl HO2.out (by have := HLB.out; have := HNN.out;  omega) (by decide) HBn2.out.size ?_))
            intro v1 wq ho1 hg1
            have HBq := Lib.hid (Own.grown HO2.out HBn2.out HBn2.out.size hg1)
            obtain ⟨Aq, nq, cq, rfl⟩ : ∃ A n c, v1 = .slice A n c := by obtain ⟨A, c, h⟩ := ho1.shape; exact ⟨A, _, c, h⟩
            have HOq := Lib.hid ho1
            clear ho1 hg1
            go_wp2_with (first | (go_at_call 18; refine (needs_b v H 3 q _ ((R.out.below HBq.out)) (by decide) (by have := HN.out; have := HQ.out; simp; omega) HN.out false HB3.out).mono ?_; rintro e wn3 ⟨rfl, hbn3⟩; have HO3 := Lib.hid (HOq.out.below hbn3); have HBn3 := Lib.hid (thenB HBq.out hbn3); clear hbn3))
            go_roundw
            case rel =>
              have hw := Own.cong HO3.out (l' := wantTo H (k + 1)) (by rw [HST.out, HG.out]; simp)
              obtain ⟨A', c', hv'⟩ := hw.shape
              simp only [Value.slice.injEq] at hv'
              exact ⟨k + 1, _, _, _, by omega, rfl, by first | rfl | (simp; done) | (simp; omega), Lib.hid hv'.2.1, Lib.hid hw, HBn3⟩
            case measure => have := HQ.out; simp [intOf]; omega
          · go_wp2_with (first | (go_at_call 18; refine (needs_b v H 2 q _ ((R.out.below HB.out)) (by decide) (by have := HN.out; have := HQ.out; have := P2.out rfl; simp; omega) HN.out true HB2.out).mono ?_; rintro e wn2 ⟨rfl, hbn2⟩; have HO2 := Lib.hid (HO.out.below hbn2); have HBn2 := Lib.hid (thenB HB.out hbn2); clear hbn2) | (at_builtin; refine append1 50 3 24 30 (.agg #[.int .i64 0, .int .i64 0, .int .i64 0]) Try.underlying30 infoPl rfl (by decide) SPlace.len SPlace.one rfl (.tmp 19) (.tmp 22) rfl w.heap.size (.slice Av n cv) (wantTo H k) ⟨-1, 2, (q : Int)⟩ _ rfl rfl rfl HO2.out (by have := HLB.out; have := HNN.out;  omega) (by decide) HBn2.out.size ?_))
            intro v1 wq ho1 hg1
            have HBq := Lib.hid (Own.grown HO2.out HBn2.out HBn2.out.size hg1)
            obtain ⟨Aq, nq, cq, rfl⟩ : ∃ A n c, v1 = .slice A n c := by obtain ⟨A, c, h⟩ := ho1.shape; exact ⟨A, _, c, h⟩
            have HOq := Lib.hid ho1
            clear ho1 hg1
            go_wp2_with (first | (go_at_call 18; refine (needs_b v H 3 q _ ((R.out.below HBq.out)) (by decide) (by have := HN.out; have := HQ.out; simp; omega) HN.out true HB3.out).mono ?_; rintro e wn3 ⟨rfl, hbn3⟩; have HO3 := Lib.hid (HOq.out.below hbn3); have HBn3 := Lib.hid (thenB HBq.out hbn3); clear hbn3) | (at_builtin; refine append1 50 3 24 30 (.agg #[.int .i64 0, .int .i64 0, .int .i64 0]) Try.underlying30 infoPl rfl (by decide) SPlace.len SPlace.one rfl (.tmp 27) (.tmp 30) rfl w.heap.size (.slice Aq nq cq) (wantTo H k ++ [⟨-1, 2, (q : Int)⟩]) ⟨-1, 3, (q : Int)⟩ _ rfl rfl rfl HO3.out (by have := HLB.out; have := HNN.out; simp only [List.length_append, List.length_singleton]; omega) (by decide) HBn3.out.size ?_))
            intro v2 wz ho1 hg1
            have HBz := Lib.hid (Own.grown HO3.out HBn3.out HBn3.out.size hg1)
            obtain ⟨Az, nz, cz, rfl⟩ : ∃ A n c, v2 = .slice A n c := by obtain ⟨A, c, h⟩ := ho1.shape; exact ⟨A, _, c, h⟩
            have HOz := Lib.hid ho1
            clear ho1 hg1
            go_wp2
            go_roundw
            case rel =>
              have hw := Own.cong HOz.out (l' := wantTo H (k + 1)) (by rw [HST.out, HG.out]; simp)
              obtain ⟨A', c', hv'⟩ := hw.shape
              simp only [Value.slice.injEq] at hv'
              exact ⟨k + 1, _, _, _, by omega, rfl, by first | rfl | (simp; done) | (simp; omega), Lib.hid hv'.2.1, Lib.hid hw, HBz⟩
            case measure => have := HQ.out; simp [intOf]; omega
    · obtain rfl : k = 256 := by omega
      go_wp2
      go_ret
      exact ⟨_, rfl, HO.out, HB.out⟩
end Go.Proofs.Ytkdclihnmocepaa.Mmu
