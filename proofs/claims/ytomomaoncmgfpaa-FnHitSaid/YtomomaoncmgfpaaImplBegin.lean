/- Walk of the program's begin. -/
import Derived.Test.YtomomaoncmgfpaaImplFill2
namespace Go.Proofs.Ytomomaoncmgfpaa.Mmu
open Go.RowKit Go.Proofs.Ytomomaoncmgfpaa.Base Go.Proofs.Ytomomaoncmgfpaa.Kinds Go.Proofs.Ytomomaoncmgfpaa.DecMath Go.Proofs.Ytomomaoncmgfpaa.L1
set_option linter.unusedVariables false
set_option linter.unusedSimpArgs false
theorem wcov_iff {f : Int} {e : SWc} {p : Int} (h : okWc f e) (hp : 0 ≤ p) : wcovP e p ↔ e.Page ≤ p ∧ p < e.Page + cov (e.Level - 1) := by
  unfold wcovP
  obtain ⟨h1, h2, h3, _⟩ := h
  rcases h1 with h1 | h1 <;> rw [h1] at h3 ⊢ <;> simp [cov] at h3 ⊢ <;> omega
theorem bitI_b (c : Int) (b : Nat) (r : Bool) (w : World) (hc : 0 ≤ c) (hc' : c ≤ 65535) (hb : b ≤ 50) (h : bitB c b = r) : Calls Try.prog 52 #[.int .i64 c, .int .i64 b] w fun e w' => e = .returned (.bool r) ∧ w' = w := by
  rw [← h]; exact bit_any c b w hc hc' hb
theorem hcovers_b (A : Addr) (pg cn page : Int) (b : Bool) (w : World) (h0 : w.cell? A = some (.int .i64 pg)) (h1 : w.cell? ⟨A.block, A.off + 1, none⟩ = some (.int .i64 cn)) (hp : 0 ≤ pg ∧ pg < 65536) (hc : 0 ≤ cn ∧ cn ≤ 65536) (h : decide (pg ≤ page ∧ page < pg + cn) = b) :
    Calls Try.prog 58 #[.pointer (some A), .int .i64 page] w fun e w' => e = .returned (.bool b) ∧ Below w.heap.size w w' := by
  rw [← h]; exact hcovers_any A pg cn page w h0 h1 hp hc

set_option maxRecDepth 100000 in
set_option maxHeartbeats 4000000 in
theorem begin_any (p : Nat) (v0 v1 v2 v3 v4 : Value) (m : SM) (page choice : Int) (w : World) (r : RdX w p v0 v1 v2 v3 v4 m) (hp : 0 ≤ page ∧ page < 4096) (hc : 0 ≤ choice ∧ choice ≤ 65535) (hm : Walkable m) (bl bf : Int) (bd : Bool) (hB : beginP m page choice = (bl, bf, bd)) :
    Calls Try.prog 51 #[.pointer (some ⟨p, 0, none⟩), .int .i64 page, .int .i64 choice] w fun e w' => e = .returned (.tuple #[.int .i64 bl, .int .i64 bf, .bool bd]) ∧ Below w.heap.size w w' := by
  obtain ⟨A4, c4, e4, l4, k4⟩ := r.wc.shape
  subst e4
  have R := Lib.hid r
  have HM := Lib.hid hm
  have hnw := hm.nwc
  obtain ⟨hp0, hp1⟩ := hp
  obtain ⟨hc0, hc1⟩ := hc
  have HB := Lib.hid hB
  clear r hm hB
  obtain ⟨cb, hcb⟩ : ∃ b, bitB choice 0 = b := ⟨_, rfl⟩
  have HCB := Lib.hid hcb
  clear hcb
  cases cb with
  | false =>
    have hb := HB.out
    rw [begin_off HCB.out] at hb
    simp only [Prod.mk.injEq] at hb
    obtain ⟨rfl, rfl, rfl⟩ := hb
    clear HB
    go_enter Try.func51, Try.ntmps51
    go_wp2_with (go_at_call 52; refine (bitI_b choice 0 false _ hc0 hc1 (by omega) HCB.out).mono ?_; rintro e w1 ⟨rfl, rfl⟩)
    go_ret3
    exact ⟨rfl, Below.refl _ _⟩
  | true =>
    go_enter Try.func51, Try.ntmps51
    go_wp2_with (go_at_call 52; refine (bitI_b choice 0 true _ hc0 hc1 (by omega) HCB.out).mono ?_; rintro e w1 ⟨rfl, rfl⟩)
    refine ((St.start w1).push _ _).gen (fun w2 S1' _ => ?_)
    have S1 := Lib.hid S1'
    clear S1'
    go_loopw [17] (fun i wr => ∃ k : Nat, k ≤ 2 ∧ i = .int .i64 k ∧ (0 < k → noneB m page 3 m.wc.length) ∧ (1 < k → noneB m page 2 m.wc.length) ∧ Below w2.heap.size w2 wr) (fun i _ => 2 - (intOf i).toNat)
    case atStart => exact ⟨0, by omega, rfl, by omega, by omega, Below.refl _ _⟩
    case round =>
      obtain ⟨k, hk, rfl, h3, h2, hb⟩ := hrel
      have H3 := Lib.hid h3
      have H2 := Lib.hid h2
      have S2 := Lib.hid (S1.out.below hb)
      have HBL := Lib.hid hb
      clear h3 h2 hb
      have sT0 := S2.out
      obtain ⟨p0_0, p0_1⟩ := sT0.c2
      have sT1 := sT0.tail
      clear sT0 sT1
      have hk3 : k = 2 ∨ k = 0 ∨ k = 1 := by omega
      rcases hk3 with rfl | rfl | rfl
      · have hb := HB.out
        rw [begin_none HCB.out (fun L' h1 h2 => by
          have : L' = 2 ∨ L' = 3 := by omega
          rcases this with rfl | rfl
          · exact H2.out (by omega)
          · exact H3.out (by omega))] at hb
        simp only [Prod.mk.injEq] at hb
        obtain ⟨rfl, rfl, rfl⟩ := hb
        clear HB
        go_wp2
        go_ret3
        exact ⟨rfl, S2.out.b⟩
      · have q4 := bC S2.out.b R.out.c4
        go_wp2
        clear q4
        clear p0_0 p0_1
        have HA : Hid (∀ L', (3 : Int) < L' → L' ≤ 3 → noneB m page L' m.wc.length) := Lib.hid (fun L' h1 h2 => by omega)
        generalize wr = w3 at *
        go_loopw [26] (fun i wr => ∃ k : Nat, k ≤ m.wc.length ∧ i = .int .i64 k ∧ noneB m page 3 k ∧ Below w3.heap.size w3 wr) (fun i _ => m.wc.length - (intOf i).toNat)
        case atStart => exact ⟨0, Nat.zero_le _, rfl, fun j hj => by omega, Below.refl _ _⟩
        case round =>
          obtain ⟨k, hk, rfl, hnone, hb⟩ := hrel
          have HN := Lib.hid hnone
          have S3 := Lib.hid (S2.out.below hb)
          have HB3 := Lib.hid (thenB HBL.out hb)
          have HB2 := Lib.hid hb
          clear hnone hb
          by_cases hlt : k < m.wc.length
          rotate_left
          · have hlt' : ¬ (k : Int) < (m.wc.length : Int) := by omega
            obtain rfl : k = m.wc.length := by omega
            go_wp2
            go_roundw
            case rel => exact ⟨1, by omega, by go_num, fun _ => HN.out, fun h => by omega, HB3.out⟩
            case measure => simp [intOf]
          have hlt' : (k : Int) < (m.wc.length : Int) := by omega
          obtain ⟨a0, e0, ea, g0, u0, u1, u2, u3, u4⟩ := step_at R.out.wc hlt
          cases ea
          have q4 := bC S3.out.b R.out.c4
          have q0 := bC S3.out.b u0
          have q1 := bC S3.out.b u1
          have q2 := bC S3.out.b u2
          have q3 := bC S3.out.b u3
          have q5 := bC S3.out.b u4
          clear u0 u1 u2 u3 u4
          have hok := HM.out.wc e0 (List.mem_of_getElem? g0)
          have OK := Lib.hid hok
          have G0 := Lib.hid g0
          clear g0 hok
          have step : ∀ wr, ¬ (e0.Level = 3 ∧ wcovP e0 page) → Below w3.heap.size w3 wr → ∃ k' : Nat, k' ≤ m.wc.length ∧ Value.int .i64 (((k + 1 : Nat) : Int)) = .int .i64 k' ∧ noneB m page 3 k' ∧ Below w3.heap.size w3 wr := fun wr h hb => ⟨k + 1, by omega, rfl, fun j hj x hx => by
            by_cases e : j = k
            · subst e; obtain rfl := Option.some.inj (G0.out.symm.trans hx); exact h
            · exact HN.out j (by omega) x hx, hb⟩
          have STEP := Lib.hid step
          clear step
          rcases Bool.eq_false_or_eq_true (e0.Level == 3) with t | t
          rotate_left
          · have HNE : Hid (¬ (e0.Level = 3 ∧ wcovP e0 page)) := Lib.hid (fun h => by rw [h.1] at t; simp at t)
            go_wp2
            go_roundw
            case rel =>
              have := STEP.out _ HNE.out HB2.out
              simpa using this
            case measure => simp [intOf]; omega
          obtain ⟨cv, hcv⟩ : ∃ b, decide (e0.Page ≤ page ∧ page < e0.Page + cov (e0.Level - 1)) = b := ⟨_, rfl⟩
          have HCV := Lib.hid hcv
          clear hcv
          have T := Lib.hid t
          cases cv with
          | false =>
            have HNE : Hid (¬ (e0.Level = 3 ∧ wcovP e0 page)) := Lib.hid (fun h => (of_decide_eq_false HCV.out) ((wcov_iff OK.out hp0).1 h.2))
            go_wp2_with (first | (go_at_call 58; refine (hcovers_b _ e0.Page (cov (e0.Level - 1)) page false _ q0 q1 (by have := OK.out.2.1; omega) (by have := cov_pos (e0.Level - 1); omega) HCV.out).mono ?_; rintro e w4 ⟨rfl, hb4⟩; have HB4 := Lib.hid hb4; clear hb4))
            go_roundw
            case rel =>
              have := STEP.out _ HNE.out (thenB HB2.out HB4.out)
              (repeat apply Exists.intro)
              refine ⟨?_, rfl⟩
              simpa using this
            case measure => simp [intOf]; omega
          | true =>
            have hb := HB.out
            rw [begin_hit HCB.out (by omega) G0.out (by simpa using T.out) ((wcov_iff OK.out hp0).2 (of_decide_eq_true HCV.out)) HN.out HA.out] at hb
            simp only [Prod.mk.injEq] at hb
            obtain ⟨rfl, rfl, rfl⟩ := hb
            clear HB
            go_wp2_with (first | (go_at_call 58; refine (hcovers_b _ e0.Page (cov (e0.Level - 1)) page true _ q0 q1 (by have := OK.out.2.1; omega) (by have := cov_pos (e0.Level - 1); omega) HCV.out).mono ?_; rintro e w4 ⟨rfl, hb4⟩; have S4 := Lib.hid (S3.out.below hb4); have r2 := BW.cell (bC hb4 q2); have r3 := BW.cell (bC hb4 q5); clear hb4 q0 q1 q2 q3 q4 q5))
            (refine wp_region_below (by kernel_rfl) (by kernel_rfl) ?_; (repeat (first | (go_big_quiet_step (fail)) | ((with_reducible refine wpQuiet_step ?_); intro K hK; go_simp; first | ((with_reducible refine hK _ ?_); clear hK K) | (apply Exists.intro; refine ⟨fun _ => ?_, hK _ ?_⟩; (fail); clear hK K)))); (with_reducible refine wpQuiet_nil ?_); intro wq hw'; obtain ⟨⟨wy, hbq⟩, hw''⟩ := hw'; subst hw'')
            clear r2 r3
            go_wp2
            go_ret3
            exact ⟨rfl, thenB S4.out.b hbq⟩
      · have q4 := bC S2.out.b R.out.c4
        go_wp2
        clear q4
        clear p0_0 p0_1
        have HA : Hid (∀ L', (2 : Int) < L' → L' ≤ 3 → noneB m page L' m.wc.length) := Lib.hid (fun L' h1 h2 => by have e : L' = 3 := (by omega); rw [e]; exact H3.out (by omega))
        generalize wr = w3 at *
        go_loopw [26] (fun i wr => ∃ k : Nat, k ≤ m.wc.length ∧ i = .int .i64 k ∧ noneB m page 2 k ∧ Below w3.heap.size w3 wr) (fun i _ => m.wc.length - (intOf i).toNat)
        case atStart => exact ⟨0, Nat.zero_le _, rfl, fun j hj => by omega, Below.refl _ _⟩
        case round =>
          obtain ⟨k, hk, rfl, hnone, hb⟩ := hrel
          have HN := Lib.hid hnone
          have S3 := Lib.hid (S2.out.below hb)
          have HB3 := Lib.hid (thenB HBL.out hb)
          have HB2 := Lib.hid hb
          clear hnone hb
          by_cases hlt : k < m.wc.length
          rotate_left
          · have hlt' : ¬ (k : Int) < (m.wc.length : Int) := by omega
            obtain rfl : k = m.wc.length := by omega
            go_wp2
            go_roundw
            case rel => exact ⟨2, by omega, by go_num, fun _ => H3.out (by omega), fun _ => HN.out, HB3.out⟩
            case measure => simp [intOf]
          have hlt' : (k : Int) < (m.wc.length : Int) := by omega
          obtain ⟨a0, e0, ea, g0, u0, u1, u2, u3, u4⟩ := step_at R.out.wc hlt
          cases ea
          have q4 := bC S3.out.b R.out.c4
          have q0 := bC S3.out.b u0
          have q1 := bC S3.out.b u1
          have q2 := bC S3.out.b u2
          have q3 := bC S3.out.b u3
          have q5 := bC S3.out.b u4
          clear u0 u1 u2 u3 u4
          have hok := HM.out.wc e0 (List.mem_of_getElem? g0)
          have OK := Lib.hid hok
          have G0 := Lib.hid g0
          clear g0 hok
          have step : ∀ wr, ¬ (e0.Level = 2 ∧ wcovP e0 page) → Below w3.heap.size w3 wr → ∃ k' : Nat, k' ≤ m.wc.length ∧ Value.int .i64 (((k + 1 : Nat) : Int)) = .int .i64 k' ∧ noneB m page 2 k' ∧ Below w3.heap.size w3 wr := fun wr h hb => ⟨k + 1, by omega, rfl, fun j hj x hx => by
            by_cases e : j = k
            · subst e; obtain rfl := Option.some.inj (G0.out.symm.trans hx); exact h
            · exact HN.out j (by omega) x hx, hb⟩
          have STEP := Lib.hid step
          clear step
          rcases Bool.eq_false_or_eq_true (e0.Level == 2) with t | t
          rotate_left
          · have HNE : Hid (¬ (e0.Level = 2 ∧ wcovP e0 page)) := Lib.hid (fun h => by rw [h.1] at t; simp at t)
            go_wp2
            go_roundw
            case rel =>
              have := STEP.out _ HNE.out HB2.out
              simpa using this
            case measure => simp [intOf]; omega
          obtain ⟨cv, hcv⟩ : ∃ b, decide (e0.Page ≤ page ∧ page < e0.Page + cov (e0.Level - 1)) = b := ⟨_, rfl⟩
          have HCV := Lib.hid hcv
          clear hcv
          have T := Lib.hid t
          cases cv with
          | false =>
            have HNE : Hid (¬ (e0.Level = 2 ∧ wcovP e0 page)) := Lib.hid (fun h => (of_decide_eq_false HCV.out) ((wcov_iff OK.out hp0).1 h.2))
            go_wp2_with (first | (go_at_call 58; refine (hcovers_b _ e0.Page (cov (e0.Level - 1)) page false _ q0 q1 (by have := OK.out.2.1; omega) (by have := cov_pos (e0.Level - 1); omega) HCV.out).mono ?_; rintro e w4 ⟨rfl, hb4⟩; have HB4 := Lib.hid hb4; clear hb4))
            go_roundw
            case rel =>
              have := STEP.out _ HNE.out (thenB HB2.out HB4.out)
              (repeat apply Exists.intro)
              refine ⟨?_, rfl⟩
              simpa using this
            case measure => simp [intOf]; omega
          | true =>
            have hb := HB.out
            rw [begin_hit HCB.out (by omega) G0.out (by simpa using T.out) ((wcov_iff OK.out hp0).2 (of_decide_eq_true HCV.out)) HN.out HA.out] at hb
            simp only [Prod.mk.injEq] at hb
            obtain ⟨rfl, rfl, rfl⟩ := hb
            clear HB
            go_wp2_with (first | (go_at_call 58; refine (hcovers_b _ e0.Page (cov (e0.Level - 1)) page true _ q0 q1 (by have := OK.out.2.1; omega) (by have := cov_pos (e0.Level - 1); omega) HCV.out).mono ?_; rintro e w4 ⟨rfl, hb4⟩; have S4 := Lib.hid (S3.out.below hb4); have r2 := BW.cell (bC hb4 q2); have r3 := BW.cell (bC hb4 q5); clear hb4 q0 q1 q2 q3 q4 q5))
            (refine wp_region_below (by kernel_rfl) (by kernel_rfl) ?_; (repeat (first | (go_big_quiet_step (fail)) | ((with_reducible refine wpQuiet_step ?_); intro K hK; go_simp; first | ((with_reducible refine hK _ ?_); clear hK K) | (apply Exists.intro; refine ⟨fun _ => ?_, hK _ ?_⟩; (fail); clear hK K)))); (with_reducible refine wpQuiet_nil ?_); intro wq hw'; obtain ⟨⟨wy, hbq⟩, hw''⟩ := hw'; subst hw'')
            clear r2 r3
            go_wp2
            go_ret3
            exact ⟨rfl, thenB S4.out.b hbq⟩
end Go.Proofs.Ytomomaoncmgfpaa.Mmu
