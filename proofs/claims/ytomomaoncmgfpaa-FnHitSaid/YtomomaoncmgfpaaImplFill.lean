/- Walk of the program's Fill. -/
import Derived.Test.YtomomaoncmgfpaaMPostM
import Derived.Test.YtomomaoncmgfpaaImplWalk
import Derived.Test.YtomomaoncmgfpaaImplMach
namespace Go.Proofs.Ytomomaoncmgfpaa.Mmu
open Go.RowKit Go.Proofs.Ytomomaoncmgfpaa.Base Go.Proofs.Ytomomaoncmgfpaa.Kinds Go.Proofs.Ytomomaoncmgfpaa.DecMath Go.Proofs.Ytomomaoncmgfpaa.L1
set_option linter.unusedVariables false
set_option linter.unusedSimpArgs false
theorem machineOK_b (v0 v1 v2 v3 : Value) (m : SM) (b : Bool) (w : World) (r : RdM w v0 v1 v2 v3 m) (h : decide (Valid m) = b) : Calls Try.prog 29 #[.agg #[v0, v1, v2, v3]] w fun ex w' => ex = .returned (.bool b) ∧ Below w.heap.size w w' := by
  rw [← h]; exact machineOK_any v0 v1 v2 v3 m w r
theorem pageOKI_b (p : Int) (b : Bool) (h : decide (0 ≤ p ∧ p < 4096) = b) (w : World) : Calls Try.prog 23 #[.int .i64 p] w fun e w' => e = .returned (.bool b) ∧ w' = w :=
  (pageOK_any p w).mono (by rintro e w' ⟨rfl, rfl⟩; exact ⟨by rw [h], rfl⟩)
set_option maxHeartbeats 4000000 in
theorem choiceOKI_b (c : Int) (b : Bool) (w : World) (h : decide (0 ≤ c ∧ c ≤ 65535) = b) : Calls Try.prog 30 #[.int .i64 c] w fun e w' => e = .returned (.bool b) ∧ w' = w := by
  rw [← h]
  clear h
  go_enter Try.func30, Try.ntmps30
  go_wp2
  all_goals (go_ret; exact ⟨ret_bool (by rw [Bool.eq_iff_iff]; simp; try (intros; omega)), rfl⟩)
theorem st_low {w0 w w1 : World} {l : List (Nat × Array Value × Nat)} {base : Nat} (h : St w0 l w) (hb : Below base w w1) (hl : ∀ x ∈ l, x.1 < base) (h0 : w0.heap.size ≤ base) : St w0 l w1 :=
  ⟨h.b.trans (hb.mono h0), fun x hx => (hb.block x.1 (hl x hx)).trans (h.blk x hx), h.up, h.ord⟩
theorem walk_small {m : SM} (hv : Valid m) (page choice : Int) : (walkP m page choice).1.ws.length ≤ 1048576 ∧ (walkP m page choice).1.pend.length ≤ 1048576 ∧ (walkP m page choice).1.tlb.length ≤ 1048576 ∧ (walkP m page choice).1.wc.length ≤ 1048576 := by
  have k := goP_keeps page choice (4 - (beginP m page choice).1).toNat m (beginP m page choice).1 (beginP m page choice).2.1 (beginP m page choice).2.2 hv.ntlb hv.nwc
  obtain ⟨k1, k2, k3, k4⟩ := k
  unfold walkP
  rw [k1, k2]
  have := hv.frames
  have := hv.npend
  omega

set_option maxRecDepth 100000 in
set_option maxHeartbeats 4000000 in
theorem implFill_v (v0 v1 v2 v3 : Value) (m : SM) (page choice : Int) (w : World) (r : RdM w v0 v1 v2 v3 m) (HV : Hid (decide (Valid m) = false)) :
    Calls Try.prog 13 #[.agg #[v0, v1, v2, v3], .int .i64 page, .int .i64 choice] w (MPost w ⟨[], [], [], []⟩) := by
  obtain ⟨A0, c0, A1, c1, A2, c2, A3, c3, rfl, rfl, rfl, rfl, hl0, hk0, hl1, hk1, hl2, hk2, hl3, hk3⟩ := r.shape
  have R := Lib.hid r
  clear r
  go_enter Try.func13, Try.ntmps13
  go_upto_region 1 with fail
  refine ((St.start w).push2 _ _ _ _).gen (fun w1 S1' _ => ?_)
  have S1 := Lib.hid S1'
  clear S1'
  have sT0 := S1.out
  have sT1 := sT0.tail
  obtain ⟨p1_0, p1_1, p1_2, p1_3⟩ := sT1.c4
  have sT2 := sT1.tail
  clear sT0 sT1 sT2
  go_upto_region 2 with (first | (go_at_call 29; refine (machineOK_b _ _ _ _ m false _ (R.out.below S1.out.b) HV.out).mono ?_; rintro e w2 ⟨rfl, hb2⟩; have S2 := Lib.hid (S1.out.below hb2); clear hb2))
  clear p1_0 p1_1 p1_2 p1_3
  have sT0 := S2.out
  obtain ⟨p0_0, p0_1, p0_2, p0_3⟩ := sT0.c4
  have pF0_0 := sT0.f 0
  have pF0_1 := sT0.f 1
  have pF0_2 := sT0.f 2
  have pF0_3 := sT0.f 3
  have sT1 := sT0.tail
  clear sT0 sT1
  go_wp2
  refine bodyPost_ret (v := .agg #[.slice none 0 0, .slice none 0 0, .slice none 0 0, .slice none 0 0]) (by simp [results, Try.results13, go_sem, *]) rfl ⟨_, _, _, _, rfl, nilM _ _, (S2.out.s0 _ _ _ _).b⟩

set_option maxRecDepth 100000 in
set_option maxHeartbeats 4000000 in
theorem implFill_p (v0 v1 v2 v3 : Value) (m : SM) (page choice : Int) (w : World) (r : RdM w v0 v1 v2 v3 m) (HV : Hid (decide (Valid m) = true)) (HP : Hid (decide (0 ≤ page ∧ page < 4096) = false)) :
    Calls Try.prog 13 #[.agg #[v0, v1, v2, v3], .int .i64 page, .int .i64 choice] w (MPost w ⟨[], [], [], []⟩) := by
  obtain ⟨A0, c0, A1, c1, A2, c2, A3, c3, rfl, rfl, rfl, rfl, hl0, hk0, hl1, hk1, hl2, hk2, hl3, hk3⟩ := r.shape
  have R := Lib.hid r
  clear r
  go_enter Try.func13, Try.ntmps13
  go_upto_region 1 with fail
  refine ((St.start w).push2 _ _ _ _).gen (fun w1 S1' _ => ?_)
  have S1 := Lib.hid S1'
  clear S1'
  have sT0 := S1.out
  have sT1 := sT0.tail
  obtain ⟨p1_0, p1_1, p1_2, p1_3⟩ := sT1.c4
  have sT2 := sT1.tail
  clear sT0 sT1 sT2
  go_upto_region 2 with (first | (go_at_call 29; refine (machineOK_b _ _ _ _ m true _ (R.out.below S1.out.b) HV.out).mono ?_; rintro e w2 ⟨rfl, hb2⟩; have S2 := Lib.hid (S1.out.below hb2); clear hb2) | (go_at_call 23; refine (pageOKI_b _ false HP.out _).mono ?_; rintro e w2 ⟨rfl, rfl⟩))
  clear p1_0 p1_1 p1_2 p1_3
  have sT0 := S2.out
  obtain ⟨p0_0, p0_1, p0_2, p0_3⟩ := sT0.c4
  have pF0_0 := sT0.f 0
  have pF0_1 := sT0.f 1
  have pF0_2 := sT0.f 2
  have pF0_3 := sT0.f 3
  have sT1 := sT0.tail
  clear sT0 sT1
  go_wp2
  refine bodyPost_ret (v := .agg #[.slice none 0 0, .slice none 0 0, .slice none 0 0, .slice none 0 0]) (by simp [results, Try.results13, go_sem, *]) rfl ⟨_, _, _, _, rfl, nilM _ _, (S2.out.s0 _ _ _ _).b⟩

set_option maxRecDepth 100000 in
set_option maxHeartbeats 4000000 in
theorem implFill_c (v0 v1 v2 v3 : Value) (m : SM) (page choice : Int) (w : World) (r : RdM w v0 v1 v2 v3 m) (HV : Hid (decide (Valid m) = true)) (HP : Hid (decide (0 ≤ page ∧ page < 4096) = true)) (HC : Hid (decide (0 ≤ choice ∧ choice ≤ 65535) = false)) :
    Calls Try.prog 13 #[.agg #[v0, v1, v2, v3], .int .i64 page, .int .i64 choice] w (MPost w ⟨[], [], [], []⟩) := by
  obtain ⟨A0, c0, A1, c1, A2, c2, A3, c3, rfl, rfl, rfl, rfl, hl0, hk0, hl1, hk1, hl2, hk2, hl3, hk3⟩ := r.shape
  have R := Lib.hid r
  clear r
  go_enter Try.func13, Try.ntmps13
  go_upto_region 1 with fail
  refine ((St.start w).push2 _ _ _ _).gen (fun w1 S1' _ => ?_)
  have S1 := Lib.hid S1'
  clear S1'
  have sT0 := S1.out
  have sT1 := sT0.tail
  obtain ⟨p1_0, p1_1, p1_2, p1_3⟩ := sT1.c4
  have sT2 := sT1.tail
  clear sT0 sT1 sT2
  go_upto_region 2 with (first | (go_at_call 29; refine (machineOK_b _ _ _ _ m true _ (R.out.below S1.out.b) HV.out).mono ?_; rintro e w2 ⟨rfl, hb2⟩; have S2 := Lib.hid (S1.out.below hb2); clear hb2) | (go_at_call 23; refine (pageOKI_b _ true HP.out _).mono ?_; rintro e w2 ⟨rfl, rfl⟩) | (go_at_call 30; refine (choiceOKI_b _ false _ HC.out).mono ?_; rintro e w2 ⟨rfl, rfl⟩))
  clear p1_0 p1_1 p1_2 p1_3
  have sT0 := S2.out
  obtain ⟨p0_0, p0_1, p0_2, p0_3⟩ := sT0.c4
  have pF0_0 := sT0.f 0
  have pF0_1 := sT0.f 1
  have pF0_2 := sT0.f 2
  have pF0_3 := sT0.f 3
  have sT1 := sT0.tail
  clear sT0 sT1
  go_wp2
  refine bodyPost_ret (v := .agg #[.slice none 0 0, .slice none 0 0, .slice none 0 0, .slice none 0 0]) (by simp [results, Try.results13, go_sem, *]) rfl ⟨_, _, _, _, rfl, nilM _ _, (S2.out.s0 _ _ _ _).b⟩

set_option maxRecDepth 100000 in
set_option maxHeartbeats 4000000 in
theorem implFill_good (v0 v1 v2 v3 : Value) (m : SM) (page choice : Int) (w : World) (r : RdM w v0 v1 v2 v3 m) (hwf : WfM m) (HV : Hid (decide (Valid m) = true)) (HP : Hid (decide (0 ≤ page ∧ page < 4096) = true)) (HC : Hid (decide (0 ≤ choice ∧ choice ≤ 65535) = true)) :
    Calls Try.prog 13 #[.agg #[v0, v1, v2, v3], .int .i64 page, .int .i64 choice] w (MPost w (walkP m page choice).1) := by
  obtain ⟨A0, c0, A1, c1, A2, c2, A3, c3, rfl, rfl, rfl, rfl, hl0, hk0, hl1, hk1, hl2, hk2, hl3, hk3⟩ := r.shape
  have R := Lib.hid r
  have WK := Lib.hid (Valid.walkable (of_decide_eq_true HV.out) hwf)
  have HSM := Lib.hid (walk_small (of_decide_eq_true HV.out) page choice)
  obtain ⟨g, hg⟩ : ∃ x, walkP m page choice = x := ⟨_, rfl⟩
  have HG := Lib.hid hg
  rw [hg] at HSM ⊢
  clear r hwf hg
  go_enter Try.func13, Try.ntmps13
  go_upto_region 1 with fail
  refine ((St.start w).push2 _ _ _ _).gen (fun w1 S1' _ => ?_)
  have S1 := Lib.hid S1'
  clear S1'
  have sT0 := S1.out
  have sT1 := sT0.tail
  obtain ⟨p1_0, p1_1, p1_2, p1_3⟩ := sT1.c4
  have sT2 := sT1.tail
  clear sT0 sT1 sT2
  go_upto_region 3 with (first | (go_at_call 29; refine (machineOK_b _ _ _ _ m true _ (R.out.below S1.out.b) HV.out).mono ?_; rintro e w2 ⟨rfl, hb2⟩; have S2 := Lib.hid (S1.out.below hb2); clear hb2) | (go_at_call 23; refine (pageOKI_b _ true HP.out _).mono ?_; rintro e w2 ⟨rfl, rfl⟩) | (go_at_call 30; refine (choiceOKI_b _ true _ HC.out).mono ?_; rintro e w2 ⟨rfl, rfl⟩))
  clear p1_0 p1_1 p1_2 p1_3
  have sT0 := S2.out
  have sT1 := sT0.tail
  obtain ⟨p1_0, p1_1, p1_2, p1_3⟩ := sT1.c4
  have sT2 := sT1.tail
  clear sT0 sT1 sT2
  go_wp2_with fail
  refine (machOf_any _ _ _ _ m _ (R.out.below S2.out.b) (of_decide_eq_true HV.out)).mono ?_
  rintro e w3 ⟨p, u0, u1, u2, u3, u4, rfl, o3, hb3⟩
  have O3 := Lib.hid o3
  have S3 := Lib.hid (S2.out.below hb3)
  have HLT : Hid (∀ x ∈ ([(w.heap.size + 1, #[.slice none 0 0, .slice none 0 0, .slice none 0 0, .slice none 0 0], 46), (w.heap.size, #[.slice A0 m.ws.length c0, .slice A1 m.pend.length c1, .slice A2 m.tlb.length c2, .slice A3 m.wc.length c3], 46)] : List (Nat × Array Value × Nat)), x.1 < w2.heap.size) := Lib.hid S2.out.lt
  have HL0 : Hid (w.heap.size ≤ w2.heap.size) := Lib.hid S2.out.b.size
  clear o3 hb3 S2
  clear p1_0 p1_1 p1_2 p1_3
  go_wp2_with fail
  refine (implWalk_any page choice (of_decide_eq_true HP.out) (of_decide_eq_true HC.out) w2.heap.size p _ _ _ _ _ m _ O3.out WK.out g HG.out).mono ?_
  rintro e w4 ⟨rfl, u5, u6, o4, hb4, _⟩
  have O4 := Lib.hid o4
  have S4 := Lib.hid (st_low S3.out hb4 HLT.out HL0.out)
  clear o4 hb4 S3
  go_wp2_with fail
  refine (machine_any p _ _ _ _ _ g.1 _ (OwnX.rd O4.out) HSM.out).mono ?_
  rintro e w5 ⟨C0', C1', C2', C3', rfl, o5, hb5⟩
  obtain ⟨C0, f0, C1, f1, C2, f2, C3, f3, rfl, rfl, rfl, rfl⟩ := o5.shape
  have O5 := Lib.hid (o5.lower S4.out.b.size)
  have S5 := Lib.hid (S4.out.below hb5)
  clear o5 hb5 S4
  have sT0 := S5.out
  obtain ⟨p0_0, p0_1, p0_2, p0_3⟩ := sT0.c4
  have pF0_0 := sT0.f 0
  have pF0_1 := sT0.f 1
  have pF0_2 := sT0.f 2
  have pF0_3 := sT0.f 3
  have sT1 := sT0.tail
  clear sT0 sT1
  go_wp2
  refine bodyPost_ret (v := .agg #[.slice C0 g.1.ws.length f0, .slice C1 g.1.pend.length f1, .slice C2 g.1.tlb.length f2, .slice C3 g.1.wc.length f3]) (by simp [results, Try.results13, go_sem, *]) rfl ⟨_, _, _, _, rfl, O5.out.set4 S5.out.head (by decide) _ _ _ _, (S5.out.s0 _ _ _ _).b⟩

theorem implFill_any (v0 v1 v2 v3 : Value) (m : SM) (page choice : Int) (w : World) (r : RdM w v0 v1 v2 v3 m) (hwf : WfM m) :
    Calls Try.prog 13 #[.agg #[v0, v1, v2, v3], .int .i64 page, .int .i64 choice] w (MPost w (fillS m page choice)) := by
  unfold fillS
  by_cases hv : Valid m
  rotate_left
  · rw [if_neg (fun h => hv h.1)]; exact implFill_v v0 v1 v2 v3 m page choice w r (Lib.hid (decide_eq_false hv))
  by_cases hp : 0 ≤ page ∧ page < 4096
  rotate_left
  · rw [if_neg (fun h => hp h.2.1)]; exact implFill_p v0 v1 v2 v3 m page choice w r (Lib.hid (decide_eq_true hv)) (Lib.hid (decide_eq_false hp))
  by_cases hc : 0 ≤ choice ∧ choice ≤ 65535
  rotate_left
  · rw [if_neg (fun h => hc h.2.2)]; exact implFill_c v0 v1 v2 v3 m page choice w r (Lib.hid (decide_eq_true hv)) (Lib.hid (decide_eq_true hp)) (Lib.hid (decide_eq_false hc))
  · rw [if_pos ⟨hv, hp, hc⟩]; exact implFill_good v0 v1 v2 v3 m page choice w r hwf (Lib.hid (decide_eq_true hv)) (Lib.hid (decide_eq_true hp)) (Lib.hid (decide_eq_true hc))
end Go.Proofs.Ytomomaoncmgfpaa.Mmu
