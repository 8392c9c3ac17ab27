/- Walks of the reference's l2Allows, l2Look, Access. -/
import Derived.Test.YtemfnbcebgflmaaSpecFill
import Derived.Test.YtemfnbcebgflmaaAccMath
import Derived.Test.YtemfnbcebgflmaaSpecConf
namespace Go.Proofs.Ytemfnbcebgflmaa.Mmu
open Go.RowKit Go.Proofs.Ytemfnbcebgflmaa.Base Go.Proofs.Ytemfnbcebgflmaa.Kinds Go.Proofs.Ytemfnbcebgflmaa.DecMath Go.Proofs.Ytemfnbcebgflmaa.L1
set_option linter.unusedVariables false
set_option linter.unusedSimpArgs false
set_option maxHeartbeats 4000000 in
theorem allows_b (pm need : Int) (b : Bool) (w : World) (hp : 0 ≤ pm ∧ pm < 8) (hn : needP need) (h : decide (pm / need % 2 = 1) = b) : Calls Try.prog 149 #[.int .i64 pm, .int .i64 need] w fun e w' => e = .returned (.bool b) ∧ w' = w := by
  rw [← h]
  clear h
  obtain ⟨hp0, hp1⟩ := hp
  rcases hn with rfl | rfl | rfl
  all_goals
    go_enter Try.func149, Try.ntmps149
    go_wp2
    go_ret
    exact ⟨ret_bool (by rw [Bool.eq_iff_iff]; simp), rfl⟩
set_option maxHeartbeats 4000000 in
theorem look_any (page need out pm : Int) (w : World) (hp : 0 ≤ pm ∧ pm < 8) (hn : needP need) (k o : Int) (h : lookP need (1, out, pm, 0) = (k, o)) :
    Calls Try.prog 117 #[.int .i64 page, .int .i64 need, .int .i64 out, .int .i64 pm] w fun e w' => e = .returned (.agg #[.int .i64 page, .int .i64 need, .int .i64 k, .int .i64 o]) ∧ Below w.heap.size w w' := by
  obtain ⟨b, hb⟩ : ∃ b, decide (pm / need % 2 = 1) = b := ⟨_, rfl⟩
  have HB := Lib.hid hb
  have HK : Hid ((if b = true then (1, out) else (2, 0)) = (k, o)) := Lib.hid (by rw [← h, ← hb]; simp [lookP])
  have HN := Lib.hid hn
  have HP := Lib.hid hp
  clear h hb hn hp
  go_enter Try.func117, Try.ntmps117
  go_upto_region 1 with fail
  refine ((St.start w).push _ _).gen (fun w1 S1' _ => ?_)
  have S1 := Lib.hid S1'
  clear S1'
  have sT0 := S1.out
  obtain ⟨p0_0, p0_1, p0_2, p0_3⟩ := sT0.c4
  have pF0_0 := sT0.f 0
  have pF0_1 := sT0.f 1
  have pF0_2 := sT0.f 2
  have pF0_3 := sT0.f 3
  have sT1 := sT0.tail
  clear sT0 sT1
  cases b
  · have hk := HK.out
    simp at hk
    obtain ⟨rfl, rfl⟩ := hk
    clear HK
    go_wp2_with (first | (go_at_call 149; refine (allows_b pm need false _ HP.out HN.out HB.out).mono ?_; rintro e w1 ⟨rfl, rfl⟩))
    refine bodyPost_ret (v := .agg #[.int .i64 page, .int .i64 need, .int .i64 2, .int .i64 0]) (by simp [results, Try.results117, go_sem, *]) rfl ⟨rfl, (S1.out.s0 _ _ _ _).b⟩
  · have hk := HK.out
    simp at hk
    obtain ⟨rfl, rfl⟩ := hk
    clear HK
    go_wp2_with (first | (go_at_call 149; refine (allows_b pm need true _ HP.out HN.out HB.out).mono ?_; rintro e w1 ⟨rfl, rfl⟩))
    refine bodyPost_ret (v := .agg #[.int .i64 page, .int .i64 need, .int .i64 1, .int .i64 out]) (by simp [results, Try.results117, go_sem, *]) rfl ⟨rfl, (S1.out.s0 _ _ _ _).b⟩
theorem own_lit {α : Type} {enc : α → List Value} {sz E base n c : Nat} {w : World} {ad : Addr} {l : List α} (o : Own enc sz E base w (.slice (some ad) n c) l) (h : 0 < l.length) : base ≤ ad.block := (o.lt ad.block rfl).1
/-- The answer is a machine whose lists are the call's own, and what is seen. -/
def MSPost (w : World) (r : SM × SSeen) (e : Ending) (w' : World) : Prop := ∃ u0 u1 u2 u3, e = .returned (.tuple #[.agg #[u0, u1, u2, u3], SSeen.val r.2]) ∧ OwnM w.heap.size w' u0 u1 u2 u3 r.1 ∧ Below w.heap.size w w'
set_option maxRecDepth 100000 in
set_option maxHeartbeats 4000000 in
theorem specAcc_v (v0 v1 v2 v3 : Value) (m : SM) (page need choice : Int) (w : World) (r : RdM w v0 v1 v2 v3 m) (HV : Hid (decide (Valid m) = false)) :
    Calls Try.prog 53 #[.agg #[v0, v1, v2, v3], .int .i64 page, .int .i64 need, .int .i64 choice] w (MSPost w (⟨[], [], [], []⟩, ⟨0, 0, 0, 0⟩)) := by
  obtain ⟨A0, c0, A1, c1, A2, c2, A3, c3, rfl, rfl, rfl, rfl, hl0, hk0, hl1, hk1, hl2, hk2, hl3, hk3⟩ := r.shape
  have R := Lib.hid r
  clear r
  go_enter Try.func53, Try.ntmps53
  go_upto_region 1 with fail
  refine ((St.start w).push3 _ _ _ _ _ _).gen (fun w1 S1' _ => ?_)
  have S1 := Lib.hid S1'
  clear S1'
  have sT0 := S1.out
  have sT1 := sT0.tail
  have sT2 := sT1.tail
  obtain ⟨p2_0, p2_1, p2_2, p2_3⟩ := sT2.c4
  have sT3 := sT2.tail
  clear sT0 sT1 sT2 sT3
  go_upto_region 2 with (first | (go_at_call 88; refine (valid_b _ _ _ _ m false _ (R.out.below S1.out.b) HV.out).mono ?_; rintro e w2 ⟨rfl, hb2⟩; have S2 := Lib.hid (S1.out.below hb2); clear hb2))
  clear p2_0 p2_1 p2_2 p2_3
  have sT0 := S2.out
  obtain ⟨p0_0, p0_1, p0_2, p0_3⟩ := sT0.c4
  have pF0_0 := sT0.f 0
  have pF0_1 := sT0.f 1
  have pF0_2 := sT0.f 2
  have pF0_3 := sT0.f 3
  have sT1 := sT0.tail
  obtain ⟨p1_0, p1_1, p1_2, p1_3⟩ := sT1.c4
  have pF1_0 := sT1.f 0
  have pF1_1 := sT1.f 1
  have pF1_2 := sT1.f 2
  have pF1_3 := sT1.f 3
  have sT2 := sT1.tail
  clear sT0 sT1 sT2
  go_wp2
  refine bodyPost_ret (v := .tuple #[.agg #[.slice none 0 0, .slice none 0 0, .slice none 0 0, .slice none 0 0], .agg #[.int .i64 0, .int .i64 0, .int .i64 0, .int .i64 0]]) (by simp [results, Try.results53, go_sem, *]) rfl ?_
  have z := ret_boxes (l1 := []) S2.out (nilM w.heap.size _) (by decide) (by decide)
  exact ⟨_, _, _, _, rfl, (z _ _ _ _ _ _ _ _).1, (z _ _ _ _ _ _ _ _).2⟩

set_option maxRecDepth 100000 in
set_option maxHeartbeats 4000000 in
theorem specAcc_p (v0 v1 v2 v3 : Value) (m : SM) (page need choice : Int) (w : World) (r : RdM w v0 v1 v2 v3 m) (HV : Hid (decide (Valid m) = true)) (HP : Hid (decide (0 ≤ page ∧ page < 4096) = false)) :
    Calls Try.prog 53 #[.agg #[v0, v1, v2, v3], .int .i64 page, .int .i64 need, .int .i64 choice] w (MSPost w (⟨[], [], [], []⟩, ⟨0, 0, 0, 0⟩)) := by
  obtain ⟨A0, c0, A1, c1, A2, c2, A3, c3, rfl, rfl, rfl, rfl, hl0, hk0, hl1, hk1, hl2, hk2, hl3, hk3⟩ := r.shape
  have R := Lib.hid r
  clear r
  go_enter Try.func53, Try.ntmps53
  go_upto_region 1 with fail
  refine ((St.start w).push3 _ _ _ _ _ _).gen (fun w1 S1' _ => ?_)
  have S1 := Lib.hid S1'
  clear S1'
  have sT0 := S1.out
  have sT1 := sT0.tail
  have sT2 := sT1.tail
  obtain ⟨p2_0, p2_1, p2_2, p2_3⟩ := sT2.c4
  have sT3 := sT2.tail
  clear sT0 sT1 sT2 sT3
  go_upto_region 2 with (first | (go_at_call 88; refine (valid_b _ _ _ _ m true _ (R.out.below S1.out.b) HV.out).mono ?_; rintro e w2 ⟨rfl, hb2⟩; have S2 := Lib.hid (S1.out.below hb2); clear hb2) | (go_at_call 66; refine (pageOk_b _ false HP.out _).mono ?_; rintro e w2 ⟨rfl, rfl⟩))
  clear p2_0 p2_1 p2_2 p2_3
  have sT0 := S2.out
  obtain ⟨p0_0, p0_1, p0_2, p0_3⟩ := sT0.c4
  have pF0_0 := sT0.f 0
  have pF0_1 := sT0.f 1
  have pF0_2 := sT0.f 2
  have pF0_3 := sT0.f 3
  have sT1 := sT0.tail
  obtain ⟨p1_0, p1_1, p1_2, p1_3⟩ := sT1.c4
  have pF1_0 := sT1.f 0
  have pF1_1 := sT1.f 1
  have pF1_2 := sT1.f 2
  have pF1_3 := sT1.f 3
  have sT2 := sT1.tail
  clear sT0 sT1 sT2
  go_wp2
  refine bodyPost_ret (v := .tuple #[.agg #[.slice none 0 0, .slice none 0 0, .slice none 0 0, .slice none 0 0], .agg #[.int .i64 0, .int .i64 0, .int .i64 0, .int .i64 0]]) (by simp [results, Try.results53, go_sem, *]) rfl ?_
  have z := ret_boxes (l1 := []) S2.out (nilM w.heap.size _) (by decide) (by decide)
  exact ⟨_, _, _, _, rfl, (z _ _ _ _ _ _ _ _).1, (z _ _ _ _ _ _ _ _).2⟩

set_option maxRecDepth 100000 in
set_option maxHeartbeats 4000000 in
theorem specAcc_c (v0 v1 v2 v3 : Value) (m : SM) (page need choice : Int) (w : World) (r : RdM w v0 v1 v2 v3 m) (HV : Hid (decide (Valid m) = true)) (HP : Hid (decide (0 ≤ page ∧ page < 4096) = true)) (HC : Hid (decide (0 ≤ choice ∧ choice ≤ 65535) = false)) :
    Calls Try.prog 53 #[.agg #[v0, v1, v2, v3], .int .i64 page, .int .i64 need, .int .i64 choice] w (MSPost w (⟨[], [], [], []⟩, ⟨0, 0, 0, 0⟩)) := by
  obtain ⟨A0, c0, A1, c1, A2, c2, A3, c3, rfl, rfl, rfl, rfl, hl0, hk0, hl1, hk1, hl2, hk2, hl3, hk3⟩ := r.shape
  have R := Lib.hid r
  clear r
  go_enter Try.func53, Try.ntmps53
  go_upto_region 1 with fail
  refine ((St.start w).push3 _ _ _ _ _ _).gen (fun w1 S1' _ => ?_)
  have S1 := Lib.hid S1'
  clear S1'
  have sT0 := S1.out
  have sT1 := sT0.tail
  have sT2 := sT1.tail
  obtain ⟨p2_0, p2_1, p2_2, p2_3⟩ := sT2.c4
  have sT3 := sT2.tail
  clear sT0 sT1 sT2 sT3
  go_upto_region 2 with (first | (go_at_call 88; refine (valid_b _ _ _ _ m true _ (R.out.below S1.out.b) HV.out).mono ?_; rintro e w2 ⟨rfl, hb2⟩; have S2 := Lib.hid (S1.out.below hb2); clear hb2) | (go_at_call 66; refine (pageOk_b _ true HP.out _).mono ?_; rintro e w2 ⟨rfl, rfl⟩) | (go_at_call 112; refine (choiceOk_b _ false _ HC.out).mono ?_; rintro e w2 ⟨rfl, rfl⟩))
  clear p2_0 p2_1 p2_2 p2_3
  have sT0 := S2.out
  obtain ⟨p0_0, p0_1, p0_2, p0_3⟩ := sT0.c4
  have pF0_0 := sT0.f 0
  have pF0_1 := sT0.f 1
  have pF0_2 := sT0.f 2
  have pF0_3 := sT0.f 3
  have sT1 := sT0.tail
  obtain ⟨p1_0, p1_1, p1_2, p1_3⟩ := sT1.c4
  have pF1_0 := sT1.f 0
  have pF1_1 := sT1.f 1
  have pF1_2 := sT1.f 2
  have pF1_3 := sT1.f 3
  have sT2 := sT1.tail
  clear sT0 sT1 sT2
  go_wp2
  refine bodyPost_ret (v := .tuple #[.agg #[.slice none 0 0, .slice none 0 0, .slice none 0 0, .slice none 0 0], .agg #[.int .i64 0, .int .i64 0, .int .i64 0, .int .i64 0]]) (by simp [results, Try.results53, go_sem, *]) rfl ?_
  have z := ret_boxes (l1 := []) S2.out (nilM w.heap.size _) (by decide) (by decide)
  exact ⟨_, _, _, _, rfl, (z _ _ _ _ _ _ _ _).1, (z _ _ _ _ _ _ _ _).2⟩

set_option maxRecDepth 100000 in
set_option maxHeartbeats 4000000 in
theorem specAcc_n (v0 v1 v2 v3 : Value) (m : SM) (page need choice : Int) (w : World) (r : RdM w v0 v1 v2 v3 m) (HV : Hid (decide (Valid m) = true)) (HP : Hid (decide (0 ≤ page ∧ page < 4096) = true)) (HC : Hid (decide (0 ≤ choice ∧ choice ≤ 65535) = true)) (hn : ¬ needP need) :
    Calls Try.prog 53 #[.agg #[v0, v1, v2, v3], .int .i64 page, .int .i64 need, .int .i64 choice] w (MSPost w (⟨[], [], [], []⟩, ⟨0, 0, 0, 0⟩)) := by
  obtain ⟨A0, c0, A1, c1, A2, c2, A3, c3, rfl, rfl, rfl, rfl, hl0, hk0, hl1, hk1, hl2, hk2, hl3, hk3⟩ := r.shape
  have R := Lib.hid r
  clear r
  have hn1 : (need != 1) = true := by rw [bne_iff_ne]; exact fun h => hn (Or.inl h)
  have hn2 : (need != 2) = true := by rw [bne_iff_ne]; exact fun h => hn (Or.inr (Or.inl h))
  have hn4 : (need != 4) = true := by rw [bne_iff_ne]; exact fun h => hn (Or.inr (Or.inr h))
  clear hn
  go_enter Try.func53, Try.ntmps53
  go_upto_region 1 with fail
  refine ((St.start w).push3 _ _ _ _ _ _).gen (fun w1 S1' _ => ?_)
  have S1 := Lib.hid S1'
  clear S1'
  have sT0 := S1.out
  have sT1 := sT0.tail
  have sT2 := sT1.tail
  obtain ⟨p2_0, p2_1, p2_2, p2_3⟩ := sT2.c4
  have sT3 := sT2.tail
  clear sT0 sT1 sT2 sT3
  go_upto_region 4 with (first | (go_at_call 88; refine (valid_b _ _ _ _ m true _ (R.out.below S1.out.b) HV.out).mono ?_; rintro e w2 ⟨rfl, hb2⟩; have S2 := Lib.hid (S1.out.below hb2); clear hb2) | (go_at_call 66; refine (pageOk_b _ true HP.out _).mono ?_; rintro e w2 ⟨rfl, rfl⟩) | (go_at_call 112; refine (choiceOk_b _ true _ HC.out).mono ?_; rintro e w2 ⟨rfl, rfl⟩))
  clear p2_0 p2_1 p2_2 p2_3
  have sT0 := S2.out
  obtain ⟨p0_0, p0_1, p0_2, p0_3⟩ := sT0.c4
  have pF0_0 := sT0.f 0
  have pF0_1 := sT0.f 1
  have pF0_2 := sT0.f 2
  have pF0_3 := sT0.f 3
  have sT1 := sT0.tail
  obtain ⟨p1_0, p1_1, p1_2, p1_3⟩ := sT1.c4
  have pF1_0 := sT1.f 0
  have pF1_1 := sT1.f 1
  have pF1_2 := sT1.f 2
  have pF1_3 := sT1.f 3
  have sT2 := sT1.tail
  clear sT0 sT1 sT2
  go_wp2
  refine bodyPost_ret (v := .tuple #[.agg #[.slice none 0 0, .slice none 0 0, .slice none 0 0, .slice none 0 0], .agg #[.int .i64 0, .int .i64 0, .int .i64 0, .int .i64 0]]) (by simp [results, Try.results53, go_sem, *]) rfl ?_
  have z := ret_boxes (l1 := []) S2.out (nilM w.heap.size _) (by decide) (by decide)
  exact ⟨_, _, _, _, rfl, (z _ _ _ _ _ _ _ _).1, (z _ _ _ _ _ _ _ _).2⟩

set_option maxRecDepth 100000 in
set_option maxHeartbeats 16000000 in
theorem specAcc_good (v0 v1 v2 v3 : Value) (m : SM) (page need choice : Int) (w : World) (r : RdM w v0 v1 v2 v3 m) (hwf : WfM m) (HV : Hid (decide (Valid m) = true)) (HP : Hid (decide (0 ≤ page ∧ page < 4096) = true)) (HC : Hid (decide (0 ≤ choice ∧ choice ≤ 65535) = true)) (hn : needP need) :
    Calls Try.prog 53 #[.agg #[v0, v1, v2, v3], .int .i64 page, .int .i64 need, .int .i64 choice] w (MSPost w ((accP m page choice).1, ⟨page, need, (lookP need (accP m page choice).2).1, (lookP need (accP m page choice).2).2⟩)) := by
  obtain ⟨A0, c0, A1, c1, A2, c2, A3, c3, rfl, rfl, rfl, rfl, hl0, hk0, hl1, hk1, hl2, hk2, hl3, hk3⟩ := r.shape
  have R := Lib.hid r
  have hv := of_decide_eq_true HV.out
  have WK := Lib.hid (Valid.walkable hv hwf)
  have V := Lib.hid hv
  have hnt : m.tlb.length ≤ 256 := hv.ntlb
  have hpp := of_decide_eq_true HP.out
  have hcc := of_decide_eq_true HC.out
  obtain ⟨hp0, hp1⟩ := hpp
  obtain ⟨hc0, hc1⟩ := hcc
  obtain ⟨g, hg⟩ : ∃ x, accP m page choice = x := ⟨_, rfl⟩
  have HG := Lib.hid hg
  have HN := Lib.hid hn
  obtain ⟨gk, go, hgl⟩ : ∃ a b, lookP need g.2 = (a, b) := ⟨_, _, rfl⟩
  have HGL := Lib.hid hgl
  rw [hg, hgl]
  simp only
  clear r hwf hg hv hgl
  have hcs : ((need != 1) = false) ∨ ((need != 1) = true ∧ (need != 2) = false) ∨ ((need != 1) = true ∧ (need != 2) = true ∧ (need != 4) = false) := by rcases hn with rfl | rfl | rfl <;> decide
  clear hn
  rcases hcs with hs1 | ⟨hs1, hs2⟩ | ⟨hs1, hs2, hs3⟩
  all_goals
    go_enter Try.func53, Try.ntmps53
    go_upto_region 1 with fail
    refine ((St.start w).push3 _ _ _ _ _ _).gen (fun w1 S1' _ => ?_)
    have S1 := Lib.hid S1'
    clear S1'
    have sT0 := S1.out
    have sT1 := sT0.tail
    have sT2 := sT1.tail
    obtain ⟨p2_0, p2_1, p2_2, p2_3⟩ := sT2.c4
    have sT3 := sT2.tail
    clear sT0 sT1 sT2 sT3
    go_upto_region 5 with (first | (go_at_call 88; refine (valid_b _ _ _ _ m true _ (R.out.below S1.out.b) HV.out).mono ?_; rintro e w2 ⟨rfl, hb2⟩; have S2 := Lib.hid (S1.out.below hb2); clear hb2) | (go_at_call 66; refine (pageOk_b _ true HP.out _).mono ?_; rintro e w2 ⟨rfl, rfl⟩) | (go_at_call 112; refine (choiceOk_b _ true _ HC.out).mono ?_; rintro e w2 ⟨rfl, rfl⟩))
    clear p2_0 p2_1 p2_2 p2_3
    go_wp2
    go_loopw [10, 11] (fun v i wr => ∃ (k : Nat) (A : Option Addr) (c n : Nat), k ≤ m.tlb.length ∧ v = .slice A n c ∧ n = (covL (m.tlb.take k) page).length ∧ i = .int .i64 k ∧ Own STlb.enc 5 124 w2.heap.size wr v (covL (m.tlb.take k) page) ∧ Below w2.heap.size w2 wr) (fun _ i _ => m.tlb.length - (intOf i).toNat)
    case atStart =>
      refine ⟨0, _, _, _, Nat.zero_le _, rfl, rfl, rfl, ?_, (Below.refl _ _).alloc (Nat.le_refl _) _⟩
      exact Own.made STlb.enc 5 124 (base := w2.heap.size) w2 (Nat.le_refl _)
    case round =>
      obtain ⟨k, Av, cv, nv, hk, rfl, hnv, rfl, ho, hb⟩ := hrel
      have S3 := Lib.hid (S2.out.below hb)
      have HO := Lib.hid ho
      have HB := Lib.hid hb
      have HNV := Lib.hid hnv
      clear ho hb hnv
      by_cases hlt : k < m.tlb.length
      · have hlt' : (k : Int) < (m.tlb.length : Int) := by omega
        obtain ⟨a0, e0, ea, g0, u0, u1, u2, u3, u4⟩ := STlb.at (R.out.tlb.below S3.out.b) hlt
        cases ea
        have G0 := Lib.hid g0
        have OK := Lib.hid (V.out.tlb e0 (List.mem_of_getElem? g0))
        have hlc : (covL (m.tlb.take k) page).length ≤ k := by have := List.length_filter_le (fun e => decide (tcovP e page)) (m.tlb.take k); rw [take_len (by omega)] at this; exact this
        obtain ⟨cb, hcb⟩ : ∃ b, decide (tcovP e0 page) = b := ⟨_, rfl⟩
        have HCB := Lib.hid hcb
        have hnk : nv ≤ k := by rw [HNV.out]; exact hlc
        clear g0 hcb hlc
        have sT0 := S3.out
        have sT1 := sT0.tail
        have sT2 := sT1.tail
        obtain ⟨p2_0, p2_1, p2_2, p2_3⟩ := sT2.c4
        have sT3 := sT2.tail
        clear sT0 sT1 sT2 sT3
        have x0 := u0
        clear x0
        cases cb with
        | false =>
          have HE : Hid (covL (m.tlb.take (k + 1)) page = covL (m.tlb.take k) page) := Lib.hid (by rw [covL_take page G0.out, if_neg (of_decide_eq_false HCB.out)])
          go_wp2_with (first | (go_at_call 89; refine (tlbCovers_b e0 page false _ OK.out hp0 (by omega) HCB.out).mono ?_; rintro e w4 ⟨rfl, hb4⟩; have HB4 := Lib.hid hb4; clear hb4))
          go_roundw
          case rel => exact ⟨k + 1, Av, cv, nv, by omega, rfl, by rw [HE.out]; exact HNV.out, by go_num, by rw [HE.out]; exact HO.out.below HB4.out, thenB HB.out HB4.out⟩
          case measure => simp [intOf]; omega
        | true =>
          have HE : Hid (covL (m.tlb.take (k + 1)) page = covL (m.tlb.take k) page ++ [e0]) := Lib.hid (by rw [covL_take page G0.out, if_pos (of_decide_eq_true HCB.out)])
          go_wp2_with (first
            | (go_at_call 89; refine (tlbCovers_b e0 page true _ OK.out hp0 (by omega) HCB.out).mono ?_; rintro e w4 ⟨rfl, hb4⟩; have HO4 := Lib.hid (HO.out.below hb4); have HB4 := Lib.hid (thenB HB.out hb4); have hzz := (thenB HB.out hb4).size; have x0 := bC hb4 u0; have x1 := bC hb4 u1; have x2 := bC hb4 u2; have x3 := bC hb4 u3; have x4 := bC hb4 u4; have x5 := bC hb4 p2_2; clear hb4 u0 u1 u2 u3 u4 p2_0 p2_1 p2_2 p2_3)
            | (at_builtin; refine append1 124 5 40 70 (.agg #[.int .i64 0, .int .i64 0, .int .i64 0, .int .i64 0, .bool false]) Try.underlying70 infoTlS rfl (by decide) STlb.len STlb.one rfl (.tmp 57) (.tmp 63) rfl w2.heap.size (.slice Av nv cv) (covL (m.tlb.take k) page) e0 _ rfl rfl rfl HO4.out (by rw [← HNV.out]; omega) (by decide) hzz ?_))
          intro v1 wq ho1 hg1
          have hb1 : Below w2.heap.size w2 wq := Own.grown HO4.out HB4.out HB4.out.size hg1
          rw [← HE.out] at ho1
          obtain ⟨Aq, cq, hv1⟩ := ho1.shape
          subst hv1
          clear hg1 x0 x1 x2 x3 x4 x5
          go_wp2
          go_roundw
          case rel => exact ⟨k + 1, _, _, _, by omega, rfl, rfl, by go_num, ho1, hb1⟩
          case measure => simp [intOf]; omega
      · have hlt' : ¬ (k : Int) < (m.tlb.length : Int) := by omega
        obtain rfl : k = m.tlb.length := by omega
        rw [List.take_length] at HNV HO
        obtain ⟨b7, hb7⟩ : ∃ b, bitB choice 7 = b := ⟨_, rfl⟩
        have HB7 := Lib.hid hb7
        clear hb7
        generalize wr = w3 at *
        by_cases hB : b7 = true ∧ 0 < nv
        rotate_left
        · have HW : Hid (walkP m page choice = g) := Lib.hid (by
            rw [← HG.out]
            unfold accP
            have : (if bitB choice 7 = true then cacheP m.tlb page else none) = none := by
              rw [HB7.out]
              split
              · rename_i h7
                have h0 : covL m.tlb page = [] := List.length_eq_zero_iff.1 (by rw [← HNV.out]; by_cases h : 0 < nv; exact absurd ⟨h7, h⟩ hB; omega)
                unfold cacheP
                rw [h0]
              · rfl
            rw [this])
          have hpm := goP_perm page choice (4 - (beginP m page choice).1).toNat m (beginP m page choice).1 (beginP m page choice).2.1 (beginP m page choice).2.2
          have HPM : Hid (0 ≤ g.2.2.2.1 ∧ g.2.2.2.1 < 8) := Lib.hid (by rw [← HW.out]; exact hpm)
          clear hpm
          have sT0 := S3.out
          have sT1 := sT0.tail
          have sT2 := sT1.tail
          obtain ⟨p2_0, p2_1, p2_2, p2_3⟩ := sT2.c4
          have sT3 := sT2.tail
          clear sT0 sT1 sT2 sT3
          cases b7
          · go_upto_region 18 with (first | (go_at_call 116; refine (bit_b choice 7 false _ hc0 hc1 (by omega) HB7.out).mono ?_; rintro e w3 ⟨rfl, rfl⟩))
            go_wp2_with fail
            refine (specCopy_any _ _ _ _ m _ (R.out.below S3.out.b) (Valid.le V.out)).mono ?_
            rintro e w4 ⟨u0, u1, u2, u3, rfl, o4, hb4⟩
            obtain ⟨B0, d0, B1, d1, B2, d2, B3, d3, rfl, rfl, rfl, rfl⟩ := o4.shape
            have O4 := Lib.hid (o4.lower S3.out.b.size)
            have S4 := Lib.hid (S3.out.below hb4)
            clear o4 hb4 S3
            clear p2_0 p2_1 p2_2 p2_3
            go_wp2_with fail
            refine (specWalk_any page choice ⟨hp0, hp1⟩ ⟨hc0, hc1⟩ w.heap.size _ _ _ _ m _ O4.out S4.out.b.size WK.out g HW.out).mono ?_
            rintro e w5 ⟨u0, u1, u2, u3, rfl, o5, hb5⟩
            obtain ⟨C0, f0, C1, f1, C2, f2, C3, f3, rfl, rfl, rfl, rfl⟩ := o5.shape
            have O5 := Lib.hid o5
            have S5 := Lib.hid (S4.out.below hb5)
            clear o5 hb5 S4 O4
            go_upto_region 19 with fail
            refine st_genO (S5.out.push2 _ _ _ _) (O5.out.below (allocB (allocB (Below.refl _ _) _) _)) (fun w6 S6' O6' => ?_)
            have S6 := Lib.hid S6'
            have O6 := Lib.hid O6'
            clear S6' O6' S5 O5
            have sT0 := S6.out
            obtain ⟨p0_0, p0_1, p0_2, p0_3⟩ := sT0.c4
            have sT1 := sT0.tail
            obtain ⟨p1_0, p1_1, p1_2, p1_3⟩ := sT1.c4
            have sT2 := sT1.tail
            obtain ⟨p2_0, p2_1, p2_2, p2_3⟩ := sT2.c4
            have pF2_0 := sT2.f 0
            have pF2_1 := sT2.f 1
            have pF2_2 := sT2.f 2
            have pF2_3 := sT2.f 3
            have sT3 := sT2.tail
            obtain ⟨p3_0, p3_1, p3_2, p3_3⟩ := sT3.c4
            have pF3_0 := sT3.f 0
            have pF3_1 := sT3.f 1
            have pF3_2 := sT3.f 2
            have pF3_3 := sT3.f 3
            have sT4 := sT3.tail
            have sT5 := sT4.tail
            clear sT0 sT1 sT2 sT3 sT4 sT5
            have hord := S6.out.ord
            simp at hord
            have n1 : ¬ (w.heap.size + 1 = w5.heap.size) := by omega
            have n2 : ¬ (w.heap.size + 1 = w5.heap.size + 1) := by omega
            have n3 : ¬ (w.heap.size + 1 + 1 = w5.heap.size) := by omega
            have n4 : ¬ (w.heap.size + 1 + 1 = w5.heap.size + 1) := by omega
            have n5 : ¬ (w.heap.size = w5.heap.size) := by omega
            clear hord
            by_cases hk : g.2.1 = 1
            rotate_left
            · have hkb : (g.2.1 != 1) = true := by rw [bne_iff_ne]; exact hk
              have HL : Hid (gk = g.2.1 ∧ go = 0) := Lib.hid (by have := HGL.out; unfold lookP at this; rw [if_neg hk] at this; simp only [Prod.mk.injEq] at this; exact ⟨this.1.symm, this.2.symm⟩)
              clear hk
              go_wp2
              go_region_held3 (fun w' => w'.cell? ⟨w5.heap.size, 0, none⟩ = some (.slice C0 g.1.ws.length f0) ∧ w'.cell? ⟨w5.heap.size, 1, none⟩ = some (.slice C1 g.1.pend.length f1) ∧ w'.cell? ⟨w5.heap.size, 2, none⟩ = some (.slice C2 g.1.tlb.length f2) ∧ w'.cell? ⟨w5.heap.size, 3, none⟩ = some (.slice C3 g.1.wc.length f3) ∧ w'.cell? ⟨w5.heap.size + 1, 0, none⟩ = some (.int .i64 g.2.1)) (go_keep) (fail)
              go_wp2
              refine bodyPost_ret (v := .tuple #[.agg #[.slice C0 g.1.ws.length f0, .slice C1 g.1.pend.length f1, .slice C2 g.1.tlb.length f2, .slice C3 g.1.wc.length f3], .agg #[.int .i64 page, .int .i64 need, .int .i64 g.2.1, .int .i64 0]]) (by simp [results, Try.results53, go_sem, *]) rfl ?_
              have z := ret_boxes (l1 := [_, _]) S6.out O6.out (by decide) (by decide)
              exact ⟨_, _, _, _, by rw [HL.out.1, HL.out.2]; rfl, (z _ _ _ _ _ _ _ _).1.drew, (z _ _ _ _ _ _ _ _).2.drew⟩
            · have hkb : (g.2.1 != 1) = false := by simpa using hk
              have HL : Hid (lookP need (1, g.2.2.1, g.2.2.2.1, 0) = (gk, go)) := Lib.hid (by rw [← HGL.out]; unfold lookP; rw [if_pos rfl, if_pos hk])
              clear hk
              go_wp2
              go_region_held3 (fun w' => w'.cell? ⟨w5.heap.size, 0, none⟩ = some (.slice C0 g.1.ws.length f0) ∧ w'.cell? ⟨w5.heap.size, 1, none⟩ = some (.slice C1 g.1.pend.length f1) ∧ w'.cell? ⟨w5.heap.size, 2, none⟩ = some (.slice C2 g.1.tlb.length f2) ∧ w'.cell? ⟨w5.heap.size, 3, none⟩ = some (.slice C3 g.1.wc.length f3) ∧ w'.cell? ⟨w5.heap.size + 1, 1, none⟩ = some (.int .i64 g.2.2.1) ∧ w'.cell? ⟨w5.heap.size + 1, 2, none⟩ = some (.int .i64 g.2.2.2.1))
                (first | go_keep | (with_reducible exact ⟨z0, z1, z2, z3, z4, z5⟩) | (with_reducible exact ⟨far4 z0 n1 _ _ _ _, far4 z1 n1 _ _ _ _, far4 z2 n1 _ _ _ _, far4 z3 n1 _ _ _ _, far4 z4 n2 _ _ _ _, far4 z5 n2 _ _ _ _⟩) | (with_reducible exact ⟨far4 (far4 z0 n1 _ _ _ _) n3 _ _ _ _, far4 (far4 z1 n1 _ _ _ _) n3 _ _ _ _, far4 (far4 z2 n1 _ _ _ _) n3 _ _ _ _, far4 (far4 z3 n1 _ _ _ _) n3 _ _ _ _, far4 (far4 z4 n2 _ _ _ _) n4 _ _ _ _, far4 (far4 z5 n2 _ _ _ _) n4 _ _ _ _⟩))
                ((go_at_call 117; refine (look_any page need g.2.2.1 g.2.2.2.1 _ HPM.out HN.out gk go HL.out).mono ?_; rintro e w7 ⟨rfl, hb7⟩; have z0 := bC hb7 p1_0; have z1 := bC hb7 p1_1; have z2 := bC hb7 p1_2; have z3 := bC hb7 p1_3; have z4 := bC hb7 p0_1; have z5 := bC hb7 p0_2; have S7 := Lib.hid (S6.out.drew.below hb7); have O7 := Lib.hid (O6.out.drew.below hb7); clear hb7; have sT0 := S7.out; have sT1 := sT0.tail; have sT2 := sT1.tail; obtain ⟨y2_0, y2_1, y2_2, y2_3⟩ := sT2.c4; have yF2_0 := sT2.f 0; have yF2_1 := sT2.f 1; have yF2_2 := sT2.f 2; have yF2_3 := sT2.f 3; have sT3 := sT2.tail; obtain ⟨y3_0, y3_1, y3_2, y3_3⟩ := sT3.c4; have yF3_0 := sT3.f 0; have yF3_1 := sT3.f 1; have yF3_2 := sT3.f 2; have yF3_3 := sT3.f 3; have sT4 := sT3.tail; clear sT0 sT1 sT2 sT3 sT4))
              go_wp2
              refine bodyPost_ret (v := .tuple #[.agg #[.slice C0 g.1.ws.length f0, .slice C1 g.1.pend.length f1, .slice C2 g.1.tlb.length f2, .slice C3 g.1.wc.length f3], .agg #[.int .i64 page, .int .i64 need, .int .i64 gk, .int .i64 go]]) (by simp [results, Try.results53, go_sem, *]) rfl ?_
              have z := ret_boxes (l1 := [_, _]) S7.out O7.out (by decide) (by decide)
              exact ⟨_, _, _, _, rfl, (z _ _ _ _ _ _ _ _).1, (z _ _ _ _ _ _ _ _).2⟩
          · obtain rfl : nv = 0 := by by_cases h : 0 < nv; exact absurd ⟨rfl, h⟩ hB; omega
            go_upto_region 18 with (first | (go_at_call 116; refine (bit_b choice 7 true _ hc0 hc1 (by omega) HB7.out).mono ?_; rintro e w3 ⟨rfl, rfl⟩))
            go_wp2_with fail
            refine (specCopy_any _ _ _ _ m _ (R.out.below S3.out.b) (Valid.le V.out)).mono ?_
            rintro e w4 ⟨u0, u1, u2, u3, rfl, o4, hb4⟩
            obtain ⟨B0, d0, B1, d1, B2, d2, B3, d3, rfl, rfl, rfl, rfl⟩ := o4.shape
            have O4 := Lib.hid (o4.lower S3.out.b.size)
            have S4 := Lib.hid (S3.out.below hb4)
            clear o4 hb4 S3
            clear p2_0 p2_1 p2_2 p2_3
            go_wp2_with fail
            refine (specWalk_any page choice ⟨hp0, hp1⟩ ⟨hc0, hc1⟩ w.heap.size _ _ _ _ m _ O4.out S4.out.b.size WK.out g HW.out).mono ?_
            rintro e w5 ⟨u0, u1, u2, u3, rfl, o5, hb5⟩
            obtain ⟨C0, f0, C1, f1, C2, f2, C3, f3, rfl, rfl, rfl, rfl⟩ := o5.shape
            have O5 := Lib.hid o5
            have S5 := Lib.hid (S4.out.below hb5)
            clear o5 hb5 S4 O4
            go_upto_region 19 with fail
            refine st_genO (S5.out.push2 _ _ _ _) (O5.out.below (allocB (allocB (Below.refl _ _) _) _)) (fun w6 S6' O6' => ?_)
            have S6 := Lib.hid S6'
            have O6 := Lib.hid O6'
            clear S6' O6' S5 O5
            have sT0 := S6.out
            obtain ⟨p0_0, p0_1, p0_2, p0_3⟩ := sT0.c4
            have sT1 := sT0.tail
            obtain ⟨p1_0, p1_1, p1_2, p1_3⟩ := sT1.c4
            have sT2 := sT1.tail
            obtain ⟨p2_0, p2_1, p2_2, p2_3⟩ := sT2.c4
            have pF2_0 := sT2.f 0
            have pF2_1 := sT2.f 1
            have pF2_2 := sT2.f 2
            have pF2_3 := sT2.f 3
            have sT3 := sT2.tail
            obtain ⟨p3_0, p3_1, p3_2, p3_3⟩ := sT3.c4
            have pF3_0 := sT3.f 0
            have pF3_1 := sT3.f 1
            have pF3_2 := sT3.f 2
            have pF3_3 := sT3.f 3
            have sT4 := sT3.tail
            have sT5 := sT4.tail
            clear sT0 sT1 sT2 sT3 sT4 sT5
            have hord := S6.out.ord
            simp at hord
            have n1 : ¬ (w.heap.size + 1 = w5.heap.size) := by omega
            have n2 : ¬ (w.heap.size + 1 = w5.heap.size + 1) := by omega
            have n3 : ¬ (w.heap.size + 1 + 1 = w5.heap.size) := by omega
            have n4 : ¬ (w.heap.size + 1 + 1 = w5.heap.size + 1) := by omega
            have n5 : ¬ (w.heap.size = w5.heap.size) := by omega
            clear hord
            by_cases hk : g.2.1 = 1
            rotate_left
            · have hkb : (g.2.1 != 1) = true := by rw [bne_iff_ne]; exact hk
              have HL : Hid (gk = g.2.1 ∧ go = 0) := Lib.hid (by have := HGL.out; unfold lookP at this; rw [if_neg hk] at this; simp only [Prod.mk.injEq] at this; exact ⟨this.1.symm, this.2.symm⟩)
              clear hk
              go_wp2
              go_region_held3 (fun w' => w'.cell? ⟨w5.heap.size, 0, none⟩ = some (.slice C0 g.1.ws.length f0) ∧ w'.cell? ⟨w5.heap.size, 1, none⟩ = some (.slice C1 g.1.pend.length f1) ∧ w'.cell? ⟨w5.heap.size, 2, none⟩ = some (.slice C2 g.1.tlb.length f2) ∧ w'.cell? ⟨w5.heap.size, 3, none⟩ = some (.slice C3 g.1.wc.length f3) ∧ w'.cell? ⟨w5.heap.size + 1, 0, none⟩ = some (.int .i64 g.2.1)) (go_keep) (fail)
              go_wp2
              refine bodyPost_ret (v := .tuple #[.agg #[.slice C0 g.1.ws.length f0, .slice C1 g.1.pend.length f1, .slice C2 g.1.tlb.length f2, .slice C3 g.1.wc.length f3], .agg #[.int .i64 page, .int .i64 need, .int .i64 g.2.1, .int .i64 0]]) (by simp [results, Try.results53, go_sem, *]) rfl ?_
              have z := ret_boxes (l1 := [_, _]) S6.out O6.out (by decide) (by decide)
              exact ⟨_, _, _, _, by rw [HL.out.1, HL.out.2]; rfl, (z _ _ _ _ _ _ _ _).1.drew, (z _ _ _ _ _ _ _ _).2.drew⟩
            · have hkb : (g.2.1 != 1) = false := by simpa using hk
              have HL : Hid (lookP need (1, g.2.2.1, g.2.2.2.1, 0) = (gk, go)) := Lib.hid (by rw [← HGL.out]; unfold lookP; rw [if_pos rfl, if_pos hk])
              clear hk
              go_wp2
              go_region_held3 (fun w' => w'.cell? ⟨w5.heap.size, 0, none⟩ = some (.slice C0 g.1.ws.length f0) ∧ w'.cell? ⟨w5.heap.size, 1, none⟩ = some (.slice C1 g.1.pend.length f1) ∧ w'.cell? ⟨w5.heap.size, 2, none⟩ = some (.slice C2 g.1.tlb.length f2) ∧ w'.cell? ⟨w5.heap.size, 3, none⟩ = some (.slice C3 g.1.wc.length f3) ∧ w'.cell? ⟨w5.heap.size + 1, 1, none⟩ = some (.int .i64 g.2.2.1) ∧ w'.cell? ⟨w5.heap.size + 1, 2, none⟩ = some (.int .i64 g.2.2.2.1))
                (first | go_keep | (with_reducible exact ⟨z0, z1, z2, z3, z4, z5⟩) | (with_reducible exact ⟨far4 z0 n1 _ _ _ _, far4 z1 n1 _ _ _ _, far4 z2 n1 _ _ _ _, far4 z3 n1 _ _ _ _, far4 z4 n2 _ _ _ _, far4 z5 n2 _ _ _ _⟩) | (with_reducible exact ⟨far4 (far4 z0 n1 _ _ _ _) n3 _ _ _ _, far4 (far4 z1 n1 _ _ _ _) n3 _ _ _ _, far4 (far4 z2 n1 _ _ _ _) n3 _ _ _ _, far4 (far4 z3 n1 _ _ _ _) n3 _ _ _ _, far4 (far4 z4 n2 _ _ _ _) n4 _ _ _ _, far4 (far4 z5 n2 _ _ _ _) n4 _ _ _ _⟩))
                ((go_at_call 117; refine (look_any page need g.2.2.1 g.2.2.2.1 _ HPM.out HN.out gk go HL.out).mono ?_; rintro e w7 ⟨rfl, hb7⟩; have z0 := bC hb7 p1_0; have z1 := bC hb7 p1_1; have z2 := bC hb7 p1_2; have z3 := bC hb7 p1_3; have z4 := bC hb7 p0_1; have z5 := bC hb7 p0_2; have S7 := Lib.hid (S6.out.drew.below hb7); have O7 := Lib.hid (O6.out.drew.below hb7); clear hb7; have sT0 := S7.out; have sT1 := sT0.tail; have sT2 := sT1.tail; obtain ⟨y2_0, y2_1, y2_2, y2_3⟩ := sT2.c4; have yF2_0 := sT2.f 0; have yF2_1 := sT2.f 1; have yF2_2 := sT2.f 2; have yF2_3 := sT2.f 3; have sT3 := sT2.tail; obtain ⟨y3_0, y3_1, y3_2, y3_3⟩ := sT3.c4; have yF3_0 := sT3.f 0; have yF3_1 := sT3.f 1; have yF3_2 := sT3.f 2; have yF3_3 := sT3.f 3; have sT4 := sT3.tail; clear sT0 sT1 sT2 sT3 sT4))
              go_wp2
              refine bodyPost_ret (v := .tuple #[.agg #[.slice C0 g.1.ws.length f0, .slice C1 g.1.pend.length f1, .slice C2 g.1.tlb.length f2, .slice C3 g.1.wc.length f3], .agg #[.int .i64 page, .int .i64 need, .int .i64 gk, .int .i64 go]]) (by simp [results, Try.results53, go_sem, *]) rfl ?_
              have z := ret_boxes (l1 := [_, _]) S7.out O7.out (by decide) (by decide)
              exact ⟨_, _, _, _, rfl, (z _ _ _ _ _ _ _ _).1, (z _ _ _ _ _ _ _ _).2⟩
        · obtain ⟨rfl, hnp⟩ := hB
          obtain ⟨a, ra, hcl⟩ : ∃ a r, covL m.tlb page = a :: r := by
            cases h : covL m.tlb page with
            | nil => rw [HNV.out, h] at hnp; simp at hnp
            | cons a r => exact ⟨a, r, rfl⟩
          have HCL := Lib.hid hcl
          have RC := Lib.hid (HO.out.rd STlb.len)
          have hnp' : (0 : Int) < (nv : Int) := by omega
          have hnv6 : nv ≤ 256 := by rw [HNV.out]; exact Nat.le_trans (List.length_filter_le _ _) hnt
          have ha0 : a ∈ covL m.tlb page := by rw [hcl]; exact List.mem_cons_self ..
          have OA := Lib.hid (V.out.tlb a (covL_mem ha0).1)
          clear hcl ha0
          have sT0 := S3.out
          have sT1 := sT0.tail
          have sT2 := sT1.tail
          obtain ⟨p2_0, p2_1, p2_2, p2_3⟩ := sT2.c4
          have sT3 := sT2.tail
          clear sT0 sT1 sT2 sT3
          go_wp2_with (first | (go_at_call 116; refine (bit_b choice 7 true _ hc0 hc1 (by omega) HB7.out).mono ?_; rintro e w3 ⟨rfl, rfl⟩))
          clear p2_0 p2_1 p2_2 p2_3
          go_loopw [12] (fun i wr => ∃ k : Nat, k ≤ nv ∧ i = .int .i64 k ∧ (∀ j, j < k → ∀ x, (covL m.tlb page)[j]? = some x → sameP a x) ∧ Below w3.heap.size w3 wr) (fun i _ => nv - (intOf i).toNat)
          case atStart => exact ⟨0, Nat.zero_le _, rfl, by omega, Below.refl _ _⟩
          case round =>
            obtain ⟨k, hk, rfl, hall, hb⟩ := hrel
            have S4 := Lib.hid (S3.out.below hb)
            have RC4 := Lib.hid (RC.out.below hb)
            have HALL := Lib.hid hall
            have HB := Lib.hid hb
            clear hall hb
            obtain ⟨a0, e0, ea, g0, u0, u1, u2, u3, u4⟩ := STlb.at RC4.out (show 0 < (covL m.tlb page).length by rw [← HNV.out]; exact hnp)
            cases ea
            obtain rfl : a = e0 := by rw [HCL.out] at g0; simpa using g0
            rw [show a0.add (0 * 5) = a0 from by simp [Addr.add]] at u0 u1 u2 u3 u4
            clear g0
            by_cases hlt : k < nv
            · have hlt' : (k : Int) < (nv : Int) := by omega
              obtain ⟨a1, x, ea, g1, t0, t1, t2, t3, t4⟩ := STlb.at RC4.out (show k < (covL m.tlb page).length by rw [← HNV.out]; exact hlt)
              cases ea
              have G1 := Lib.hid g1
              obtain ⟨sb, hsb⟩ : ∃ b, decide (sameP a x) = b := ⟨_, rfl⟩
              have HSB := Lib.hid hsb
              clear g1 hsb
              go_wp2
              have b0 := BW.cell u0
              have b1 := BW.cell u1
              have b2 := BW.cell u2
              have b3 := BW.cell u3
              have b4 := BW.cell u4
              have b5 := BW.cell t0
              have b6 := BW.cell t1
              have b7 := BW.cell t2
              have b8 := BW.cell t3
              have b9 := BW.cell t4
              clear u0 u1 u2 u3 u4 t0 t1 t2 t3 t4
              (refine wp_region_below (by kernel_rfl) (by kernel_rfl) ?_; (repeat (first | (go_big_quiet_step (first | (go_at_call 90; refine BW.calls (same_b a x sb _ HSB.out)))) | ((with_reducible refine wpQuiet_step ?_); intro K hK; go_simp; first | ((with_reducible refine hK _ ?_); clear hK K) | (apply Exists.intro; refine ⟨fun _ => ?_, hK _ ?_⟩; (first | (go_at_call 90; refine BW.calls (same_b a x sb _ HSB.out))); clear hK K)))); (with_reducible refine wpQuiet_nil ?_); intro wq hw'; obtain ⟨⟨wy, hbq⟩, hw''⟩ := hw'; subst hw'')
              clear b0 b1 b2 b3 b4 b5 b6 b7 b8 b9
              cases sb
              · have HGC : Hid (gk = 4 ∧ go = 0 ∧ g.1 = m) := Lib.hid (by
                  have h1 : ¬ allSame a (a :: ra) := fun h => (of_decide_eq_false HSB.out) (h x (by rw [← HCL.out]; exact List.mem_of_getElem? G1.out))
                  have h2 : g = (m, 4, 0, 0, 0) := by
                    rw [← HG.out]; unfold accP; rw [HB7.out]; unfold cacheP; rw [HCL.out]; simp [h1]
                  have h3 := HGL.out
                  rw [h2] at h3 ⊢
                  simp [lookP] at h3
                  exact ⟨h3.1.symm, h3.2.symm, rfl⟩)
                have S5 := Lib.hid (S4.out.below hbq)
                have sT0 := S5.out
                have sT1 := sT0.tail
                have sT2 := sT1.tail
                obtain ⟨p2_0, p2_1, p2_2, p2_3⟩ := sT2.c4
                have sT3 := sT2.tail
                clear sT0 sT1 sT2 sT3
                go_wp2_with fail
                refine (specCopy_any _ _ _ _ m _ (R.out.below S5.out.b) (Valid.le V.out)).mono ?_
                rintro e w4 ⟨u0, u1, u2, u3, rfl, o4, hb4⟩
                obtain ⟨B0, d0, B1, d1, B2, d2, B3, d3, rfl, rfl, rfl, rfl⟩ := o4.shape
                have O4 := Lib.hid (o4.lower S5.out.b.size)
                have S6 := Lib.hid (S5.out.below hb4)
                clear o4 hb4 S5 S4
                clear p2_0 p2_1 p2_2 p2_3
                have sT0 := S6.out
                obtain ⟨p0_0, p0_1, p0_2, p0_3⟩ := sT0.c4
                have pF0_0 := sT0.f 0
                have pF0_1 := sT0.f 1
                have pF0_2 := sT0.f 2
                have pF0_3 := sT0.f 3
                have sT1 := sT0.tail
                obtain ⟨p1_0, p1_1, p1_2, p1_3⟩ := sT1.c4
                have pF1_0 := sT1.f 0
                have pF1_1 := sT1.f 1
                have pF1_2 := sT1.f 2
                have pF1_3 := sT1.f 3
                have sT2 := sT1.tail
                clear sT0 sT1 sT2
                go_wp2
                refine bodyPost_ret (v := .tuple #[.agg #[.slice B0 m.ws.length d0, .slice B1 m.pend.length d1, .slice B2 m.tlb.length d2, .slice B3 m.wc.length d3], .agg #[.int .i64 page, .int .i64 need, .int .i64 4, .int .i64 0]]) (by simp [results, Try.results53, go_sem, *]) rfl ?_
                have z := ret_boxes (l1 := []) S6.out O4.out (by decide) (by decide)
                exact ⟨_, _, _, _, by rw [HGC.out.1, HGC.out.2.1]; rfl, by rw [HGC.out.2.2]; exact (z _ _ _ _ _ _ _ _).1, (z _ _ _ _ _ _ _ _).2⟩
              · go_wp2
                go_roundw
                case rel =>
                  refine ⟨k + 1, by omega, by go_num, fun j hj y hy => ?_, thenB HB.out hbq⟩
                  by_cases e : j = k
                  · subst e; obtain rfl := Option.some.inj (G1.out.symm.trans hy); exact of_decide_eq_true HSB.out
                  · exact HALL.out j (by omega) y hy
                case measure => simp [intOf]; omega
            · have hlt' : ¬ (k : Int) < (nv : Int) := by omega
              obtain rfl : k = nv := by omega
              have hpg := OA.out.2.1
              have hpm0 : 0 ≤ a.Perm ∧ a.Perm < 8 := by have := OA.out.2.2.2; omega
              have hou : 0 ≤ a.Out ∧ a.Out < 65536 := by have := OA.out.2.2.2.2.2; omega
              obtain ⟨hpg0, hpg1⟩ := hpg
              obtain ⟨hou0, hou1⟩ := hou
              have HPM := Lib.hid hpm0
              have hw1 : IntKind.i64.wrap (a.Out + page) = a.Out + page := by rw [IntKind.wrap_i64]; omega
              have hw2 : IntKind.i64.wrap (a.Out + page - a.Page) = a.Out + page - a.Page := by rw [IntKind.wrap_i64]; omega
              have HGS : Hid (g.1 = m ∧ lookP need (1, a.Out + page - a.Page, a.Perm, 0) = (gk, go)) := Lib.hid (by
                have h1 : allSame a (a :: ra) := fun x hx => by
                  obtain ⟨j, hj⟩ := List.getElem?_of_mem hx
                  rw [← HCL.out] at hj
                  exact HALL.out j (by have := (List.getElem?_eq_some_iff.1 hj).1; rw [HNV.out]; exact this) x hj
                have h2 : g = (m, 1, a.Out + page - a.Page, a.Perm, a.Size) := by
                  rw [← HG.out]; unfold accP; rw [HB7.out]; unfold cacheP; rw [HCL.out]; simp [h1]
                have h3 := HGL.out
                rw [h2] at h3 ⊢
                exact ⟨rfl, h3⟩)
              clear hpm0
              have hab := World.block_lt_of_cell? _ _ u4
              simp only at hab
              have hco : a0.block ≠ w.heap.size + 1 ∧ a0.block ≠ w.heap.size + 1 + 1 := by
                have h1 := own_lit HO.out (by rw [← HNV.out]; exact hnp)
                have h2 := S2.out.lt _ (List.mem_cons_self ..)
                simp only at h2
                omega
              have n1 : ¬ (w.heap.size + 1 = a0.block) := by omega
              have n2 : ¬ (w.heap.size + 1 + 1 = a0.block) := by omega
              have m0 : ¬ (w.heap.size + 1 = w.heap.size) := by omega
              have m1 : ¬ (w.heap.size + 1 + 1 = w.heap.size) := by omega
              clear hco hab
              have sT0 := S4.out
              have sT1 := sT0.tail
              have sT2 := sT1.tail
              obtain ⟨p2_0, p2_1, p2_2, p2_3⟩ := sT2.c4
              have sT3 := sT2.tail
              clear sT0 sT1 sT2 sT3
              go_wp2
              go_region_held3 (fun w' => w'.cell? ⟨w.heap.size, 0, none⟩ = some (.slice A0 m.ws.length c0) ∧ w'.cell? ⟨w.heap.size, 1, none⟩ = some (.slice A1 m.pend.length c1) ∧ w'.cell? ⟨w.heap.size, 2, none⟩ = some (.slice A2 m.tlb.length c2) ∧ w'.cell? ⟨w.heap.size, 3, none⟩ = some (.slice A3 m.wc.length c3) ∧ w'.cell? a0 = some (.int .i64 a.Page) ∧ w'.cell? ⟨a0.block, a0.off + 2, none⟩ = some (.int .i64 a.Out) ∧ w'.cell? ⟨a0.block, a0.off + 3, none⟩ = some (.int .i64 a.Perm))
                (first | go_keep | (with_reducible exact ⟨y0, y1, y2, y3, y4, y5, y6⟩) | (with_reducible exact ⟨x0, x1, x2, x3, x4, x5, x6⟩) | (with_reducible exact ⟨far4 x0 m0 _ _ _ _, far4 x1 m0 _ _ _ _, far4 x2 m0 _ _ _ _, far4 x3 m0 _ _ _ _, far4 x4 n1 _ _ _ _, far4 x5 n1 _ _ _ _, far4 x6 n1 _ _ _ _⟩) | (with_reducible exact ⟨far4 (far4 x0 m0 _ _ _ _) m1 _ _ _ _, far4 (far4 x1 m0 _ _ _ _) m1 _ _ _ _, far4 (far4 x2 m0 _ _ _ _) m1 _ _ _ _, far4 (far4 x3 m0 _ _ _ _) m1 _ _ _ _, far4 (far4 x4 n1 _ _ _ _) n2 _ _ _ _, far4 (far4 x5 n1 _ _ _ _) n2 _ _ _ _, far4 (far4 x6 n1 _ _ _ _) n2 _ _ _ _⟩))
                (first
                  | ((go_at_call 101; refine (specCopy_any _ _ _ _ m _ (R.out.below S4.out.b.drew) (Valid.le V.out)).mono ?_; rintro e w4 ⟨s0, s1, s2, s3, rfl, o4, hb4⟩; obtain ⟨B0, d0, B1, d1, B2, d2, B3, d3, rfl, rfl, rfl, rfl⟩ := o4.shape; have O4 := Lib.hid (o4.lower S4.out.b.size); have S5 := Lib.hid (S4.out.drew.below hb4); have y0 := bC hb4 p2_0; have y1 := bC hb4 p2_1; have y2 := bC hb4 p2_2; have y3 := bC hb4 p2_3; have y4 := bC hb4 u0; have y5 := bC hb4 u2; have y6 := bC hb4 u3; clear o4 hb4))
                  | ((go_at_call 117; refine (look_any page need (a.Out + page - a.Page) a.Perm _ HPM.out HN.out gk go HGS.out.2).mono ?_; rintro e w6 ⟨rfl, hb6⟩; have O6 := Lib.hid (O4.out.below hb6); have S6 := Lib.hid (S5.out.below hb6); have x0 := bC hb6 y0; have x1 := bC hb6 y1; have x2 := bC hb6 y2; have x3 := bC hb6 y3; have x4 := bC hb6 y4; have x5 := bC hb6 y5; have x6 := bC hb6 y6; clear hb6 y0 y1 y2 y3 y4 y5 y6; have sT0 := S6.out; obtain ⟨z0_0, z0_1, z0_2, z0_3⟩ := sT0.c4; have zF0_0 := sT0.f 0; have zF0_1 := sT0.f 1; have zF0_2 := sT0.f 2; have zF0_3 := sT0.f 3; have sT1 := sT0.tail; obtain ⟨z1_0, z1_1, z1_2, z1_3⟩ := sT1.c4; have zF1_0 := sT1.f 0; have zF1_1 := sT1.f 1; have zF1_2 := sT1.f 2; have zF1_3 := sT1.f 3; have sT2 := sT1.tail; clear sT0 sT1 sT2)))
              go_wp2
              refine bodyPost_ret (v := .tuple #[.agg #[.slice B0 m.ws.length d0, .slice B1 m.pend.length d1, .slice B2 m.tlb.length d2, .slice B3 m.wc.length d3], .agg #[.int .i64 page, .int .i64 need, .int .i64 gk, .int .i64 go]]) (by simp [results, Try.results53, go_sem, *]) rfl ?_
              have z := ret_boxes (l1 := []) S6.out O6.out (by decide) (by decide)
              exact ⟨_, _, _, _, rfl, by rw [HGS.out.1]; exact (z _ _ _ _ _ _ _ _).1, (z _ _ _ _ _ _ _ _).2⟩

theorem specAcc_any (v0 v1 v2 v3 : Value) (m : SM) (page need choice : Int) (w : World) (r : RdM w v0 v1 v2 v3 m) (hwf : WfM m) :
    Calls Try.prog 53 #[.agg #[v0, v1, v2, v3], .int .i64 page, .int .i64 need, .int .i64 choice] w (MSPost w (accessS m page need choice)) := by
  unfold accessS
  by_cases hv : Valid m
  rotate_left
  · rw [if_neg (fun h => hv h.1)]; exact specAcc_v v0 v1 v2 v3 m page need choice w r (Lib.hid (decide_eq_false hv))
  by_cases hp : 0 ≤ page ∧ page < 4096
  rotate_left
  · rw [if_neg (fun h => hp h.2.1)]; exact specAcc_p v0 v1 v2 v3 m page need choice w r (Lib.hid (decide_eq_true hv)) (Lib.hid (decide_eq_false hp))
  by_cases hc : 0 ≤ choice ∧ choice ≤ 65535
  rotate_left
  · rw [if_neg (fun h => hc h.2.2.1)]; exact specAcc_c v0 v1 v2 v3 m page need choice w r (Lib.hid (decide_eq_true hv)) (Lib.hid (decide_eq_true hp)) (Lib.hid (decide_eq_false hc))
  by_cases hn : needP need
  rotate_left
  · rw [if_neg (fun h => hn h.2.2.2)]; exact specAcc_n v0 v1 v2 v3 m page need choice w r (Lib.hid (decide_eq_true hv)) (Lib.hid (decide_eq_true hp)) (Lib.hid (decide_eq_true hc)) hn
  · rw [if_pos ⟨hv, hp, hc, hn⟩]; exact specAcc_good v0 v1 v2 v3 m page need choice w r hwf (Lib.hid (decide_eq_true hv)) (Lib.hid (decide_eq_true hp)) (Lib.hid (decide_eq_true hc)) hn
end Go.Proofs.Ytemfnbcebgflmaa.Mmu
