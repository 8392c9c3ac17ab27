/- The law FnHit. -/
import Derived.Test.YtomomaoncmgfpaaDraw4
import Derived.Test.YtomomaoncmgfpaaHit0
import Derived.Test.YtomomaoncmgfpaaHitLaw
import Derived.Test.YtomomaoncmgfpaaImplAcc
import Derived.Test.YtomomaoncmgfpaaBig
namespace Go.Proofs.Ytomomaoncmgfpaa.Draw
open Go.RowKit Go.Proofs.Ytomomaoncmgfpaa.Base Go.Proofs.Ytomomaoncmgfpaa.Kinds Go.Proofs.Ytomomaoncmgfpaa.DecMath Go.Proofs.Ytomomaoncmgfpaa.L1 Go.Proofs.Ytomomaoncmgfpaa.Mmu
set_option linter.unusedVariables false
set_option linter.unusedSimpArgs false

theorem fieldV {P : Program} {ops : Array Oper} {rest : List Oper} {o : Oper} {a : Act} {w : World} {Q : Exit → Act → World → Prop} (hgd : o.guard = none) (t : TypeId) (x : Operand) (i : Nat) (ho : o.op = .field t x i) (u v : Value) (hu : a.eval x = u) (h : ∀ w, (Instr.field t u i).run P w = .ok v w)
    (k : wpList P ops Q rest (a.put o.dst v) w) : wpList P ops Q (o :: rest) a w := by
  refine wpList_val hgd v ?_ k
  unfold execOp
  simp only [ho, hu, Sem.run_bind, Sem.run_pure, h w, Result.andThen_ok]
theorem hitKindV (a b c d : Int) (w : World) : (Instr.field 32 (.agg #[.int .i64 a, .int .i64 b, .int .i64 c, .int .i64 d]) 0).run Try.prog w = .ok (.int .i64 a) w := by kernel_rfl
theorem walkAt_kind (ws : List Int) (n p : Int) (d : Nat) : ∀ (l f : Int), ((walkAt ws n p d l f).1 = 0 ∨ (walkAt ws n p d l f).1 = 1 ∨ (walkAt ws n p d l f).1 = 3) ∧ 0 ≤ (walkAt ws n p d l f).2.2.1 ∧ (walkAt ws n p d l f).2.2.1 < 8 := by
  induction d with
  | zero => intro l f; simp [walkAt]
  | succ d ih =>
    intro l f
    have ho := dec_out l (ws.getD (f * 16 + idx l p).toNat 0)
    simp only [walkAt]
    split
    · simp
    · split
      · split
        · exact ih _ _
        · simp
      · split
        · exact ⟨Or.inr (Or.inl rfl), ho.2.2.1, ho.2.2.2⟩
        · split
          · exact ⟨Or.inr (Or.inl rfl), ho.2.2.1, ho.2.2.2⟩
          · simp
/-- What an access to the group sees. -/
theorem access_sees {ws : List Int} {page : Int} {m : SM} (ha : Agrees ws page m) (hv : Valid m) (p need choice : Int) (hp : p / 16 = page / 16) (hp0 : 0 ≤ p ∧ p < 4096) (hc : 0 ≤ choice ∧ choice ≤ 65535) (hn : needP need) (q : Int × Int × Int × Int) (hq : walkAt ws ((ws.length / 16 : Nat) : Int) p 3 1 0 = q) :
    (accessS m p need choice).2 = seenP q p need := by
  unfold accessS seenP
  rw [if_pos ⟨hv, hp0, hc, hn⟩, acc_agrees ha p choice hp, hq]
/-- The answer is a machine and what is seen. -/
def SeePost (w : World) (p need k o : Int) (e : Ending) (w' : World) : Prop := ∃ (A0 A1 A2 A3 : Option Addr) (n0 n1 n2 n3 c0 c1 c2 c3 : Nat), e = .returned (.tuple #[.agg #[.slice A0 n0 c0, .slice A1 n1 c1, .slice A2 n2 c2, .slice A3 n3 c3], .agg #[.int .i64 p, .int .i64 need, .int .i64 k, .int .i64 o]]) ∧ Below w.heap.size w w'
theorem see_any {v0 v1 v2 v3 : Value} {m : SM} {ws : List Int} {page : Int} (p need choice : Int) (w : World) (r : RdM w v0 v1 v2 v3 m) (hwf : WfM m) (ha : Agrees ws page m) (hv : Valid m) (hp : p / 16 = page / 16) (hp0 : 0 ≤ p ∧ p < 4096) (hc : 0 ≤ choice ∧ choice ≤ 65535) (hn : needP need) (q : Int × Int × Int × Int) (hq : walkAt ws ((ws.length / 16 : Nat) : Int) p 3 1 0 = q) (k o : Int) (hs : seenP q p need = ⟨p, need, k, o⟩) :
    Calls Try.prog 14 #[.agg #[v0, v1, v2, v3], .int .i64 p, .int .i64 need, .int .i64 choice] w (SeePost w p need k o) := by
  refine (implAcc_any v0 v1 v2 v3 m p need choice w r hwf).mono fun e w' h => ?_
  obtain ⟨u0, u1, u2, u3, rfl, o, b⟩ := h
  obtain ⟨E0, f0, E1, f1, E2, f2, E3, f3, rfl, rfl, rfl, rfl⟩ := o.shape
  exact ⟨_, _, _, _, _, _, _, _, _, _, _, _, by rw [access_sees ha hv p need choice hp hp0 hc hn q hq, hs]; rfl, b⟩

set_option maxRecDepth 100000 in
set_option maxHeartbeats 16000000 in
theorem lawHit (v vm : Value) (c cm : List Int) (w : World) (r : Rd bEnc 1 w v c) (hb : Bytes c) (rm : Rd bEnc 1 w vm cm) (hbm : Bytes cm) :
    Calls Try.prog 4 #[v, vm] w fun e w' => e = .returned (.bool true) ∧ Below w.heap.size w w' := by
  obtain ⟨A, cp, rfl, hc1, hc2⟩ := r.shape
  obtain ⟨Am, cpm, rfl, hm1, hm2⟩ := rm.shape
  have R := Lib.hid r
  have HB := Lib.hid hb
  have RM := Lib.hid rm
  have HBM := Lib.hid hbm
  clear r hb rm hbm
  by_cases hL : 1048576 < c.length
  · have hL' : decide ((1048576 : Int) < (c.length : Int)) = true := by simp; omega
    have hL2 : (1048576 : Int) < (c.length : Int) := by omega
    go_enter Try.func4, Try.ntmps4
    go_wp2
    go_ret
    exact ⟨rfl, Below.refl _ _⟩
  have hL' : decide ((1048576 : Int) < (c.length : Int)) = false := by simp; omega
  have hL'' : ¬ (1048576 : Int) < (c.length : Int) := by omega
  have hL2 : c.length ≤ 1048576 := by omega
  clear hL
  by_cases hM : 1048576 < cm.length
  · have hM' : decide ((1048576 : Int) < (cm.length : Int)) = true := by simp; omega
    have hM2 : (1048576 : Int) < (cm.length : Int) := by omega
    go_enter Try.func4, Try.ntmps4
    go_wp2
    go_ret
    exact ⟨rfl, Below.refl _ _⟩
  have hM' : decide ((1048576 : Int) < (cm.length : Int)) = false := by simp; omega
  have hM'' : ¬ (1048576 : Int) < (cm.length : Int) := by omega
  have hM2 : cm.length ≤ 1048576 := by omega
  clear hM
  obtain ⟨ws, hws⟩ : ∃ ws, placesW c = ws := ⟨_, rfl⟩
  have hrange : ∀ x ∈ ws, 0 ≤ x ∧ x < 18446744073709551616 := by rw [← hws]; exact placesW_range HB.out
  have HR := Lib.hid hrange
  have HWS := Lib.hid hws
  obtain ⟨⟨ps, tb⟩, hps⟩ : ∃ q, placesS ws = q := ⟨_, rfl⟩
  have HPS := Lib.hid hps
  clear hws hrange hps
  go_enter Try.func4, Try.ntmps4
  go_upto_region 4 with (go_at_call 5; refine (drawPlaces_any _ c _ R.out HB.out hL2).mono ?_; rw [HWS.out]; rintro e w2 ⟨v2, rfl, o2, hb2⟩; obtain ⟨A2, c2, hv2⟩ := o2.shape; subst hv2; have HO2 := Lib.hid o2; have HB2 := Lib.hid hb2; clear hb2 o2)
  refine world_gen (fun w' => St w [(w2.heap.size, #[.slice A2 ws.length c2], 25)] w' ∧ Own wEnc 1 37 w.heap.size w' (.slice A2 ws.length c2) ws) ⟨((St.start w).below HB2.out).push _ _, HO2.out.alloc _⟩ (fun w3 h3 => ?_)
  have HS3 := Lib.hid h3.1
  have HO3 := Lib.hid h3.2
  have hz3 : w2.heap.size < w3.heap.size := h3.1.lt _ (List.mem_cons_self ..)
  clear h3 HB2 HO2
  go_upto_region 5 with (go_at_call 5; refine (drawPlaces_any _ c _ (R.out.below HS3.out.b) HB.out hL2).mono ?_; rw [HWS.out]; rintro e w4 ⟨v4, rfl, o4, hb4⟩; obtain ⟨A4, c4, hv4⟩ := o4.shape; subst hv4; have HO4 := Lib.hid (o4.lower HS3.out.b.size); have HS4 := Lib.hid (HS3.out.below hb4); have HO34 := Lib.hid (HO3.out.below hb4); clear hb4 o4)
  obtain ⟨b3, hb3⟩ : ∃ b, w2.heap.size = b := ⟨_, rfl⟩
  rw [hb3] at HS4 ⊢
  clear hb3 hz3 HS3 HO3
  refine world_gen (fun w' => St w [(w4.heap.size, #[.slice A4 ws.length c4], 25), (b3, #[.slice A2 ws.length c2], 25)] w' ∧ Own wEnc 1 37 w.heap.size w' (.slice A2 ws.length c2) ws ∧ Own wEnc 1 37 w.heap.size w' (.slice A4 ws.length c4) ws) ⟨HS4.out.push _ _, HO34.out.alloc _, HO4.out.alloc _⟩ (fun w5 h5 => ?_)
  have HS5 := Lib.hid h5.1
  have HO25 := Lib.hid h5.2.1
  have HO45 := Lib.hid h5.2.2
  obtain ⟨b4, hb4⟩ : ∃ b, w4.heap.size = b := ⟨_, rfl⟩
  rw [hb4] at HS5 ⊢
  clear h5 HS4 HO34 HO4 hb4
  have sT0 := HS5.out
  have z0_0 := sT0.c1
  have sT1 := sT0.tail
  have z1_0 := sT1.c1
  have sT2 := sT1.tail
  clear sT0 sT1 sT2
  go_upto_region 6 with (go_at_call 6; refine (specPlaces_any _ ws _ (HO45.out.rd wLen) HR.out).mono ?_; rw [HPS.out]; rintro e w6 ⟨v6, rfl, o6, hb6⟩; obtain ⟨A6, c6, hv6⟩ := o6.shape; subst hv6; have HS6 := Lib.hid (HS5.out.below hb6); have HO26 := Lib.hid (HO25.out.below hb6); have HO46 := Lib.hid (HO45.out.below hb6); clear hb6 o6)
  clear z0_0 z1_0
  clear HS5 HO25 HO45
  by_cases hok : okLen ws
  rotate_left
  · have hq := HPS.out
    unfold placesS at hq
    rw [if_neg hok] at hq
    simp only [Prod.mk.injEq] at hq
    obtain ⟨rfl, rfl⟩ := hq
    go_wp2
    go_ret
    exact ⟨rfl, HS6.out.b⟩
  have hpsl : ¬ ps.length = 0 := by
    have hq := HPS.out
    unfold placesS at hq
    rw [if_pos hok] at hq
    have h1 := (Prod.mk.inj hq).1
    intro h0
    have : (⟨0, 1, 0⟩ : SPlace) ∈ ps := by rw [← h1]; simp [placesP]
    rw [List.length_eq_zero_iff.1 h0] at this
    cases this
  have hpsb : ((ps.length : Int) == 0) = false := by rw [beq_eq_false_iff_ne]; omega
  have hpsb2 : (ps.length == 0) = false := by rw [beq_eq_false_iff_ne]; omega
  have HOK : Hid (okLen ws) := Lib.hid hok
  have HWF : Hid (WfW ws) := Lib.hid ⟨HR.out, hok⟩
  have HM0 : Hid (WfM ⟨ws, [], [], []⟩) := Lib.hid ⟨HR.out, fun e he => by cases he⟩
  clear hok hpsl
  go_wp2
  go_loopw [9] (fun vi wi => ∃ i : Nat, i ≤ 4 ∧ vi = .int .i64 (i : Int) ∧ Hid (Below w6.heap.size w6 wi)) (fun i _ => 4 - (intOf i).toNat)
  case atStart => exact ⟨0, by omega, rfl, Lib.hid (Below.refl _ _)⟩
  case round =>
    obtain ⟨i, hi, rfl, HBi⟩ := hrel
    by_cases hi4 : i < 4
    rotate_left
    · obtain rfl : i = 4 := by omega
      go_wp2
      go_ret
      exact ⟨rfl, thenB HS6.out.b HBi.out⟩
    have hi4' : (i : Int) < 4 := by omega
    obtain ⟨ia, hia⟩ : ∃ ia, 2 * i = ia := ⟨_, rfl⟩
    obtain ⟨ib, hib⟩ : ∃ ib, 2 * i + 1 = ib := ⟨_, rfl⟩
    have hia2 : ia ≤ 255 := by omega
    have hib2 : ib ≤ 255 := by omega
    have e2 : IntKind.i64.wrap (2 * (i : Int)) = (ia : Int) := by rw [IntKind.wrap_i64]; omega
    have e3 : IntKind.i64.wrap ((ia : Int) + 1) = (ib : Int) := by rw [IntKind.wrap_i64]; omega
    obtain ⟨xa, hxa⟩ : ∃ x, pickP cm ia = x := ⟨_, rfl⟩
    obtain ⟨xb, hxb⟩ : ∃ x, pickP cm ib = x := ⟨_, rfl⟩
    have hxa0 := pickP_range HBM.out ia hia2
    have hxb0 := pickP_range HBM.out ib hib2
    clear hia hib
    rw [hxa] at hxa0
    rw [hxb] at hxb0
    have HXA := Lib.hid hxa
    have HXB := Lib.hid hxb
    obtain ⟨fr, hfr⟩ : ∃ fr, (xa * 16 + xb) % 4096 = fr := ⟨_, rfl⟩
    have e4 : IntKind.i64.wrap (xa * 16) = xa * 16 := by rw [IntKind.wrap_i64]; omega
    have e5 : IntKind.i64.wrap (xa * 16 + xb) = xa * 16 + xb := by rw [IntKind.wrap_i64]; omega
    have e6 : Int.tmod (xa * 16 + xb) 4096 = fr := by rw [Int.tmod_eq_emod_of_nonneg (by omega)]; exact hfr
    have hfr0 : 0 ≤ fr := by omega
    have hfr1 : fr < 4096 := by omega
    clear hxa hxb hfr
    go_upto_region 12 with (first
      | (have q7 := HB7; go_at_call 11; refine (pick_any (.slice Am cm.length cpm) cm ib xb _ (RM.out.below (thenB HS6.out.b HB7.out)) HBM.out hM2 hib2 HXB.out).mono ?_; rintro e w8 ⟨rfl, hb8⟩; have HB8 := Lib.hid (thenB HB7.out hb8); clear hb8)
      | (go_at_call 11; refine (pick_any (.slice Am cm.length cpm) cm ia xa _ (RM.out.below (thenB HS6.out.b HBi.out)) HBM.out hM2 hia2 HXA.out).mono ?_; rintro e w7 ⟨rfl, hb7⟩; have HB7 := Lib.hid (thenB HBi.out hb7); clear hb7))
    clear e2 e3 e4 e5 e6 hxa0 hxb0 HXA HXB HB7
    go_wp2
    go_loopw [11, 12] (fun vp vk wk => ∃ (pg k : Int), vp = .int .i64 pg ∧ vk = .int .i64 k ∧ 0 ≤ pg ∧ pg < 4096 ∧ -1 ≤ k ∧ k < 4096 ∧ Hid (Below w6.heap.size w6 wk)) (fun _ k _ => (intOf k + 1).toNat)
    case atStart => exact ⟨fr, 4095, rfl, rfl, hfr0, hfr1, by omega, by omega, HB8⟩
    case round =>
      obtain ⟨pg, k, rfl, rfl, hpg0, hpg1, hk0, hk1, HBk⟩ := hrel
      by_cases hk : 0 ≤ k
      · have hkd : decide (0 ≤ k) = true := decide_eq_true hk
        obtain ⟨pk, hpk⟩ : ∃ p, (fr + k) % 4096 = p := ⟨_, rfl⟩
        have e1 : IntKind.i64.wrap (fr + k) = fr + k := by rw [IntKind.wrap_i64]; omega
        have e2 : Int.tmod (fr + k) 4096 = pk := by rw [Int.tmod_eq_emod_of_nonneg (by omega)]; exact hpk
        have e3 : IntKind.i64.wrap (k - 1) = k - 1 := by rw [IntKind.wrap_i64]; omega
        have hpk0 : 0 ≤ pk := by omega
        have hpk1 : pk < 4096 := by omega
        obtain ⟨⟨q1, q2, q3, q4⟩, hq⟩ : ∃ q, walkAt ws ((ws.length / 16 : Nat) : Int) pk 3 1 0 = q := ⟨_, rfl⟩
        obtain ⟨y, hy⟩ : ∃ y, pickP cm i = y := ⟨_, rfl⟩
        have hy0 := pickP_range HBM.out i (by omega)
        rw [hy] at hy0
        have e8 : Int.tmod y 8 = y % 8 := Int.tmod_eq_emod_of_nonneg hy0.1
        have HQ := Lib.hid hq
        have HY := Lib.hid hy
        have HSk := Lib.hid (HS6.out.below HBk.out)
        clear hpk hq hy hy0
        have sT0 := HSk.out
        have z0_0 := sT0.c1
        have sT1 := sT0.tail
        have z1_0 := sT1.c1
        have sT2 := sT1.tail
        clear sT0 sT1 sT2
        have hi255 : i ≤ 255 := by omega
        obtain ⟨ba, hba⟩ : ∃ b, (q1 == 1) = b := ⟨_, rfl⟩
        obtain ⟨bb, hbb⟩ : ∃ b, (y % 8 != 7) = b := ⟨_, rfl⟩
        cases ba <;> cases bb
        all_goals
          go_wp2_with (first
            | (refine fieldV rfl 32 _ 0 rfl (.agg #[.int .i64 q1, .int .i64 q2, .int .i64 q3, .int .i64 q4]) (.int .i64 q1) (by simp [Act.eval]) (hitKindV q1 q2 q3 q4) ?_; (try simp only [Act.put, List.setIfInBounds_toArray, List.set_cons_zero, List.set_cons_succ]))
            | (go_at_call 11; refine (pick_any (.slice Am cm.length cpm) cm i y _ (RM.out.below (thenB HS6.out.b HBk2.out)) HBM.out hM2 hi255 HY.out).mono ?_; rintro e w10 ⟨rfl, hb10⟩; have HBk3 := Lib.hid (thenB HBk2.out hb10); clear hb10)
            | (go_at_call 12; refine (specWalk1_any (.slice A4 ws.length c4) ws pk _ ((HO46.out.below HBk.out).rd wLen) HWF.out ⟨hpk0, hpk1⟩ (q1, q2, q3, q4) HQ.out).mono ?_; unfold hitV; rintro e w9 ⟨rfl, hb9⟩; have HBk2 := Lib.hid (thenB HBk.out hb9); clear hb9))
          go_roundw
          case rel => first
            | exact ⟨_, k - 1, rfl, by first | rfl | go_num, by omega, by omega, by omega, by omega, HBk3⟩
            | exact ⟨_, k - 1, rfl, by first | rfl | go_num, by omega, by omega, by omega, by omega, HBk2⟩
          case measure => simp [intOf]; omega
      have hkd : decide (0 ≤ k) = false := decide_eq_false hk
      clear hfr0 hfr1 HB8
      obtain ⟨i9, hi9⟩ : ∃ j, i + 9 = j := ⟨_, rfl⟩
      have hi9' : i9 ≤ 255 := by omega
      have e9 : IntKind.i64.wrap ((i : Int) + 9) = (i9 : Int) := by rw [IntKind.wrap_i64]; omega
      obtain ⟨y, hy⟩ : ∃ y, pickP cm i9 = y := ⟨_, rfl⟩
      have hy0 := pickP_range HBM.out i9 hi9'
      rw [hy] at hy0
      obtain ⟨rr, hrr⟩ : ∃ r, y % 3 = r := ⟨_, rfl⟩
      have e3 : Int.tmod y 3 = rr := by rw [Int.tmod_eq_emod_of_nonneg hy0.1]; exact hrr
      obtain ⟨nd, hnd⟩ : ∃ n, 2 * rr = n := ⟨_, rfl⟩
      have e2 : IntKind.i64.wrap (2 * rr) = nd := by rw [IntKind.wrap_i64]; omega
      have HND : Hid (0 < rr → needP nd) := Lib.hid (fun h => by unfold needP; omega)
      have HY := Lib.hid hy
      obtain ⟨m2, hm2⟩ : ∃ m, pg % 2 = m := ⟨_, rfl⟩
      have em2 : Int.tmod pg 2 = m2 := by rw [Int.tmod_eq_emod_of_nonneg hpg0]; exact hm2
      obtain ⟨nx, hnx⟩ : ∃ n, pg + 1 - 2 * m2 = n := ⟨_, rfl⟩
      have en1 : IntKind.i64.wrap (pg + 1) = pg + 1 := by rw [IntKind.wrap_i64]; omega
      have en2 : IntKind.i64.wrap (2 * m2) = 2 * m2 := by rw [IntKind.wrap_i64]; omega
      have en3 : IntKind.i64.wrap (pg + 1 - 2 * m2) = nx := by rw [IntKind.wrap_i64]; omega
      have HNX : Hid (nx / 16 = pg / 16 ∧ 0 ≤ nx ∧ nx < 4096) := Lib.hid (by omega)
      have hr3 : rr = 0 ∨ 0 < rr := by omega
      clear hy hy0 hrr hnd hnx hi9 hk0 hk1
      have HSk := Lib.hid (HS6.out.below HBk.out)
      rcases hr3 with hr | hr
      · subst hr
        have hrd : decide ((0 : Int) < 0) = false := rfl
        go_upto_region 22 with (go_at_call 11; refine (pick_any (.slice Am cm.length cpm) cm i9 y _ (RM.out.below (thenB HS6.out.b HBk.out)) HBM.out hM2 hi9' HY.out).mono ?_; rintro e w7 ⟨rfl, hb7⟩; have HB8 := Lib.hid (thenB HBk.out hb7); clear hb7)
        -- REST1
        have HNP := (Lib.hid (Or.inl rfl) : Hid (needP 1))
        clear e2 e3 e9 em2 en1 en2 en3 hm2 HND HY hi9'
        have HS8 := Lib.hid (HS6.out.below HB8.out)
        obtain ⟨f, hf⟩ : ∃ f, fillS ⟨ws, [], [], []⟩ pg 112 = f := ⟨_, rfl⟩
        have hfw : f = (walkP ⟨ws, [], [], []⟩ pg 112).1 := by rw [← hf]; unfold fillS; rw [if_pos ⟨fill_valid HOK.out, ⟨hpg0, hpg1⟩, by omega, by omega⟩]
        have HFV : Hid (Valid f) := Lib.hid (by rw [hfw]; exact walkP_valid (fill_valid HOK.out) pg 112 ⟨hpg0, hpg1⟩)
        have HFW : Hid (WfM f) := Lib.hid (by rw [hfw]; exact walkP_wf (fill_valid HOK.out) HM0.out pg 112)
        have HFA : Hid (Agrees ws pg f) := Lib.hid (by rw [hfw]; exact fill_agrees ws pg 112 rfl)
        have HF := Lib.hid hf
        clear hf hfw
        obtain ⟨q, hq⟩ : ∃ q, walkAt ws ((ws.length / 16 : Nat) : Int) pg 3 1 0 = q := ⟨_, rfl⟩
        have HQK : Hid ((q.1 = 0 ∨ q.1 = 1 ∨ q.1 = 3) ∧ 0 ≤ q.2.2.1 ∧ q.2.2.1 < 8) := Lib.hid (by rw [← hq]; exact walkAt_kind ws _ pg 3 1 0)
        have HQ := Lib.hid hq
        obtain ⟨⟨k1, o1⟩, hl⟩ : ∃ l, lookP 1 q = l := ⟨_, rfl⟩
        have HS1 : Hid (seenP q pg 1 = ⟨pg, 1, k1, o1⟩) := Lib.hid (by unfold seenP; rw [hl])
        clear hq hl
        obtain ⟨r, hr'⟩ : ∃ r, walkAt ws ((ws.length / 16 : Nat) : Int) nx 3 1 0 = r := ⟨_, rfl⟩
        have HRK : Hid ((r.1 = 0 ∨ r.1 = 1 ∨ r.1 = 3) ∧ 0 ≤ r.2.2.1 ∧ r.2.2.1 < 8) := Lib.hid (by rw [← hr']; exact walkAt_kind ws _ nx 3 1 0)
        have HRQ := Lib.hid hr'
        obtain ⟨⟨k2, o2⟩, hl⟩ : ∃ l, lookP 1 r = l := ⟨_, rfl⟩
        have HS2 : Hid (seenP r nx 1 = ⟨nx, 1, k2, o2⟩) := Lib.hid (by unfold seenP; rw [hl])
        clear hr' hl
        have sT0 := HS8.out
        have z0_0 := sT0.c1
        have sT1 := sT0.tail
        have z1_0 := sT1.c1
        have sT2 := sT1.tail
        clear sT0 sT1 sT2
        go_upto_region 23 with (go_at_call 13; refine (implFill_any (.slice A2 ws.length c2) (.slice none 0 0) (.slice none 0 0) (.slice none 0 0) ⟨ws, [], [], []⟩ pg 112 _ ⟨(HO26.out.below HB8.out).rd wLen, Rd.nil _ _ _, Rd.nil _ _ _, Rd.nil _ _ _⟩ HM0.out).mono ?_; rw [HF.out]; rintro e w9 ⟨u0, u1, u2, u3, rfl, o9, hb9⟩; obtain ⟨E0, f0, E1, f1, E2, f2, E3, f3, rfl, rfl, rfl, rfl⟩ := o9.shape; have HR9 := Lib.hid o9.rd; have HB9 := Lib.hid hb9; clear o9 hb9)
        obtain ⟨b9, hb9⟩ : ∃ b, w9.heap.size = b := ⟨_, rfl⟩
        refine world_gen (fun w' => St w [(b9, #[.slice E0 f.ws.length f0, .slice E1 f.pend.length f1, .slice E2 f.tlb.length f2, .slice E3 f.wc.length f3], 46), (b4, #[.slice A4 ws.length c4], 25), (b3, #[.slice A2 ws.length c2], 25)] w' ∧ RdM w' (.slice E0 f.ws.length f0) (.slice E1 f.pend.length f1) (.slice E2 f.tlb.length f2) (.slice E3 f.wc.length f3) f ∧ Below w6.heap.size w6 w') ⟨by rw [← hb9]; exact (HS8.out.below HB9.out).push _ _, HR9.out.below (allocB (Below.refl _ _) _), allocB (thenB HB8.out HB9.out) _⟩ (fun w10 h10 => ?_)
        rw [hb9]
        have HS10 := Lib.hid h10.1
        have HR10 := Lib.hid h10.2.1
        have HB10 := Lib.hid h10.2.2
        clear z0_0 z1_0
        clear hb9 h10 HR9 HB9 HS8 HB8 HSk HBk HBi
        try clear HB7
        have sT0 := HS10.out
        obtain ⟨z0_0, z0_1, z0_2, z0_3⟩ := sT0.c4
        have sT1 := sT0.tail
        have z1_0 := sT1.c1
        have sT2 := sT1.tail
        have z2_0 := sT2.c1
        have sT3 := sT2.tail
        clear sT0 sT1 sT2 sT3
        go_upto_region 24 with (go_at_call 14; refine (see_any pg 1 128 _ HR10.out HFW.out HFA.out HFV.out rfl ⟨hpg0, hpg1⟩ ⟨by decide, by decide⟩ HNP.out q HQ.out k1 o1 HS1.out).mono ?_; rintro e w11 ⟨G0, G1, G2, G3, Gn0, Gn1, Gn2, Gn3, Gd0, Gd1, Gd2, Gd3, rfl, hb11⟩; have HB11 := Lib.hid hb11; clear hb11)
        obtain ⟨b11, hb11⟩ : ∃ b, w11.heap.size = b := ⟨_, rfl⟩
        refine world_gen (fun w' => St w [(b11 + 1, #[.int .i64 pg, .int .i64 1, .int .i64 k1, .int .i64 o1], 49), (b11, #[.slice G0 Gn0 Gd0, .slice G1 Gn1 Gd1, .slice G2 Gn2 Gd2, .slice G3 Gn3 Gd3], 46), (b9, #[.slice E0 f.ws.length f0, .slice E1 f.pend.length f1, .slice E2 f.tlb.length f2, .slice E3 f.wc.length f3], 46), (b4, #[.slice A4 ws.length c4], 25), (b3, #[.slice A2 ws.length c2], 25)] w' ∧ RdM w' (.slice E0 f.ws.length f0) (.slice E1 f.pend.length f1) (.slice E2 f.tlb.length f2) (.slice E3 f.wc.length f3) f ∧ Below w6.heap.size w6 w') ⟨by rw [← hb11]; exact (HS10.out.below HB11.out).push2 _ _ _ _, HR10.out.below (allocB (allocB HB11.out _) _), allocB (allocB (thenB HB10.out HB11.out) _) _⟩ (fun w12 h12 => ?_)
        rw [hb11]
        have HS12 := Lib.hid h12.1
        have HR12 := Lib.hid h12.2.1
        have HB12 := Lib.hid h12.2.2
        clear z0_0 z0_1 z0_2 z0_3 z1_0 z2_0
        clear hb11 h12 HB11 HS10 HR10 HB10
        have sT0 := HS12.out
        obtain ⟨z0_0, z0_1, z0_2, z0_3⟩ := sT0.c4
        have sT1 := sT0.tail
        obtain ⟨z1_0, z1_1, z1_2, z1_3⟩ := sT1.c4
        have zF1_0 := sT1.f 0
        have zF1_1 := sT1.f 1
        have zF1_2 := sT1.f 2
        have zF1_3 := sT1.f 3
        have sT2 := sT1.tail
        obtain ⟨z2_0, z2_1, z2_2, z2_3⟩ := sT2.c4
        have sT3 := sT2.tail
        have z3_0 := sT3.c1
        have sT4 := sT3.tail
        have z4_0 := sT4.c1
        have sT5 := sT4.tail
        clear sT0 sT1 sT2 sT3 sT4 sT5
        go_upto_region 25 with (go_at_call 14; refine (see_any pg 1 1 _ HR12.out HFW.out HFA.out HFV.out rfl ⟨hpg0, hpg1⟩ ⟨by decide, by decide⟩ HNP.out q HQ.out k1 o1 HS1.out).mono ?_; rintro e w13 ⟨H0, H1, H2, H3, Hn0, Hn1, Hn2, Hn3, Hd0, Hd1, Hd2, Hd3, rfl, hb13⟩; have HB13 := Lib.hid hb13; clear hb13)
        obtain ⟨b13, hb13⟩ : ∃ b, w13.heap.size = b := ⟨_, rfl⟩
        refine world_gen (fun w' => St w [(b13 + 1, #[.int .i64 pg, .int .i64 1, .int .i64 k1, .int .i64 o1], 49), (b13, #[.slice H0 Hn0 Hd0, .slice H1 Hn1 Hd1, .slice H2 Hn2 Hd2, .slice H3 Hn3 Hd3], 46), (b11 + 1, #[.int .i64 pg, .int .i64 1, .int .i64 k1, .int .i64 o1], 49), (b11, #[.slice G0 Gn0 Gd0, .slice G1 Gn1 Gd1, .slice G2 Gn2 Gd2, .slice G3 Gn3 Gd3], 46), (b9, #[.slice E0 f.ws.length f0, .slice E1 f.pend.length f1, .slice E2 f.tlb.length f2, .slice E3 f.wc.length f3], 46), (b4, #[.slice A4 ws.length c4], 25), (b3, #[.slice A2 ws.length c2], 25)] w' ∧ RdM w' (.slice E0 f.ws.length f0) (.slice E1 f.pend.length f1) (.slice E2 f.tlb.length f2) (.slice E3 f.wc.length f3) f ∧ Below w6.heap.size w6 w') ⟨by rw [← hb13]; exact (HS12.out.below HB13.out).push2 _ _ _ _, HR12.out.below (allocB (allocB HB13.out _) _), allocB (allocB (thenB HB12.out HB13.out) _) _⟩ (fun w14 h14 => ?_)
        rw [hb13]
        have HS14 := Lib.hid h14.1
        have HR14 := Lib.hid h14.2.1
        have HB14 := Lib.hid h14.2.2
        clear z0_0 z0_1 z0_2 z0_3 z1_0 z1_1 z1_2 z1_3 zF1_0 zF1_1 zF1_2 zF1_3 z2_0 z2_1 z2_2 z2_3 z3_0 z4_0
        clear hb13 h14 HB13 HS12 HR12 HB12
        have sT0 := HS14.out
        obtain ⟨z0_0, z0_1, z0_2, z0_3⟩ := sT0.c4
        have sT1 := sT0.tail
        obtain ⟨z1_0, z1_1, z1_2, z1_3⟩ := sT1.c4
        have zF1_0 := sT1.f 0
        have zF1_1 := sT1.f 1
        have zF1_2 := sT1.f 2
        have zF1_3 := sT1.f 3
        have sT2 := sT1.tail
        obtain ⟨z2_0, z2_1, z2_2, z2_3⟩ := sT2.c4
        have sT3 := sT2.tail
        obtain ⟨z3_0, z3_1, z3_2, z3_3⟩ := sT3.c4
        have zF3_0 := sT3.f 0
        have zF3_1 := sT3.f 1
        have zF3_2 := sT3.f 2
        have zF3_3 := sT3.f 3
        have sT4 := sT3.tail
        obtain ⟨z4_0, z4_1, z4_2, z4_3⟩ := sT4.c4
        have sT5 := sT4.tail
        have z5_0 := sT5.c1
        have sT6 := sT5.tail
        have z6_0 := sT6.c1
        have sT7 := sT6.tail
        clear sT0 sT1 sT2 sT3 sT4 sT5 sT6 sT7
        go_upto_region 26 with (go_at_call 14; refine (see_any nx 1 129 _ HR14.out HFW.out HFA.out HFV.out HNX.out.1 HNX.out.2 ⟨by decide, by decide⟩ HNP.out r HRQ.out k2 o2 HS2.out).mono ?_; rintro e w15 ⟨J0, J1, J2, J3, Jn0, Jn1, Jn2, Jn3, Jd0, Jd1, Jd2, Jd3, rfl, hb15⟩; have HB15 := Lib.hid hb15; clear hb15)
        obtain ⟨b15, hb15⟩ : ∃ b, w15.heap.size = b := ⟨_, rfl⟩
        refine world_gen (fun w' => St w [(b15 + 1, #[.int .i64 nx, .int .i64 1, .int .i64 k2, .int .i64 o2], 49), (b15, #[.slice J0 Jn0 Jd0, .slice J1 Jn1 Jd1, .slice J2 Jn2 Jd2, .slice J3 Jn3 Jd3], 46), (b13 + 1, #[.int .i64 pg, .int .i64 1, .int .i64 k1, .int .i64 o1], 49), (b13, #[.slice H0 Hn0 Hd0, .slice H1 Hn1 Hd1, .slice H2 Hn2 Hd2, .slice H3 Hn3 Hd3], 46), (b11 + 1, #[.int .i64 pg, .int .i64 1, .int .i64 k1, .int .i64 o1], 49), (b11, #[.slice G0 Gn0 Gd0, .slice G1 Gn1 Gd1, .slice G2 Gn2 Gd2, .slice G3 Gn3 Gd3], 46), (b9, #[.slice E0 f.ws.length f0, .slice E1 f.pend.length f1, .slice E2 f.tlb.length f2, .slice E3 f.wc.length f3], 46), (b4, #[.slice A4 ws.length c4], 25), (b3, #[.slice A2 ws.length c2], 25)] w' ∧ RdM w' (.slice E0 f.ws.length f0) (.slice E1 f.pend.length f1) (.slice E2 f.tlb.length f2) (.slice E3 f.wc.length f3) f ∧ Below w6.heap.size w6 w') ⟨by rw [← hb15]; exact (HS14.out.below HB15.out).push2 _ _ _ _, HR14.out.below (allocB (allocB HB15.out _) _), allocB (allocB (thenB HB14.out HB15.out) _) _⟩ (fun w16 h16 => ?_)
        rw [hb15]
        have HS16 := Lib.hid h16.1
        have HR16 := Lib.hid h16.2.1
        have HB16 := Lib.hid h16.2.2
        clear z0_0 z0_1 z0_2 z0_3 z1_0 z1_1 z1_2 z1_3 zF1_0 zF1_1 zF1_2 zF1_3 z2_0 z2_1 z2_2 z2_3 z3_0 z3_1 z3_2 z3_3 zF3_0 zF3_1 zF3_2 zF3_3 z4_0 z4_1 z4_2 z4_3 z5_0 z6_0
        clear hb15 h16 HB15 HS14 HR14 HB14
        have hbc := HS16.out
        have sT0 := hbc
        obtain ⟨z0_0, z0_1, z0_2, z0_3⟩ := sT0.c4
        have sT1 := sT0.tail
        have zB0_0 := BW.cell z0_0
        have zB0_1 := BW.cell z0_1
        have zB0_2 := BW.cell z0_2
        have zB0_3 := BW.cell z0_3
        clear z0_0 z0_1 z0_2 z0_3
        have sT2 := sT1.tail
        obtain ⟨z2_0, z2_1, z2_2, z2_3⟩ := sT2.c4
        have sT3 := sT2.tail
        have zB2_0 := BW.cell z2_0
        have zB2_1 := BW.cell z2_1
        have zB2_2 := BW.cell z2_2
        have zB2_3 := BW.cell z2_3
        clear z2_0 z2_1 z2_2 z2_3
        have sT4 := sT3.tail
        obtain ⟨z4_0, z4_1, z4_2, z4_3⟩ := sT4.c4
        have sT5 := sT4.tail
        have zB4_0 := BW.cell z4_0
        have zB4_1 := BW.cell z4_1
        have zB4_2 := BW.cell z4_2
        have zB4_3 := BW.cell z4_3
        clear z4_0 z4_1 z4_2 z4_3
        have sT6 := sT5.tail
        have sT7 := sT6.tail
        have z7_0 := sT7.c1
        have sT8 := sT7.tail
        have zB7_0 := BW.cell z7_0
        clear z7_0
        have sT9 := sT8.tail
        clear sT0 sT1 sT2 sT3 sT4 sT5 sT6 sT7 sT8 sT9
        clear hbc
        have RO : ∀ p : BW w16, Rd wEnc 1 p.x (.slice A4 ws.length c4) ws := fun p => (HO46.out.below (thenB HB16.out p.h)).rd wLen
        (refine wp_region_below (by kernel_rfl) (by kernel_rfl) ?_; (repeat (first | (go_big_quiet_step (first | (go_at_call 12; exact BW.calls (specWalk1_any (.slice A4 ws.length c4) ws pg _ (RO _) HWF.out ⟨hpg0, hpg1⟩ q HQ.out)) | (go_at_call 15; exact BW.calls (sees_any q pg 1 ⟨pg, 1, k1, o1⟩ _ HQK.out.1 HQK.out.2 HNP.out HS1.out)))) | ((with_reducible refine wpQuiet_step ?_); intro K hK; go_simp; first | ((with_reducible refine hK _ ?_); clear hK K) | (apply Exists.intro; refine ⟨fun _ => ?_, hK _ ?_⟩; (first | (go_at_call 12; exact BW.calls (specWalk1_any (.slice A4 ws.length c4) ws pg _ (RO _) HWF.out ⟨hpg0, hpg1⟩ q HQ.out)) | (go_at_call 15; exact BW.calls (sees_any q pg 1 ⟨pg, 1, k1, o1⟩ _ HQK.out.1 HQK.out.2 HNP.out HS1.out))); clear hK K)))); (with_reducible refine wpQuiet_nil ?_); intro wq hw'; obtain ⟨⟨wy, hbq⟩, hw''⟩ := hw'; subst hw'')
        have HS17 := Lib.hid (HS16.out.below hbq)
        have HB17 := Lib.hid (thenB HB16.out hbq)
        clear hbq RO HS16 HB16 HR16
        go_upto_region 28 with fail
        have hbc := HS17.out
        have sT0 := hbc
        obtain ⟨z0_0, z0_1, z0_2, z0_3⟩ := sT0.c4
        have sT1 := sT0.tail
        have zB0_0 := BW.cell z0_0
        have zB0_1 := BW.cell z0_1
        have zB0_2 := BW.cell z0_2
        have zB0_3 := BW.cell z0_3
        clear z0_0 z0_1 z0_2 z0_3
        have sT2 := sT1.tail
        have sT3 := sT2.tail
        have sT4 := sT3.tail
        have sT5 := sT4.tail
        have sT6 := sT5.tail
        have sT7 := sT6.tail
        have z7_0 := sT7.c1
        have sT8 := sT7.tail
        have zB7_0 := BW.cell z7_0
        clear z7_0
        have sT9 := sT8.tail
        clear sT0 sT1 sT2 sT3 sT4 sT5 sT6 sT7 sT8 sT9
        clear hbc
        have RO : ∀ p : BW wq, Rd wEnc 1 p.x (.slice A4 ws.length c4) ws := fun p => (HO46.out.below (thenB HB17.out p.h)).rd wLen
        (refine wp_region_below (by kernel_rfl) (by kernel_rfl) ?_; (repeat (first | (go_big_quiet_step (first | (go_at_call 12; exact BW.calls (specWalk1_any (.slice A4 ws.length c4) ws nx _ (RO _) HWF.out HNX.out.2 r HRQ.out)) | (go_at_call 15; exact BW.calls (sees_any r nx 1 ⟨nx, 1, k2, o2⟩ _ HRK.out.1 HRK.out.2 HNP.out HS2.out)))) | ((with_reducible refine wpQuiet_step ?_); intro K hK; go_simp; first | ((with_reducible refine hK _ ?_); clear hK K) | (apply Exists.intro; refine ⟨fun _ => ?_, hK _ ?_⟩; (first | (go_at_call 12; exact BW.calls (specWalk1_any (.slice A4 ws.length c4) ws nx _ (RO _) HWF.out HNX.out.2 r HRQ.out)) | (go_at_call 15; exact BW.calls (sees_any r nx 1 ⟨nx, 1, k2, o2⟩ _ HRK.out.1 HRK.out.2 HNP.out HS2.out))); clear hK K)))); (with_reducible refine wpQuiet_nil ?_); intro wq hw'; obtain ⟨⟨wy, hbq⟩, hw''⟩ := hw'; subst hw'')
        have HB18 := Lib.hid (thenB HB17.out hbq)
        clear hbq RO HS17 HB17
        have ei : IntKind.i64.wrap ((i : Int) + 1) = ((i + 1 : Nat) : Int) := by rw [IntKind.wrap_i64]; omega
        go_wp2
        go_roundw
        case rel => exact ⟨i + 1, by omega, by first | rfl | go_num, HB18⟩
        case measure => simp [intOf]; omega
        -- END1
      · have hrd : decide (0 < rr) = true := decide_eq_true hr
        go_upto_region 22 with (first
          | (have q7 := HB7; go_at_call 11; refine (pick_any (.slice Am cm.length cpm) cm i9 y _ (RM.out.below (thenB HS6.out.b HB7.out)) HBM.out hM2 hi9' HY.out).mono ?_; rintro e w8 ⟨rfl, hb8⟩; have HB8 := Lib.hid (thenB HB7.out hb8); clear hb8)
          | (go_at_call 11; refine (pick_any (.slice Am cm.length cpm) cm i9 y _ (RM.out.below (thenB HS6.out.b HBk.out)) HBM.out hM2 hi9' HY.out).mono ?_; rintro e w7 ⟨rfl, hb7⟩; have HB7 := Lib.hid (thenB HBk.out hb7); clear hb7))
        -- REST2
        have HNP := (Lib.hid (HND.out hr) : Hid (needP nd))
        clear e2 e3 e9 em2 en1 en2 en3 hm2 HND HY hi9'
        have HS8 := Lib.hid (HS6.out.below HB8.out)
        obtain ⟨f, hf⟩ : ∃ f, fillS ⟨ws, [], [], []⟩ pg 112 = f := ⟨_, rfl⟩
        have hfw : f = (walkP ⟨ws, [], [], []⟩ pg 112).1 := by rw [← hf]; unfold fillS; rw [if_pos ⟨fill_valid HOK.out, ⟨hpg0, hpg1⟩, by omega, by omega⟩]
        have HFV : Hid (Valid f) := Lib.hid (by rw [hfw]; exact walkP_valid (fill_valid HOK.out) pg 112 ⟨hpg0, hpg1⟩)
        have HFW : Hid (WfM f) := Lib.hid (by rw [hfw]; exact walkP_wf (fill_valid HOK.out) HM0.out pg 112)
        have HFA : Hid (Agrees ws pg f) := Lib.hid (by rw [hfw]; exact fill_agrees ws pg 112 rfl)
        have HF := Lib.hid hf
        clear hf hfw
        obtain ⟨q, hq⟩ : ∃ q, walkAt ws ((ws.length / 16 : Nat) : Int) pg 3 1 0 = q := ⟨_, rfl⟩
        have HQK : Hid ((q.1 = 0 ∨ q.1 = 1 ∨ q.1 = 3) ∧ 0 ≤ q.2.2.1 ∧ q.2.2.1 < 8) := Lib.hid (by rw [← hq]; exact walkAt_kind ws _ pg 3 1 0)
        have HQ := Lib.hid hq
        obtain ⟨⟨k1, o1⟩, hl⟩ : ∃ l, lookP nd q = l := ⟨_, rfl⟩
        have HS1 : Hid (seenP q pg nd = ⟨pg, nd, k1, o1⟩) := Lib.hid (by unfold seenP; rw [hl])
        clear hq hl
        obtain ⟨r, hr'⟩ : ∃ r, walkAt ws ((ws.length / 16 : Nat) : Int) nx 3 1 0 = r := ⟨_, rfl⟩
        have HRK : Hid ((r.1 = 0 ∨ r.1 = 1 ∨ r.1 = 3) ∧ 0 ≤ r.2.2.1 ∧ r.2.2.1 < 8) := Lib.hid (by rw [← hr']; exact walkAt_kind ws _ nx 3 1 0)
        have HRQ := Lib.hid hr'
        obtain ⟨⟨k2, o2⟩, hl⟩ : ∃ l, lookP nd r = l := ⟨_, rfl⟩
        have HS2 : Hid (seenP r nx nd = ⟨nx, nd, k2, o2⟩) := Lib.hid (by unfold seenP; rw [hl])
        clear hr' hl
        have sT0 := HS8.out
        have z0_0 := sT0.c1
        have sT1 := sT0.tail
        have z1_0 := sT1.c1
        have sT2 := sT1.tail
        clear sT0 sT1 sT2
        go_upto_region 23 with (go_at_call 13; refine (implFill_any (.slice A2 ws.length c2) (.slice none 0 0) (.slice none 0 0) (.slice none 0 0) ⟨ws, [], [], []⟩ pg 112 _ ⟨(HO26.out.below HB8.out).rd wLen, Rd.nil _ _ _, Rd.nil _ _ _, Rd.nil _ _ _⟩ HM0.out).mono ?_; rw [HF.out]; rintro e w9 ⟨u0, u1, u2, u3, rfl, o9, hb9⟩; obtain ⟨E0, f0, E1, f1, E2, f2, E3, f3, rfl, rfl, rfl, rfl⟩ := o9.shape; have HR9 := Lib.hid o9.rd; have HB9 := Lib.hid hb9; clear o9 hb9)
        obtain ⟨b9, hb9⟩ : ∃ b, w9.heap.size = b := ⟨_, rfl⟩
        refine world_gen (fun w' => St w [(b9, #[.slice E0 f.ws.length f0, .slice E1 f.pend.length f1, .slice E2 f.tlb.length f2, .slice E3 f.wc.length f3], 46), (b4, #[.slice A4 ws.length c4], 25), (b3, #[.slice A2 ws.length c2], 25)] w' ∧ RdM w' (.slice E0 f.ws.length f0) (.slice E1 f.pend.length f1) (.slice E2 f.tlb.length f2) (.slice E3 f.wc.length f3) f ∧ Below w6.heap.size w6 w') ⟨by rw [← hb9]; exact (HS8.out.below HB9.out).push _ _, HR9.out.below (allocB (Below.refl _ _) _), allocB (thenB HB8.out HB9.out) _⟩ (fun w10 h10 => ?_)
        rw [hb9]
        have HS10 := Lib.hid h10.1
        have HR10 := Lib.hid h10.2.1
        have HB10 := Lib.hid h10.2.2
        clear z0_0 z1_0
        clear hb9 h10 HR9 HB9 HS8 HB8 HSk HBk HBi
        try clear HB7
        have sT0 := HS10.out
        obtain ⟨z0_0, z0_1, z0_2, z0_3⟩ := sT0.c4
        have sT1 := sT0.tail
        have z1_0 := sT1.c1
        have sT2 := sT1.tail
        have z2_0 := sT2.c1
        have sT3 := sT2.tail
        clear sT0 sT1 sT2 sT3
        go_upto_region 24 with (go_at_call 14; refine (see_any pg nd 128 _ HR10.out HFW.out HFA.out HFV.out rfl ⟨hpg0, hpg1⟩ ⟨by decide, by decide⟩ HNP.out q HQ.out k1 o1 HS1.out).mono ?_; rintro e w11 ⟨G0, G1, G2, G3, Gn0, Gn1, Gn2, Gn3, Gd0, Gd1, Gd2, Gd3, rfl, hb11⟩; have HB11 := Lib.hid hb11; clear hb11)
        obtain ⟨b11, hb11⟩ : ∃ b, w11.heap.size = b := ⟨_, rfl⟩
        refine world_gen (fun w' => St w [(b11 + 1, #[.int .i64 pg, .int .i64 nd, .int .i64 k1, .int .i64 o1], 49), (b11, #[.slice G0 Gn0 Gd0, .slice G1 Gn1 Gd1, .slice G2 Gn2 Gd2, .slice G3 Gn3 Gd3], 46), (b9, #[.slice E0 f.ws.length f0, .slice E1 f.pend.length f1, .slice E2 f.tlb.length f2, .slice E3 f.wc.length f3], 46), (b4, #[.slice A4 ws.length c4], 25), (b3, #[.slice A2 ws.length c2], 25)] w' ∧ RdM w' (.slice E0 f.ws.length f0) (.slice E1 f.pend.length f1) (.slice E2 f.tlb.length f2) (.slice E3 f.wc.length f3) f ∧ Below w6.heap.size w6 w') ⟨by rw [← hb11]; exact (HS10.out.below HB11.out).push2 _ _ _ _, HR10.out.below (allocB (allocB HB11.out _) _), allocB (allocB (thenB HB10.out HB11.out) _) _⟩ (fun w12 h12 => ?_)
        rw [hb11]
        have HS12 := Lib.hid h12.1
        have HR12 := Lib.hid h12.2.1
        have HB12 := Lib.hid h12.2.2
        clear z0_0 z0_1 z0_2 z0_3 z1_0 z2_0
        clear hb11 h12 HB11 HS10 HR10 HB10
        have sT0 := HS12.out
        obtain ⟨z0_0, z0_1, z0_2, z0_3⟩ := sT0.c4
        have sT1 := sT0.tail
        obtain ⟨z1_0, z1_1, z1_2, z1_3⟩ := sT1.c4
        have zF1_0 := sT1.f 0
        have zF1_1 := sT1.f 1
        have zF1_2 := sT1.f 2
        have zF1_3 := sT1.f 3
        have sT2 := sT1.tail
        obtain ⟨z2_0, z2_1, z2_2, z2_3⟩ := sT2.c4
        have sT3 := sT2.tail
        have z3_0 := sT3.c1
        have sT4 := sT3.tail
        have z4_0 := sT4.c1
        have sT5 := sT4.tail
        clear sT0 sT1 sT2 sT3 sT4 sT5
        go_upto_region 25 with (go_at_call 14; refine (see_any pg nd 1 _ HR12.out HFW.out HFA.out HFV.out rfl ⟨hpg0, hpg1⟩ ⟨by decide, by decide⟩ HNP.out q HQ.out k1 o1 HS1.out).mono ?_; rintro e w13 ⟨H0, H1, H2, H3, Hn0, Hn1, Hn2, Hn3, Hd0, Hd1, Hd2, Hd3, rfl, hb13⟩; have HB13 := Lib.hid hb13; clear hb13)
        obtain ⟨b13, hb13⟩ : ∃ b, w13.heap.size = b := ⟨_, rfl⟩
        refine world_gen (fun w' => St w [(b13 + 1, #[.int .i64 pg, .int .i64 nd, .int .i64 k1, .int .i64 o1], 49), (b13, #[.slice H0 Hn0 Hd0, .slice H1 Hn1 Hd1, .slice H2 Hn2 Hd2, .slice H3 Hn3 Hd3], 46), (b11 + 1, #[.int .i64 pg, .int .i64 nd, .int .i64 k1, .int .i64 o1], 49), (b11, #[.slice G0 Gn0 Gd0, .slice G1 Gn1 Gd1, .slice G2 Gn2 Gd2, .slice G3 Gn3 Gd3], 46), (b9, #[.slice E0 f.ws.length f0, .slice E1 f.pend.length f1, .slice E2 f.tlb.length f2, .slice E3 f.wc.length f3], 46), (b4, #[.slice A4 ws.length c4], 25), (b3, #[.slice A2 ws.length c2], 25)] w' ∧ RdM w' (.slice E0 f.ws.length f0) (.slice E1 f.pend.length f1) (.slice E2 f.tlb.length f2) (.slice E3 f.wc.length f3) f ∧ Below w6.heap.size w6 w') ⟨by rw [← hb13]; exact (HS12.out.below HB13.out).push2 _ _ _ _, HR12.out.below (allocB (allocB HB13.out _) _), allocB (allocB (thenB HB12.out HB13.out) _) _⟩ (fun w14 h14 => ?_)
        rw [hb13]
        have HS14 := Lib.hid h14.1
        have HR14 := Lib.hid h14.2.1
        have HB14 := Lib.hid h14.2.2
        clear z0_0 z0_1 z0_2 z0_3 z1_0 z1_1 z1_2 z1_3 zF1_0 zF1_1 zF1_2 zF1_3 z2_0 z2_1 z2_2 z2_3 z3_0 z4_0
        clear hb13 h14 HB13 HS12 HR12 HB12
        have sT0 := HS14.out
        obtain ⟨z0_0, z0_1, z0_2, z0_3⟩ := sT0.c4
        have sT1 := sT0.tail
        obtain ⟨z1_0, z1_1, z1_2, z1_3⟩ := sT1.c4
        have zF1_0 := sT1.f 0
        have zF1_1 := sT1.f 1
        have zF1_2 := sT1.f 2
        have zF1_3 := sT1.f 3
        have sT2 := sT1.tail
        obtain ⟨z2_0, z2_1, z2_2, z2_3⟩ := sT2.c4
        have sT3 := sT2.tail
        obtain ⟨z3_0, z3_1, z3_2, z3_3⟩ := sT3.c4
        have zF3_0 := sT3.f 0
        have zF3_1 := sT3.f 1
        have zF3_2 := sT3.f 2
        have zF3_3 := sT3.f 3
        have sT4 := sT3.tail
        obtain ⟨z4_0, z4_1, z4_2, z4_3⟩ := sT4.c4
        have sT5 := sT4.tail
        have z5_0 := sT5.c1
        have sT6 := sT5.tail
        have z6_0 := sT6.c1
        have sT7 := sT6.tail
        clear sT0 sT1 sT2 sT3 sT4 sT5 sT6 sT7
        go_upto_region 26 with (go_at_call 14; refine (see_any nx nd 129 _ HR14.out HFW.out HFA.out HFV.out HNX.out.1 HNX.out.2 ⟨by decide, by decide⟩ HNP.out r HRQ.out k2 o2 HS2.out).mono ?_; rintro e w15 ⟨J0, J1, J2, J3, Jn0, Jn1, Jn2, Jn3, Jd0, Jd1, Jd2, Jd3, rfl, hb15⟩; have HB15 := Lib.hid hb15; clear hb15)
        obtain ⟨b15, hb15⟩ : ∃ b, w15.heap.size = b := ⟨_, rfl⟩
        refine world_gen (fun w' => St w [(b15 + 1, #[.int .i64 nx, .int .i64 nd, .int .i64 k2, .int .i64 o2], 49), (b15, #[.slice J0 Jn0 Jd0, .slice J1 Jn1 Jd1, .slice J2 Jn2 Jd2, .slice J3 Jn3 Jd3], 46), (b13 + 1, #[.int .i64 pg, .int .i64 nd, .int .i64 k1, .int .i64 o1], 49), (b13, #[.slice H0 Hn0 Hd0, .slice H1 Hn1 Hd1, .slice H2 Hn2 Hd2, .slice H3 Hn3 Hd3], 46), (b11 + 1, #[.int .i64 pg, .int .i64 nd, .int .i64 k1, .int .i64 o1], 49), (b11, #[.slice G0 Gn0 Gd0, .slice G1 Gn1 Gd1, .slice G2 Gn2 Gd2, .slice G3 Gn3 Gd3], 46), (b9, #[.slice E0 f.ws.length f0, .slice E1 f.pend.length f1, .slice E2 f.tlb.length f2, .slice E3 f.wc.length f3], 46), (b4, #[.slice A4 ws.length c4], 25), (b3, #[.slice A2 ws.length c2], 25)] w' ∧ RdM w' (.slice E0 f.ws.length f0) (.slice E1 f.pend.length f1) (.slice E2 f.tlb.length f2) (.slice E3 f.wc.length f3) f ∧ Below w6.heap.size w6 w') ⟨by rw [← hb15]; exact (HS14.out.below HB15.out).push2 _ _ _ _, HR14.out.below (allocB (allocB HB15.out _) _), allocB (allocB (thenB HB14.out HB15.out) _) _⟩ (fun w16 h16 => ?_)
        rw [hb15]
        have HS16 := Lib.hid h16.1
        have HR16 := Lib.hid h16.2.1
        have HB16 := Lib.hid h16.2.2
        clear z0_0 z0_1 z0_2 z0_3 z1_0 z1_1 z1_2 z1_3 zF1_0 zF1_1 zF1_2 zF1_3 z2_0 z2_1 z2_2 z2_3 z3_0 z3_1 z3_2 z3_3 zF3_0 zF3_1 zF3_2 zF3_3 z4_0 z4_1 z4_2 z4_3 z5_0 z6_0
        clear hb15 h16 HB15 HS14 HR14 HB14
        have hbc := HS16.out
        have sT0 := hbc
        obtain ⟨z0_0, z0_1, z0_2, z0_3⟩ := sT0.c4
        have sT1 := sT0.tail
        have zB0_0 := BW.cell z0_0
        have zB0_1 := BW.cell z0_1
        have zB0_2 := BW.cell z0_2
        have zB0_3 := BW.cell z0_3
        clear z0_0 z0_1 z0_2 z0_3
        have sT2 := sT1.tail
        obtain ⟨z2_0, z2_1, z2_2, z2_3⟩ := sT2.c4
        have sT3 := sT2.tail
        have zB2_0 := BW.cell z2_0
        have zB2_1 := BW.cell z2_1
        have zB2_2 := BW.cell z2_2
        have zB2_3 := BW.cell z2_3
        clear z2_0 z2_1 z2_2 z2_3
        have sT4 := sT3.tail
        obtain ⟨z4_0, z4_1, z4_2, z4_3⟩ := sT4.c4
        have sT5 := sT4.tail
        have zB4_0 := BW.cell z4_0
        have zB4_1 := BW.cell z4_1
        have zB4_2 := BW.cell z4_2
        have zB4_3 := BW.cell z4_3
        clear z4_0 z4_1 z4_2 z4_3
        have sT6 := sT5.tail
        have sT7 := sT6.tail
        have z7_0 := sT7.c1
        have sT8 := sT7.tail
        have zB7_0 := BW.cell z7_0
        clear z7_0
        have sT9 := sT8.tail
        clear sT0 sT1 sT2 sT3 sT4 sT5 sT6 sT7 sT8 sT9
        clear hbc
        have RO : ∀ p : BW w16, Rd wEnc 1 p.x (.slice A4 ws.length c4) ws := fun p => (HO46.out.below (thenB HB16.out p.h)).rd wLen
        (refine wp_region_below (by kernel_rfl) (by kernel_rfl) ?_; (repeat (first | (go_big_quiet_step (first | (go_at_call 12; exact BW.calls (specWalk1_any (.slice A4 ws.length c4) ws pg _ (RO _) HWF.out ⟨hpg0, hpg1⟩ q HQ.out)) | (go_at_call 15; exact BW.calls (sees_any q pg nd ⟨pg, nd, k1, o1⟩ _ HQK.out.1 HQK.out.2 HNP.out HS1.out)))) | ((with_reducible refine wpQuiet_step ?_); intro K hK; go_simp; first | ((with_reducible refine hK _ ?_); clear hK K) | (apply Exists.intro; refine ⟨fun _ => ?_, hK _ ?_⟩; (first | (go_at_call 12; exact BW.calls (specWalk1_any (.slice A4 ws.length c4) ws pg _ (RO _) HWF.out ⟨hpg0, hpg1⟩ q HQ.out)) | (go_at_call 15; exact BW.calls (sees_any q pg nd ⟨pg, nd, k1, o1⟩ _ HQK.out.1 HQK.out.2 HNP.out HS1.out))); clear hK K)))); (with_reducible refine wpQuiet_nil ?_); intro wq hw'; obtain ⟨⟨wy, hbq⟩, hw''⟩ := hw'; subst hw'')
        have HS17 := Lib.hid (HS16.out.below hbq)
        have HB17 := Lib.hid (thenB HB16.out hbq)
        clear hbq RO HS16 HB16 HR16
        go_upto_region 28 with fail
        have hbc := HS17.out
        have sT0 := hbc
        obtain ⟨z0_0, z0_1, z0_2, z0_3⟩ := sT0.c4
        have sT1 := sT0.tail
        have zB0_0 := BW.cell z0_0
        have zB0_1 := BW.cell z0_1
        have zB0_2 := BW.cell z0_2
        have zB0_3 := BW.cell z0_3
        clear z0_0 z0_1 z0_2 z0_3
        have sT2 := sT1.tail
        have sT3 := sT2.tail
        have sT4 := sT3.tail
        have sT5 := sT4.tail
        have sT6 := sT5.tail
        have sT7 := sT6.tail
        have z7_0 := sT7.c1
        have sT8 := sT7.tail
        have zB7_0 := BW.cell z7_0
        clear z7_0
        have sT9 := sT8.tail
        clear sT0 sT1 sT2 sT3 sT4 sT5 sT6 sT7 sT8 sT9
        clear hbc
        have RO : ∀ p : BW wq, Rd wEnc 1 p.x (.slice A4 ws.length c4) ws := fun p => (HO46.out.below (thenB HB17.out p.h)).rd wLen
        (refine wp_region_below (by kernel_rfl) (by kernel_rfl) ?_; (repeat (first | (go_big_quiet_step (first | (go_at_call 12; exact BW.calls (specWalk1_any (.slice A4 ws.length c4) ws nx _ (RO _) HWF.out HNX.out.2 r HRQ.out)) | (go_at_call 15; exact BW.calls (sees_any r nx nd ⟨nx, nd, k2, o2⟩ _ HRK.out.1 HRK.out.2 HNP.out HS2.out)))) | ((with_reducible refine wpQuiet_step ?_); intro K hK; go_simp; first | ((with_reducible refine hK _ ?_); clear hK K) | (apply Exists.intro; refine ⟨fun _ => ?_, hK _ ?_⟩; (first | (go_at_call 12; exact BW.calls (specWalk1_any (.slice A4 ws.length c4) ws nx _ (RO _) HWF.out HNX.out.2 r HRQ.out)) | (go_at_call 15; exact BW.calls (sees_any r nx nd ⟨nx, nd, k2, o2⟩ _ HRK.out.1 HRK.out.2 HNP.out HS2.out))); clear hK K)))); (with_reducible refine wpQuiet_nil ?_); intro wq hw'; obtain ⟨⟨wy, hbq⟩, hw''⟩ := hw'; subst hw'')
        have HB18 := Lib.hid (thenB HB17.out hbq)
        clear hbq RO HS17 HB17
        have ei : IntKind.i64.wrap ((i : Int) + 1) = ((i + 1 : Nat) : Int) := by rw [IntKind.wrap_i64]; omega
        go_wp2
        go_roundw
        case rel => exact ⟨i + 1, by omega, by first | rfl | go_num, HB18⟩
        case measure => simp [intOf]; omega
        -- END2
end Go.Proofs.Ytomomaoncmgfpaa.Draw
