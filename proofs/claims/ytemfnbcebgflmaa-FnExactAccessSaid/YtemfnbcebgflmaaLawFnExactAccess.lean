/- Access of the program answers as the reference's, at every machine, page, need and choice that the law asks (lists of at most 2^20 entries in all: the law itself answers true for more), writes into none of its arguments, and keeps nothing of them. -/
import Derived.Test.YtemfnbcebgflmaaRows
import Derived.Test.YtemfnbcebgflmaaOpenRd
import Derived.Test.YtemfnbcebgflmaaLawMore
import Derived.Test.YtemfnbcebgflmaaSpecAcc
import Derived.Test.YtemfnbcebgflmaaImplAcc
import Derived.WalkKit
import Derived.ProofKit
import Derived.OpenShut
import Derived.ShutString
import Derived.ChangeOld
import Derived.ChangeArms
import Derived.Below
import Derived.SizedLaws
import Derived.Lib.SmallJoins
namespace Go.Proofs.Ytemfnbcebgflmaa.Mmu
open Go.RowKit Go.Proofs.Ytemfnbcebgflmaa.Base Go.Proofs.Ytemfnbcebgflmaa.Kinds Go.Proofs.Ytemfnbcebgflmaa.LawsMach
set_option linter.unusedVariables false
set_option linter.unusedSimpArgs false

theorem st_genO2 {w0 w : World} {l : List (Nat × Array Value × Nat)} {b1 b2 : Nat} {v0 v1 v2 v3 u0 u1 u2 u3 : Value} {m n : SM} (S : St w0 l w) (h : OwnM b1 w v0 v1 v2 v3 m) (h2 : OwnM b2 w u0 u1 u2 u3 n) {G : World → Prop} (k : ∀ w', St w0 l w' → OwnM b1 w' v0 v1 v2 v3 m → OwnM b2 w' u0 u1 u2 u3 n → G w') : G w := k w S h h2
theorem st_genO3 {w0 w : World} {l : List (Nat × Array Value × Nat)} {b1 b2 b3 : Nat} {v0 v1 v2 v3 u0 u1 u2 u3 t0 t1 t2 t3 : Value} {m n q : SM} (S : St w0 l w) (h : OwnM b1 w v0 v1 v2 v3 m) (h2 : OwnM b2 w u0 u1 u2 u3 n) (h3 : OwnM b3 w t0 t1 t2 t3 q) {G : World → Prop} (k : ∀ w', St w0 l w' → OwnM b1 w' v0 v1 v2 v3 m → OwnM b2 w' u0 u1 u2 u3 n → OwnM b3 w' t0 t1 t2 t3 q → G w') : G w := k w S h h2 h3
theorem st_within {w0 w w1 : World} {l : List (Nat × Array Value × Nat)} {lo hi : Nat} (h : St w0 l w) (hw : Within lo hi w w1) (h0 : w0.heap.size ≤ lo) (hl : ∀ x ∈ l, x.1 < lo ∨ hi ≤ x.1) : St w0 l w1 :=
  ⟨h.b.trans ⟨hw.os, hw.tape, hw.output, hw.size, fun k hk => hw.block k (by have := h.b.size; omega) (Or.inl (by omega))⟩, fun x hx => (hw.block x.1 (h.lt x hx) (hl x hx)).trans (h.blk x hx), h.up, h.ord⟩
theorem inM_mono {a b : Nat} {v0 v1 v2 v3 : Value} (h : InM a v0 v1 v2 v3) (k : a ≤ b) : InM b v0 v1 v2 v3 := ⟨fun j e => Nat.lt_of_lt_of_le (h.ws j e) k, fun j e => Nat.lt_of_lt_of_le (h.pend j e) k, fun j e => Nat.lt_of_lt_of_le (h.tlb j e) k, fun j e => Nat.lt_of_lt_of_le (h.wc j e) k⟩
theorem markEnd_pos (m : SM) : ¬ markEnd 1 m < 0 := by unfold markEnd; omega
set_option maxHeartbeats 4000000 in
theorem eqSeen_any (a b c d : Int) (w : World) : Calls Try.prog 55 #[.agg #[.int .i64 a, .int .i64 b, .int .i64 c, .int .i64 d], .agg #[.int .i64 a, .int .i64 b, .int .i64 c, .int .i64 d]] w fun e w' => e = .returned (.bool true) ∧ Below w.heap.size w w' := by
  have h1 : (a != a) = false := by simp
  have h2 : (b != b) = false := by simp
  have h3 : (c != c) = false := by simp
  have h4 : (d != d) = false := by simp
  go_enter Try.func55, Try.ntmps55
  go_wp2
  go_ret
  exact ⟨rfl, allocB (allocB (Below.refl _ _) _) _⟩

set_option maxRecDepth 100000 in
set_option maxHeartbeats 8000000 in
theorem lawAccess (v0 v1 v2 v3 : Value) (m : SM) (a1 a2 a3 : Int) (w : World) (r : RdM w v0 v1 v2 v3 m) (hwf : WfM m) :
    Calls Try.prog 14 #[.agg #[v0, v1, v2, v3], .int .i64 a1, .int .i64 a2, .int .i64 a3] w fun e w' => e = .returned (.bool true) ∧ Below w.heap.size w w' := by
  obtain ⟨A0, c0, A1, c1, A2, c2, A3, c3, rfl, rfl, rfl, rfl, hl0, hk0, hl1, hk1, hl2, hk2, hl3, hk3⟩ := r.shape
  have R := Lib.hid r
  have HWF := Lib.hid hwf
  clear r hwf
  by_cases hl : bulk m ≤ 1048576
  rotate_left
  · go_enter Try.func14, Try.ntmps14
    go_wp2_with (first | (go_at_call 42; refine (sz_bad m _ (R.out.below (allocB (Below.refl _ _) _)) hl).mono ?_; rintro e w1 ⟨x, hx3, rfl, hb1⟩; have HB1 := Lib.hid (thenB (allocB (Below.refl w.heap.size w) _) hb1)))
    go_ret
    exact ⟨rfl, HB1.out⟩
  obtain ⟨n, z, hnz⟩ : ∃ n z, accessS m a1 a2 a3 = (n, z) := ⟨_, _, rfl⟩
  have hn : bulk n ≤ 1048576 := by have := accessS_small m a1 a2 a3; rw [hnz] at this; unfold bulk; simp only at this; omega
  have HN := Lib.hid hnz
  have hme := markEnd_pos m
  have hmn := markEnd_pos n
  clear hnz
  go_enter Try.func14, Try.ntmps14
  go_upto_region 1 with fail
  refine ((St.start w).push _ _).gen (fun w1 S1' _ => ?_)
  have S1 := Lib.hid S1'
  have z1 : w.heap.size < w1.heap.size := S1'.lt _ (List.mem_cons_self ..)
  clear S1'
  have sT0 := S1.out
  obtain ⟨p0_0, p0_1, p0_2, p0_3⟩ := sT0.c4
  have sT1 := sT0.tail
  clear sT0 sT1
  go_upto_region 5 with (first | (go_at_call 42; refine (sz_good m _ (R.out.below S1.out.b) hl).mono ?_; rintro e w2 ⟨x, hx3, rfl, hb2⟩; have S2 := Lib.hid (S1.out.below hb2); have z2 := hb2.size; clear hb2))
  have hx4 : decide (x < 0) = false := decide_eq_false (by omega)
  clear p0_0 p0_1 p0_2 p0_3
  have sT0 := S2.out
  obtain ⟨p0_0, p0_1, p0_2, p0_3⟩ := sT0.c4
  have sT1 := sT0.tail
  clear sT0 sT1
  go_wp2_with fail
  refine (to_any _ _ _ _ m _ (R.out.below S2.out.b) hl).mono ?_
  rintro e w3 ⟨u0, u1, u2, u3, rfl, o1, hb3⟩
  obtain ⟨B0, d0, B1, d1, B2, d2, B3, d3, rfl, rfl, rfl, rfl⟩ := o1.shape
  have O1 := Lib.hid o1
  have S3 := Lib.hid (S2.out.below hb3)
  have z3 := hb3.size
  clear o1 hb3 S2
  clear p0_0 p0_1 p0_2 p0_3
  go_wp2_with fail
  refine (specAcc_any _ _ _ _ m a1 a2 a3 _ O1.out.rd HWF.out).mono ?_
  rw [HN.out]
  rintro e w4 ⟨r0, r1, r2, r3, rfl, o3, hb4⟩
  obtain ⟨R0, e0, R1, e1, R2, e2, R3, e3, rfl, rfl, rfl, rfl⟩ := o3.shape
  have O3 := Lib.hid o3
  have IA : Hid (InM w4.heap.size _ _ _ _) := Lib.hid o3.inM
  have S4 := Lib.hid (S3.out.below hb4)
  have z4 := hb4.size
  clear o3 hb4 S3 O1
  simp only [SSeen.val]
  go_upto_region 6 with fail
  refine st_genO (S4.out.push2 _ _ _ _) (O3.out.below (allocB (allocB (Below.refl _ _) _) _)) (fun w5 S5' OA' => ?_)
  have S5 := Lib.hid S5'
  have OA := Lib.hid OA'
  have z5 : w4.heap.size + 1 < w5.heap.size := S5'.lt _ (List.mem_cons_self ..)
  clear S5' OA' S4 O3
  have sT0 := S5.out
  have sT1 := sT0.tail
  have sT2 := sT1.tail
  obtain ⟨p2_0, p2_1, p2_2, p2_3⟩ := sT2.c4
  have sT3 := sT2.tail
  clear sT0 sT1 sT2 sT3
  go_wp2_with fail
  refine (to_any _ _ _ _ m _ (R.out.below S5.out.b) hl).mono ?_
  rintro e w6 ⟨x0, x1, x2, x3, rfl, o4, hb6⟩
  obtain ⟨X0, f0, X1, f1, X2, f2, X3, f3, rfl, rfl, rfl, rfl⟩ := o4.shape
  have O4 := Lib.hid o4
  have IX : Hid (InM w6.heap.size _ _ _ _) := Lib.hid o4.inM
  have S6 := Lib.hid (S5.out.below hb6)
  have OB := Lib.hid (OA.out.below hb6)
  have z6 := hb6.size
  clear o4 hb6 S5 OA
  clear p2_0 p2_1 p2_2 p2_3
  go_upto_region 7 with fail
  refine st_genO2 (S6.out.push _ _) (OB.out.below (allocB (Below.refl _ _) _)) (O4.out.below (allocB (Below.refl _ _) _)) (fun w7 S7' OB' OX' => ?_)
  have S7 := Lib.hid S7'
  have OW := Lib.hid OB'
  have OX := Lib.hid OX'
  have z7 : w6.heap.size < w7.heap.size := S7'.lt _ (List.mem_cons_self ..)
  clear S7' OB' OX' S6 O4 OB
  have sT0 := S7.out
  obtain ⟨p0_0, p0_1, p0_2, p0_3⟩ := sT0.c4
  have sT1 := sT0.tail
  clear sT0 sT1
  go_wp2_with fail
  refine (implAcc_any _ _ _ _ m a1 a2 a3 _ OX.out.rd HWF.out).mono ?_
  rw [HN.out]
  rintro e w8 ⟨g0, g1, g2, g3, rfl, o5, hb8⟩
  obtain ⟨G0, j0, G1, j1, G2, j2, G3, j3, rfl, rfl, rfl, rfl⟩ := o5.shape
  have O5 := Lib.hid o5
  have IG : Hid (InM w8.heap.size _ _ _ _) := Lib.hid o5.inM
  have S8 := Lib.hid (S7.out.below hb8)
  have OW8 := Lib.hid (OW.out.below hb8)
  have OX8 := Lib.hid (OX.out.below hb8)
  have z8 := hb8.size
  clear o5 hb8 S7 OW OX
  simp only [SSeen.val]
  clear p0_0 p0_1 p0_2 p0_3
  go_upto_region 8 with fail
  refine st_genO3 (S8.out.push2 _ _ _ _) (OW8.out.below (allocB (allocB (Below.refl _ _) _) _)) (OX8.out.below (allocB (allocB (Below.refl _ _) _) _)) (O5.out.below (allocB (allocB (Below.refl _ _) _) _)) (fun w9 S9' OW9' OX9' OG9' => ?_)
  have S9 := Lib.hid S9'
  have OW9 := Lib.hid OW9'
  have OX9 := Lib.hid OX9'
  have OG9 := Lib.hid OG9'
  have z9 : w8.heap.size + 1 < w9.heap.size := S9'.lt _ (List.mem_cons_self ..)
  clear S9' OW9' OX9' OG9' S8 OW8 OX8 O5
  have sT0 := S9.out
  obtain ⟨p0_0, p0_1, p0_2, p0_3⟩ := sT0.c4
  have sT1 := sT0.tail
  obtain ⟨p1_0, p1_1, p1_2, p1_3⟩ := sT1.c4
  have sT2 := sT1.tail
  have sT3 := sT2.tail
  obtain ⟨p3_0, p3_1, p3_2, p3_3⟩ := sT3.c4
  have sT4 := sT3.tail
  obtain ⟨p4_0, p4_1, p4_2, p4_3⟩ := sT4.c4
  have sT5 := sT4.tail
  have sT6 := sT5.tail
  clear sT0 sT1 sT2 sT3 sT4 sT5 sT6
  go_wp2_with fail
  refine (eq_any _ _ _ _ _ _ _ _ n n _ OG9.out.rd OW9.out.rd).mono ?_
  rw [decide_eq_true rfl]
  rintro e w10 ⟨rfl, hb10⟩
  have S10 := Lib.hid (S9.out.below hb10)
  have OW10 := Lib.hid (OW9.out.below hb10)
  have OX10 := Lib.hid (OX9.out.below hb10)
  have OG10 := Lib.hid (OG9.out.below hb10)
  clear hb10 S9 OW9 OX9 OG9
  clear p0_0 p0_1 p0_2 p0_3 p1_0 p1_1 p1_2 p1_3 p3_0 p3_1 p3_2 p3_3 p4_0 p4_1 p4_2 p4_3
  have sT0 := S10.out
  obtain ⟨p0_0, p0_1, p0_2, p0_3⟩ := sT0.c4
  have sT1 := sT0.tail
  obtain ⟨p1_0, p1_1, p1_2, p1_3⟩ := sT1.c4
  have sT2 := sT1.tail
  have sT3 := sT2.tail
  obtain ⟨p3_0, p3_1, p3_2, p3_3⟩ := sT3.c4
  have sT4 := sT3.tail
  obtain ⟨p4_0, p4_1, p4_2, p4_3⟩ := sT4.c4
  have sT5 := sT4.tail
  have sT6 := sT5.tail
  clear sT0 sT1 sT2 sT3 sT4 sT5 sT6
  go_wp2_with fail
  refine (eqSeen_any _ _ _ _ _).mono ?_
  rintro e w11 ⟨rfl, hb11⟩
  have S11 := Lib.hid (S10.out.below hb11)
  have OW11 := Lib.hid (OW10.out.below hb11)
  have OX11 := Lib.hid (OX10.out.below hb11)
  have OG11 := Lib.hid (OG10.out.below hb11)
  clear hb11 S10 OW10 OX10 OG10
  clear p0_0 p0_1 p0_2 p0_3 p1_0 p1_1 p1_2 p1_3 p3_0 p3_1 p3_2 p3_3 p4_0 p4_1 p4_2 p4_3
  have sT0 := S11.out
  have sT1 := sT0.tail
  have sT2 := sT1.tail
  obtain ⟨p2_0, p2_1, p2_2, p2_3⟩ := sT2.c4
  have sT3 := sT2.tail
  have sT4 := sT3.tail
  have sT5 := sT4.tail
  obtain ⟨p5_0, p5_1, p5_2, p5_3⟩ := sT5.c4
  have sT6 := sT5.tail
  clear sT0 sT1 sT2 sT3 sT4 sT5 sT6
  go_upto_region 10 with fail
  go_region_held3 (fun w' => (w'.cell? ⟨w.heap.size, 0, none⟩ = some (.slice A0 m.ws.length c0) ∧ w'.cell? ⟨w.heap.size, 1, none⟩ = some (.slice A1 m.pend.length c1) ∧ w'.cell? ⟨w.heap.size, 2, none⟩ = some (.slice A2 m.tlb.length c2) ∧ w'.cell? ⟨w.heap.size, 3, none⟩ = some (.slice A3 m.wc.length c3)) ∧ (w'.cell? ⟨w6.heap.size, 0, none⟩ = some (.slice X0 m.ws.length f0) ∧ w'.cell? ⟨w6.heap.size, 1, none⟩ = some (.slice X1 m.pend.length f1) ∧ w'.cell? ⟨w6.heap.size, 2, none⟩ = some (.slice X2 m.tlb.length f2) ∧ w'.cell? ⟨w6.heap.size, 3, none⟩ = some (.slice X3 m.wc.length f3)))
    (first
      | exact keepR ⟨⟨p5_0, p5_1, p5_2, p5_3⟩, p2_0, p2_1, p2_2, p2_3⟩ (below_drewN (Below.refl _ _) 1)
      | exact keepR (by assumption) hb13
      | exact keepR (by assumption) hb12)
    (first
      | (go_at_call 44; refine (to_any _ _ _ _ m _ (R.out.below (below_drewN S11.out.b 1)) hl).mono ?_; rintro e w12 ⟨t0, t1, t2, t3, rfl, o7, hb12⟩; obtain ⟨F0, k0, F1, k1, F2, k2, F3, k3, rfl, rfl, rfl, rfl⟩ := o7.shape)
      | (go_at_call 46; refine (eq_any _ _ _ _ _ _ _ _ m m _ ((OX11.out.below (below_drewN (Below.refl _ _) 1)).below hb12).rd o7.rd).mono ?_; rw [decide_eq_true rfl]; rintro e w13 ⟨rfl, hb13⟩))
  have h13 : Below w11.heap.size w11 w13 := thenB (thenB (below_drewN (Below.refl _ _) 1) hb12) hb13
  have S13 := Lib.hid (S11.out.below h13)
  have OW13 := Lib.hid (OW11.out.below h13)
  have OX13 := Lib.hid (OX11.out.below h13)
  have OG13 := Lib.hid (OG11.out.below h13)
  clear h13 hb12 hb13 o7 S11 OW11 OX11 OG11
  clear p2_0 p2_1 p2_2 p2_3 p5_0 p5_1 p5_2 p5_3
  go_upto_region 13 with fail
  have sT0 := S13.out
  have sT1 := sT0.tail
  have sT2 := sT1.tail
  obtain ⟨p2_0, p2_1, p2_2, p2_3⟩ := sT2.c4
  have sT3 := sT2.tail
  clear sT0 sT1 sT2 sT3
  go_wp2_with fail
  refine (mark_any w5.heap.size w6.heap.size _ _ _ _ m _ OX13.out IX.out hl).mono ?_
  rintro e w14 ⟨rfl, _, hw14⟩
  have S14 := Lib.hid (st_within S13.out hw14 (by omega) (by simp only [List.mem_cons, List.not_mem_nil, or_false, forall_eq_or_imp, forall_eq]; omega))
  have OW14 := Lib.hid (OW13.out.within_under hw14 (inM_mono IA.out (by omega)))
  have OG14 := Lib.hid (OG13.out.within_above hw14 (by omega))
  clear hw14 S13 OW13 OX13 OG13
  have hme2 : decide (markEnd 1 m < 0) = false := decide_eq_false (by omega)
  clear p2_0 p2_1 p2_2 p2_3
  have sT0 := S14.out
  obtain ⟨p0_0, p0_1, p0_2, p0_3⟩ := sT0.c4
  have sT1 := sT0.tail
  obtain ⟨p1_0, p1_1, p1_2, p1_3⟩ := sT1.c4
  have sT2 := sT1.tail
  have sT3 := sT2.tail
  obtain ⟨p3_0, p3_1, p3_2, p3_3⟩ := sT3.c4
  have sT4 := sT3.tail
  obtain ⟨p4_0, p4_1, p4_2, p4_3⟩ := sT4.c4
  have sT5 := sT4.tail
  have sT6 := sT5.tail
  clear sT0 sT1 sT2 sT3 sT4 sT5 sT6
  go_wp2_with fail
  refine (eq_any _ _ _ _ _ _ _ _ n n _ OG14.out.rd OW14.out.rd).mono ?_
  rw [decide_eq_true rfl]
  rintro e w15 ⟨rfl, hb15⟩
  have S15 := Lib.hid (S14.out.below hb15)
  have OW15 := Lib.hid (OW14.out.below hb15)
  have OG15 := Lib.hid (OG14.out.below hb15)
  clear hb15 S14 OW14 OG14
  clear p0_0 p0_1 p0_2 p0_3 p1_0 p1_1 p1_2 p1_3 p3_0 p3_1 p3_2 p3_3 p4_0 p4_1 p4_2 p4_3
  have sT0 := S15.out
  obtain ⟨p0_0, p0_1, p0_2, p0_3⟩ := sT0.c4
  have sT1 := sT0.tail
  obtain ⟨p1_0, p1_1, p1_2, p1_3⟩ := sT1.c4
  have sT2 := sT1.tail
  have sT3 := sT2.tail
  obtain ⟨p3_0, p3_1, p3_2, p3_3⟩ := sT3.c4
  have sT4 := sT3.tail
  obtain ⟨p4_0, p4_1, p4_2, p4_3⟩ := sT4.c4
  have sT5 := sT4.tail
  have sT6 := sT5.tail
  clear sT0 sT1 sT2 sT3 sT4 sT5 sT6
  go_wp2_with fail
  refine (eqSeen_any _ _ _ _ _).mono ?_
  rintro e w16 ⟨rfl, hb16⟩
  have S16 := Lib.hid (S15.out.below hb16)
  have OW16 := Lib.hid (OW15.out.below hb16)
  have OG16 := Lib.hid (OG15.out.below hb16)
  clear hb16 S15 OW15 OG15
  clear p0_0 p0_1 p0_2 p0_3 p1_0 p1_1 p1_2 p1_3 p3_0 p3_1 p3_2 p3_3 p4_0 p4_1 p4_2 p4_3
  go_upto_region 17 with fail
  have sT0 := S16.out
  have sT1 := sT0.tail
  obtain ⟨p1_0, p1_1, p1_2, p1_3⟩ := sT1.c4
  have sT2 := sT1.tail
  clear sT0 sT1 sT2
  go_wp2_with fail
  refine (mark_any w7.heap.size w8.heap.size _ _ _ _ n _ OG16.out IG.out hn).mono ?_
  rintro e w17 ⟨rfl, o17, hw17⟩
  have OM := Lib.hid o17
  have S17 := Lib.hid (st_within S16.out hw17 (by omega) (by simp only [List.mem_cons, List.not_mem_nil, or_false, forall_eq_or_imp, forall_eq]; omega))
  have OW17 := Lib.hid (OW16.out.within_under hw17 (inM_mono IA.out (by omega)))
  clear hw17 o17 S16 OW16 OG16
  have hmn2 : decide (markEnd 1 n < 0) = false := decide_eq_false (by omega)
  clear p1_0 p1_1 p1_2 p1_3
  have sT0 := S17.out
  have sT1 := sT0.tail
  obtain ⟨p1_0, p1_1, p1_2, p1_3⟩ := sT1.c4
  have sT2 := sT1.tail
  have sT3 := sT2.tail
  have sT4 := sT3.tail
  have sT5 := sT4.tail
  obtain ⟨p5_0, p5_1, p5_2, p5_3⟩ := sT5.c4
  have sT6 := sT5.tail
  clear sT0 sT1 sT2 sT3 sT4 sT5 sT6
  go_wp2_with fail
  refine (held_any _ _ _ _ n _ OM.out.rd hn).mono ?_
  rintro e w18 ⟨rfl, hb18⟩
  have S18 := Lib.hid (S17.out.below hb18)
  have OM18 := Lib.hid (OM.out.below hb18)
  have OW18 := Lib.hid (OW17.out.below hb18)
  clear hb18 S17 OM OW17
  clear p1_0 p1_1 p1_2 p1_3 p5_0 p5_1 p5_2 p5_3
  go_upto_region 24 with fail
  have sT0 := S18.out
  have sT1 := sT0.tail
  have sT2 := sT1.tail
  have sT3 := sT2.tail
  have sT4 := sT3.tail
  have sT5 := sT4.tail
  obtain ⟨p5_0, p5_1, p5_2, p5_3⟩ := sT5.c4
  have sT6 := sT5.tail
  clear sT0 sT1 sT2 sT3 sT4 sT5 sT6
  go_wp2_with fail
  refine (to_any _ _ _ _ m _ (R.out.below S18.out.b) hl).mono ?_
  rintro e w19 ⟨y0, y1, y2, y3, rfl, o19, hb19⟩
  obtain ⟨P0, s0, P1, s1', P2, s2, P3, s3, rfl, rfl, rfl, rfl⟩ := o19.shape
  have O19 := Lib.hid o19
  have S19 := Lib.hid (S18.out.below hb19)
  have OM19 := Lib.hid (OM18.out.below hb19)
  have OW19 := Lib.hid (OW18.out.below hb19)
  clear hb19 o19 S18 OM18 OW18
  clear p5_0 p5_1 p5_2 p5_3
  go_wp2_with fail
  refine (implAcc_any _ _ _ _ m a1 a2 a3 _ O19.out.rd HWF.out).mono ?_
  rw [HN.out]
  rintro e w20 ⟨q0, q1, q2, q3, rfl, o20, hb20⟩
  obtain ⟨Q0, t0, Q1, t1, Q2, t2, Q3, t3, rfl, rfl, rfl, rfl⟩ := o20.shape
  have O20 := Lib.hid o20
  have S20 := Lib.hid (S19.out.below hb20)
  have OM20 := Lib.hid (OM19.out.below hb20)
  have OW20 := Lib.hid (OW19.out.below hb20)
  clear hb20 o20 S19 OM19 OW19 O19
  simp only [SSeen.val]
  go_upto_region 25 with fail
  refine st_genO3 (S20.out.push2 _ _ _ _) (OW20.out.below (allocB (allocB (Below.refl _ _) _) _)) (OM20.out.below (allocB (allocB (Below.refl _ _) _) _)) (O20.out.below (allocB (allocB (Below.refl _ _) _) _)) (fun w21 S21' OW21' OM21' OH21' => ?_)
  have S21 := Lib.hid S21'
  have OW21 := Lib.hid OW21'
  have OM21 := Lib.hid OM21'
  have OH21 := Lib.hid OH21'
  clear S21' OW21' OM21' OH21' S20 OW20 OM20 O20
  have sT0 := S21.out
  obtain ⟨p0_0, p0_1, p0_2, p0_3⟩ := sT0.c4
  have sT1 := sT0.tail
  obtain ⟨p1_0, p1_1, p1_2, p1_3⟩ := sT1.c4
  have sT2 := sT1.tail
  have sT3 := sT2.tail
  obtain ⟨p3_0, p3_1, p3_2, p3_3⟩ := sT3.c4
  have sT4 := sT3.tail
  have sT5 := sT4.tail
  obtain ⟨p5_0, p5_1, p5_2, p5_3⟩ := sT5.c4
  have sT6 := sT5.tail
  obtain ⟨p6_0, p6_1, p6_2, p6_3⟩ := sT6.c4
  have sT7 := sT6.tail
  have sT8 := sT7.tail
  clear sT0 sT1 sT2 sT3 sT4 sT5 sT6 sT7 sT8
  go_wp2_with fail
  refine (eq_any _ _ _ _ _ _ _ _ n n _ OH21.out.rd OW21.out.rd).mono ?_
  rw [decide_eq_true rfl]
  rintro e w22 ⟨rfl, hb22⟩
  have S22 := Lib.hid (S21.out.below hb22)
  have OM22 := Lib.hid (OM21.out.below hb22)
  clear hb22 S21 OW21 OM21 OH21
  clear p0_0 p0_1 p0_2 p0_3 p1_0 p1_1 p1_2 p1_3 p3_0 p3_1 p3_2 p3_3 p5_0 p5_1 p5_2 p5_3 p6_0 p6_1 p6_2 p6_3
  have sT0 := S22.out
  obtain ⟨p0_0, p0_1, p0_2, p0_3⟩ := sT0.c4
  have sT1 := sT0.tail
  have sT2 := sT1.tail
  have sT3 := sT2.tail
  obtain ⟨p3_0, p3_1, p3_2, p3_3⟩ := sT3.c4
  have sT4 := sT3.tail
  have sT5 := sT4.tail
  obtain ⟨p5_0, p5_1, p5_2, p5_3⟩ := sT5.c4
  have sT6 := sT5.tail
  clear sT0 sT1 sT2 sT3 sT4 sT5 sT6
  go_wp2_with fail
  refine (eqSeen_any _ _ _ _ _).mono ?_
  rintro e w23 ⟨rfl, hb23⟩
  have S23 := Lib.hid (S22.out.below hb23)
  have OM23 := Lib.hid (OM22.out.below hb23)
  clear hb23 S22 OM22
  clear p0_0 p0_1 p0_2 p0_3 p3_0 p3_1 p3_2 p3_3 p5_0 p5_1 p5_2 p5_3
  have sT0 := S23.out
  have sT1 := sT0.tail
  have sT2 := sT1.tail
  have sT3 := sT2.tail
  obtain ⟨p3_0, p3_1, p3_2, p3_3⟩ := sT3.c4
  have sT4 := sT3.tail
  clear sT0 sT1 sT2 sT3 sT4
  go_wp2_with fail
  refine (held_any _ _ _ _ n _ OM23.out.rd hn).mono ?_
  rintro e w24 ⟨rfl, hb24⟩
  have HB24 := Lib.hid (thenB S23.out.b hb24)
  clear hb24
  go_wp2
  go_ret
  exact ⟨rfl, HB24.out⟩

end Go.Proofs.Ytemfnbcebgflmaa.Mmu
namespace Go.Proofs.Ytemfnbcebgflmaa.fnExactAccess
open Go.ChangeShapes Go.WideShapes Go.ChangeAt Go.RowKit Go.Joins
open Go.ChangeMaps (open_string shut_string)
set_option linter.unusedVariables false
theorem own : ownKnob Try.prog.godebug = none := by kernel_rfl
theorem laidOut : laidOutB Try.prog = true := by kernel_rfl
set_option maxRecDepth 100000 in
theorem lifted (os : Os) (started : os.Started) (H : Type) (enc : TypeId × Value → H) :
    ReturnsInHanded {} Try.checked os 14 .any (Rows.fnExactAccessSpec.pre6 enc Try.prog Try.f14 Rows.fnExactAccessRow.domain false) (Rows.fnExactAccessSpec.post enc Try.prog Try.f14 false true false false) := by
  refine returnsInHanded_of_change_sized (C := Try.checked) own started (by kernel_rfl) Try.func14
    (ChangeSpec.witness6 (enc := enc) (C := Try.checked) false ⟨#[], #[.agg #[.slice none 0 0, .slice none 0 0, .slice none 0 0, .slice none 0 0], .int .i64 0, .int .i64 0, .int .i64 0], []⟩ 8 (by kernel_rfl) (by kernel_rfl) (by kernel_rfl) (by kernel_rfl)) ?_
  intro W base args ds gs before hval0 hW hcnd hsz0 _
  have hsz : (DataW.weightsEach Try.prog (Try.f14.params.toList ++ Rows.fnExactAccessSpec.plain.varTypes Try.prog) (ds ++ gs)).all (· ≤ reachBytes) = true := hsz0
  have hval : ∀ (j : Nat) t v, Try.f14.params[j]? = some t → args[j]? = some v → Value.okWide Try.prog W .any base t v := hval0
  have hW' := hW
  obtain ⟨p, q, hA0, hV, rfl, hfz, hnd⟩ := hW
  have hA : DataW.TrodAll enc Try.prog W 0 (fun _ => true) true Try.f14.params.toList args.toList ds p := hA0
  rw [Try.params14] at hA hval hsz
  obtain ⟨v0, vs0, d0, ds0, p0, q0, hargs, rfl, rfl, h0, r0⟩ := trodAll_cons hA
  obtain ⟨v1, vs1, d1, ds1, p1, q1, rfl, rfl, rfl, h1, r1⟩ := trodAll_cons r0
  obtain ⟨v2, vs2, d2, ds2, p2, q2, rfl, rfl, rfl, h2, r2⟩ := trodAll_cons r1
  obtain ⟨v3, vs3, d3, ds3, p3, q3, rfl, rfl, rfl, h3, r3⟩ := trodAll_cons r2
  obtain ⟨rfl, rfl, rfl⟩ := trodAll_nil r3
  obtain rfl : args = #[v0, v1, v2, v3] := by cases args; simp_all
  obtain ⟨rfl, rfl⟩ := trodVars_none hV
  have lt0 : ∀ x ∈ p0, x.block < W.heap.size := by obtain ⟨m, hm⟩ := h0; exact DataW.trod_lt m _ _ _ hm
  have k0 := h0
  obtain ⟨u0, u1, u2, u3, m, rfl, hr0, hw0, hp0⟩ := OpenRd.open_machine (hval 0 66 v0 rfl rfl) h0
  obtain ⟨a1, rfl, rfl, rfl, w1⟩ := open_int Try.underlying3 (hval 1 3 v1 rfl rfl) h1
  obtain ⟨a2, rfl, rfl, rfl, w2⟩ := open_int Try.underlying3 (hval 2 3 v2 rfl rfl) h2
  obtain ⟨a3, rfl, rfl, rfl, w3⟩ := open_int Try.underlying3 (hval 3 3 v3 rfl rfl) h3
  clear hA0 hval0 hsz0 hsz
  refine (Mmu.lawAccess u0 u1 u2 u3 m a1 a2 a3 W hr0 ⟨hw0, hp0⟩).mono fun e W' ⟨he, bel⟩ => ?_
  subst he
  exact ⟨_, rfl, _, _, _, [], _, [], hW', trodAll_mk1 (shut_bool Try.underlying4 _), (trodAll_cons_mk (Below.trod laidOut (by kernel_rfl) (of_decide_eq_true (by kernel_rfl)) k0 bel lt0) (trodAll_cons_mk (shut_int Try.underlying3 w1) (trodAll_cons_mk (shut_int Try.underlying3 w2) (trodAll_cons_mk (shut_int Try.underlying3 w3) trodAll_mk0)))), rfl, bel.frame _, fun h => by cases h⟩
theorem over : Rows.fnExactAccessRow.holds Try.pinned (OpenSpec.ofChange Rows.fnExactAccessSpec) :=
  OpenClaim.holds_of_wide 14 Try.f14 rfl rfl rfl rfl rfl rfl rfl ⟨rfl, rfl, rfl, rfl, rfl⟩ rfl rfl rfl rfl rfl (by kernel_rfl) Try.func14 (by kernel_rfl)
    (of_decide_eq_true (by kernel_rfl)) (by unfold Func.isWrapper; first | (rw [if_pos (by decide +kernel)]; kernel_rfl) | (rw [if_neg (by decide +kernel)]; exact ⟨rfl, rfl⟩))
    (fun os started H enc _ => lifted os started H enc)
theorem proved : Rows.FnExactAccessSaid := over
#print axioms proved
end Go.Proofs.Ytemfnbcebgflmaa.fnExactAccess
namespace Go.Proofs.Ytemfnbcebgflmaa
/-- The row, under a short name, for the claim. -/
theorem fnExactAccess_holds : Rows.FnExactAccessSaid := fnExactAccess.proved
end Go.Proofs.Ytemfnbcebgflmaa
