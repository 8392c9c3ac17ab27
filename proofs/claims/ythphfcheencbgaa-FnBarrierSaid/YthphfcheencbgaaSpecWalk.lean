/- Walks of the reference's l2Walk and Fill. -/
import Derived.Test.YthphfcheencbgaaWalkable
import Derived.Test.YthphfcheencbgaaSpecGo
namespace Go.Proofs.Ythphfcheencbgaa.Mmu
open Go.RowKit Go.Proofs.Ythphfcheencbgaa.Base Go.Proofs.Ythphfcheencbgaa.Kinds Go.Proofs.Ythphfcheencbgaa.DecMath Go.Proofs.Ythphfcheencbgaa.L1
set_option linter.unusedVariables false
set_option linter.unusedSimpArgs false

theorem specGo_any (page choice : Int) (hp : 0 ≤ page ∧ page < 4096) (hc : 0 ≤ choice ∧ choice ≤ 65535) (n : Nat) :
    ∀ (base : Nat) (v0 v1 v2 v3 : Value) (m : SM) (level frame : Int) (doomed : Bool) (w : World), level = 4 - (n : Int) → 1 ≤ level → 0 < n → OwnM base w v0 v1 v2 v3 m → base ≤ w.heap.size → (0 ≤ frame ∧ frame < ((m.ws.length / 16 : Nat) : Int)) → (∀ x ∈ m.pend, 0 ≤ x.Adr) → m.ws.length ≤ 8192 → m.ws.length % 16 = 0 → m.pend.length ≤ 10000 → m.tlb.length ≤ 256 → m.wc.length ≤ 256 → WfM m →
      Calls Try.prog 52 #[.agg #[v0, v1, v2, v3], .int .i64 page, .int .i64 choice, .int .i64 level, .int .i64 frame, .bool doomed] w (GoPost base w (goP page choice n m level frame doomed)) := by
  induction n with
  | zero => intro base v0 v1 v2 v3 m level frame doomed w _ _ h; omega
  | succ n ih =>
    intro base v0 v1 v2 v3 m level frame doomed w hl hl1 _ o hb hf h0 hn hn0 hn1 hn2 hn3 hwf
    obtain ⟨lv, rfl⟩ := Int.eq_ofNat_of_zero_le (show 0 ≤ level by omega)
    exact specGo_step page choice hp hc n ih base v0 v1 v2 v3 m lv frame doomed w hl (by omega) o hb hf h0 hn hn0 hn1 hn2 hn3 hwf
theorem go_any (page choice level frame : Int) (doomed : Bool) (hp : 0 ≤ page ∧ page < 4096) (hc : 0 ≤ choice ∧ choice ≤ 65535) (base : Nat) (v0 v1 v2 v3 : Value) (m : SM) (w : World) (hl : 1 ≤ level ∧ level ≤ 3) (o : OwnM base w v0 v1 v2 v3 m) (hb : base ≤ w.heap.size) (hf : 0 ≤ frame ∧ frame < ((m.ws.length / 16 : Nat) : Int)) (hm : Walkable m)
    (r : SM × Int × Int × Int × Int) (hr : goP page choice (4 - level).toNat m level frame doomed = r) :
    Calls Try.prog 52 #[.agg #[v0, v1, v2, v3], .int .i64 page, .int .i64 choice, .int .i64 level, .int .i64 frame, .bool doomed] w (GoPost base w r) := by
  rw [← hr]
  exact specGo_any page choice hp hc (4 - level).toNat base v0 v1 v2 v3 m level frame doomed w (by omega) hl.1 (by omega) o hb hf hm.adr hm.small hm.mod hm.npend hm.ntlb hm.nwc hm.wf

theorem wcCovers_b (e : SWc) (p : Int) (b : Bool) (w : World) (hl : e.Level = 2 ∨ e.Level = 3) (hp : 0 ≤ p) (hp' : p ≤ 100000) (h : decide (wcovP e p) = b) : Calls Try.prog 51 #[e.val, .int .i64 p] w fun ex w' => ex = .returned (.bool b) ∧ Below w.heap.size w w' := by
  rw [← h]; exact wcCovers_any e p w hl hp hp'

set_option maxRecDepth 100000 in
set_option maxHeartbeats 4000000 in
theorem specWalk_any (page choice : Int) (hp : 0 ≤ page ∧ page < 4096) (hc : 0 ≤ choice ∧ choice ≤ 65535) (base : Nat) (v0 v1 v2 v3 : Value) (m : SM) (w : World) (o : OwnM base w v0 v1 v2 v3 m) (hbase : base ≤ w.heap.size) (hm : Walkable m) (r : SM × Int × Int × Int × Int) (hr : walkP m page choice = r) :
    Calls Try.prog 31 #[.agg #[v0, v1, v2, v3], .int .i64 page, .int .i64 choice] w (GoPost base w r) := by
  obtain ⟨A0, c0, A1, c1, A2, c2, A3, c3, rfl, rfl, rfl, rfl, hl0, hk0, hl1', hk1, hl2, hk2, hl3, hk3⟩ := o.rd.shape
  have R := Lib.hid o.rd
  have O := Lib.hid o
  have HM := Lib.hid hm
  have hnw := hm.nwc
  have HP := Lib.hid hp
  have HC := Lib.hid hc
  obtain ⟨hp0, hp1⟩ := hp
  obtain ⟨hc0, hc1⟩ := hc
  have hfr : 0 < m.ws.length / 16 := by have := hm.big; omega
  have HFR := Lib.hid hfr
  have HR := Lib.hid hr
  clear o hm hfr hr
  obtain ⟨cb, hcb⟩ : ∃ b, bitB choice 0 = b := ⟨_, rfl⟩
  have HCB := Lib.hid hcb
  clear hcb
  cases cb with
  | false =>
    have HG : Hid (goP page choice (4 - (1 : Int)).toNat m 1 0 false = r) := Lib.hid (by rw [← HR.out]; unfold walkP; rw [begin_off HCB.out])
    go_enter Try.func31, Try.ntmps31
    go_upto_region 1 with fail
    refine ((St.start w).push3 _ _ _ _ _ _).gen (fun w1 S1' _ => ?_)
    have S1 := Lib.hid S1'
    clear S1'
    go_upto_region 10 with (first | (go_at_call 50; refine (bit_b choice 0 false _ hc0 hc1 (by omega) HCB.out).mono ?_; rintro e w1 ⟨rfl, rfl⟩))
    have sT0 := S1.out
    have sT1 := sT0.tail
    have sT2 := sT1.tail
    obtain ⟨p2_0, p2_1, p2_2, p2_3⟩ := sT2.c4
    have sT3 := sT2.tail
    clear sT0 sT1 sT2 sT3
    go_wp2_with fail
    refine (go_any page choice 1 0 false HP.out HC.out base _ _ _ _ m _ (by omega) (O.out.below S1.out.b) (Nat.le_trans hbase S1.out.b.size) ⟨by omega, by have := HFR.out; omega⟩ HM.out r HG.out).mono ?_
    rintro e w5 ⟨u0, u1, u2, u3, rfl, o5, hb5⟩
    obtain ⟨B0, d0, B1, d1, B2, d2, B3, d3, rfl, rfl, rfl, rfl⟩ := o5.shape
    have O5 := Lib.hid o5
    have S8 := Lib.hid (S1.out.below hb5)
    clear o5 hb5 S1
    clear p2_0 p2_1 p2_2 p2_3
    have sT0 := S8.out
    obtain ⟨p0_0, p0_1, p0_2, p0_3⟩ := sT0.c4
    have pF0_0 := sT0.f 0
    have pF0_1 := sT0.f 1
    have pF0_2 := sT0.f 2
    have pF0_3 := sT0.f 3
    have sT1 := sT0.tail
    obtain ⟨p1_0, p1_1, p1_2, p1_3⟩ := sT1.c4
    have pF1_0 := sT1.f 0
    have pF1_1 := sT1.f 1
    have pF1_2 := sT1.f 2
    have pF1_3 := sT1.f 3
    have sT2 := sT1.tail
    clear sT0 sT1 sT2
    go_wp2
    refine bodyPost_ret (v := .tuple #[.agg #[.slice B0 r.1.ws.length d0, .slice B1 r.1.pend.length d1, .slice B2 r.1.tlb.length d2, .slice B3 r.1.wc.length d3], .agg #[.int .i64 r.2.1, .int .i64 r.2.2.1, .int .i64 r.2.2.2.1, .int .i64 r.2.2.2.2]]) (by simp [results, Try.results31, go_sem, *]) rfl ?_
    have z := ret_boxes (l1 := []) S8.out O5.out (by decide) (by decide)
    exact ⟨_, _, _, _, rfl, (z _ _ _ _ _ _ _ _).1, (z _ _ _ _ _ _ _ _).2⟩
  | true =>
    go_enter Try.func31, Try.ntmps31
    go_upto_region 1 with fail
    refine ((St.start w).push3 _ _ _ _ _ _).gen (fun w1 S1' _ => ?_)
    have S1 := Lib.hid S1'
    clear S1'
    go_wp2_with (first | (go_at_call 50; refine (bit_b choice 0 true _ hc0 hc1 (by omega) HCB.out).mono ?_; rintro e w1 ⟨rfl, rfl⟩))
    go_loopw [8] (fun x wr => ∃ L : Int, 1 ≤ L ∧ L ≤ 3 ∧ x = .int .i64 L ∧ (∀ L', L < L' → L' ≤ 3 → noneB m page L' m.wc.length) ∧ Below w1.heap.size w1 wr) (fun x _ => (intOf x).toNat)
    case atStart => exact ⟨3, by omega, by omega, rfl, by intros; omega, Below.refl _ _⟩
    case round =>
      obtain ⟨L, hL1, hL2, rfl, hall, hb⟩ := hrel
      have HA := Lib.hid hall
      have S2 := Lib.hid (S1.out.below hb)
      have HB := Lib.hid hb
      clear hall hb
      by_cases hge : 2 ≤ L
      rotate_left
      · obtain rfl : L = 1 := by omega
        have HG : Hid (goP page choice (4 - (1 : Int)).toNat m 1 0 false = r) := Lib.hid (by rw [← HR.out]; unfold walkP; rw [begin_none HCB.out HA.out])
        go_upto_region 10 with fail
        have sT0 := S2.out
        have sT1 := sT0.tail
        have sT2 := sT1.tail
        obtain ⟨p2_0, p2_1, p2_2, p2_3⟩ := sT2.c4
        have sT3 := sT2.tail
        clear sT0 sT1 sT2 sT3
        go_wp2_with fail
        refine (go_any page choice 1 0 false HP.out HC.out base _ _ _ _ m _ (by omega) (O.out.below S2.out.b) (Nat.le_trans hbase S2.out.b.size) ⟨by omega, by have := HFR.out; omega⟩ HM.out r HG.out).mono ?_
        rintro e w5 ⟨u0, u1, u2, u3, rfl, o5, hb5⟩
        obtain ⟨B0, d0, B1, d1, B2, d2, B3, d3, rfl, rfl, rfl, rfl⟩ := o5.shape
        have O5 := Lib.hid o5
        have S8 := Lib.hid (S2.out.below hb5)
        clear o5 hb5 S2
        clear p2_0 p2_1 p2_2 p2_3
        have sT0 := S8.out
        obtain ⟨p0_0, p0_1, p0_2, p0_3⟩ := sT0.c4
        have pF0_0 := sT0.f 0
        have pF0_1 := sT0.f 1
        have pF0_2 := sT0.f 2
        have pF0_3 := sT0.f 3
        have sT1 := sT0.tail
        obtain ⟨p1_0, p1_1, p1_2, p1_3⟩ := sT1.c4
        have pF1_0 := sT1.f 0
        have pF1_1 := sT1.f 1
        have pF1_2 := sT1.f 2
        have pF1_3 := sT1.f 3
        have sT2 := sT1.tail
        clear sT0 sT1 sT2
        go_wp2
        refine bodyPost_ret (v := .tuple #[.agg #[.slice B0 r.1.ws.length d0, .slice B1 r.1.pend.length d1, .slice B2 r.1.tlb.length d2, .slice B3 r.1.wc.length d3], .agg #[.int .i64 r.2.1, .int .i64 r.2.2.1, .int .i64 r.2.2.2.1, .int .i64 r.2.2.2.2]]) (by simp [results, Try.results31, go_sem, *]) rfl ?_
        have z := ret_boxes (l1 := []) S8.out O5.out (by decide) (by decide)
        exact ⟨_, _, _, _, rfl, (z _ _ _ _ _ _ _ _).1, (z _ _ _ _ _ _ _ _).2⟩
      go_wp2
      generalize wr = w2 at *
      go_loopw [9] (fun x wr => ∃ k : Nat, k ≤ m.wc.length ∧ x = .int .i64 k ∧ noneB m page L k ∧ Below w2.heap.size w2 wr) (fun x _ => m.wc.length - (intOf x).toNat)
      case atStart => exact ⟨0, Nat.zero_le _, rfl, fun j hj => by omega, Below.refl _ _⟩
      case round =>
        obtain ⟨k, hk, rfl, hnone, hb⟩ := hrel
        have HN := Lib.hid hnone
        have S3 := Lib.hid (S2.out.below hb)
        have HB3 := Lib.hid (thenB HB.out hb)
        have HB2 := Lib.hid hb
        clear hnone hb
        by_cases hlt : k < m.wc.length
        rotate_left
        · have hlt' : ¬ (k : Int) < (m.wc.length : Int) := by omega
          obtain rfl : k = m.wc.length := by omega
          have sT0 := S3.out
          have sT1 := sT0.tail
          have sT2 := sT1.tail
          obtain ⟨p2_0, p2_1, p2_2, p2_3⟩ := sT2.c4
          have sT3 := sT2.tail
          clear sT0 sT1 sT2 sT3
          go_wp2
          go_roundw
          case rel =>
            refine ⟨L - 1, by omega, by omega, by go_num, fun L' h1 h2 => ?_, ?_⟩
            · by_cases e : L' = L
              · subst e; exact HN.out
              · exact HA.out L' (by omega) h2
            · exact HB3.out
          case measure => simp [intOf]; omega
        have hlt' : (k : Int) < (m.wc.length : Int) := by omega
        obtain ⟨a0, e0, ea, g0, u0, u1, u2, u3⟩ := SWc.at R.out.wc hlt
        cases ea
        have hab := World.block_lt_of_cell? _ _ u3
        simp only at hab
        have q0 := bC S3.out.b u0
        have q1 := bC S3.out.b u1
        have q2 := bC S3.out.b u2
        have q3 := bC S3.out.b u3
        clear u0 u1 u2 u3
        have hok := HM.out.wc e0 (List.mem_of_getElem? g0)
        have OK := Lib.hid hok
        have G0 := Lib.hid g0
        clear g0 hok
        have step : ∀ wr, ¬ (e0.Level = L ∧ wcovP e0 page) → Below w2.heap.size w2 wr → ∃ k' : Nat, k' ≤ m.wc.length ∧ Value.int .i64 (((k + 1 : Nat) : Int)) = .int .i64 k' ∧ noneB m page L k' ∧ Below w2.heap.size w2 wr := fun wr h hb => ⟨k + 1, by omega, rfl, fun j hj x hx => by
          by_cases e : j = k
          · subst e; obtain rfl := Option.some.inj (G0.out.symm.trans hx); exact h
          · exact HN.out j (by omega) x hx, hb⟩
        have STEP := Lib.hid step
        clear step
        have sT0 := S3.out
        have sT1 := sT0.tail
        have sT2 := sT1.tail
        obtain ⟨p2_0, p2_1, p2_2, p2_3⟩ := sT2.c4
        have sT3 := sT2.tail
        clear sT0 sT1 sT2 sT3
        rcases Bool.eq_false_or_eq_true (e0.Level == L) with t | t
        rotate_left
        · have HNE : Hid (¬ (e0.Level = L ∧ wcovP e0 page)) := Lib.hid (fun h => by rw [h.1] at t; simp at t)
          go_wp2
          go_roundw
          case rel =>
            have := STEP.out _ HNE.out HB2.out
            simpa using this
          case measure => simp [intOf]; omega
        obtain ⟨cv, hcv⟩ : ∃ b, decide (wcovP e0 page) = b := ⟨_, rfl⟩
        have HCV := Lib.hid hcv
        clear hcv
        have T := Lib.hid t
        cases cv with
        | false =>
          have HNE : Hid (¬ (e0.Level = L ∧ wcovP e0 page)) := Lib.hid (fun h => (of_decide_eq_false HCV.out) h.2)
          go_wp2_with (first | (go_at_call 51; refine (wcCovers_b e0 page false _ OK.out.1 hp0 (by omega) HCV.out).mono ?_; rintro e w4 ⟨rfl, hb4⟩; have HB4 := Lib.hid hb4; clear hb4))
          go_roundw
          case rel =>
            have := STEP.out _ HNE.out (thenB HB2.out HB4.out)
            simpa using this
          case measure => simp [intOf]; omega
        | true =>
          have HG : Hid (goP page choice (4 - L).toNat m L e0.Table e0.Doomed = r) := Lib.hid (by rw [← HR.out]; unfold walkP; rw [begin_hit HCB.out (by omega) G0.out (by simpa using T.out) (of_decide_eq_true HCV.out) HN.out HA.out])
          have m0 : ¬ (w.heap.size + 1 = w.heap.size) := by omega
          have m1 : ¬ (w.heap.size + 1 + 1 = w.heap.size) := by omega
          have n1 : ¬ (w.heap.size + 1 = (a0.add (k * 4)).block) := by omega
          have n2 : ¬ (w.heap.size + 1 + 1 = (a0.add (k * 4)).block) := by omega
          go_wp2_with (first | (go_at_call 51; refine (wcCovers_b e0 page true _ OK.out.1 hp0 (by omega) HCV.out).mono ?_; rintro e w4 ⟨rfl, hb4⟩; have S4 := Lib.hid (S3.out.below hb4); have r2 := bC hb4 q2; have r3 := bC hb4 q3; clear hb4 q0 q1 q2 q3))
          clear p2_0 p2_1 p2_2 p2_3
          have sT0 := S4.out
          have sT1 := sT0.tail
          have sT2 := sT1.tail
          obtain ⟨p2_0, p2_1, p2_2, p2_3⟩ := sT2.c4
          have sT3 := sT2.tail
          clear sT0 sT1 sT2 sT3
          go_region_held3 (fun w' => w'.cell? ⟨w.heap.size, 0, none⟩ = some (.slice A0 m.ws.length c0) ∧ w'.cell? ⟨w.heap.size, 1, none⟩ = some (.slice A1 m.pend.length c1) ∧ w'.cell? ⟨w.heap.size, 2, none⟩ = some (.slice A2 m.tlb.length c2) ∧ w'.cell? ⟨w.heap.size, 3, none⟩ = some (.slice (some a0) m.wc.length c3) ∧ w'.cell? ⟨(a0.add (k * 4)).block, (a0.add (k * 4)).off + 2, none⟩ = some (.int .i64 e0.Table) ∧ w'.cell? ⟨(a0.add (k * 4)).block, (a0.add (k * 4)).off + 3, none⟩ = some (.bool e0.Doomed)) (first | go_keep | (with_reducible exact ⟨z0, z1, z2, z3, z4, z5⟩) | (with_reducible exact ⟨far4 z0 m0 _ _ _ _, far4 z1 m0 _ _ _ _, far4 z2 m0 _ _ _ _, far4 z3 m0 _ _ _ _, far4 z4 n1 _ _ _ _, far4 z5 n1 _ _ _ _⟩) | (with_reducible exact ⟨far4 (far4 z0 m0 _ _ _ _) m1 _ _ _ _, far4 (far4 z1 m0 _ _ _ _) m1 _ _ _ _, far4 (far4 z2 m0 _ _ _ _) m1 _ _ _ _, far4 (far4 z3 m0 _ _ _ _) m1 _ _ _ _, far4 (far4 z4 n1 _ _ _ _) n2 _ _ _ _, far4 (far4 z5 n1 _ _ _ _) n2 _ _ _ _⟩))
            (first | (go_at_call 52; refine (go_any page choice L e0.Table e0.Doomed HP.out HC.out base _ _ _ _ m _ (by omega) (O.out.below S4.out.b.drew) (Nat.le_trans hbase S4.out.b.size) ⟨OK.out.2.2.2.1, OK.out.2.2.2.2⟩ HM.out r HG.out).mono ?_; rintro e w5 ⟨u0, u1, u2, u3, rfl, o5, hb5⟩; obtain ⟨B0, d0, B1, d1, B2, d2, B3, d3, rfl, rfl, rfl, rfl⟩ := o5.shape; have O5 := Lib.hid o5; have S8 := Lib.hid (S4.out.drew.below hb5); clear o5; have z0 := bC hb5 p2_0; have z1 := bC hb5 p2_1; have z2 := bC hb5 p2_2; have z3 := bC hb5 p2_3; have z4 := bC hb5 r2; have z5 := bC hb5 r3; clear hb5; have sT0 := S8.out; obtain ⟨y0_0, y0_1, y0_2, y0_3⟩ := sT0.c4; have yF0_0 := sT0.f 0; have yF0_1 := sT0.f 1; have yF0_2 := sT0.f 2; have yF0_3 := sT0.f 3; have sT1 := sT0.tail; obtain ⟨y1_0, y1_1, y1_2, y1_3⟩ := sT1.c4; have yF1_0 := sT1.f 0; have yF1_1 := sT1.f 1; have yF1_2 := sT1.f 2; have yF1_3 := sT1.f 3; have sT2 := sT1.tail; clear sT0 sT1 sT2))
          go_wp2
          refine bodyPost_ret (v := .tuple #[.agg #[.slice B0 r.1.ws.length d0, .slice B1 r.1.pend.length d1, .slice B2 r.1.tlb.length d2, .slice B3 r.1.wc.length d3], .agg #[.int .i64 r.2.1, .int .i64 r.2.2.1, .int .i64 r.2.2.2.1, .int .i64 r.2.2.2.2]]) (by simp [results, Try.results31, go_sem, *]) rfl ?_
          have z := ret_boxes (l1 := []) S8.out O5.out (by decide) (by decide)
          exact ⟨_, _, _, _, rfl, (z _ _ _ _ _ _ _ _).1, (z _ _ _ _ _ _ _ _).2⟩
end Go.Proofs.Ythphfcheencbgaa.Mmu
