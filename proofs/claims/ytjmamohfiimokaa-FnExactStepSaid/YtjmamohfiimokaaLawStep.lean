/- The law FnExactStep. -/
import Derived.Test.YtjmamohfiimokaaLawG
import Derived.Test.YtjmamohfiimokaaImplStep
namespace Go.Proofs.Ytjmamohfiimokaa.Mmu
open Go.RowKit Go.Proofs.Ytjmamohfiimokaa.Base Go.Proofs.Ytjmamohfiimokaa.Kinds Go.Proofs.Ytjmamohfiimokaa.LawsMach
set_option linter.unusedVariables false
set_option linter.unusedSimpArgs false
theorem st_genO2 {w0 w : World} {l : List (Nat × Array Value × Nat)} {b1 b2 : Nat} {v0 v1 v2 v3 u0 u1 u2 u3 : Value} {m n : SM} (S : St w0 l w) (h : OwnM b1 w v0 v1 v2 v3 m) (h2 : OwnM b2 w u0 u1 u2 u3 n) {G : World → Prop} (k : ∀ w', St w0 l w' → OwnM b1 w' v0 v1 v2 v3 m → OwnM b2 w' u0 u1 u2 u3 n → G w') : G w := k w S h h2
theorem st_within {w0 w w1 : World} {l : List (Nat × Array Value × Nat)} {lo hi : Nat} (h : St w0 l w) (hw : Within lo hi w w1) (h0 : w0.heap.size ≤ lo) (hl : ∀ x ∈ l, x.1 < lo ∨ hi ≤ x.1) : St w0 l w1 :=
  ⟨h.b.trans ⟨hw.os, hw.tape, hw.output, hw.size, fun k hk => hw.block k (by have := h.b.size; omega) (Or.inl (by omega))⟩, fun x hx => (hw.block x.1 (h.lt x hx) (hl x hx)).trans (h.blk x hx), h.up, h.ord⟩
theorem inM_mono {a b : Nat} {v0 v1 v2 v3 : Value} (h : InM a v0 v1 v2 v3) (k : a ≤ b) : InM b v0 v1 v2 v3 := ⟨fun j e => Nat.lt_of_lt_of_le (h.ws j e) k, fun j e => Nat.lt_of_lt_of_le (h.pend j e) k, fun j e => Nat.lt_of_lt_of_le (h.tlb j e) k, fun j e => Nat.lt_of_lt_of_le (h.wc j e) k⟩
theorem markEnd_pos (m : SM) : ¬ markEnd 1 m < 0 := by unfold markEnd; omega
theorem keep8 {w wb : World} {a1 a2 a3 a4 b1 b2 b3 b4 : Addr} {u1 u2 u3 u4 t1 t2 t3 t4 : Value} (h : (w.cell? a1 = some u1 ∧ w.cell? a2 = some u2 ∧ w.cell? a3 = some u3 ∧ w.cell? a4 = some u4) ∧ (w.cell? b1 = some t1 ∧ w.cell? b2 = some t2 ∧ w.cell? b3 = some t3 ∧ w.cell? b4 = some t4)) (hb : Below w.heap.size w wb) :
    ((wb.cell? a1 = some u1 ∧ wb.cell? a2 = some u2 ∧ wb.cell? a3 = some u3 ∧ wb.cell? a4 = some u4) ∧ (wb.cell? b1 = some t1 ∧ wb.cell? b2 = some t2 ∧ wb.cell? b3 = some t3 ∧ wb.cell? b4 = some t4)) ∧ Below w.heap.size w wb :=
  ⟨⟨⟨bC hb h.1.1, bC hb h.1.2.1, bC hb h.1.2.2.1, bC hb h.1.2.2.2⟩, bC hb h.2.1, bC hb h.2.2.1, bC hb h.2.2.2.1, bC hb h.2.2.2.2⟩, hb⟩
theorem wpAnyF_two {P : Program} {md : Region.Mode} {ops : Array Oper} {Q : Exit → Act → World → Prop} {S : World → Prop} {last : Nat} {i j : Nat} {oi oj : Oper} {fuel : Nat} {listed : Array Bool} {a : Act} {w : World} (hr : Region.ready md ops listed = [i, j]) (hoi : ops[i]? = some oi) (hoj : ops[j]? = some oj) (hwi : Region.wanted oi (yielded ops a.tmps) = true) (hwj : Region.wanted oj (yielded ops a.tmps) = true)
    (h1 : ∀ K : Act → World → Prop, (∀ a w, (i ≠ last → S w) → wpAnyF P md ops Q S last fuel (listed.setIfInBounds i true) a w → K a w) → Oper.wp P oi a w K Q)
    (h2 : ∀ K : Act → World → Prop, (∀ a w, (j ≠ last → S w) → wpAnyF P md ops Q S last fuel (listed.setIfInBounds j true) a w → K a w) → Oper.wp P oj a w K Q) : wpAnyF P md ops Q S last (fuel + 1) listed a w := by
  refine ⟨fun h0 => (by rw [hr] at h0; cases h0), fun k hk => ?_⟩
  rw [hr] at hk
  rcases List.mem_cons.1 hk with rfl | hk
  · unfold wpOp
    simp only [hoi, hwi, if_true]
    exact Or.inl (h1 _ fun a w hS hW => ⟨hS, hW⟩)
  · obtain rfl : k = j := by simpa using hk
    unfold wpOp
    simp only [hoj, hwj, if_true]
    exact Or.inl (h2 _ fun a w hS hW => ⟨hS, hW⟩)
theorem st_keepL {w0 w w1 : World} {l : List (Nat × Array Value × Nat)} {lo hi : Nat} (h : St w0 l w) (hw : Within lo hi w w1) (hk : KeepL w w1) (h0 : w0.heap.size ≤ lo) (hT : ∀ x ∈ l, ¬ inL x.2.2) : St w0 l w1 :=
  ⟨h.b.trans ⟨hw.os, hw.tape, hw.output, hw.size, fun k hk => hw.block k (by have := h.b.size; omega) (Or.inl (by omega))⟩, fun x hx => hk.block _ _ _ (h.blk x hx) (hT x hx), h.up, h.ord⟩
theorem stepAll_small {m : SM} {o : SOp} (hw : WfM m) (ho : o.ok) : bulk (stepAll m o).1 ≤ 1048576 := by
  unfold stepAll
  split
  · rename_i hv
    have h := (stepS_valid hv hw ho).1
    have := h.frames; have := h.npend; have := h.ntlb; have := h.nwc
    unfold bulk
    omega
  · simp [bulk]
theorem boxZ {W W' : World} {cs : Array Value} {T : Nat} (hb : Below (W.alloc (.cells cs T)).heap.size (W.alloc (.cells cs T)) W') : W'.heap[W.heap.size]? = some (.cells cs T) := (hb.block W.heap.size (by simp)).trans (heap_alloc_new W _)
theorem boxT {W W' : World} {cs : Array Value} {b T : Nat} (hb : Below W.heap.size W W') (hz : W.heap[b]? = some (.cells cs T)) : W'.heap[b]? = some (.cells cs T) := (hb.block b (Array.getElem?_eq_some_iff.1 hz).1).trans hz
theorem st_add {w0 w wx : World} {l : List (Nat × Array Value × Nat)} {b T : Nat} {cs : Array Value} (S : St w0 l w) (hb : Below w.heap.size w wx) (hz : wx.heap[b]? = some (.cells cs T)) (hle : w.heap.size ≤ b) : St w0 ((b, cs, T) :: l) wx := by
  refine ⟨S.b.trans (hb.mono S.b.size), ?_, ?_, List.pairwise_cons.2 ⟨fun y hy => Nat.lt_of_lt_of_le (S.lt y hy) hle, S.ord⟩⟩
  · intro x hx
    rcases List.mem_cons.1 hx with rfl | hx
    · exact hz
    · exact (S.below hb).blk x hx
  · intro x hx
    rcases List.mem_cons.1 hx with rfl | hx
    · exact Nat.le_trans S.b.size hle
    · exact S.up x hx
theorem zC4 {w : World} {z T : Nat} {a b c d : Value} (hz : w.heap[z]? = some (.cells #[a, b, c, d] T)) :
    w.cell? ⟨z, 0, none⟩ = some a ∧ w.cell? ⟨z, 1, none⟩ = some b ∧ w.cell? ⟨z, 2, none⟩ = some c ∧ w.cell? ⟨z, 3, none⟩ = some d ∧ w.frozen? ⟨z, 0, none⟩ = false ∧ w.frozen? ⟨z, 1, none⟩ = false ∧ w.frozen? ⟨z, 2, none⟩ = false ∧ w.frozen? ⟨z, 3, none⟩ = false := by
  simp [World.cell?, World.frozen?, hz]
set_option maxHeartbeats 4000000 in
theorem toOp_any (kd a bb wd : Int) (w : World) : Calls Try.prog 12 #[.agg #[.int .i64 kd, .int .i64 a, .int .i64 bb, .int .u64 wd]] w fun e w' => e = .returned (.agg #[.int .i64 kd, .int .i64 a, .int .i64 bb, .int .u64 wd]) ∧ Below w.heap.size w w' := by
  go_enter Try.func12, Try.ntmps12
  go_upto_region 2 with fail
  refine ((St.start w).push3 _ _ _ _ _ _).gen (fun w1 S1' _ => ?_)
  have S1 := Lib.hid S1'
  clear S1'
  have sT0 := S1.out
  obtain ⟨p0_0, p0_1, p0_2, p0_3⟩ := sT0.c4
  have pF0_0 := sT0.f 0
  have pF0_1 := sT0.f 1
  have pF0_2 := sT0.f 2
  have pF0_3 := sT0.f 3
  have sT1 := sT0.tail
  obtain ⟨p1_0, p1_1, p1_2, p1_3⟩ := sT1.c4
  have pF1_0 := sT1.f 0
  have pF1_1 := sT1.f 1
  have pF1_2 := sT1.f 2
  have pF1_3 := sT1.f 3
  have sT2 := sT1.tail
  obtain ⟨p2_0, p2_1, p2_2, p2_3⟩ := sT2.c4
  have sT3 := sT2.tail
  clear sT0 sT1 sT2 sT3
  go_wp2
  refine bodyPost_ret (v := .agg #[.int .i64 kd, .int .i64 a, .int .i64 bb, .int .u64 wd]) (by simp [results, Try.results12, go_sem, *]) rfl ⟨rfl, ?_⟩
  exact (((S1.out.s0 (.int .i64 kd) (.int .i64 a) (.int .i64 bb) (.int .u64 wd)).s1 _ _ _ _)).b

set_option maxRecDepth 100000 in
set_option maxHeartbeats 16000000 in
theorem lawStep (v0 v1 v2 v3 : Value) (m : SM) (kd a bb wd : Int) (w : World) (r : RdM w v0 v1 v2 v3 m) (hwf : WfM m) (hwd : 0 ≤ wd ∧ wd < 18446744073709551616) :
    Calls Try.prog 3 #[.agg #[v0, v1, v2, v3], .agg #[.int .i64 kd, .int .i64 a, .int .i64 bb, .int .u64 wd]] w fun e w' => e = .returned (.bool true) ∧ Below w.heap.size w w' := by
  obtain ⟨A0, c0, A1, c1, A2, c2, A3, c3, rfl, rfl, rfl, rfl, hl0, hk0, hl1, hk1, hl2, hk2, hl3, hk3⟩ := r.shape
  have R := Lib.hid r
  have HWF := Lib.hid hwf
  have HOK : Hid (SOp.ok ⟨kd, a, bb, wd⟩) := Lib.hid hwd
  clear r
  by_cases hl : bulk m ≤ 1048576
  rotate_left
  · go_enter Try.func3, Try.ntmps3
    go_upto_region 1 with fail
    refine ((St.start w).push2 _ _ _ _).gen (fun w1 S1' _ => ?_)
    have S1 := Lib.hid S1'
    clear S1'
    have sT0 := S1.out
    have sT1 := sT0.tail
    obtain ⟨p1_0, p1_1, p1_2, p1_3⟩ := sT1.c4
    have sT2 := sT1.tail
    clear sT0 sT1 sT2
    go_wp2_with (first | (go_at_call 9; refine (sz_bad m _ (R.out.below S1.out.b) hl).mono ?_; rintro e w1 ⟨x, hx3, rfl, hb1⟩; have HB1 := Lib.hid (thenB S1.out.b hb1)))
    go_ret
    exact ⟨rfl, HB1.out⟩
  obtain ⟨n, z, hnz⟩ : ∃ n z, stepAll m ⟨kd, a, bb, wd⟩ = (n, z) := ⟨_, _, rfl⟩
  have hn : bulk n ≤ 1048576 := by have h := stepAll_small (o := ⟨kd, a, bb, wd⟩) hwf hwd; rw [hnz] at h; exact h
  clear hwf hwd
  have HN := Lib.hid hnz
  have hme := markEnd_pos m
  have hmn := markEnd_pos n
  have hzz : (z != z) = false := by simp
  clear hnz
  go_enter Try.func3, Try.ntmps3
  go_upto_region 1 with fail
  refine ((St.start w).push2 _ _ _ _).gen (fun w1 S1' _ => ?_)
  have S1 := Lib.hid S1'
  have z1 : w.heap.size + 1 < w1.heap.size := S1'.lt _ (List.mem_cons_self ..)
  clear S1'
  have sT0 := S1.out
  obtain ⟨p0_0, p0_1, p0_2, p0_3⟩ := sT0.c4
  have sT1 := sT0.tail
  obtain ⟨p1_0, p1_1, p1_2, p1_3⟩ := sT1.c4
  have sT2 := sT1.tail
  clear sT0 sT1 sT2
  go_upto_region 5 with (first | (go_at_call 9; refine (sz_good m _ (R.out.below S1.out.b) hl).mono ?_; rintro e w2 ⟨x, hx3, rfl, hb2⟩; have S2 := Lib.hid (S1.out.below hb2); have z2 := hb2.size; clear hb2))
  have hx4 : decide (x < 0) = false := decide_eq_false (by omega)
  clear p0_0 p0_1 p0_2 p0_3 p1_0 p1_1 p1_2 p1_3
  have sT0 := S2.out
  obtain ⟨p0_0, p0_1, p0_2, p0_3⟩ := sT0.c4
  have sT1 := sT0.tail
  obtain ⟨p1_0, p1_1, p1_2, p1_3⟩ := sT1.c4
  have sT2 := sT1.tail
  clear sT0 sT1 sT2
  go_cut [6, 7] from 16 to 28 (fun xx yy wx => ∃ b Y0 yy0 Y1 yy1 Y2 yy2 Y3 yy3, xx = .pointer (some ⟨b, 0, none⟩) ∧ yy = .int .i64 z ∧ St w ((b, #[.slice Y0 n.ws.length yy0, .slice Y1 n.pend.length yy1, .slice Y2 n.tlb.length yy2, .slice Y3 n.wc.length yy3], 39) :: (w.heap.size + 1, #[.int .i64 kd, .int .i64 a, .int .i64 bb, .int .u64 wd], 32) :: (w.heap.size, #[.slice A0 m.ws.length c0, .slice A1 m.pend.length c1, .slice A2 m.tlb.length c2, .slice A3 m.wc.length c3], 29) :: []) wx ∧ OwnM w2.heap.size wx (.slice Y0 n.ws.length yy0) (.slice Y1 n.pend.length yy1) (.slice Y2 n.tlb.length yy2) (.slice Y3 n.wc.length yy3) n ∧ Below w2.heap.size w2 wx)
  case first =>
    refine wp_region_F (fun w' => ((w'.cell? ⟨w.heap.size, 0, none⟩ = some (.slice A0 m.ws.length c0) ∧ w'.cell? ⟨w.heap.size, 1, none⟩ = some (.slice A1 m.pend.length c1) ∧ w'.cell? ⟨w.heap.size, 2, none⟩ = some (.slice A2 m.tlb.length c2) ∧ w'.cell? ⟨w.heap.size, 3, none⟩ = some (.slice A3 m.wc.length c3)) ∧ (w'.cell? ⟨w.heap.size + 1, 0, none⟩ = some (.int .i64 kd) ∧ w'.cell? ⟨w.heap.size + 1, 1, none⟩ = some (.int .i64 a) ∧ w'.cell? ⟨w.heap.size + 1, 2, none⟩ = some (.int .i64 bb) ∧ w'.cell? ⟨w.heap.size + 1, 3, none⟩ = some (.int .u64 wd))) ∧ Below w2.heap.size w2 w') 10 (by kernel_rfl) (keep8 ⟨⟨p1_0, p1_1, p1_2, p1_3⟩, p0_0, p0_1, p0_2, p0_3⟩ (below_drewN (Below.refl _ _) 1)) (fun hS => ?_)
    have hB : Below w2.heap.size w2 w2.drew := below_drewN (Below.refl _ _) 1
    refine wpAnyF_take (i := 0) (v := ?_) 22 rfl rfl (by kernel_rfl) (by kernel_rfl) (by kernel_rfl) (by kernel_rfl) (fun _ _ _ h => h) (Or.inl ⟨by rfl, fun w' hSw => ?_⟩) hS ?_
    rotate_left
    · (try dsimp only at hSw); go_simp; (try with_reducible rfl)
    try simp only [Act.put, List.setIfInBounds_toArray, List.set_cons_zero, List.set_cons_succ]
    refine wpAnyF_take (i := 2) (v := ?_) 24 rfl rfl (by kernel_rfl) (by kernel_rfl) (by kernel_rfl) (by kernel_rfl) (fun _ _ _ h => h) (Or.inl ⟨by rfl, fun w' hSw => ?_⟩) hS ?_
    rotate_left
    · (try dsimp only at hSw); go_simp; (try with_reducible rfl)
    try simp only [Act.put, List.setIfInBounds_toArray, List.set_cons_zero, List.set_cons_succ]
    refine wpAnyF_two (i := 1) (j := 8) (by kernel_rfl) rfl rfl (by rfl) (by rfl) (fun K hK => ?_) (fun K hK => ?_)
    · go_simp
      go_at_call 11
      refine (to_any _ _ _ _ m _ (R.out.below (thenB S2.out.b hB)) hl).mono ?_
      rintro e wM ⟨u0, u1, u2, u3, rfl, oM, hb⟩
      obtain ⟨B0, d0, B1, d1, B2, d2, B3, d3, rfl, rfl, rfl, rfl⟩ := oM.shape
      have hB := thenB hB hb
      refine hK _ _ (fun _ => keep8 ⟨⟨p1_0, p1_1, p1_2, p1_3⟩, p0_0, p0_1, p0_2, p0_3⟩ hB) ?_
      clear hK K
      try simp only [Act.put, List.setIfInBounds_toArray, List.set_cons_zero, List.set_cons_succ]
      refine wpAnyF_two (i := 3) (j := 8) (by kernel_rfl) rfl rfl (by rfl) (by rfl) (fun K hK => ?_) (fun K hK => ?_)
      · go_simp
        go_at_call 12
        refine (toOp_any kd a bb wd _).mono ?_
        rintro e wO ⟨rfl, hb⟩
        have hB := thenB hB hb
        have oM := oM.below hb
        refine hK _ _ (fun _ => keep8 ⟨⟨p1_0, p1_1, p1_2, p1_3⟩, p0_0, p0_1, p0_2, p0_3⟩ hB) ?_
        clear hK K
        try simp only [Act.put, List.setIfInBounds_toArray, List.set_cons_zero, List.set_cons_succ]
        refine wpAnyF_two (i := 4) (j := 8) (by kernel_rfl) rfl rfl (by rfl) (by rfl) (fun K hK => ?_) (fun K hK => ?_)
        · go_simp
          go_at_call 10
          refine (specStep_any _ _ _ _ m ⟨kd, a, bb, wd⟩ _ oM.rd HWF.out HOK.out).mono ?_
          rw [HN.out]
          rintro e wS ⟨r0, r1, r2, r3, rfl, oS, hb⟩
          obtain ⟨R0, e0, R1, e1, R2, e2, R3, e3, rfl, rfl, rfl, rfl⟩ := oS.shape
          have hoS : w2.heap.size ≤ _ := hB.size
          have hB := thenB hB hb
          refine hK _ _ (fun _ => keep8 ⟨⟨p1_0, p1_1, p1_2, p1_3⟩, p0_0, p0_1, p0_2, p0_3⟩ hB) ?_
          clear hK K
          try simp only [Act.put, List.setIfInBounds_toArray, List.set_cons_zero, List.set_cons_succ]
          have hS := keep8 ⟨⟨p1_0, p1_1, p1_2, p1_3⟩, p0_0, p0_1, p0_2, p0_3⟩ hB
          refine wpAnyF_take (i := 5) (v := ?_) 21 rfl rfl (by kernel_rfl) (by kernel_rfl) (by kernel_rfl) (by kernel_rfl) (fun _ _ _ h => h) (Or.inl ⟨by rfl, fun w' hSw => ?_⟩) hS ?_
          rotate_left
          · (try dsimp only at hSw); go_simp; (try with_reducible rfl)
          try simp only [Act.put, List.setIfInBounds_toArray, List.set_cons_zero, List.set_cons_succ]
          refine wpAnyF_take (i := 6) (v := ?_) 27 rfl rfl (by kernel_rfl) (by kernel_rfl) (by kernel_rfl) (by kernel_rfl) (fun _ _ _ h => h) (Or.inl ⟨by rfl, fun w' hSw => ?_⟩) hS ?_
          rotate_left
          · (try dsimp only at hSw); go_simp; (try with_reducible rfl)
          try simp only [Act.put, List.setIfInBounds_toArray, List.set_cons_zero, List.set_cons_succ]
          refine wpAnyF_take (i := 7) (v := ?_) 28 rfl rfl (by kernel_rfl) (by kernel_rfl) (by kernel_rfl) (by kernel_rfl) (fun _ _ _ h => h) (Or.inl ⟨by rfl, fun w' hSw => ?_⟩) hS ?_
          rotate_left
          · (try dsimp only at hSw); go_simp; (try with_reducible rfl)
          try simp only [Act.put, List.setIfInBounds_toArray, List.set_cons_zero, List.set_cons_succ]
          refine wpAnyF_one (i := 8) (by kernel_rfl) rfl (by rfl) (fun K hK => ?_)
          go_simp
          have hbx : w2.heap.size ≤ wS.heap.size := hB.size
          have hB0 := hB
          have hzb : (wS.alloc (.cells #[.slice none 0 0, .slice none 0 0, .slice none 0 0, .slice none 0 0] 39)).heap[wS.heap.size]? = some (.cells #[.slice none 0 0, .slice none 0 0, .slice none 0 0, .slice none 0 0] 39) := heap_alloc_new _ _
          have hB := allocB hB (.cells #[.slice none 0 0, .slice none 0 0, .slice none 0 0, .slice none 0 0] 39)
          have oM := oM.below (allocB (Below.refl _ _) (.cells #[.slice none 0 0, .slice none 0 0, .slice none 0 0, .slice none 0 0] 39))
          refine hK _ _ (fun _ => keep8 ⟨⟨p1_0, p1_1, p1_2, p1_3⟩, p0_0, p0_1, p0_2, p0_3⟩ hB) ?_
          clear hK K
          try simp only [Act.put, List.setIfInBounds_toArray, List.set_cons_zero, List.set_cons_succ]
          obtain ⟨y0, y1, y2, y3, y4, y5, y6, y7⟩ := zC4 hzb
          refine wpAnyF_one (i := 9) (by kernel_rfl) rfl (by rfl) (fun K hK => ?_)
          go_simp
          have hBs := allocB hB0 (.cells #[.slice R0 n.ws.length e0, .slice R1 n.pend.length e1, .slice R2 n.tlb.length e2, .slice R3 n.wc.length e3] 39)
          refine hK _ _ (fun _ => keep8 ⟨⟨p1_0, p1_1, p1_2, p1_3⟩, p0_0, p0_1, p0_2, p0_3⟩ hBs) ?_
          clear hK K
          try simp only [Act.put, List.setIfInBounds_toArray, List.set_cons_zero, List.set_cons_succ]
          refine wpAnyF_one (i := 10) (by kernel_rfl) rfl (by rfl) (fun K hK => ?_)
          go_simp
          refine hK _ _ (fun h => absurd rfl h) ?_
          clear hK K
          try simp only [Act.put, List.setIfInBounds_toArray, List.set_cons_zero, List.set_cons_succ]
          refine wpAnyF_done (by kernel_rfl) ?_ _
          refine NoPanic.normal ?_
          go_wp2
          go_meet
          case rel => exact ⟨_, R0, e0, R1, e1, R2, e2, R3, e3, rfl, rfl, st_add S2.out hBs (heap_alloc_new _ _) hbx, (oS.lower hoS).below (allocB (Below.refl _ _) _), hBs⟩
        · go_simp
          have hbx : w2.heap.size ≤ wO.heap.size := hB.size
          have hB0 := hB
          have hzb : (wO.alloc (.cells #[.slice none 0 0, .slice none 0 0, .slice none 0 0, .slice none 0 0] 39)).heap[wO.heap.size]? = some (.cells #[.slice none 0 0, .slice none 0 0, .slice none 0 0, .slice none 0 0] 39) := heap_alloc_new _ _
          have hB := allocB hB (.cells #[.slice none 0 0, .slice none 0 0, .slice none 0 0, .slice none 0 0] 39)
          have oM := oM.below (allocB (Below.refl _ _) (.cells #[.slice none 0 0, .slice none 0 0, .slice none 0 0, .slice none 0 0] 39))
          refine hK _ _ (fun _ => keep8 ⟨⟨p1_0, p1_1, p1_2, p1_3⟩, p0_0, p0_1, p0_2, p0_3⟩ hB) ?_
          clear hK K
          try simp only [Act.put, List.setIfInBounds_toArray, List.set_cons_zero, List.set_cons_succ]
          refine wpAnyF_one (i := 4) (by kernel_rfl) rfl (by rfl) (fun K hK => ?_)
          go_simp
          go_at_call 10
          refine (specStep_any _ _ _ _ m ⟨kd, a, bb, wd⟩ _ oM.rd HWF.out HOK.out).mono ?_
          rw [HN.out]
          rintro e wS ⟨r0, r1, r2, r3, rfl, oS, hb⟩
          obtain ⟨R0, e0, R1, e1, R2, e2, R3, e3, rfl, rfl, rfl, rfl⟩ := oS.shape
          have hoS : w2.heap.size ≤ _ := hB.size
          have hzb := boxT hb hzb
          have hB := thenB hB hb
          refine hK _ _ (fun _ => keep8 ⟨⟨p1_0, p1_1, p1_2, p1_3⟩, p0_0, p0_1, p0_2, p0_3⟩ hB) ?_
          clear hK K
          try simp only [Act.put, List.setIfInBounds_toArray, List.set_cons_zero, List.set_cons_succ]
          have hS := keep8 ⟨⟨p1_0, p1_1, p1_2, p1_3⟩, p0_0, p0_1, p0_2, p0_3⟩ hB
          refine wpAnyF_take (i := 5) (v := ?_) 21 rfl rfl (by kernel_rfl) (by kernel_rfl) (by kernel_rfl) (by kernel_rfl) (fun _ _ _ h => h) (Or.inl ⟨by rfl, fun w' hSw => ?_⟩) hS ?_
          rotate_left
          · (try dsimp only at hSw); go_simp; (try with_reducible rfl)
          try simp only [Act.put, List.setIfInBounds_toArray, List.set_cons_zero, List.set_cons_succ]
          refine wpAnyF_take (i := 6) (v := ?_) 27 rfl rfl (by kernel_rfl) (by kernel_rfl) (by kernel_rfl) (by kernel_rfl) (fun _ _ _ h => h) (Or.inl ⟨by rfl, fun w' hSw => ?_⟩) hS ?_
          rotate_left
          · (try dsimp only at hSw); go_simp; (try with_reducible rfl)
          try simp only [Act.put, List.setIfInBounds_toArray, List.set_cons_zero, List.set_cons_succ]
          refine wpAnyF_take (i := 7) (v := ?_) 28 rfl rfl (by kernel_rfl) (by kernel_rfl) (by kernel_rfl) (by kernel_rfl) (fun _ _ _ h => h) (Or.inl ⟨by rfl, fun w' hSw => ?_⟩) hS ?_
          rotate_left
          · (try dsimp only at hSw); go_simp; (try with_reducible rfl)
          try simp only [Act.put, List.setIfInBounds_toArray, List.set_cons_zero, List.set_cons_succ]
          obtain ⟨y0, y1, y2, y3, y4, y5, y6, y7⟩ := zC4 hzb
          refine wpAnyF_one (i := 9) (by kernel_rfl) rfl (by rfl) (fun K hK => ?_)
          go_simp
          have hBs := (((hB.setCell (p := ⟨_, 0, none⟩) hbx (.slice R0 n.ws.length e0)).setCell (p := ⟨_, 1, none⟩) hbx (.slice R1 n.pend.length e1)).setCell (p := ⟨_, 2, none⟩) hbx (.slice R2 n.tlb.length e2)).setCell (p := ⟨_, 3, none⟩) hbx (.slice R3 n.wc.length e3)
          refine hK _ _ (fun _ => keep8 ⟨⟨p1_0, p1_1, p1_2, p1_3⟩, p0_0, p0_1, p0_2, p0_3⟩ hBs) ?_
          clear hK K
          try simp only [Act.put, List.setIfInBounds_toArray, List.set_cons_zero, List.set_cons_succ]
          refine wpAnyF_one (i := 10) (by kernel_rfl) rfl (by rfl) (fun K hK => ?_)
          go_simp
          refine hK _ _ (fun h => absurd rfl h) ?_
          clear hK K
          try simp only [Act.put, List.setIfInBounds_toArray, List.set_cons_zero, List.set_cons_succ]
          refine wpAnyF_done (by kernel_rfl) ?_ _
          refine NoPanic.normal ?_
          go_wp2
          go_meet
          case rel => exact ⟨_, R0, e0, R1, e1, R2, e2, R3, e3, rfl, rfl, st_add S2.out hBs (st_set (st_set (st_set (st_set hzb 0 _) 1 _) 2 _) 3 _) hbx, (oS.lower hoS).set4 hzb (by decide) _ _ _ _, hBs⟩
      · go_simp
        have hbx : w2.heap.size ≤ wM.heap.size := hB.size
        have hB0 := hB
        have hzb : (wM.alloc (.cells #[.slice none 0 0, .slice none 0 0, .slice none 0 0, .slice none 0 0] 39)).heap[wM.heap.size]? = some (.cells #[.slice none 0 0, .slice none 0 0, .slice none 0 0, .slice none 0 0] 39) := heap_alloc_new _ _
        have hB := allocB hB (.cells #[.slice none 0 0, .slice none 0 0, .slice none 0 0, .slice none 0 0] 39)
        have oM := oM.below (allocB (Below.refl _ _) (.cells #[.slice none 0 0, .slice none 0 0, .slice none 0 0, .slice none 0 0] 39))
        refine hK _ _ (fun _ => keep8 ⟨⟨p1_0, p1_1, p1_2, p1_3⟩, p0_0, p0_1, p0_2, p0_3⟩ hB) ?_
        clear hK K
        try simp only [Act.put, List.setIfInBounds_toArray, List.set_cons_zero, List.set_cons_succ]
        refine wpAnyF_one (i := 3) (by kernel_rfl) rfl (by rfl) (fun K hK => ?_)
        go_simp
        go_at_call 12
        refine (toOp_any kd a bb wd _).mono ?_
        rintro e wO ⟨rfl, hb⟩
        have hzb := boxT hb hzb
        have hB := thenB hB hb
        have oM := oM.below hb
        refine hK _ _ (fun _ => keep8 ⟨⟨p1_0, p1_1, p1_2, p1_3⟩, p0_0, p0_1, p0_2, p0_3⟩ hB) ?_
        clear hK K
        try simp only [Act.put, List.setIfInBounds_toArray, List.set_cons_zero, List.set_cons_succ]
        refine wpAnyF_one (i := 4) (by kernel_rfl) rfl (by rfl) (fun K hK => ?_)
        go_simp
        go_at_call 10
        refine (specStep_any _ _ _ _ m ⟨kd, a, bb, wd⟩ _ oM.rd HWF.out HOK.out).mono ?_
        rw [HN.out]
        rintro e wS ⟨r0, r1, r2, r3, rfl, oS, hb⟩
        obtain ⟨R0, e0, R1, e1, R2, e2, R3, e3, rfl, rfl, rfl, rfl⟩ := oS.shape
        have hoS : w2.heap.size ≤ _ := hB.size
        have hzb := boxT hb hzb
        have hB := thenB hB hb
        refine hK _ _ (fun _ => keep8 ⟨⟨p1_0, p1_1, p1_2, p1_3⟩, p0_0, p0_1, p0_2, p0_3⟩ hB) ?_
        clear hK K
        try simp only [Act.put, List.setIfInBounds_toArray, List.set_cons_zero, List.set_cons_succ]
        have hS := keep8 ⟨⟨p1_0, p1_1, p1_2, p1_3⟩, p0_0, p0_1, p0_2, p0_3⟩ hB
        refine wpAnyF_take (i := 5) (v := ?_) 21 rfl rfl (by kernel_rfl) (by kernel_rfl) (by kernel_rfl) (by kernel_rfl) (fun _ _ _ h => h) (Or.inl ⟨by rfl, fun w' hSw => ?_⟩) hS ?_
        rotate_left
        · (try dsimp only at hSw); go_simp; (try with_reducible rfl)
        try simp only [Act.put, List.setIfInBounds_toArray, List.set_cons_zero, List.set_cons_succ]
        refine wpAnyF_take (i := 6) (v := ?_) 27 rfl rfl (by kernel_rfl) (by kernel_rfl) (by kernel_rfl) (by kernel_rfl) (fun _ _ _ h => h) (Or.inl ⟨by rfl, fun w' hSw => ?_⟩) hS ?_
        rotate_left
        · (try dsimp only at hSw); go_simp; (try with_reducible rfl)
        try simp only [Act.put, List.setIfInBounds_toArray, List.set_cons_zero, List.set_cons_succ]
        refine wpAnyF_take (i := 7) (v := ?_) 28 rfl rfl (by kernel_rfl) (by kernel_rfl) (by kernel_rfl) (by kernel_rfl) (fun _ _ _ h => h) (Or.inl ⟨by rfl, fun w' hSw => ?_⟩) hS ?_
        rotate_left
        · (try dsimp only at hSw); go_simp; (try with_reducible rfl)
        try simp only [Act.put, List.setIfInBounds_toArray, List.set_cons_zero, List.set_cons_succ]
        obtain ⟨y0, y1, y2, y3, y4, y5, y6, y7⟩ := zC4 hzb
        refine wpAnyF_one (i := 9) (by kernel_rfl) rfl (by rfl) (fun K hK => ?_)
        go_simp
        have hBs := (((hB.setCell (p := ⟨_, 0, none⟩) hbx (.slice R0 n.ws.length e0)).setCell (p := ⟨_, 1, none⟩) hbx (.slice R1 n.pend.length e1)).setCell (p := ⟨_, 2, none⟩) hbx (.slice R2 n.tlb.length e2)).setCell (p := ⟨_, 3, none⟩) hbx (.slice R3 n.wc.length e3)
        refine hK _ _ (fun _ => keep8 ⟨⟨p1_0, p1_1, p1_2, p1_3⟩, p0_0, p0_1, p0_2, p0_3⟩ hBs) ?_
        clear hK K
        try simp only [Act.put, List.setIfInBounds_toArray, List.set_cons_zero, List.set_cons_succ]
        refine wpAnyF_one (i := 10) (by kernel_rfl) rfl (by rfl) (fun K hK => ?_)
        go_simp
        refine hK _ _ (fun h => absurd rfl h) ?_
        clear hK K
        try simp only [Act.put, List.setIfInBounds_toArray, List.set_cons_zero, List.set_cons_succ]
        refine wpAnyF_done (by kernel_rfl) ?_ _
        refine NoPanic.normal ?_
        go_wp2
        go_meet
        case rel => exact ⟨_, R0, e0, R1, e1, R2, e2, R3, e3, rfl, rfl, st_add S2.out hBs (st_set (st_set (st_set (st_set hzb 0 _) 1 _) 2 _) 3 _) hbx, (oS.lower hoS).set4 hzb (by decide) _ _ _ _, hBs⟩
    · go_simp
      have hbx : w2.heap.size ≤ w2.heap.size := hB.size
      have hB0 := hB
      have hzb : (w2.drew.alloc (.cells #[.slice none 0 0, .slice none 0 0, .slice none 0 0, .slice none 0 0] 39)).heap[w2.heap.size]? = some (.cells #[.slice none 0 0, .slice none 0 0, .slice none 0 0, .slice none 0 0] 39) := heap_alloc_new _ _
      have hB := allocB hB (.cells #[.slice none 0 0, .slice none 0 0, .slice none 0 0, .slice none 0 0] 39)
      refine hK _ _ (fun _ => keep8 ⟨⟨p1_0, p1_1, p1_2, p1_3⟩, p0_0, p0_1, p0_2, p0_3⟩ hB) ?_
      clear hK K
      try simp only [Act.put, List.setIfInBounds_toArray, List.set_cons_zero, List.set_cons_succ]
      refine wpAnyF_one (i := 1) (by kernel_rfl) rfl (by rfl) (fun K hK => ?_)
      go_simp
      go_at_call 11
      refine (to_any _ _ _ _ m _ (R.out.below (thenB S2.out.b hB)) hl).mono ?_
      rintro e wM ⟨u0, u1, u2, u3, rfl, oM, hb⟩
      obtain ⟨B0, d0, B1, d1, B2, d2, B3, d3, rfl, rfl, rfl, rfl⟩ := oM.shape
      have hzb := boxT hb hzb
      have hB := thenB hB hb
      refine hK _ _ (fun _ => keep8 ⟨⟨p1_0, p1_1, p1_2, p1_3⟩, p0_0, p0_1, p0_2, p0_3⟩ hB) ?_
      clear hK K
      try simp only [Act.put, List.setIfInBounds_toArray, List.set_cons_zero, List.set_cons_succ]
      refine wpAnyF_one (i := 3) (by kernel_rfl) rfl (by rfl) (fun K hK => ?_)
      go_simp
      go_at_call 12
      refine (toOp_any kd a bb wd _).mono ?_
      rintro e wO ⟨rfl, hb⟩
      have hzb := boxT hb hzb
      have hB := thenB hB hb
      have oM := oM.below hb
      refine hK _ _ (fun _ => keep8 ⟨⟨p1_0, p1_1, p1_2, p1_3⟩, p0_0, p0_1, p0_2, p0_3⟩ hB) ?_
      clear hK K
      try simp only [Act.put, List.setIfInBounds_toArray, List.set_cons_zero, List.set_cons_succ]
      refine wpAnyF_one (i := 4) (by kernel_rfl) rfl (by rfl) (fun K hK => ?_)
      go_simp
      go_at_call 10
      refine (specStep_any _ _ _ _ m ⟨kd, a, bb, wd⟩ _ oM.rd HWF.out HOK.out).mono ?_
      rw [HN.out]
      rintro e wS ⟨r0, r1, r2, r3, rfl, oS, hb⟩
      obtain ⟨R0, e0, R1, e1, R2, e2, R3, e3, rfl, rfl, rfl, rfl⟩ := oS.shape
      have hoS : w2.heap.size ≤ _ := hB.size
      have hzb := boxT hb hzb
      have hB := thenB hB hb
      refine hK _ _ (fun _ => keep8 ⟨⟨p1_0, p1_1, p1_2, p1_3⟩, p0_0, p0_1, p0_2, p0_3⟩ hB) ?_
      clear hK K
      try simp only [Act.put, List.setIfInBounds_toArray, List.set_cons_zero, List.set_cons_succ]
      have hS := keep8 ⟨⟨p1_0, p1_1, p1_2, p1_3⟩, p0_0, p0_1, p0_2, p0_3⟩ hB
      refine wpAnyF_take (i := 5) (v := ?_) 21 rfl rfl (by kernel_rfl) (by kernel_rfl) (by kernel_rfl) (by kernel_rfl) (fun _ _ _ h => h) (Or.inl ⟨by rfl, fun w' hSw => ?_⟩) hS ?_
      rotate_left
      · (try dsimp only at hSw); go_simp; (try with_reducible rfl)
      try simp only [Act.put, List.setIfInBounds_toArray, List.set_cons_zero, List.set_cons_succ]
      refine wpAnyF_take (i := 6) (v := ?_) 27 rfl rfl (by kernel_rfl) (by kernel_rfl) (by kernel_rfl) (by kernel_rfl) (fun _ _ _ h => h) (Or.inl ⟨by rfl, fun w' hSw => ?_⟩) hS ?_
      rotate_left
      · (try dsimp only at hSw); go_simp; (try with_reducible rfl)
      try simp only [Act.put, List.setIfInBounds_toArray, List.set_cons_zero, List.set_cons_succ]
      refine wpAnyF_take (i := 7) (v := ?_) 28 rfl rfl (by kernel_rfl) (by kernel_rfl) (by kernel_rfl) (by kernel_rfl) (fun _ _ _ h => h) (Or.inl ⟨by rfl, fun w' hSw => ?_⟩) hS ?_
      rotate_left
      · (try dsimp only at hSw); go_simp; (try with_reducible rfl)
      try simp only [Act.put, List.setIfInBounds_toArray, List.set_cons_zero, List.set_cons_succ]
      obtain ⟨y0, y1, y2, y3, y4, y5, y6, y7⟩ := zC4 hzb
      refine wpAnyF_one (i := 9) (by kernel_rfl) rfl (by rfl) (fun K hK => ?_)
      go_simp
      have hBs := (((hB.setCell (p := ⟨_, 0, none⟩) hbx (.slice R0 n.ws.length e0)).setCell (p := ⟨_, 1, none⟩) hbx (.slice R1 n.pend.length e1)).setCell (p := ⟨_, 2, none⟩) hbx (.slice R2 n.tlb.length e2)).setCell (p := ⟨_, 3, none⟩) hbx (.slice R3 n.wc.length e3)
      refine hK _ _ (fun _ => keep8 ⟨⟨p1_0, p1_1, p1_2, p1_3⟩, p0_0, p0_1, p0_2, p0_3⟩ hBs) ?_
      clear hK K
      try simp only [Act.put, List.setIfInBounds_toArray, List.set_cons_zero, List.set_cons_succ]
      refine wpAnyF_one (i := 10) (by kernel_rfl) rfl (by rfl) (fun K hK => ?_)
      go_simp
      refine hK _ _ (fun h => absurd rfl h) ?_
      clear hK K
      try simp only [Act.put, List.setIfInBounds_toArray, List.set_cons_zero, List.set_cons_succ]
      refine wpAnyF_done (by kernel_rfl) ?_ _
      refine NoPanic.normal ?_
      go_wp2
      go_meet
      case rel => exact ⟨_, R0, e0, R1, e1, R2, e2, R3, e3, rfl, rfl, st_add S2.out hBs (st_set (st_set (st_set (st_set hzb 0 _) 1 _) 2 _) 3 _) hbx, (oS.lower hoS).set4 hzb (by decide) _ _ _ _, hBs⟩
  case rest =>
    obtain ⟨b6, R0, e0, R1, e1, R2, e2, R3, e3, rfl, rfl, hs, ho, hb⟩ := hcut
    have S5 := Lib.hid hs
    have OA := Lib.hid ho
    have IA := Lib.hid ho.inM
    have z5 : w2.heap.size ≤ wc.heap.size := hb.size
    have zb6 : b6 < wc.heap.size := hs.lt _ (List.mem_cons_self ..)
    clear hs ho hb p1_0 p1_1 p1_2 p1_3 p0_0 p0_1 p0_2 p0_3 S2
    generalize wc = w5 at *
    have sT0 := S5.out
    have sT1 := sT0.tail
    have sT2 := sT1.tail
    obtain ⟨p2_0, p2_1, p2_2, p2_3⟩ := sT2.c4
    have sT3 := sT2.tail
    clear sT0 sT1 sT2 sT3
    go_wp2_with fail
    refine (to_any _ _ _ _ m _ (R.out.below S5.out.b) hl).mono ?_
    rintro e w6 ⟨x0, x1, x2, x3, rfl, o4, hb6⟩
    obtain ⟨X0, f0, X1, f1, X2, f2, X3, f3, rfl, rfl, rfl, rfl⟩ := o4.shape
    have O4 := Lib.hid o4
    have IX : Hid (InM w6.heap.size _ _ _ _) := Lib.hid o4.inM
    have S6 := Lib.hid (S5.out.below hb6)
    have OB := Lib.hid (OA.out.below hb6)
    have z6 := hb6.size
    clear o4 hb6 S5 OA
    clear p2_0 p2_1 p2_2 p2_3
    go_upto_region 7 with fail
    refine st_genO2 (S6.out.push _ _) (OB.out.below (allocB (Below.refl _ _) _)) (O4.out.below (allocB (Below.refl _ _) _)) (fun w7 S7' OB' OX' => ?_)
    have S7 := Lib.hid S7'
    have OW := Lib.hid OB'
    have OX := Lib.hid OX'
    have z7 : w6.heap.size < w7.heap.size := S7'.lt _ (List.mem_cons_self ..)
    clear S7' OB' OX' S6 O4 OB
    have sT0 := S7.out
    obtain ⟨p0_0, p0_1, p0_2, p0_3⟩ := sT0.c4
    have sT1 := sT0.tail
    have sT2 := sT1.tail
    obtain ⟨p2_0, p2_1, p2_2, p2_3⟩ := sT2.c4
    have sT3 := sT2.tail
    clear sT0 sT1 sT2 sT3
    go_cut [9, 10] from 16 to 37 (fun xx yy wx => ∃ b Y0 yy0 Y1 yy1 Y2 yy2 Y3 yy3, xx = .pointer (some ⟨b, 0, none⟩) ∧ yy = .int .i64 z ∧ St w ((b, #[.slice Y0 n.ws.length yy0, .slice Y1 n.pend.length yy1, .slice Y2 n.tlb.length yy2, .slice Y3 n.wc.length yy3], 39) :: (w6.heap.size, #[.slice X0 m.ws.length f0, .slice X1 m.pend.length f1, .slice X2 m.tlb.length f2, .slice X3 m.wc.length f3], 39) :: (b6, #[.slice R0 n.ws.length e0, .slice R1 n.pend.length e1, .slice R2 n.tlb.length e2, .slice R3 n.wc.length e3], 39) :: (w.heap.size + 1, #[.int .i64 kd, .int .i64 a, .int .i64 bb, .int .u64 wd], 32) :: (w.heap.size, #[.slice A0 m.ws.length c0, .slice A1 m.pend.length c1, .slice A2 m.tlb.length c2, .slice A3 m.wc.length c3], 29) :: []) wx ∧ OwnM w7.heap.size wx (.slice Y0 n.ws.length yy0) (.slice Y1 n.pend.length yy1) (.slice Y2 n.tlb.length yy2) (.slice Y3 n.wc.length yy3) n ∧ Below w7.heap.size w7 wx)
    case first =>
      refine wp_region_F (fun w' => ((w'.cell? ⟨w6.heap.size, 0, none⟩ = some (.slice X0 m.ws.length f0) ∧ w'.cell? ⟨w6.heap.size, 1, none⟩ = some (.slice X1 m.pend.length f1) ∧ w'.cell? ⟨w6.heap.size, 2, none⟩ = some (.slice X2 m.tlb.length f2) ∧ w'.cell? ⟨w6.heap.size, 3, none⟩ = some (.slice X3 m.wc.length f3)) ∧ (w'.cell? ⟨w.heap.size + 1, 0, none⟩ = some (.int .i64 kd) ∧ w'.cell? ⟨w.heap.size + 1, 1, none⟩ = some (.int .i64 a) ∧ w'.cell? ⟨w.heap.size + 1, 2, none⟩ = some (.int .i64 bb) ∧ w'.cell? ⟨w.heap.size + 1, 3, none⟩ = some (.int .u64 wd))) ∧ Below w7.heap.size w7 w') 9 (by kernel_rfl) (keep8 ⟨⟨p0_0, p0_1, p0_2, p0_3⟩, p2_0, p2_1, p2_2, p2_3⟩ (below_drewN (Below.refl _ _) 1)) (fun hS => ?_)
      have hB : Below w7.heap.size w7 w7.drew := below_drewN (Below.refl _ _) 1
      refine wpAnyF_take (i := 0) (v := ?_) 32 rfl rfl (by kernel_rfl) (by kernel_rfl) (by kernel_rfl) (by kernel_rfl) (fun _ _ _ h => h) (Or.inl ⟨by rfl, fun w' hSw => ?_⟩) hS ?_
      rotate_left
      · (try dsimp only at hSw); go_simp; (try with_reducible rfl)
      try simp only [Act.put, List.setIfInBounds_toArray, List.set_cons_zero, List.set_cons_succ]
      refine wpAnyF_take (i := 1) (v := ?_) 33 rfl rfl (by kernel_rfl) (by kernel_rfl) (by kernel_rfl) (by kernel_rfl) (fun _ _ _ h => h) (Or.inl ⟨by rfl, fun w' hSw => ?_⟩) hS ?_
      rotate_left
      · (try dsimp only at hSw); go_simp; (try with_reducible rfl)
      try simp only [Act.put, List.setIfInBounds_toArray, List.set_cons_zero, List.set_cons_succ]
      refine wpAnyF_two (i := 2) (j := 7) (by kernel_rfl) rfl rfl (by rfl) (by rfl) (fun K hK => ?_) (fun K hK => ?_)
      · go_simp
        go_at_call 12
        refine (toOp_any kd a bb wd _).mono ?_
        rintro e wO ⟨rfl, hb⟩
        have hB := thenB hB hb
        refine hK _ _ (fun _ => keep8 ⟨⟨p0_0, p0_1, p0_2, p0_3⟩, p2_0, p2_1, p2_2, p2_3⟩ hB) ?_
        clear hK K
        try simp only [Act.put, List.setIfInBounds_toArray, List.set_cons_zero, List.set_cons_succ]
        refine wpAnyF_two (i := 3) (j := 7) (by kernel_rfl) rfl rfl (by rfl) (by rfl) (fun K hK => ?_) (fun K hK => ?_)
        · go_simp
          go_at_call 13
          refine (implStep_any _ _ _ _ m ⟨kd, a, bb, wd⟩ _ (OX.out.below hB).rd HWF.out HOK.out).mono ?_
          rw [HN.out]
          rintro e wS ⟨r0, r1, r2, r3, rfl, oS, hb⟩
          obtain ⟨R0, e0, R1, e1, R2, e2, R3, e3, rfl, rfl, rfl, rfl⟩ := oS.shape
          have hoS : w7.heap.size ≤ _ := hB.size
          have hB := thenB hB hb
          refine hK _ _ (fun _ => keep8 ⟨⟨p0_0, p0_1, p0_2, p0_3⟩, p2_0, p2_1, p2_2, p2_3⟩ hB) ?_
          clear hK K
          try simp only [Act.put, List.setIfInBounds_toArray, List.set_cons_zero, List.set_cons_succ]
          have hS := keep8 ⟨⟨p0_0, p0_1, p0_2, p0_3⟩, p2_0, p2_1, p2_2, p2_3⟩ hB
          refine wpAnyF_take (i := 4) (v := ?_) 31 rfl rfl (by kernel_rfl) (by kernel_rfl) (by kernel_rfl) (by kernel_rfl) (fun _ _ _ h => h) (Or.inl ⟨by rfl, fun w' hSw => ?_⟩) hS ?_
          rotate_left
          · (try dsimp only at hSw); go_simp; (try with_reducible rfl)
          try simp only [Act.put, List.setIfInBounds_toArray, List.set_cons_zero, List.set_cons_succ]
          refine wpAnyF_take (i := 5) (v := ?_) 36 rfl rfl (by kernel_rfl) (by kernel_rfl) (by kernel_rfl) (by kernel_rfl) (fun _ _ _ h => h) (Or.inl ⟨by rfl, fun w' hSw => ?_⟩) hS ?_
          rotate_left
          · (try dsimp only at hSw); go_simp; (try with_reducible rfl)
          try simp only [Act.put, List.setIfInBounds_toArray, List.set_cons_zero, List.set_cons_succ]
          refine wpAnyF_take (i := 6) (v := ?_) 37 rfl rfl (by kernel_rfl) (by kernel_rfl) (by kernel_rfl) (by kernel_rfl) (fun _ _ _ h => h) (Or.inl ⟨by rfl, fun w' hSw => ?_⟩) hS ?_
          rotate_left
          · (try dsimp only at hSw); go_simp; (try with_reducible rfl)
          try simp only [Act.put, List.setIfInBounds_toArray, List.set_cons_zero, List.set_cons_succ]
          refine wpAnyF_one (i := 7) (by kernel_rfl) rfl (by rfl) (fun K hK => ?_)
          go_simp
          have hbx : w7.heap.size ≤ wS.heap.size := hB.size
          have hB0 := hB
          have hzb : (wS.alloc (.cells #[.slice none 0 0, .slice none 0 0, .slice none 0 0, .slice none 0 0] 39)).heap[wS.heap.size]? = some (.cells #[.slice none 0 0, .slice none 0 0, .slice none 0 0, .slice none 0 0] 39) := heap_alloc_new _ _
          have hB := allocB hB (.cells #[.slice none 0 0, .slice none 0 0, .slice none 0 0, .slice none 0 0] 39)
          refine hK _ _ (fun _ => keep8 ⟨⟨p0_0, p0_1, p0_2, p0_3⟩, p2_0, p2_1, p2_2, p2_3⟩ hB) ?_
          clear hK K
          try simp only [Act.put, List.setIfInBounds_toArray, List.set_cons_zero, List.set_cons_succ]
          obtain ⟨y0, y1, y2, y3, y4, y5, y6, y7⟩ := zC4 hzb
          refine wpAnyF_one (i := 8) (by kernel_rfl) rfl (by rfl) (fun K hK => ?_)
          go_simp
          have hBs := allocB hB0 (.cells #[.slice R0 n.ws.length e0, .slice R1 n.pend.length e1, .slice R2 n.tlb.length e2, .slice R3 n.wc.length e3] 39)
          refine hK _ _ (fun _ => keep8 ⟨⟨p0_0, p0_1, p0_2, p0_3⟩, p2_0, p2_1, p2_2, p2_3⟩ hBs) ?_
          clear hK K
          try simp only [Act.put, List.setIfInBounds_toArray, List.set_cons_zero, List.set_cons_succ]
          refine wpAnyF_one (i := 9) (by kernel_rfl) rfl (by rfl) (fun K hK => ?_)
          go_simp
          refine hK _ _ (fun h => absurd rfl h) ?_
          clear hK K
          try simp only [Act.put, List.setIfInBounds_toArray, List.set_cons_zero, List.set_cons_succ]
          refine wpAnyF_done (by kernel_rfl) ?_ _
          refine NoPanic.normal ?_
          go_wp2
          go_meet
          case rel => exact ⟨_, R0, e0, R1, e1, R2, e2, R3, e3, rfl, rfl, st_add S7.out hBs (heap_alloc_new _ _) hbx, (oS.lower hoS).below (allocB (Below.refl _ _) _), hBs⟩
        · go_simp
          have hbx : w7.heap.size ≤ wO.heap.size := hB.size
          have hB0 := hB
          have hzb : (wO.alloc (.cells #[.slice none 0 0, .slice none 0 0, .slice none 0 0, .slice none 0 0] 39)).heap[wO.heap.size]? = some (.cells #[.slice none 0 0, .slice none 0 0, .slice none 0 0, .slice none 0 0] 39) := heap_alloc_new _ _
          have hB := allocB hB (.cells #[.slice none 0 0, .slice none 0 0, .slice none 0 0, .slice none 0 0] 39)
          refine hK _ _ (fun _ => keep8 ⟨⟨p0_0, p0_1, p0_2, p0_3⟩, p2_0, p2_1, p2_2, p2_3⟩ hB) ?_
          clear hK K
          try simp only [Act.put, List.setIfInBounds_toArray, List.set_cons_zero, List.set_cons_succ]
          refine wpAnyF_one (i := 3) (by kernel_rfl) rfl (by rfl) (fun K hK => ?_)
          go_simp
          go_at_call 13
          refine (implStep_any _ _ _ _ m ⟨kd, a, bb, wd⟩ _ (OX.out.below hB).rd HWF.out HOK.out).mono ?_
          rw [HN.out]
          rintro e wS ⟨r0, r1, r2, r3, rfl, oS, hb⟩
          obtain ⟨R0, e0, R1, e1, R2, e2, R3, e3, rfl, rfl, rfl, rfl⟩ := oS.shape
          have hoS : w7.heap.size ≤ _ := hB.size
          have hzb := boxT hb hzb
          have hB := thenB hB hb
          refine hK _ _ (fun _ => keep8 ⟨⟨p0_0, p0_1, p0_2, p0_3⟩, p2_0, p2_1, p2_2, p2_3⟩ hB) ?_
          clear hK K
          try simp only [Act.put, List.setIfInBounds_toArray, List.set_cons_zero, List.set_cons_succ]
          have hS := keep8 ⟨⟨p0_0, p0_1, p0_2, p0_3⟩, p2_0, p2_1, p2_2, p2_3⟩ hB
          refine wpAnyF_take (i := 4) (v := ?_) 31 rfl rfl (by kernel_rfl) (by kernel_rfl) (by kernel_rfl) (by kernel_rfl) (fun _ _ _ h => h) (Or.inl ⟨by rfl, fun w' hSw => ?_⟩) hS ?_
          rotate_left
          · (try dsimp only at hSw); go_simp; (try with_reducible rfl)
          try simp only [Act.put, List.setIfInBounds_toArray, List.set_cons_zero, List.set_cons_succ]
          refine wpAnyF_take (i := 5) (v := ?_) 36 rfl rfl (by kernel_rfl) (by kernel_rfl) (by kernel_rfl) (by kernel_rfl) (fun _ _ _ h => h) (Or.inl ⟨by rfl, fun w' hSw => ?_⟩) hS ?_
          rotate_left
          · (try dsimp only at hSw); go_simp; (try with_reducible rfl)
          try simp only [Act.put, List.setIfInBounds_toArray, List.set_cons_zero, List.set_cons_succ]
          refine wpAnyF_take (i := 6) (v := ?_) 37 rfl rfl (by kernel_rfl) (by kernel_rfl) (by kernel_rfl) (by kernel_rfl) (fun _ _ _ h => h) (Or.inl ⟨by rfl, fun w' hSw => ?_⟩) hS ?_
          rotate_left
          · (try dsimp only at hSw); go_simp; (try with_reducible rfl)
          try simp only [Act.put, List.setIfInBounds_toArray, List.set_cons_zero, List.set_cons_succ]
          obtain ⟨y0, y1, y2, y3, y4, y5, y6, y7⟩ := zC4 hzb
          refine wpAnyF_one (i := 8) (by kernel_rfl) rfl (by rfl) (fun K hK => ?_)
          go_simp
          have hBs := (((hB.setCell (p := ⟨_, 0, none⟩) hbx (.slice R0 n.ws.length e0)).setCell (p := ⟨_, 1, none⟩) hbx (.slice R1 n.pend.length e1)).setCell (p := ⟨_, 2, none⟩) hbx (.slice R2 n.tlb.length e2)).setCell (p := ⟨_, 3, none⟩) hbx (.slice R3 n.wc.length e3)
          refine hK _ _ (fun _ => keep8 ⟨⟨p0_0, p0_1, p0_2, p0_3⟩, p2_0, p2_1, p2_2, p2_3⟩ hBs) ?_
          clear hK K
          try simp only [Act.put, List.setIfInBounds_toArray, List.set_cons_zero, List.set_cons_succ]
          refine wpAnyF_one (i := 9) (by kernel_rfl) rfl (by rfl) (fun K hK => ?_)
          go_simp
          refine hK _ _ (fun h => absurd rfl h) ?_
          clear hK K
          try simp only [Act.put, List.setIfInBounds_toArray, List.set_cons_zero, List.set_cons_succ]
          refine wpAnyF_done (by kernel_rfl) ?_ _
          refine NoPanic.normal ?_
          go_wp2
          go_meet
          case rel => exact ⟨_, R0, e0, R1, e1, R2, e2, R3, e3, rfl, rfl, st_add S7.out hBs (st_set (st_set (st_set (st_set hzb 0 _) 1 _) 2 _) 3 _) hbx, (oS.lower hoS).set4 hzb (by decide) _ _ _ _, hBs⟩
      · go_simp
        have hbx : w7.heap.size ≤ w7.heap.size := hB.size
        have hB0 := hB
        have hzb : (w7.drew.alloc (.cells #[.slice none 0 0, .slice none 0 0, .slice none 0 0, .slice none 0 0] 39)).heap[w7.heap.size]? = some (.cells #[.slice none 0 0, .slice none 0 0, .slice none 0 0, .slice none 0 0] 39) := heap_alloc_new _ _
        have hB := allocB hB (.cells #[.slice none 0 0, .slice none 0 0, .slice none 0 0, .slice none 0 0] 39)
        refine hK _ _ (fun _ => keep8 ⟨⟨p0_0, p0_1, p0_2, p0_3⟩, p2_0, p2_1, p2_2, p2_3⟩ hB) ?_
        clear hK K
        try simp only [Act.put, List.setIfInBounds_toArray, List.set_cons_zero, List.set_cons_succ]
        refine wpAnyF_one (i := 2) (by kernel_rfl) rfl (by rfl) (fun K hK => ?_)
        go_simp
        go_at_call 12
        refine (toOp_any kd a bb wd _).mono ?_
        rintro e wO ⟨rfl, hb⟩
        have hzb := boxT hb hzb
        have hB := thenB hB hb
        refine hK _ _ (fun _ => keep8 ⟨⟨p0_0, p0_1, p0_2, p0_3⟩, p2_0, p2_1, p2_2, p2_3⟩ hB) ?_
        clear hK K
        try simp only [Act.put, List.setIfInBounds_toArray, List.set_cons_zero, List.set_cons_succ]
        refine wpAnyF_one (i := 3) (by kernel_rfl) rfl (by rfl) (fun K hK => ?_)
        go_simp
        go_at_call 13
        refine (implStep_any _ _ _ _ m ⟨kd, a, bb, wd⟩ _ (OX.out.below hB).rd HWF.out HOK.out).mono ?_
        rw [HN.out]
        rintro e wS ⟨r0, r1, r2, r3, rfl, oS, hb⟩
        obtain ⟨R0, e0, R1, e1, R2, e2, R3, e3, rfl, rfl, rfl, rfl⟩ := oS.shape
        have hoS : w7.heap.size ≤ _ := hB.size
        have hzb := boxT hb hzb
        have hB := thenB hB hb
        refine hK _ _ (fun _ => keep8 ⟨⟨p0_0, p0_1, p0_2, p0_3⟩, p2_0, p2_1, p2_2, p2_3⟩ hB) ?_
        clear hK K
        try simp only [Act.put, List.setIfInBounds_toArray, List.set_cons_zero, List.set_cons_succ]
        have hS := keep8 ⟨⟨p0_0, p0_1, p0_2, p0_3⟩, p2_0, p2_1, p2_2, p2_3⟩ hB
        refine wpAnyF_take (i := 4) (v := ?_) 31 rfl rfl (by kernel_rfl) (by kernel_rfl) (by kernel_rfl) (by kernel_rfl) (fun _ _ _ h => h) (Or.inl ⟨by rfl, fun w' hSw => ?_⟩) hS ?_
        rotate_left
        · (try dsimp only at hSw); go_simp; (try with_reducible rfl)
        try simp only [Act.put, List.setIfInBounds_toArray, List.set_cons_zero, List.set_cons_succ]
        refine wpAnyF_take (i := 5) (v := ?_) 36 rfl rfl (by kernel_rfl) (by kernel_rfl) (by kernel_rfl) (by kernel_rfl) (fun _ _ _ h => h) (Or.inl ⟨by rfl, fun w' hSw => ?_⟩) hS ?_
        rotate_left
        · (try dsimp only at hSw); go_simp; (try with_reducible rfl)
        try simp only [Act.put, List.setIfInBounds_toArray, List.set_cons_zero, List.set_cons_succ]
        refine wpAnyF_take (i := 6) (v := ?_) 37 rfl rfl (by kernel_rfl) (by kernel_rfl) (by kernel_rfl) (by kernel_rfl) (fun _ _ _ h => h) (Or.inl ⟨by rfl, fun w' hSw => ?_⟩) hS ?_
        rotate_left
        · (try dsimp only at hSw); go_simp; (try with_reducible rfl)
        try simp only [Act.put, List.setIfInBounds_toArray, List.set_cons_zero, List.set_cons_succ]
        obtain ⟨y0, y1, y2, y3, y4, y5, y6, y7⟩ := zC4 hzb
        refine wpAnyF_one (i := 8) (by kernel_rfl) rfl (by rfl) (fun K hK => ?_)
        go_simp
        have hBs := (((hB.setCell (p := ⟨_, 0, none⟩) hbx (.slice R0 n.ws.length e0)).setCell (p := ⟨_, 1, none⟩) hbx (.slice R1 n.pend.length e1)).setCell (p := ⟨_, 2, none⟩) hbx (.slice R2 n.tlb.length e2)).setCell (p := ⟨_, 3, none⟩) hbx (.slice R3 n.wc.length e3)
        refine hK _ _ (fun _ => keep8 ⟨⟨p0_0, p0_1, p0_2, p0_3⟩, p2_0, p2_1, p2_2, p2_3⟩ hBs) ?_
        clear hK K
        try simp only [Act.put, List.setIfInBounds_toArray, List.set_cons_zero, List.set_cons_succ]
        refine wpAnyF_one (i := 9) (by kernel_rfl) rfl (by rfl) (fun K hK => ?_)
        go_simp
        refine hK _ _ (fun h => absurd rfl h) ?_
        clear hK K
        try simp only [Act.put, List.setIfInBounds_toArray, List.set_cons_zero, List.set_cons_succ]
        refine wpAnyF_done (by kernel_rfl) ?_ _
        refine NoPanic.normal ?_
        go_wp2
        go_meet
        case rel => exact ⟨_, R0, e0, R1, e1, R2, e2, R3, e3, rfl, rfl, st_add S7.out hBs (st_set (st_set (st_set (st_set hzb 0 _) 1 _) 2 _) 3 _) hbx, (oS.lower hoS).set4 hzb (by decide) _ _ _ _, hBs⟩
    case rest =>
      obtain ⟨b9, G0, j0, G1, j1, G2, j2, G3, j3, rfl, rfl, hs, ho, hb⟩ := hcut
      have S9 := Lib.hid hs
      have OG9 := Lib.hid ho
      have IG := Lib.hid ho.inM
      have OW9 := Lib.hid (OW.out.below hb)
      have OX9 := Lib.hid (OX.out.below hb)
      have z9 : w7.heap.size ≤ wc.heap.size := hb.size
      clear hs ho hb S7 OW OX p0_0 p0_1 p0_2 p0_3 p2_0 p2_1 p2_2 p2_3
      generalize wc = w9 at *
      have sT0 := S9.out
      obtain ⟨p0_0, p0_1, p0_2, p0_3⟩ := sT0.c4
      have sT1 := sT0.tail
      have sT2 := sT1.tail
      obtain ⟨p2_0, p2_1, p2_2, p2_3⟩ := sT2.c4
      have sT3 := sT2.tail
      have sT4 := sT3.tail
      have sT5 := sT4.tail
      clear sT0 sT1 sT2 sT3 sT4 sT5
      go_wp2_with fail
      refine (eq_any _ _ _ _ _ _ _ _ n n _ OG9.out.rd OW9.out.rd).mono ?_
      rw [decide_eq_true rfl]
      rintro e w11 ⟨rfl, hb10⟩
      have S11 := Lib.hid (S9.out.below hb10)
      have OW11 := Lib.hid (OW9.out.below hb10)
      have OX11 := Lib.hid (OX9.out.below hb10)
      have OG11 := Lib.hid (OG9.out.below hb10)
      have z11 := hb10.size
      clear hb10 S9 OW9 OX9 OG9
      clear p0_0 p0_1 p0_2 p0_3 p2_0 p2_1 p2_2 p2_3
      have sT0 := S11.out
      have sT1 := sT0.tail
      obtain ⟨p1_0, p1_1, p1_2, p1_3⟩ := sT1.c4
      have sT2 := sT1.tail
      have sT3 := sT2.tail
      have sT4 := sT3.tail
      obtain ⟨p4_0, p4_1, p4_2, p4_3⟩ := sT4.c4
      have sT5 := sT4.tail
      clear sT0 sT1 sT2 sT3 sT4 sT5
      go_upto_region 10 with fail
      go_region_held3 (fun w' => (w'.cell? ⟨w.heap.size, 0, none⟩ = some (.slice A0 m.ws.length c0) ∧ w'.cell? ⟨w.heap.size, 1, none⟩ = some (.slice A1 m.pend.length c1) ∧ w'.cell? ⟨w.heap.size, 2, none⟩ = some (.slice A2 m.tlb.length c2) ∧ w'.cell? ⟨w.heap.size, 3, none⟩ = some (.slice A3 m.wc.length c3)) ∧ (w'.cell? ⟨w6.heap.size, 0, none⟩ = some (.slice X0 m.ws.length f0) ∧ w'.cell? ⟨w6.heap.size, 1, none⟩ = some (.slice X1 m.pend.length f1) ∧ w'.cell? ⟨w6.heap.size, 2, none⟩ = some (.slice X2 m.tlb.length f2) ∧ w'.cell? ⟨w6.heap.size, 3, none⟩ = some (.slice X3 m.wc.length f3)))
        (first
          | exact keepR ⟨⟨p4_0, p4_1, p4_2, p4_3⟩, p1_0, p1_1, p1_2, p1_3⟩ (below_drewN (Below.refl _ _) 1)
          | exact keepR (by assumption) hb13
          | exact keepR (by assumption) hb12)
        (first
          | (go_at_call 11; refine (to_any _ _ _ _ m _ (R.out.below (below_drewN S11.out.b 1)) hl).mono ?_; rintro e w12 ⟨t0, t1, t2, t3, rfl, o7, hb12⟩; obtain ⟨F0, k0, F1, k1, F2, k2, F3, k3, rfl, rfl, rfl, rfl⟩ := o7.shape)
          | (go_at_call 14; refine (eq_any _ _ _ _ _ _ _ _ m m _ ((OX11.out.below (below_drewN (Below.refl _ _) 1)).below hb12).rd o7.rd).mono ?_; rw [decide_eq_true rfl]; rintro e w13 ⟨rfl, hb13⟩))
      have h13 : Below w11.heap.size w11 w13 := thenB (thenB (below_drewN (Below.refl _ _) 1) hb12) hb13
      have S13 := Lib.hid (S11.out.below h13)
      have OW13 := Lib.hid (OW11.out.below h13)
      have OX13 := Lib.hid (OX11.out.below h13)
      have OG13 := Lib.hid (OG11.out.below h13)
      clear h13 hb12 hb13 o7 S11 OW11 OX11 OG11
      clear p1_0 p1_1 p1_2 p1_3 p4_0 p4_1 p4_2 p4_3
      go_upto_region 13 with fail
      have sT0 := S13.out
      have sT1 := sT0.tail
      obtain ⟨p1_0, p1_1, p1_2, p1_3⟩ := sT1.c4
      have sT2 := sT1.tail
      clear sT0 sT1 sT2
      go_wp2_with fail
      refine (markK_any w5.heap.size w6.heap.size _ _ _ _ m _ OX13.out IX.out hl).mono ?_
      rintro e w14 ⟨rfl, _, hw14, hk14⟩
      have S14 := Lib.hid (st_keepL S13.out hw14 hk14 (by omega) (by simp only [List.mem_cons, List.not_mem_nil, or_false, forall_eq_or_imp, forall_eq]; decide))
      have OW14 := Lib.hid (OW13.out.within_under hw14 IA.out)
      have OG14 := Lib.hid (OG13.out.within_above hw14 (by omega))
      clear hw14 hk14 S13 OW13 OX13 OG13
      have hme2 : decide (markEnd 1 m < 0) = false := decide_eq_false (by omega)
      clear p1_0 p1_1 p1_2 p1_3
      have sT0 := S14.out
      obtain ⟨p0_0, p0_1, p0_2, p0_3⟩ := sT0.c4
      have sT1 := sT0.tail
      have sT2 := sT1.tail
      obtain ⟨p2_0, p2_1, p2_2, p2_3⟩ := sT2.c4
      have sT3 := sT2.tail
      have sT4 := sT3.tail
      have sT5 := sT4.tail
      clear sT0 sT1 sT2 sT3 sT4 sT5
      go_wp2_with fail
      refine (eq_any _ _ _ _ _ _ _ _ n n _ OG14.out.rd OW14.out.rd).mono ?_
      rw [decide_eq_true rfl]
      rintro e w16 ⟨rfl, hb15⟩
      have S16 := Lib.hid (S14.out.below hb15)
      have OW16 := Lib.hid (OW14.out.below hb15)
      have OG16 := Lib.hid (OG14.out.below hb15)
      clear hb15 S14 OW14 OG14
      clear p0_0 p0_1 p0_2 p0_3 p2_0 p2_1 p2_2 p2_3
      go_upto_region 17 with fail
      have sT0 := S16.out
      obtain ⟨p0_0, p0_1, p0_2, p0_3⟩ := sT0.c4
      have sT1 := sT0.tail
      clear sT0 sT1
      go_wp2_with fail
      refine (markK_any w7.heap.size w9.heap.size _ _ _ _ n _ OG16.out IG.out hn).mono ?_
      rintro e w17 ⟨rfl, o17, hw17, hk17⟩
      have OM := Lib.hid o17
      have S17 := Lib.hid (st_keepL S16.out hw17 hk17 (by omega) (by simp only [List.mem_cons, List.not_mem_nil, or_false, forall_eq_or_imp, forall_eq]; decide))
      have OW17 := Lib.hid (OW16.out.within_under hw17 (inM_mono IA.out (by omega)))
      clear hw17 hk17 o17 S16 OW16 OG16
      have hmn2 : decide (markEnd 1 n < 0) = false := decide_eq_false (by omega)
      clear p0_0 p0_1 p0_2 p0_3
      have sT0 := S17.out
      obtain ⟨p0_0, p0_1, p0_2, p0_3⟩ := sT0.c4
      have sT1 := sT0.tail
      have sT2 := sT1.tail
      have sT3 := sT2.tail
      have sT4 := sT3.tail
      have sT5 := sT4.tail
      clear sT0 sT1 sT2 sT3 sT4 sT5
      go_wp2_with fail
      refine (held_any _ _ _ _ n _ OM.out.rd hn).mono ?_
      rintro e w18 ⟨rfl, hb18⟩
      have S18 := Lib.hid (S17.out.below hb18)
      have OM18 := Lib.hid (OM.out.below hb18)
      have OW18 := Lib.hid (OW17.out.below hb18)
      clear hb18 S17 OM OW17
      clear p0_0 p0_1 p0_2 p0_3
      go_upto_region 24 with fail
      have sT0 := S18.out
      have sT1 := sT0.tail
      have sT2 := sT1.tail
      have sT3 := sT2.tail
      obtain ⟨p3_0, p3_1, p3_2, p3_3⟩ := sT3.c4
      have sT4 := sT3.tail
      obtain ⟨p4_0, p4_1, p4_2, p4_3⟩ := sT4.c4
      have sT5 := sT4.tail
      clear sT0 sT1 sT2 sT3 sT4 sT5
      go_cut [14, 15] from 16 to 86 (fun xx yy wx => ∃ b Y0 yy0 Y1 yy1 Y2 yy2 Y3 yy3, xx = .pointer (some ⟨b, 0, none⟩) ∧ yy = .int .i64 z ∧ St w ((b, #[.slice Y0 n.ws.length yy0, .slice Y1 n.pend.length yy1, .slice Y2 n.tlb.length yy2, .slice Y3 n.wc.length yy3], 39) :: (b9, #[.slice G0 n.ws.length j0, .slice G1 n.pend.length j1, .slice G2 n.tlb.length j2, .slice G3 n.wc.length j3], 39) :: (w6.heap.size, #[.slice X0 m.ws.length f0, .slice X1 m.pend.length f1, .slice X2 m.tlb.length f2, .slice X3 m.wc.length f3], 39) :: (b6, #[.slice R0 n.ws.length e0, .slice R1 n.pend.length e1, .slice R2 n.tlb.length e2, .slice R3 n.wc.length e3], 39) :: (w.heap.size + 1, #[.int .i64 kd, .int .i64 a, .int .i64 bb, .int .u64 wd], 32) :: (w.heap.size, #[.slice A0 m.ws.length c0, .slice A1 m.pend.length c1, .slice A2 m.tlb.length c2, .slice A3 m.wc.length c3], 29) :: []) wx ∧ OwnM w18.heap.size wx (.slice Y0 n.ws.length yy0) (.slice Y1 n.pend.length yy1) (.slice Y2 n.tlb.length yy2) (.slice Y3 n.wc.length yy3) n ∧ Below w18.heap.size w18 wx)
      case first =>
        refine wp_region_F (fun w' => ((w'.cell? ⟨w.heap.size, 0, none⟩ = some (.slice A0 m.ws.length c0) ∧ w'.cell? ⟨w.heap.size, 1, none⟩ = some (.slice A1 m.pend.length c1) ∧ w'.cell? ⟨w.heap.size, 2, none⟩ = some (.slice A2 m.tlb.length c2) ∧ w'.cell? ⟨w.heap.size, 3, none⟩ = some (.slice A3 m.wc.length c3)) ∧ (w'.cell? ⟨w.heap.size + 1, 0, none⟩ = some (.int .i64 kd) ∧ w'.cell? ⟨w.heap.size + 1, 1, none⟩ = some (.int .i64 a) ∧ w'.cell? ⟨w.heap.size + 1, 2, none⟩ = some (.int .i64 bb) ∧ w'.cell? ⟨w.heap.size + 1, 3, none⟩ = some (.int .u64 wd))) ∧ Below w18.heap.size w18 w') 10 (by kernel_rfl) (keep8 ⟨⟨p4_0, p4_1, p4_2, p4_3⟩, p3_0, p3_1, p3_2, p3_3⟩ (below_drewN (Below.refl _ _) 1)) (fun hS => ?_)
        have hB : Below w18.heap.size w18 w18.drew := below_drewN (Below.refl _ _) 1
        refine wpAnyF_take (i := 0) (v := ?_) 80 rfl rfl (by kernel_rfl) (by kernel_rfl) (by kernel_rfl) (by kernel_rfl) (fun _ _ _ h => h) (Or.inl ⟨by rfl, fun w' hSw => ?_⟩) hS ?_
        rotate_left
        · (try dsimp only at hSw); go_simp; (try with_reducible rfl)
        try simp only [Act.put, List.setIfInBounds_toArray, List.set_cons_zero, List.set_cons_succ]
        refine wpAnyF_take (i := 2) (v := ?_) 82 rfl rfl (by kernel_rfl) (by kernel_rfl) (by kernel_rfl) (by kernel_rfl) (fun _ _ _ h => h) (Or.inl ⟨by rfl, fun w' hSw => ?_⟩) hS ?_
        rotate_left
        · (try dsimp only at hSw); go_simp; (try with_reducible rfl)
        try simp only [Act.put, List.setIfInBounds_toArray, List.set_cons_zero, List.set_cons_succ]
        refine wpAnyF_two (i := 1) (j := 8) (by kernel_rfl) rfl rfl (by rfl) (by rfl) (fun K hK => ?_) (fun K hK => ?_)
        · go_simp
          go_at_call 11
          refine (to_any _ _ _ _ m _ (R.out.below (thenB S18.out.b hB)) hl).mono ?_
          rintro e wM ⟨u0, u1, u2, u3, rfl, oM, hb⟩
          obtain ⟨B0, d0, B1, d1, B2, d2, B3, d3, rfl, rfl, rfl, rfl⟩ := oM.shape
          have hB := thenB hB hb
          refine hK _ _ (fun _ => keep8 ⟨⟨p4_0, p4_1, p4_2, p4_3⟩, p3_0, p3_1, p3_2, p3_3⟩ hB) ?_
          clear hK K
          try simp only [Act.put, List.setIfInBounds_toArray, List.set_cons_zero, List.set_cons_succ]
          refine wpAnyF_two (i := 3) (j := 8) (by kernel_rfl) rfl rfl (by rfl) (by rfl) (fun K hK => ?_) (fun K hK => ?_)
          · go_simp
            go_at_call 12
            refine (toOp_any kd a bb wd _).mono ?_
            rintro e wO ⟨rfl, hb⟩
            have hB := thenB hB hb
            have oM := oM.below hb
            refine hK _ _ (fun _ => keep8 ⟨⟨p4_0, p4_1, p4_2, p4_3⟩, p3_0, p3_1, p3_2, p3_3⟩ hB) ?_
            clear hK K
            try simp only [Act.put, List.setIfInBounds_toArray, List.set_cons_zero, List.set_cons_succ]
            refine wpAnyF_two (i := 4) (j := 8) (by kernel_rfl) rfl rfl (by rfl) (by rfl) (fun K hK => ?_) (fun K hK => ?_)
            · go_simp
              go_at_call 13
              refine (implStep_any _ _ _ _ m ⟨kd, a, bb, wd⟩ _ oM.rd HWF.out HOK.out).mono ?_
              rw [HN.out]
              rintro e wS ⟨r0, r1, r2, r3, rfl, oS, hb⟩
              obtain ⟨R0, e0, R1, e1, R2, e2, R3, e3, rfl, rfl, rfl, rfl⟩ := oS.shape
              have hoS : w18.heap.size ≤ _ := hB.size
              have hB := thenB hB hb
              refine hK _ _ (fun _ => keep8 ⟨⟨p4_0, p4_1, p4_2, p4_3⟩, p3_0, p3_1, p3_2, p3_3⟩ hB) ?_
              clear hK K
              try simp only [Act.put, List.setIfInBounds_toArray, List.set_cons_zero, List.set_cons_succ]
              have hS := keep8 ⟨⟨p4_0, p4_1, p4_2, p4_3⟩, p3_0, p3_1, p3_2, p3_3⟩ hB
              refine wpAnyF_take (i := 5) (v := ?_) 79 rfl rfl (by kernel_rfl) (by kernel_rfl) (by kernel_rfl) (by kernel_rfl) (fun _ _ _ h => h) (Or.inl ⟨by rfl, fun w' hSw => ?_⟩) hS ?_
              rotate_left
              · (try dsimp only at hSw); go_simp; (try with_reducible rfl)
              try simp only [Act.put, List.setIfInBounds_toArray, List.set_cons_zero, List.set_cons_succ]
              refine wpAnyF_take (i := 6) (v := ?_) 85 rfl rfl (by kernel_rfl) (by kernel_rfl) (by kernel_rfl) (by kernel_rfl) (fun _ _ _ h => h) (Or.inl ⟨by rfl, fun w' hSw => ?_⟩) hS ?_
              rotate_left
              · (try dsimp only at hSw); go_simp; (try with_reducible rfl)
              try simp only [Act.put, List.setIfInBounds_toArray, List.set_cons_zero, List.set_cons_succ]
              refine wpAnyF_take (i := 7) (v := ?_) 86 rfl rfl (by kernel_rfl) (by kernel_rfl) (by kernel_rfl) (by kernel_rfl) (fun _ _ _ h => h) (Or.inl ⟨by rfl, fun w' hSw => ?_⟩) hS ?_
              rotate_left
              · (try dsimp only at hSw); go_simp; (try with_reducible rfl)
              try simp only [Act.put, List.setIfInBounds_toArray, List.set_cons_zero, List.set_cons_succ]
              refine wpAnyF_one (i := 8) (by kernel_rfl) rfl (by rfl) (fun K hK => ?_)
              go_simp
              have hbx : w18.heap.size ≤ wS.heap.size := hB.size
              have hB0 := hB
              have hzb : (wS.alloc (.cells #[.slice none 0 0, .slice none 0 0, .slice none 0 0, .slice none 0 0] 39)).heap[wS.heap.size]? = some (.cells #[.slice none 0 0, .slice none 0 0, .slice none 0 0, .slice none 0 0] 39) := heap_alloc_new _ _
              have hB := allocB hB (.cells #[.slice none 0 0, .slice none 0 0, .slice none 0 0, .slice none 0 0] 39)
              have oM := oM.below (allocB (Below.refl _ _) (.cells #[.slice none 0 0, .slice none 0 0, .slice none 0 0, .slice none 0 0] 39))
              refine hK _ _ (fun _ => keep8 ⟨⟨p4_0, p4_1, p4_2, p4_3⟩, p3_0, p3_1, p3_2, p3_3⟩ hB) ?_
              clear hK K
              try simp only [Act.put, List.setIfInBounds_toArray, List.set_cons_zero, List.set_cons_succ]
              obtain ⟨y0, y1, y2, y3, y4, y5, y6, y7⟩ := zC4 hzb
              refine wpAnyF_one (i := 9) (by kernel_rfl) rfl (by rfl) (fun K hK => ?_)
              go_simp
              have hBs := allocB hB0 (.cells #[.slice R0 n.ws.length e0, .slice R1 n.pend.length e1, .slice R2 n.tlb.length e2, .slice R3 n.wc.length e3] 39)
              refine hK _ _ (fun _ => keep8 ⟨⟨p4_0, p4_1, p4_2, p4_3⟩, p3_0, p3_1, p3_2, p3_3⟩ hBs) ?_
              clear hK K
              try simp only [Act.put, List.setIfInBounds_toArray, List.set_cons_zero, List.set_cons_succ]
              refine wpAnyF_one (i := 10) (by kernel_rfl) rfl (by rfl) (fun K hK => ?_)
              go_simp
              refine hK _ _ (fun h => absurd rfl h) ?_
              clear hK K
              try simp only [Act.put, List.setIfInBounds_toArray, List.set_cons_zero, List.set_cons_succ]
              refine wpAnyF_done (by kernel_rfl) ?_ _
              refine NoPanic.normal ?_
              go_wp2
              go_meet
              case rel => exact ⟨_, R0, e0, R1, e1, R2, e2, R3, e3, rfl, rfl, st_add S18.out hBs (heap_alloc_new _ _) hbx, (oS.lower hoS).below (allocB (Below.refl _ _) _), hBs⟩
            · go_simp
              have hbx : w18.heap.size ≤ wO.heap.size := hB.size
              have hB0 := hB
              have hzb : (wO.alloc (.cells #[.slice none 0 0, .slice none 0 0, .slice none 0 0, .slice none 0 0] 39)).heap[wO.heap.size]? = some (.cells #[.slice none 0 0, .slice none 0 0, .slice none 0 0, .slice none 0 0] 39) := heap_alloc_new _ _
              have hB := allocB hB (.cells #[.slice none 0 0, .slice none 0 0, .slice none 0 0, .slice none 0 0] 39)
              have oM := oM.below (allocB (Below.refl _ _) (.cells #[.slice none 0 0, .slice none 0 0, .slice none 0 0, .slice none 0 0] 39))
              refine hK _ _ (fun _ => keep8 ⟨⟨p4_0, p4_1, p4_2, p4_3⟩, p3_0, p3_1, p3_2, p3_3⟩ hB) ?_
              clear hK K
              try simp only [Act.put, List.setIfInBounds_toArray, List.set_cons_zero, List.set_cons_succ]
              refine wpAnyF_one (i := 4) (by kernel_rfl) rfl (by rfl) (fun K hK => ?_)
              go_simp
              go_at_call 13
              refine (implStep_any _ _ _ _ m ⟨kd, a, bb, wd⟩ _ oM.rd HWF.out HOK.out).mono ?_
              rw [HN.out]
              rintro e wS ⟨r0, r1, r2, r3, rfl, oS, hb⟩
              obtain ⟨R0, e0, R1, e1, R2, e2, R3, e3, rfl, rfl, rfl, rfl⟩ := oS.shape
              have hoS : w18.heap.size ≤ _ := hB.size
              have hzb := boxT hb hzb
              have hB := thenB hB hb
              refine hK _ _ (fun _ => keep8 ⟨⟨p4_0, p4_1, p4_2, p4_3⟩, p3_0, p3_1, p3_2, p3_3⟩ hB) ?_
              clear hK K
              try simp only [Act.put, List.setIfInBounds_toArray, List.set_cons_zero, List.set_cons_succ]
              have hS := keep8 ⟨⟨p4_0, p4_1, p4_2, p4_3⟩, p3_0, p3_1, p3_2, p3_3⟩ hB
              refine wpAnyF_take (i := 5) (v := ?_) 79 rfl rfl (by kernel_rfl) (by kernel_rfl) (by kernel_rfl) (by kernel_rfl) (fun _ _ _ h => h) (Or.inl ⟨by rfl, fun w' hSw => ?_⟩) hS ?_
              rotate_left
              · (try dsimp only at hSw); go_simp; (try with_reducible rfl)
              try simp only [Act.put, List.setIfInBounds_toArray, List.set_cons_zero, List.set_cons_succ]
              refine wpAnyF_take (i := 6) (v := ?_) 85 rfl rfl (by kernel_rfl) (by kernel_rfl) (by kernel_rfl) (by kernel_rfl) (fun _ _ _ h => h) (Or.inl ⟨by rfl, fun w' hSw => ?_⟩) hS ?_
              rotate_left
              · (try dsimp only at hSw); go_simp; (try with_reducible rfl)
              try simp only [Act.put, List.setIfInBounds_toArray, List.set_cons_zero, List.set_cons_succ]
              refine wpAnyF_take (i := 7) (v := ?_) 86 rfl rfl (by kernel_rfl) (by kernel_rfl) (by kernel_rfl) (by kernel_rfl) (fun _ _ _ h => h) (Or.inl ⟨by rfl, fun w' hSw => ?_⟩) hS ?_
              rotate_left
              · (try dsimp only at hSw); go_simp; (try with_reducible rfl)
              try simp only [Act.put, List.setIfInBounds_toArray, List.set_cons_zero, List.set_cons_succ]
              obtain ⟨y0, y1, y2, y3, y4, y5, y6, y7⟩ := zC4 hzb
              refine wpAnyF_one (i := 9) (by kernel_rfl) rfl (by rfl) (fun K hK => ?_)
              go_simp
              have hBs := (((hB.setCell (p := ⟨_, 0, none⟩) hbx (.slice R0 n.ws.length e0)).setCell (p := ⟨_, 1, none⟩) hbx (.slice R1 n.pend.length e1)).setCell (p := ⟨_, 2, none⟩) hbx (.slice R2 n.tlb.length e2)).setCell (p := ⟨_, 3, none⟩) hbx (.slice R3 n.wc.length e3)
              refine hK _ _ (fun _ => keep8 ⟨⟨p4_0, p4_1, p4_2, p4_3⟩, p3_0, p3_1, p3_2, p3_3⟩ hBs) ?_
              clear hK K
              try simp only [Act.put, List.setIfInBounds_toArray, List.set_cons_zero, List.set_cons_succ]
              refine wpAnyF_one (i := 10) (by kernel_rfl) rfl (by rfl) (fun K hK => ?_)
              go_simp
              refine hK _ _ (fun h => absurd rfl h) ?_
              clear hK K
              try simp only [Act.put, List.setIfInBounds_toArray, List.set_cons_zero, List.set_cons_succ]
              refine wpAnyF_done (by kernel_rfl) ?_ _
              refine NoPanic.normal ?_
              go_wp2
              go_meet
              case rel => exact ⟨_, R0, e0, R1, e1, R2, e2, R3, e3, rfl, rfl, st_add S18.out hBs (st_set (st_set (st_set (st_set hzb 0 _) 1 _) 2 _) 3 _) hbx, (oS.lower hoS).set4 hzb (by decide) _ _ _ _, hBs⟩
          · go_simp
            have hbx : w18.heap.size ≤ wM.heap.size := hB.size
            have hB0 := hB
            have hzb : (wM.alloc (.cells #[.slice none 0 0, .slice none 0 0, .slice none 0 0, .slice none 0 0] 39)).heap[wM.heap.size]? = some (.cells #[.slice none 0 0, .slice none 0 0, .slice none 0 0, .slice none 0 0] 39) := heap_alloc_new _ _
            have hB := allocB hB (.cells #[.slice none 0 0, .slice none 0 0, .slice none 0 0, .slice none 0 0] 39)
            have oM := oM.below (allocB (Below.refl _ _) (.cells #[.slice none 0 0, .slice none 0 0, .slice none 0 0, .slice none 0 0] 39))
            refine hK _ _ (fun _ => keep8 ⟨⟨p4_0, p4_1, p4_2, p4_3⟩, p3_0, p3_1, p3_2, p3_3⟩ hB) ?_
            clear hK K
            try simp only [Act.put, List.setIfInBounds_toArray, List.set_cons_zero, List.set_cons_succ]
            refine wpAnyF_one (i := 3) (by kernel_rfl) rfl (by rfl) (fun K hK => ?_)
            go_simp
            go_at_call 12
            refine (toOp_any kd a bb wd _).mono ?_
            rintro e wO ⟨rfl, hb⟩
            have hzb := boxT hb hzb
            have hB := thenB hB hb
            have oM := oM.below hb
            refine hK _ _ (fun _ => keep8 ⟨⟨p4_0, p4_1, p4_2, p4_3⟩, p3_0, p3_1, p3_2, p3_3⟩ hB) ?_
            clear hK K
            try simp only [Act.put, List.setIfInBounds_toArray, List.set_cons_zero, List.set_cons_succ]
            refine wpAnyF_one (i := 4) (by kernel_rfl) rfl (by rfl) (fun K hK => ?_)
            go_simp
            go_at_call 13
            refine (implStep_any _ _ _ _ m ⟨kd, a, bb, wd⟩ _ oM.rd HWF.out HOK.out).mono ?_
            rw [HN.out]
            rintro e wS ⟨r0, r1, r2, r3, rfl, oS, hb⟩
            obtain ⟨R0, e0, R1, e1, R2, e2, R3, e3, rfl, rfl, rfl, rfl⟩ := oS.shape
            have hoS : w18.heap.size ≤ _ := hB.size
            have hzb := boxT hb hzb
            have hB := thenB hB hb
            refine hK _ _ (fun _ => keep8 ⟨⟨p4_0, p4_1, p4_2, p4_3⟩, p3_0, p3_1, p3_2, p3_3⟩ hB) ?_
            clear hK K
            try simp only [Act.put, List.setIfInBounds_toArray, List.set_cons_zero, List.set_cons_succ]
            have hS := keep8 ⟨⟨p4_0, p4_1, p4_2, p4_3⟩, p3_0, p3_1, p3_2, p3_3⟩ hB
            refine wpAnyF_take (i := 5) (v := ?_) 79 rfl rfl (by kernel_rfl) (by kernel_rfl) (by kernel_rfl) (by kernel_rfl) (fun _ _ _ h => h) (Or.inl ⟨by rfl, fun w' hSw => ?_⟩) hS ?_
            rotate_left
            · (try dsimp only at hSw); go_simp; (try with_reducible rfl)
            try simp only [Act.put, List.setIfInBounds_toArray, List.set_cons_zero, List.set_cons_succ]
            refine wpAnyF_take (i := 6) (v := ?_) 85 rfl rfl (by kernel_rfl) (by kernel_rfl) (by kernel_rfl) (by kernel_rfl) (fun _ _ _ h => h) (Or.inl ⟨by rfl, fun w' hSw => ?_⟩) hS ?_
            rotate_left
            · (try dsimp only at hSw); go_simp; (try with_reducible rfl)
            try simp only [Act.put, List.setIfInBounds_toArray, List.set_cons_zero, List.set_cons_succ]
            refine wpAnyF_take (i := 7) (v := ?_) 86 rfl rfl (by kernel_rfl) (by kernel_rfl) (by kernel_rfl) (by kernel_rfl) (fun _ _ _ h => h) (Or.inl ⟨by rfl, fun w' hSw => ?_⟩) hS ?_
            rotate_left
            · (try dsimp only at hSw); go_simp; (try with_reducible rfl)
            try simp only [Act.put, List.setIfInBounds_toArray, List.set_cons_zero, List.set_cons_succ]
            obtain ⟨y0, y1, y2, y3, y4, y5, y6, y7⟩ := zC4 hzb
            refine wpAnyF_one (i := 9) (by kernel_rfl) rfl (by rfl) (fun K hK => ?_)
            go_simp
            have hBs := (((hB.setCell (p := ⟨_, 0, none⟩) hbx (.slice R0 n.ws.length e0)).setCell (p := ⟨_, 1, none⟩) hbx (.slice R1 n.pend.length e1)).setCell (p := ⟨_, 2, none⟩) hbx (.slice R2 n.tlb.length e2)).setCell (p := ⟨_, 3, none⟩) hbx (.slice R3 n.wc.length e3)
            refine hK _ _ (fun _ => keep8 ⟨⟨p4_0, p4_1, p4_2, p4_3⟩, p3_0, p3_1, p3_2, p3_3⟩ hBs) ?_
            clear hK K
            try simp only [Act.put, List.setIfInBounds_toArray, List.set_cons_zero, List.set_cons_succ]
            refine wpAnyF_one (i := 10) (by kernel_rfl) rfl (by rfl) (fun K hK => ?_)
            go_simp
            refine hK _ _ (fun h => absurd rfl h) ?_
            clear hK K
            try simp only [Act.put, List.setIfInBounds_toArray, List.set_cons_zero, List.set_cons_succ]
            refine wpAnyF_done (by kernel_rfl) ?_ _
            refine NoPanic.normal ?_
            go_wp2
            go_meet
            case rel => exact ⟨_, R0, e0, R1, e1, R2, e2, R3, e3, rfl, rfl, st_add S18.out hBs (st_set (st_set (st_set (st_set hzb 0 _) 1 _) 2 _) 3 _) hbx, (oS.lower hoS).set4 hzb (by decide) _ _ _ _, hBs⟩
        · go_simp
          have hbx : w18.heap.size ≤ w18.heap.size := hB.size
          have hB0 := hB
          have hzb : (w18.drew.alloc (.cells #[.slice none 0 0, .slice none 0 0, .slice none 0 0, .slice none 0 0] 39)).heap[w18.heap.size]? = some (.cells #[.slice none 0 0, .slice none 0 0, .slice none 0 0, .slice none 0 0] 39) := heap_alloc_new _ _
          have hB := allocB hB (.cells #[.slice none 0 0, .slice none 0 0, .slice none 0 0, .slice none 0 0] 39)
          refine hK _ _ (fun _ => keep8 ⟨⟨p4_0, p4_1, p4_2, p4_3⟩, p3_0, p3_1, p3_2, p3_3⟩ hB) ?_
          clear hK K
          try simp only [Act.put, List.setIfInBounds_toArray, List.set_cons_zero, List.set_cons_succ]
          refine wpAnyF_one (i := 1) (by kernel_rfl) rfl (by rfl) (fun K hK => ?_)
          go_simp
          go_at_call 11
          refine (to_any _ _ _ _ m _ (R.out.below (thenB S18.out.b hB)) hl).mono ?_
          rintro e wM ⟨u0, u1, u2, u3, rfl, oM, hb⟩
          obtain ⟨B0, d0, B1, d1, B2, d2, B3, d3, rfl, rfl, rfl, rfl⟩ := oM.shape
          have hzb := boxT hb hzb
          have hB := thenB hB hb
          refine hK _ _ (fun _ => keep8 ⟨⟨p4_0, p4_1, p4_2, p4_3⟩, p3_0, p3_1, p3_2, p3_3⟩ hB) ?_
          clear hK K
          try simp only [Act.put, List.setIfInBounds_toArray, List.set_cons_zero, List.set_cons_succ]
          refine wpAnyF_one (i := 3) (by kernel_rfl) rfl (by rfl) (fun K hK => ?_)
          go_simp
          go_at_call 12
          refine (toOp_any kd a bb wd _).mono ?_
          rintro e wO ⟨rfl, hb⟩
          have hzb := boxT hb hzb
          have hB := thenB hB hb
          have oM := oM.below hb
          refine hK _ _ (fun _ => keep8 ⟨⟨p4_0, p4_1, p4_2, p4_3⟩, p3_0, p3_1, p3_2, p3_3⟩ hB) ?_
          clear hK K
          try simp only [Act.put, List.setIfInBounds_toArray, List.set_cons_zero, List.set_cons_succ]
          refine wpAnyF_one (i := 4) (by kernel_rfl) rfl (by rfl) (fun K hK => ?_)
          go_simp
          go_at_call 13
          refine (implStep_any _ _ _ _ m ⟨kd, a, bb, wd⟩ _ oM.rd HWF.out HOK.out).mono ?_
          rw [HN.out]
          rintro e wS ⟨r0, r1, r2, r3, rfl, oS, hb⟩
          obtain ⟨R0, e0, R1, e1, R2, e2, R3, e3, rfl, rfl, rfl, rfl⟩ := oS.shape
          have hoS : w18.heap.size ≤ _ := hB.size
          have hzb := boxT hb hzb
          have hB := thenB hB hb
          refine hK _ _ (fun _ => keep8 ⟨⟨p4_0, p4_1, p4_2, p4_3⟩, p3_0, p3_1, p3_2, p3_3⟩ hB) ?_
          clear hK K
          try simp only [Act.put, List.setIfInBounds_toArray, List.set_cons_zero, List.set_cons_succ]
          have hS := keep8 ⟨⟨p4_0, p4_1, p4_2, p4_3⟩, p3_0, p3_1, p3_2, p3_3⟩ hB
          refine wpAnyF_take (i := 5) (v := ?_) 79 rfl rfl (by kernel_rfl) (by kernel_rfl) (by kernel_rfl) (by kernel_rfl) (fun _ _ _ h => h) (Or.inl ⟨by rfl, fun w' hSw => ?_⟩) hS ?_
          rotate_left
          · (try dsimp only at hSw); go_simp; (try with_reducible rfl)
          try simp only [Act.put, List.setIfInBounds_toArray, List.set_cons_zero, List.set_cons_succ]
          refine wpAnyF_take (i := 6) (v := ?_) 85 rfl rfl (by kernel_rfl) (by kernel_rfl) (by kernel_rfl) (by kernel_rfl) (fun _ _ _ h => h) (Or.inl ⟨by rfl, fun w' hSw => ?_⟩) hS ?_
          rotate_left
          · (try dsimp only at hSw); go_simp; (try with_reducible rfl)
          try simp only [Act.put, List.setIfInBounds_toArray, List.set_cons_zero, List.set_cons_succ]
          refine wpAnyF_take (i := 7) (v := ?_) 86 rfl rfl (by kernel_rfl) (by kernel_rfl) (by kernel_rfl) (by kernel_rfl) (fun _ _ _ h => h) (Or.inl ⟨by rfl, fun w' hSw => ?_⟩) hS ?_
          rotate_left
          · (try dsimp only at hSw); go_simp; (try with_reducible rfl)
          try simp only [Act.put, List.setIfInBounds_toArray, List.set_cons_zero, List.set_cons_succ]
          obtain ⟨y0, y1, y2, y3, y4, y5, y6, y7⟩ := zC4 hzb
          refine wpAnyF_one (i := 9) (by kernel_rfl) rfl (by rfl) (fun K hK => ?_)
          go_simp
          have hBs := (((hB.setCell (p := ⟨_, 0, none⟩) hbx (.slice R0 n.ws.length e0)).setCell (p := ⟨_, 1, none⟩) hbx (.slice R1 n.pend.length e1)).setCell (p := ⟨_, 2, none⟩) hbx (.slice R2 n.tlb.length e2)).setCell (p := ⟨_, 3, none⟩) hbx (.slice R3 n.wc.length e3)
          refine hK _ _ (fun _ => keep8 ⟨⟨p4_0, p4_1, p4_2, p4_3⟩, p3_0, p3_1, p3_2, p3_3⟩ hBs) ?_
          clear hK K
          try simp only [Act.put, List.setIfInBounds_toArray, List.set_cons_zero, List.set_cons_succ]
          refine wpAnyF_one (i := 10) (by kernel_rfl) rfl (by rfl) (fun K hK => ?_)
          go_simp
          refine hK _ _ (fun h => absurd rfl h) ?_
          clear hK K
          try simp only [Act.put, List.setIfInBounds_toArray, List.set_cons_zero, List.set_cons_succ]
          refine wpAnyF_done (by kernel_rfl) ?_ _
          refine NoPanic.normal ?_
          go_wp2
          go_meet
          case rel => exact ⟨_, R0, e0, R1, e1, R2, e2, R3, e3, rfl, rfl, st_add S18.out hBs (st_set (st_set (st_set (st_set hzb 0 _) 1 _) 2 _) 3 _) hbx, (oS.lower hoS).set4 hzb (by decide) _ _ _ _, hBs⟩
      case rest =>
        obtain ⟨b14, Q0, t0, Q1, t1, Q2, t2, Q3, t3, rfl, rfl, hs, ho, hb⟩ := hcut
        have S21 := Lib.hid hs
        have OH21 := Lib.hid ho
        have OW21 := Lib.hid (OW18.out.below hb)
        have OM21 := Lib.hid (OM18.out.below hb)
        clear hs ho hb S18 OW18 OM18 p4_0 p4_1 p4_2 p4_3 p3_0 p3_1 p3_2 p3_3
        generalize wc = w21 at *
        have sT0 := S21.out
        obtain ⟨p0_0, p0_1, p0_2, p0_3⟩ := sT0.c4
        have sT1 := sT0.tail
        have sT2 := sT1.tail
        have sT3 := sT2.tail
        obtain ⟨p3_0, p3_1, p3_2, p3_3⟩ := sT3.c4
        have sT4 := sT3.tail
        have sT5 := sT4.tail
        have sT6 := sT5.tail
        clear sT0 sT1 sT2 sT3 sT4 sT5 sT6
        go_wp2_with fail
        refine (eq_any _ _ _ _ _ _ _ _ n n _ OH21.out.rd OW21.out.rd).mono ?_
        rw [decide_eq_true rfl]
        rintro e w23 ⟨rfl, hb22⟩
        have S23 := Lib.hid (S21.out.below hb22)
        have OM23 := Lib.hid (OM21.out.below hb22)
        clear hb22 S21 OW21 OM21 OH21
        clear p0_0 p0_1 p0_2 p0_3 p3_0 p3_1 p3_2 p3_3
        have sT0 := S23.out
        have sT1 := sT0.tail
        obtain ⟨p1_0, p1_1, p1_2, p1_3⟩ := sT1.c4
        have sT2 := sT1.tail
        clear sT0 sT1 sT2
        go_wp2_with fail
        refine (held_any _ _ _ _ n _ OM23.out.rd hn).mono ?_
        rintro e w24 ⟨rfl, hb24⟩
        have HB24 := Lib.hid (thenB S23.out.b hb24)
        clear hb24
        go_wp2
        go_ret
        exact ⟨rfl, HB24.out⟩
end Go.Proofs.Ytjmamohfiimokaa.Mmu
