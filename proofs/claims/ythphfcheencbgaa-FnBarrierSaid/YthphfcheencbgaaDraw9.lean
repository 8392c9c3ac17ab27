/- Walk of the reference's DrawStep. -/
import Derived.Test.YthphfcheencbgaaDraw7
import Derived.Test.YthphfcheencbgaaDraw8
import Derived.Test.YthphfcheencbgaaImplStep
namespace Go.Proofs.Ythphfcheencbgaa.Draw
open Go.RowKit Go.Proofs.Ythphfcheencbgaa.Base Go.Proofs.Ythphfcheencbgaa.Kinds Go.Proofs.Ythphfcheencbgaa.DecMath Go.Proofs.Ythphfcheencbgaa.L1 Go.Proofs.Ythphfcheencbgaa.Mmu
set_option linter.unusedVariables false
set_option linter.unusedSimpArgs false

/-- The answer: a machine, its lists the call's own, and an operation. -/
def DSPost (w : World) (s : SM × SOp) (e : Ending) (w' : World) : Prop := ∃ u0 u1 u2 u3, e = .returned (.tuple #[.agg #[u0, u1, u2, u3], .agg #[.int .i64 s.2.Kind, .int .i64 s.2.A, .int .i64 s.2.B, .int .u64 s.2.Word]]) ∧ OwnM w.heap.size w' u0 u1 u2 u3 s.1 ∧ Below w.heap.size w w'
theorem memW_len {c : List Int} (hc : Bytes c) (p : Nat) : (memW c p).length ≤ 1000 := by
  have h := (treeW_ok hc (p + 1)).1.len
  have h1 := treeN_b c
  have h2 := takeP_lt hc (p + 1) 3 (by omega)
  unfold memW
  split
  · unfold spoilP
    split
    · simp; omega
    · split
      · simp
      · split <;> simp <;> omega
  · omega
/-- What holds of the machine that is drawn. -/
structure DrawnM (m : SM) : Prop where
  sizes : m.ws.length ≤ 8192 ∧ m.pend.length ≤ 10000 ∧ m.tlb.length ≤ 256 ∧ m.wc.length ≤ 256
  tlb : ∀ e ∈ m.tlb, okTlb e
  wf : WfM m
theorem machD_ok {c : List Int} (hc : Bytes c) (p : Nat) (hp : p ≤ 800) : DrawnM (machD c p).1 ∧ (okLen (machD c p).1.ws → Valid (machD c p).1) ∧ (machD c p).2 ≤ p + 500 := by
  have hq : memQ c p ≤ p + 400 := by have := treeW_ok hc (p + 1); unfold memQ; split <;> omega
  have hr := memW_range hc p
  have hl := memW_len hc p
  unfold machD
  by_cases hok : okLen (memW c p)
  · rw [if_pos hok]
    have hn : sizeP c 8 3 12 ≤ 12 := by unfold sizeP; split <;> omega
    have hu := drawIt_used hc (used0 hr hok (memQ c p)) (sizeP c 8 3 12) (by omega)
    refine ⟨⟨⟨hu.ok.frames.2.2, hu.ok.npend, hu.ok.ntlb, hu.ok.nwc⟩, hu.ok.tlb, hu.wf⟩, fun _ => hu.ok, ?_⟩
    rw [hu.at_]; omega
  · rw [if_neg hok]
    exact ⟨⟨⟨by simp only; omega, by simp, by simp, by simp⟩, fun e he => (by cases he), ⟨hr, fun e he => (by cases he)⟩⟩, fun h => absurd h hok, by simp only; omega⟩
theorem spoilM_ws (c : List Int) (p : Nat) (m : SM) : (spoilM c p m).ws = m.ws := by
  unfold spoilM
  simp only
  repeat' split
  all_goals rfl
theorem spoilM_wf {c : List Int} {p : Nat} {m : SM} (h : WfM m) : WfM (spoilM c p m) := by
  refine ⟨by rw [spoilM_ws]; exact h.1, ?_⟩
  unfold spoilM
  simp only
  intro e he
  repeat' split at he
  all_goals first
    | exact h.2 e he
    | (rcases List.mem_append.1 he with he | he
       · exact h.2 e he
       · rw [List.mem_singleton.1 he]; simp)
theorem own_eqM {base : Nat} {w : World} {v0 v1 v2 v3 : Value} {m m' : SM} (h : OwnM base w v0 v1 v2 v3 m) (e : m = m') : OwnM base w v0 v1 v2 v3 m' := e ▸ h
theorem opOk9 {a : Int} : (⟨1, a, 0, 0⟩ : SOp).ok := ⟨by simp, by simp⟩

set_option maxRecDepth 100000 in
set_option maxHeartbeats 16000000 in
theorem drawStep_any (v : Value) (c : List Int) (w : World) (r : Rd bEnc 1 w v c) (hb : Bytes c) (hL : c.length ≤ 1048576) :
    Calls Try.prog 4 #[v] w (DSPost w (stepD c)) := by
  have R := Lib.hid r
  have HB := Lib.hid hb
  have hdm := machD_ok hb 1 (by omega)
  have h12 := takeP_lt hb 0 12 (by omega)
  obtain ⟨how, hhow⟩ : ∃ a, takeP c 0 12 = a := ⟨_, rfl⟩
  obtain ⟨⟨m0, q⟩, hm0⟩ : ∃ s, machD c 1 = s := ⟨_, rfl⟩
  rw [hhow] at h12
  rw [hm0] at hdm
  obtain ⟨hD, hV, hqb⟩ := hdm
  simp only at hD hV hqb
  obtain ⟨X, hX⟩ : ∃ X, stepD c = X := ⟨_, rfl⟩
  have HX : Hid (X = (let m := if how = 11 then spoilM c q m0 else m0
    if okLen m.ws then
      (if 7 ≤ how ∧ how ≤ 10 then
        match m.tlb[(q + 5) % m.tlb.length]? with
        | some e => if (stepAll m ⟨1, addrP m.ws e.Page, 0, 0⟩).2 = 0 then (brokenM m (addrP m.ws e.Page) (decide (how = 10)), ⟨1, addrP m.ws e.Page, 0, enc 3 (3, ((q + 5 : Nat) : Int), 3)⟩) else (m, opD c q m)
        | none => (m, opD c q m)
      else (m, opD c q m))
    else (m, ⟨2, 0, 0, 0⟩))) := Lib.hid (by rw [← hX]; unfold stepD; simp only [hhow, hm0]; rfl)
  rw [hX]
  obtain ⟨hh0, hh1⟩ := h12
  have HW := Lib.hid hhow
  have HM := Lib.hid hm0
  have HD := Lib.hid hD
  have HV := Lib.hid hV
  clear r hb hhow hm0 hD hV hX
  go_enter Try.func4, Try.ntmps4
  go_upto_region 1 with fail
  refine ((St.start w).push2 _ _ _ _).gen (fun w1 S1' _ => ?_)
  have S1 := Lib.hid S1'
  clear S1'
  go_upto_region 2 with (go_at_call 8; refine (take_any v c 0 12 _ (R.out.below S1.out.b) HB.out hL (by omega) (by omega)).mono ?_; rw [HW.out]; rintro e w2 ⟨rfl, hb2⟩; have S2 := Lib.hid (S1.out.below hb2); clear hb2)
  go_upto_region 3 with (go_at_call 9; refine (drawMachine_any v c 1 _ (R.out.below S2.out.b) HB.out hL (by omega)).mono ?_; rw [HM.out]; rintro e w3 ⟨u0, u1, u2, u3, rfl, o3, hb3⟩; obtain ⟨B0, d0, B1, d1, B2, d2, B3, d3, rfl, rfl, rfl, rfl⟩ := o3.shape; have O3 := Lib.hid (o3.lower S2.out.b.size); have S3 := Lib.hid (S2.out.below hb3); clear o3 hb3)
  refine st_genO (S3.out.push _ _) (O3.out.below (allocB (Below.refl _ _) _)) (fun w4 S4' O4' => ?_)
  obtain ⟨mb, hmb⟩ : ∃ b, w3.heap.size = b := ⟨_, rfl⟩
  rw [hmb] at S4' ⊢
  have S4 := Lib.hid S4'
  have O4 := Lib.hid O4'
  clear S4' O4' S1 S2 S3 O3 hmb
  -- the machine, spoilt or not
  go_upto_if 25 with fail
  obtain ⟨m, hm⟩ : ∃ m, (if how = 11 then spoilM c q m0 else m0) = m := ⟨_, rfl⟩
  have hmD : WfM m ∧ m.ws = m0.ws ∧ (¬ how = 11 → m = m0) := by
    rw [← hm]
    split
    · rename_i h; exact ⟨spoilM_wf HD.out.wf, spoilM_ws _ _ _, fun h' => absurd h h'⟩
    · exact ⟨HD.out.wf, rfl, fun _ => rfl⟩
  have HMD := Lib.hid hmD
  have HMM := Lib.hid hm
  have HX2 : Hid (X = if okLen m.ws then
      (if 7 ≤ how ∧ how ≤ 10 then
        match m.tlb[(q + 5) % m.tlb.length]? with
        | some e => if (stepAll m ⟨1, addrP m.ws e.Page, 0, 0⟩).2 = 0 then (brokenM m (addrP m.ws e.Page) (decide (how = 10)), ⟨1, addrP m.ws e.Page, 0, enc 3 (3, ((q + 5 : Nat) : Int), 3)⟩) else (m, opD c q m)
        | none => (m, opD c q m)
      else (m, opD c q m))
    else (m, ⟨2, 0, 0, 0⟩)) := Lib.hid (by rw [HX.out]; simp only [hm])
  clear hm hmD HX
  go_cut [] from 25 to 29 (fun wx => ∃ (A0 A1 A2 A3 : Option Addr) (c0 c1 c2 c3 : Nat), Hid (OwnM w.heap.size wx (.slice A0 m.ws.length c0) (.slice A1 m.pend.length c1) (.slice A2 m.tlb.length c2) (.slice A3 m.wc.length c3) m) ∧ Hid (St w [(mb, #[.slice A0 m.ws.length c0, .slice A1 m.pend.length c1, .slice A2 m.tlb.length c2, .slice A3 m.wc.length c3], 30), (w.heap.size + 1, #[.int .i64 0, .int .i64 0, .int .i64 0, .int .u64 0], 33), (w.heap.size, #[.slice none 0 0, .slice none 0 0, .slice none 0 0, .slice none 0 0], 30)] wx))
  case first =>
    by_cases h11 : how = 11
    · have g11 : (how == 11) = true := by simpa using h11
      have HE : Hid (spoilM c q m0 = m) := Lib.hid (by rw [← HMM.out, if_pos h11])
      have H11 := Lib.hid h11
      clear h11
      have sT0 := S4.out
      obtain ⟨z0_0, z0_1, z0_2, z0_3⟩ := sT0.c4
      have zF0_0 := sT0.f 0
      have zF0_1 := sT0.f 1
      have zF0_2 := sT0.f 2
      have zF0_3 := sT0.f 3
      have sT1 := sT0.tail
      clear sT0 sT1
      go_wp2_with (go_at_call 10; refine (spoilM_any v c q _ _ _ _ m0 _ (R.out.below S4.out.b) HB.out hL (by omega) O4.out.rd HD.out.sizes HD.out.tlb).mono ?_; rw [HE.out]; rintro e w5 ⟨x0, x1, x2, x3, rfl, o5, hb5⟩; obtain ⟨E0, f0, E1, f1, E2, f2, E3, f3, rfl, rfl, rfl, rfl⟩ := o5.shape; have S5 := Lib.hid (S4.out.below hb5); have O5 := Lib.hid (o5.lower S4.out.b.size); clear o5 hb5; have sT0 := S5.out; obtain ⟨y0_0, y0_1, y0_2, y0_3⟩ := sT0.c4; have yF0_0 := sT0.f 0; have yF0_1 := sT0.f 1; have yF0_2 := sT0.f 2; have yF0_3 := sT0.f 3; have sT1 := sT0.tail; clear sT0 sT1)
      go_meet
      case rel => exact ⟨_, _, _, _, _, _, _, _, Lib.hid (O5.out.set4 S5.out.head (by decide) _ _ _ _), Lib.hid (S5.out.s0 _ _ _ _)⟩
    · have g11 : (how == 11) = false := by simpa using h11
      have HE : Hid (m0 = m) := Lib.hid (by rw [← HMM.out, if_neg h11])
      have H11 := Lib.hid h11
      clear h11
      go_wp2
      go_meet
      case rel => exact ⟨_, _, _, _, _, _, _, _, Lib.hid (by have h := O4.out; rw [HE.out] at h; exact h), Lib.hid (by have h := S4.out; rw [HE.out] at h; exact h)⟩
  case rest =>
  obtain ⟨A0, A1, A2, A3, c0, c1, c2, c3, O5, S5⟩ := hcut
  clear S4 O4
  obtain ⟨hcap0, hcap1⟩ : m.ws.length ≤ c0 ∧ c0 ≤ 9223372036854775807 := by
    obtain ⟨Ax, cx, hcx, h1, h2⟩ := (O5.out.ws.rd wLen).shape
    simp only [Value.slice.injEq] at hcx
    obtain ⟨_, _, e⟩ := hcx
    rw [e]; exact ⟨h1, h2⟩
  have sT0 := S5.out
  obtain ⟨z0_0, z0_1, z0_2, z0_3⟩ := sT0.c4
  have sT1 := sT0.tail
  clear sT0 sT1
  by_cases hok : okLen m.ws
  rotate_left
  · have HF : Hid (framesOf m.ws.length = 0) := Lib.hid (frames0 hok)
    have HE : Hid (X = (m, ⟨2, 0, 0, 0⟩)) := Lib.hid (by rw [HX2.out, if_neg hok])
    go_upto_region 6 with (go_at_call 11; refine (frames_b A0 m.ws.length c0 0 HF.out _ hcap0 hcap1).mono ?_; rintro e w6 ⟨rfl, hb6⟩; have S6 := Lib.hid (S5.out.below hb6); have O6 := Lib.hid (O5.out.below hb6); clear hb6)
    clear z0_0 z0_1 z0_2 z0_3
    have sT0 := S6.out
    obtain ⟨z0_0, z0_1, z0_2, z0_3⟩ := sT0.c4
    have sT1 := sT0.tail
    obtain ⟨z1_0, z1_1, z1_2, z1_3⟩ := sT1.c4
    have zF1_0 := sT1.f 0
    have zF1_1 := sT1.f 1
    have zF1_2 := sT1.f 2
    have zF1_3 := sT1.f 3
    have sT2 := sT1.tail
    obtain ⟨z2_0, z2_1, z2_2, z2_3⟩ := sT2.c4
    have zF2_0 := sT2.f 0
    have zF2_1 := sT2.f 1
    have zF2_2 := sT2.f 2
    have zF2_3 := sT2.f 3
    have sT3 := sT2.tail
    clear sT0 sT1 sT2 sT3
    go_wp2
    refine bodyPost_ret (v := .tuple #[.agg #[.slice A0 m.ws.length c0, .slice A1 m.pend.length c1, .slice A2 m.tlb.length c2, .slice A3 m.wc.length c3], .agg #[.int .i64 2, .int .i64 0, .int .i64 0, .int .u64 0]]) (by simp [results, Try.results4, go_sem, *]) rfl ?_
    rw [HE.out]
    have z := ret_boxes (l1 := [(mb, #[.slice A0 m.ws.length c0, .slice A1 m.pend.length c1, .slice A2 m.tlb.length c2, .slice A3 m.wc.length c3], 30)]) S6.out O6.out (by decide) (by decide)
    exact ⟨_, _, _, _, rfl, (z _ _ _ _ _ _ _ _).1, (z _ _ _ _ _ _ _ _).2⟩
  have HOK := Lib.hid hok
  have HF : Hid (framesOf m.ws.length = ((m.ws.length / 16 : Nat) : Int)) := Lib.hid (frames1 hok)
  have hfz : ((((m.ws.length / 16 : Nat) : Int)) == 0) = false := by have := hok.2.1; simp; omega
  obtain ⟨f, hf⟩ : ∃ f, ((m.ws.length / 16 : Nat) : Int) = f := ⟨_, rfl⟩
  rw [hf] at hfz HF
  obtain ⟨⟨kd, oa, ob, wd⟩, hop⟩ : ∃ o, opD c q m = o := ⟨_, rfl⟩
  have HOP := Lib.hid hop
  have HX3 : Hid (X = if 7 ≤ how ∧ how ≤ 10 then
        match m.tlb[(q + 5) % m.tlb.length]? with
        | some e => if (stepAll m ⟨1, addrP m.ws e.Page, 0, 0⟩).2 = 0 then (brokenM m (addrP m.ws e.Page) (decide (how = 10)), ⟨1, addrP m.ws e.Page, 0, enc 3 (3, ((q + 5 : Nat) : Int), 3)⟩) else (m, ⟨kd, oa, ob, wd⟩)
        | none => (m, ⟨kd, oa, ob, wd⟩)
      else (m, ⟨kd, oa, ob, wd⟩)) := Lib.hid (by rw [HX2.out, if_pos hok, hop])
  clear hok hf hop HX2
  go_upto_region 7 with (go_at_call 11; refine (frames_b A0 m.ws.length c0 f HF.out _ hcap0 hcap1).mono ?_; rintro e w6 ⟨rfl, hb6⟩; have S6 := Lib.hid (S5.out.below hb6); have O6 := Lib.hid (O5.out.below hb6); clear hb6)
  clear z0_0 z0_1 z0_2 z0_3
  have sT0 := S6.out
  obtain ⟨z0_0, z0_1, z0_2, z0_3⟩ := sT0.c4
  have sT1 := sT0.tail
  clear sT0 sT1
  go_upto_region 8 with (go_at_call 12; refine (drawOp_any v c q _ _ _ _ m _ (R.out.below S6.out.b) HB.out hL (by omega) O6.out.rd HOK.out HMD.out.1).mono ?_; rw [HOP.out]; rintro e w7 ⟨rfl, hb7⟩; have S7 := Lib.hid (S6.out.below hb7); have O7 := Lib.hid (O6.out.below hb7); clear hb7)
  clear z0_0 z0_1 z0_2 z0_3
  clear S5 O5 S6 O6
  refine st_genO (S7.out.push _ _) (O7.out.below (allocB (Below.refl _ _) _)) (fun w8 S8' O8' => ?_)
  obtain ⟨pb, hpb⟩ : ∃ b, w7.heap.size = b := ⟨_, rfl⟩
  rw [hpb] at S8' ⊢
  have S8 : Hid (St w [(pb, #[.int .i64 kd, .int .i64 oa, .int .i64 ob, .int .u64 wd], 33), (mb, #[.slice A0 m.ws.length c0, .slice A1 m.pend.length c1, .slice A2 m.tlb.length c2, .slice A3 m.wc.length c3], 30), (w.heap.size + 1, #[.int .i64 0, .int .i64 0, .int .i64 0, .int .u64 0], 33), (w.heap.size, #[.slice none 0 0, .slice none 0 0, .slice none 0 0, .slice none 0 0], 30)] w8) := Lib.hid S8'
  have O8 := Lib.hid O8'
  have hord := S8'.ord
  simp only [List.pairwise_cons, List.mem_cons, List.not_mem_nil, or_false, forall_eq_or_imp, forall_eq] at hord
  have hm1 : w.heap.size + 1 < mb := hord.2.1.1
  have hm2 : mb < pb := hord.1.1
  clear S8' O8' S7 O7 hpb hord
  have sT0 := S8.out
  obtain ⟨z0_0, z0_1, z0_2, z0_3⟩ := sT0.c4
  have sT1 := sT0.tail
  obtain ⟨z1_0, z1_1, z1_2, z1_3⟩ := sT1.c4
  have sT2 := sT1.tail
  obtain ⟨z2_0, z2_1, z2_2, z2_3⟩ := sT2.c4
  have zF2_0 := sT2.f 0
  have zF2_1 := sT2.f 1
  have zF2_2 := sT2.f 2
  have zF2_3 := sT2.f 3
  have sT3 := sT2.tail
  obtain ⟨z3_0, z3_1, z3_2, z3_3⟩ := sT3.c4
  have zF3_0 := sT3.f 0
  have zF3_1 := sT3.f 1
  have zF3_2 := sT3.f 2
  have zF3_3 := sT3.f 3
  have sT4 := sT3.tail
  clear sT0 sT1 sT2 sT3 sT4
  by_cases hg : (7 ≤ how ∧ how ≤ 10) ∧ 0 < m.tlb.length
  rotate_left
  · have HE : Hid (X = (m, ⟨kd, oa, ob, wd⟩)) := Lib.hid (by
      rw [HX3.out]
      split
      · rename_i h
        have h0 : m.tlb = [] := List.length_eq_zero_iff.1 (by omega)
        rw [h0]; rfl
      · rfl)
    have hgs : (decide (7 ≤ how) = false) ∨ (decide (7 ≤ how) = true ∧ decide (how ≤ 10) = false) ∨ (decide (7 ≤ how) = true ∧ decide (how ≤ 10) = true ∧ decide (0 < m.tlb.length) = false) := by
      by_cases a7 : 7 ≤ how
      · by_cases a10 : how ≤ 10
        · exact Or.inr (Or.inr ⟨decide_eq_true a7, decide_eq_true a10, decide_eq_false (fun h => hg ⟨⟨a7, a10⟩, h⟩)⟩)
        · exact Or.inr (Or.inl ⟨decide_eq_true a7, decide_eq_false a10⟩)
      · exact Or.inl (decide_eq_false a7)
    clear hg
    rcases hgs with g1 | ⟨g1, g2⟩ | ⟨g1, g2, g3⟩
    all_goals
      go_upto_region 18 with fail
      go_region
      go_wp2
      refine bodyPost_ret (v := .tuple #[.agg #[.slice A0 m.ws.length c0, .slice A1 m.pend.length c1, .slice A2 m.tlb.length c2, .slice A3 m.wc.length c3], .agg #[.int .i64 kd, .int .i64 oa, .int .i64 ob, .int .u64 wd]]) (by simp [results, Try.results4, go_sem, *]) rfl ?_
      rw [HE.out]
      have z := ret_boxes (l1 := [(pb, #[.int .i64 kd, .int .i64 oa, .int .i64 ob, .int .u64 wd], 33), (mb, #[.slice A0 m.ws.length c0, .slice A1 m.pend.length c1, .slice A2 m.tlb.length c2, .slice A3 m.wc.length c3], 30)]) S8.out O8.out (by decide) (by decide)
      exact ⟨_, _, _, _, rfl, (z _ _ _ _ _ _ _ _).1.drew, (z _ _ _ _ _ _ _ _).2.drew⟩
  obtain ⟨⟨h7, h10⟩, hlen⟩ := hg
  have g1 : decide (7 ≤ how) = true := decide_eq_true h7
  have g2 : decide (how ≤ 10) = true := decide_eq_true h10
  have g3 : decide (0 < m.tlb.length) = true := decide_eq_true hlen
  have hne11 : ¬ how = 11 := by omega
  have HVM : Hid (Valid m) := Lib.hid (by have e := HMD.out.2.2 hne11; rw [e]; exact HV.out (by rw [← e]; exact HOK.out))
  obtain ⟨z5, hz5⟩ : ∃ z : Int, ((q + 4 + 1 : Nat) : Int) = z := ⟨_, rfl⟩
  obtain ⟨t, ht⟩ : ∃ t : Nat, (q + 5) % m.tlb.length = t := ⟨_, rfl⟩
  have htl : t < m.tlb.length := by rw [← ht]; exact Nat.mod_lt _ hlen
  have htl' : (t : Int) < (m.tlb.length : Int) := by omega
  have hz50 : 0 ≤ z5 ∧ z5 ≤ 5000 := by omega
  have emt : Int.tmod z5 (m.tlb.length : Int) = (t : Int) := by
    rw [Int.tmod_eq_emod_of_nonneg hz50.1, ← hz5, ← ht, show q + 4 + 1 = q + 5 by omega]; simp
  have hd1 : ¬ (m.tlb.length : Int) = 0 := by omega
  have hd2 : ((m.tlb.length : Int) == 0) = false := by rw [beq_eq_false_iff_ne]; omega
  have hd3 : (m.tlb.length == 0) = false := by rw [beq_eq_false_iff_ne]; omega
  have hd4 : ¬ m.tlb = [] := fun h => by rw [h] at hlen; simp at hlen
  have HZ5 := Lib.hid hz5
  obtain ⟨tk, htk⟩ : ∃ x, takeP c (q + 4) 2 = x := ⟨_, rfl⟩
  have HTK := Lib.hid htk
  have hq4 : q + 4 ≤ 100000 := by omega
  clear h7 h10 hz5 htk hz50
  go_upto_region 10 with (go_at_call 8; refine (take_any v c (q + 4) 2 _ (R.out.below S8.out.b) HB.out hL hq4 (by omega)).mono ?_; rw [HTK.out, HZ5.out]; rintro e w9 ⟨rfl, hb9⟩; have S9 := Lib.hid (S8.out.below hb9); have O9 := Lib.hid (O8.out.below hb9); clear hb9)
  clear z0_0 z0_1 z0_2 z0_3 z1_0 z1_1 z1_2 z1_3 z2_0 z2_1 z2_2 z2_3 zF2_0 zF2_1 zF2_2 zF2_3 z3_0 z3_1 z3_2 z3_3 zF3_0 zF3_1 zF3_2 zF3_3
  clear S8 O8
  obtain ⟨ad, x, eA, hx, q0, q1, q2, q3, q4⟩ := STlb.at O9.out.rd.tlb htl
  cases eA
  have hok := HVM.out.tlb x (List.mem_of_getElem? hx)
  obtain ⟨hxp0, hxp1⟩ := hok.2.1
  obtain ⟨at0, hat⟩ : ∃ a, addrP m.ws x.Page = a := ⟨_, rfl⟩
  obtain ⟨⟨M1, c1'⟩, hs1⟩ : ∃ s, stepAll m ⟨1, at0, 0, 0⟩ = s := ⟨_, rfl⟩
  have HX4 : Hid (X = if c1' = 0 then (brokenM m at0 (decide (how = 10)), ⟨1, at0, 0, enc 3 (3, ((q + 5 : Nat) : Int), 3)⟩) else (m, ⟨kd, oa, ob, wd⟩)) := Lib.hid (by
    rw [HX3.out, if_pos ⟨of_decide_eq_true g1, of_decide_eq_true g2⟩, ht, hx]
    simp only [hat, hs1])
  have HAT := Lib.hid hat
  have HS1 := Lib.hid hs1
  have HWW : Hid (WfW m.ws) := Lib.hid ⟨HMD.out.1.1, HOK.out⟩
  have BR : ∀ p : BW w9, Rd wEnc 1 p.x (.slice A0 m.ws.length c0) m.ws := fun p => O9.out.rd.ws.below p.h
  have HBR := Lib.hid BR
  have k0 := BW.cell q0
  clear hx hok hat hs1 BR q0 q1 q2 q3 q4 HX3
  have sT0 := S9.out
  have sT1 := sT0.tail
  obtain ⟨z1_0, z1_1, z1_2, z1_3⟩ := sT1.c4
  have sT2 := sT1.tail
  have zB1_0 := BW.cell z1_0
  have zB1_1 := BW.cell z1_1
  have zB1_2 := BW.cell z1_2
  have zB1_3 := BW.cell z1_3
  clear z1_0 z1_1 z1_2 z1_3
  clear sT0 sT1 sT2
  (refine wp_region_below (by kernel_rfl) (by kernel_rfl) ?_; (repeat (first | (go_big_quiet_step (first | (go_at_call 13; exact BW.calls (addr_any _ m.ws x.Page _ (HBR.out _) HWW.out ⟨hxp0, hxp1⟩ at0 HAT.out)))) | ((with_reducible refine wpQuiet_step ?_); intro K hK; go_simp; first | ((with_reducible refine hK _ ?_); clear hK K) | (apply Exists.intro; refine ⟨fun _ => ?_, hK _ ?_⟩; (first | (go_at_call 13; exact BW.calls (addr_any _ m.ws x.Page _ (HBR.out _) HWW.out ⟨hxp0, hxp1⟩ at0 HAT.out))); clear hK K)))); (with_reducible refine wpQuiet_nil ?_); intro wq hw'; obtain ⟨⟨wy, hbq⟩, hw''⟩ := hw'; subst hw'')
  have S10 := Lib.hid (S9.out.below hbq)
  have O10 := Lib.hid (O9.out.below hbq)
  clear zB1_0 zB1_1 zB1_2 zB1_3
  clear hbq k0 HBR S9 O9
  have sT0 := S10.out
  have sT1 := sT0.tail
  obtain ⟨z1_0, z1_1, z1_2, z1_3⟩ := sT1.c4
  have sT2 := sT1.tail
  clear sT0 sT1 sT2
  go_upto_region 12 with (go_at_call 5; refine (specStep_any _ _ _ _ m ⟨1, at0, 0, 0⟩ _ O10.out.rd HMD.out.1 opOk9).mono ?_; rw [HS1.out]; rintro e w11 ⟨x0, x1, x2, x3, rfl, o11, hb11⟩; obtain ⟨E0, f0, E1, f1, E2, f2, E3, f3, rfl, rfl, rfl, rfl⟩ := o11.shape; have S11 := Lib.hid (S10.out.below hb11); have O11 := Lib.hid (O10.out.below hb11); have N11 := Lib.hid (o11.lower S10.out.b.size); clear o11 hb11)
  obtain ⟨bb, hbb⟩ : ∃ b, w11.heap.size = b := ⟨_, rfl⟩
  refine world_gen (fun w' => St w [(w11.heap.size, #[.slice E0 M1.ws.length f0, .slice E1 M1.pend.length f1, .slice E2 M1.tlb.length f2, .slice E3 M1.wc.length f3], 30), (pb, #[.int .i64 kd, .int .i64 oa, .int .i64 ob, .int .u64 wd], 33), (mb, #[.slice A0 m.ws.length c0, .slice A1 m.pend.length c1, .slice (some ad) m.tlb.length c2, .slice A3 m.wc.length c3], 30), (w.heap.size + 1, #[.int .i64 0, .int .i64 0, .int .i64 0, .int .u64 0], 33), (w.heap.size, #[.slice none 0 0, .slice none 0 0, .slice none 0 0, .slice none 0 0], 30)] w' ∧ OwnM w.heap.size w' (.slice A0 m.ws.length c0) (.slice A1 m.pend.length c1) (.slice (some ad) m.tlb.length c2) (.slice A3 m.wc.length c3) m ∧ OwnM w.heap.size w' (.slice E0 M1.ws.length f0) (.slice E1 M1.pend.length f1) (.slice E2 M1.tlb.length f2) (.slice E3 M1.wc.length f3) M1) ⟨S11.out.push _ _, O11.out.below (allocB (Below.refl _ _) _), N11.out.below (allocB (Below.refl _ _) _)⟩ (fun w12 h12 => ?_)
  rw [hbb] at h12 ⊢
  have S12 := Lib.hid h12.1
  have O12 := Lib.hid h12.2.1
  have N12 := Lib.hid h12.2.2
  clear z1_0 z1_1 z1_2 z1_3
  clear h12 hbb S10 O10 S11 O11 N11
  by_cases hc : c1' = 0
  rotate_left
  · have hcb : (c1' == 0) = false := by simpa using hc
    have HE : Hid (X = (m, ⟨kd, oa, ob, wd⟩)) := Lib.hid (by rw [HX4.out, if_neg hc])
    have HC := Lib.hid hc
    clear hc
    have sT0 := S12.out
    have sT1 := sT0.tail
    obtain ⟨z1_0, z1_1, z1_2, z1_3⟩ := sT1.c4
    have sT2 := sT1.tail
    obtain ⟨z2_0, z2_1, z2_2, z2_3⟩ := sT2.c4
    have sT3 := sT2.tail
    obtain ⟨z3_0, z3_1, z3_2, z3_3⟩ := sT3.c4
    have zF3_0 := sT3.f 0
    have zF3_1 := sT3.f 1
    have zF3_2 := sT3.f 2
    have zF3_3 := sT3.f 3
    have sT4 := sT3.tail
    obtain ⟨z4_0, z4_1, z4_2, z4_3⟩ := sT4.c4
    have zF4_0 := sT4.f 0
    have zF4_1 := sT4.f 1
    have zF4_2 := sT4.f 2
    have zF4_3 := sT4.f 3
    have sT5 := sT4.tail
    clear sT0 sT1 sT2 sT3 sT4 sT5
    go_upto_region 18 with fail
    go_region
    go_wp2
    refine bodyPost_ret (v := .tuple #[.agg #[.slice A0 m.ws.length c0, .slice A1 m.pend.length c1, .slice (some ad) m.tlb.length c2, .slice A3 m.wc.length c3], .agg #[.int .i64 kd, .int .i64 oa, .int .i64 ob, .int .u64 wd]]) (by simp [results, Try.results4, go_sem, *]) rfl ?_
    rw [HE.out]
    have z := ret_boxes (l1 := [(bb, #[.slice E0 M1.ws.length f0, .slice E1 M1.pend.length f1, .slice E2 M1.tlb.length f2, .slice E3 M1.wc.length f3], 30), (pb, #[.int .i64 kd, .int .i64 oa, .int .i64 ob, .int .u64 wd], 33), (mb, #[.slice A0 m.ws.length c0, .slice A1 m.pend.length c1, .slice (some ad) m.tlb.length c2, .slice A3 m.wc.length c3], 30)]) S12.out O12.out (by decide) (by decide)
    exact ⟨_, _, _, _, rfl, (z _ _ _ _ _ _ _ _).1.drew, (z _ _ _ _ _ _ _ _).2.drew⟩
  subst hc
  have hv1 : Valid M1 ∧ WfM M1 := by
    have h := stepS_valid HVM.out HMD.out.1 (opOk9 (a := at0))
    have e := HS1.out
    unfold stepAll at e
    rw [if_pos HVM.out] at e
    rw [e] at h
    exact h
  have HV1 := Lib.hid hv1
  have okD : (⟨2, 0, 0, 0⟩ : SOp).ok := ⟨by simp, by simp⟩
  have okT : (⟨3, 0, 4096, 0⟩ : SOp).ok := ⟨by simp, by simp⟩
  have HOD := Lib.hid okD
  have HOT := Lib.hid okT
  obtain ⟨⟨M2, c2'⟩, hs2⟩ : ∃ s, stepAll M1 ⟨2, 0, 0, 0⟩ = s := ⟨_, rfl⟩
  have hv2 : Valid M2 ∧ WfM M2 := by
    have h := stepS_valid hv1.1 hv1.2 okD
    have e := hs2
    unfold stepAll at e
    rw [if_pos hv1.1] at e
    rw [e] at h
    exact h
  obtain ⟨⟨M3, c3'⟩, hs3⟩ : ∃ s, stepAll M2 ⟨3, 0, 4096, 0⟩ = s := ⟨_, rfl⟩
  have hv3 : Valid M3 ∧ WfM M3 := by
    have h := stepS_valid hv2.1 hv2.2 okT
    have e := hs3
    unfold stepAll at e
    rw [if_pos hv2.1] at e
    rw [e] at h
    exact h
  obtain ⟨⟨M4, c4'⟩, hs4⟩ : ∃ s, stepAll M3 ⟨2, 0, 0, 0⟩ = s := ⟨_, rfl⟩
  have HBK : Hid (∀ b : Bool, brokenM m at0 b = if b = true then M4 else M2) := Lib.hid (fun b => by
    unfold brokenM
    simp only
    rw [show (stepAll m ⟨1, at0, 0, 0⟩).1 = M1 by rw [HS1.out], show (stepAll M1 ⟨2, 0, 0, 0⟩).1 = M2 by rw [hs2], show (stepAll M2 ⟨3, 0, 4096, 0⟩).1 = M3 by rw [hs3], show (stepAll M3 ⟨2, 0, 0, 0⟩).1 = M4 by rw [hs4]])
  have HV2 := Lib.hid hv2
  have HV3 := Lib.hid hv3
  have HS2 := Lib.hid hs2
  have HS3 := Lib.hid hs3
  have HS4 := Lib.hid hs4
  clear hv1 hv2 hv3 hs2 hs3 hs4 okD okT
  have sT0 := S12.out
  obtain ⟨z0_0, z0_1, z0_2, z0_3⟩ := sT0.c4
  have sT1 := sT0.tail
  have sT2 := sT1.tail
  obtain ⟨z2_0, z2_1, z2_2, z2_3⟩ := sT2.c4
  have zF2_0 := sT2.f 0
  have zF2_1 := sT2.f 1
  have zF2_2 := sT2.f 2
  have zF2_3 := sT2.f 3
  have sT3 := sT2.tail
  clear sT0 sT1 sT2 sT3
  go_upto_region 14 with (go_at_call 5; refine (specStep_any _ _ _ _ M1 ⟨2, 0, 0, 0⟩ _ N12.out.rd HV1.out.2 HOD.out).mono ?_; rw [HS2.out]; rintro e w13 ⟨x0, x1, x2, x3, rfl, o13, hb13⟩; obtain ⟨G0, g0', G1, g1', G2, g2', G3, g3', rfl, rfl, rfl, rfl⟩ := o13.shape; have S13 := Lib.hid (S12.out.below hb13); have N13 := Lib.hid (o13.lower S12.out.b.size); clear o13 hb13; clear z0_0 z0_1 z0_2 z0_3 z2_0 z2_1 z2_2 z2_3 zF2_0 zF2_1 zF2_2 zF2_3; have sT0 := S13.out; have sT1 := sT0.tail; have sT2 := sT1.tail; obtain ⟨z2_0, z2_1, z2_2, z2_3⟩ := sT2.c4; have zF2_0 := sT2.f 0; have zF2_1 := sT2.f 1; have zF2_2 := sT2.f 2; have zF2_3 := sT2.f 3; have sT3 := sT2.tail; clear sT0 sT1 sT2 sT3)
  clear z2_0 z2_1 z2_2 z2_3 zF2_0 zF2_1 zF2_2 zF2_3
  clear S12 O12 N12
  refine st_genO (S13.out.s2 _ _ _ _) (N13.out.set4 S13.out.tail.tail.head (by decide) _ _ _ _) (fun w14 S14' O14' => ?_)
  have S14 := Lib.hid S14'
  have O14 := Lib.hid O14'
  clear S14' O14' S13 N13
  by_cases h10 : how = 10
  rotate_left
  · have g10 : (how == 10) = false := by simpa using h10
    have HE : Hid (X = (M2, ⟨1, at0, 0, enc 3 (3, z5, 3)⟩)) := Lib.hid (by rw [HX4.out, if_pos trivial, HBK.out, decide_eq_false h10, show ((q + 5 : Nat) : Int) = z5 by rw [← HZ5.out]]; rfl)
    have H10 := Lib.hid h10
    clear h10
    go_upto_region 17 with fail
    have SD : St w [(bb, #[.slice E0 M1.ws.length f0, .slice E1 M1.pend.length f1, .slice E2 M1.tlb.length f2, .slice E3 M1.wc.length f3], 30), (pb, #[.int .i64 kd, .int .i64 oa, .int .i64 ob, .int .u64 wd], 33), (mb, #[.slice G0 M2.ws.length g0', .slice G1 M2.pend.length g1', .slice G2 M2.tlb.length g2', .slice G3 M2.wc.length g3'], 30), (w.heap.size + 1, #[.int .i64 0, .int .i64 0, .int .i64 0, .int .u64 0], 33), (w.heap.size, #[.slice none 0 0, .slice none 0 0, .slice none 0 0, .slice none 0 0], 30)] w14.drew := S14.out.drew
    have OD := O14.out.drew
    have HSD := Lib.hid SD
    have HOD2 := Lib.hid OD
    clear SD OD
    have sT0 := HSD.out
    have sT1 := sT0.tail
    have sT2 := sT1.tail
    obtain ⟨z2_0, z2_1, z2_2, z2_3⟩ := sT2.c4
    have sT3 := sT2.tail
    obtain ⟨z3_0, z3_1, z3_2, z3_3⟩ := sT3.c4
    have zF3_0 := sT3.f 0
    have zF3_1 := sT3.f 1
    have zF3_2 := sT3.f 2
    have zF3_3 := sT3.f 3
    have sT4 := sT3.tail
    obtain ⟨z4_0, z4_1, z4_2, z4_3⟩ := sT4.c4
    have zF4_0 := sT4.f 0
    have zF4_1 := sT4.f 1
    have zF4_2 := sT4.f 2
    have zF4_3 := sT4.f 3
    have sT5 := sT4.tail
    clear sT0 sT1 sT2 sT3 sT4 sT5
    refine wp_region_F (fun w' => w'.cell? ⟨mb, 0, none⟩ = some (.slice G0 M2.ws.length g0') ∧ w'.cell? ⟨mb, 1, none⟩ = some (.slice G1 M2.pend.length g1') ∧ w'.cell? ⟨mb, 2, none⟩ = some (.slice G2 M2.tlb.length g2') ∧ w'.cell? ⟨mb, 3, none⟩ = some (.slice G3 M2.wc.length g3')) 7 (by kernel_rfl) ⟨z2_0, z2_1, z2_2, z2_3⟩ (fun hS => ?_)
    refine wpAnyF_take (i := 0) (v := ?_) 103 rfl rfl (by kernel_rfl) (by kernel_rfl) (by kernel_rfl) (by kernel_rfl) (fun _ _ _ h => h) (Or.inl ⟨by rfl, fun w' hSw => ?_⟩) hS ?_
    rotate_left
    · (try dsimp only at hSw); go_simp; (try with_reducible rfl)
    try simp only [Act.put, List.setIfInBounds_toArray, List.set_cons_zero, List.set_cons_succ]
    refine wpAnyF_take (i := 1) (v := ?_) 104 rfl rfl (by kernel_rfl) (by kernel_rfl) (by kernel_rfl) (by kernel_rfl) (fun _ _ _ h => h) (Or.inl ⟨by rfl, fun w' hSw => ?_⟩) hS ?_
    rotate_left
    · (try dsimp only at hSw); go_simp; (try with_reducible rfl)
    try simp only [Act.put, List.setIfInBounds_toArray, List.set_cons_zero, List.set_cons_succ]
    refine wpAnyF_take (i := 2) (v := ?_) 105 rfl rfl (by kernel_rfl) (by kernel_rfl) (by kernel_rfl) (by kernel_rfl) (fun _ _ _ h => h) (Or.inl ⟨by rfl, fun w' hSw => ?_⟩) hS ?_
    rotate_left
    · (try dsimp only at hSw); go_simp; (try with_reducible rfl)
    try simp only [Act.put, List.setIfInBounds_toArray, List.set_cons_zero, List.set_cons_succ]
    refine wpAnyF_take (i := 3) (v := ?_) 106 rfl rfl (by kernel_rfl) (by kernel_rfl) (by kernel_rfl) (by kernel_rfl) (fun _ _ _ h => h) (Or.inl ⟨by rfl, fun w' hSw => ?_⟩) hS ?_
    rotate_left
    · (try dsimp only at hSw); go_simp; (try with_reducible rfl)
    try simp only [Act.put, List.setIfInBounds_toArray, List.set_cons_zero, List.set_cons_succ]
    refine wpAnyF_one (i := 4) (by kernel_rfl) rfl (by rfl) (fun K hK => ?_)
    go_simp
    go_at_call 14
    refine (specEncode_any 3 3 z5 3 _).mono ?_
    rintro e w20 ⟨rfl, hb⟩
    have SF := Lib.hid (HSD.out.below hb)
    have OF := Lib.hid (HOD2.out.below hb)
    clear hb
    clear z2_0 z2_1 z2_2 z2_3 z3_0 z3_1 z3_2 z3_3 zF3_0 zF3_1 zF3_2 zF3_3 z4_0 z4_1 z4_2 z4_3 zF4_0 zF4_1 zF4_2 zF4_3
    have sT0 := SF.out
    have sT1 := sT0.tail
    have sT2 := sT1.tail
    obtain ⟨z2_0, z2_1, z2_2, z2_3⟩ := sT2.c4
    have sT3 := sT2.tail
    obtain ⟨z3_0, z3_1, z3_2, z3_3⟩ := sT3.c4
    have zF3_0 := sT3.f 0
    have zF3_1 := sT3.f 1
    have zF3_2 := sT3.f 2
    have zF3_3 := sT3.f 3
    have sT4 := sT3.tail
    obtain ⟨z4_0, z4_1, z4_2, z4_3⟩ := sT4.c4
    have zF4_0 := sT4.f 0
    have zF4_1 := sT4.f 1
    have zF4_2 := sT4.f 2
    have zF4_3 := sT4.f 3
    have sT5 := sT4.tail
    clear sT0 sT1 sT2 sT3 sT4 sT5
    refine hK _ _ (fun _ => ⟨z2_0, z2_1, z2_2, z2_3⟩) ?_
    clear hK K
    try simp only [Act.put, List.setIfInBounds_toArray, List.set_cons_zero, List.set_cons_succ]
    have hS : (fun w' => w'.cell? ⟨mb, 0, none⟩ = some (.slice G0 M2.ws.length g0') ∧ w'.cell? ⟨mb, 1, none⟩ = some (.slice G1 M2.pend.length g1') ∧ w'.cell? ⟨mb, 2, none⟩ = some (.slice G2 M2.tlb.length g2') ∧ w'.cell? ⟨mb, 3, none⟩ = some (.slice G3 M2.wc.length g3')) w20 := ⟨z2_0, z2_1, z2_2, z2_3⟩
    refine wpAnyF_take (i := 5) (v := ?_) 108 rfl rfl (by kernel_rfl) (by kernel_rfl) (by kernel_rfl) (by kernel_rfl) (fun _ _ _ h => h) (Or.inl ⟨by rfl, fun w' hSw => ?_⟩) hS ?_
    rotate_left
    · (try dsimp only at hSw); go_simp; (try with_reducible rfl)
    try simp only [Act.put, List.setIfInBounds_toArray, List.set_cons_zero, List.set_cons_succ]
    refine wpAnyF_one (i := 6) (by kernel_rfl) rfl (by rfl) (fun K hK => ?_)
    go_simp
    have nn : ¬ w.heap.size = mb := by omega
    refine hK _ _ (fun _ => ⟨far4 z2_0 nn _ _ _ _, far4 z2_1 nn _ _ _ _, far4 z2_2 nn _ _ _ _, far4 z2_3 nn _ _ _ _⟩) ?_
    clear hK K
    try simp only [Act.put, List.setIfInBounds_toArray, List.set_cons_zero, List.set_cons_succ]
    refine wpAnyF_one (i := 7) (by kernel_rfl) rfl (by rfl) (fun K hK => ?_)
    go_simp
    refine hK _ _ (fun h => absurd rfl h) ?_
    clear hK K
    try simp only [Act.put, List.setIfInBounds_toArray, List.set_cons_zero, List.set_cons_succ]
    refine wpAnyF_done (by kernel_rfl) ?_ _
    refine NoPanic.normal ?_
    go_wp2
    refine bodyPost_ret (v := .tuple #[.agg #[.slice G0 M2.ws.length g0', .slice G1 M2.pend.length g1', .slice G2 M2.tlb.length g2', .slice G3 M2.wc.length g3'], .agg #[.int .i64 1, .int .i64 at0, .int .i64 0, .int .u64 (enc 3 (3, z5, 3))]]) (by simp [results, Try.results4, go_sem, *]) rfl ?_
    rw [HE.out]
    have zz := ret_boxes (l1 := [(bb, #[.slice E0 M1.ws.length f0, .slice E1 M1.pend.length f1, .slice E2 M1.tlb.length f2, .slice E3 M1.wc.length f3], 30), (pb, #[.int .i64 kd, .int .i64 oa, .int .i64 ob, .int .u64 wd], 33), (mb, #[.slice G0 M2.ws.length g0', .slice G1 M2.pend.length g1', .slice G2 M2.tlb.length g2', .slice G3 M2.wc.length g3'], 30)]) SF.out OF.out (by decide) (by decide)
    exact ⟨_, _, _, _, rfl, (zz _ _ _ _ _ _ _ _).1, (zz _ _ _ _ _ _ _ _).2⟩
  have g10 : (how == 10) = true := by simpa using h10
  have HE : Hid (X = (M4, ⟨1, at0, 0, enc 3 (3, z5, 3)⟩)) := Lib.hid (by rw [HX4.out, if_pos trivial, HBK.out, decide_eq_true h10, show ((q + 5 : Nat) : Int) = z5 by rw [← HZ5.out]]; rfl)
  have H10 := Lib.hid h10
  clear h10
  go_upto_region 15 with fail
  have sT0 := S14.out
  have sT1 := sT0.tail
  have sT2 := sT1.tail
  obtain ⟨z2_0, z2_1, z2_2, z2_3⟩ := sT2.c4
  have zF2_0 := sT2.f 0
  have zF2_1 := sT2.f 1
  have zF2_2 := sT2.f 2
  have zF2_3 := sT2.f 3
  have sT3 := sT2.tail
  clear sT0 sT1 sT2 sT3
  go_upto_region 16 with (go_at_call 5; refine (specStep_any _ _ _ _ M2 ⟨3, 0, 4096, 0⟩ _ O14.out.rd HV2.out.2 HOT.out).mono ?_; rw [HS3.out]; rintro e w15 ⟨x0, x1, x2, x3, rfl, o15, hb15⟩; obtain ⟨J0, j0', J1, j1', J2, j2', J3, j3', rfl, rfl, rfl, rfl⟩ := o15.shape; have S15 := Lib.hid (S14.out.below hb15); have N15 := Lib.hid (o15.lower S14.out.b.size); clear o15 hb15; clear z2_0 z2_1 z2_2 z2_3 zF2_0 zF2_1 zF2_2 zF2_3; have sT0 := S15.out; have sT1 := sT0.tail; have sT2 := sT1.tail; obtain ⟨z2_0, z2_1, z2_2, z2_3⟩ := sT2.c4; have zF2_0 := sT2.f 0; have zF2_1 := sT2.f 1; have zF2_2 := sT2.f 2; have zF2_3 := sT2.f 3; have sT3 := sT2.tail; clear sT0 sT1 sT2 sT3)
  refine st_genO (S15.out.s2 _ _ _ _) (N15.out.set4 S15.out.tail.tail.head (by decide) _ _ _ _) (fun w16 S16' O16' => ?_)
  have S16 := Lib.hid S16'
  have O16 := Lib.hid O16'
  clear S16' O16' S15 N15
  clear z2_0 z2_1 z2_2 z2_3 zF2_0 zF2_1 zF2_2 zF2_3
  have sT0 := S16.out
  have sT1 := sT0.tail
  have sT2 := sT1.tail
  obtain ⟨z2_0, z2_1, z2_2, z2_3⟩ := sT2.c4
  have zF2_0 := sT2.f 0
  have zF2_1 := sT2.f 1
  have zF2_2 := sT2.f 2
  have zF2_3 := sT2.f 3
  have sT3 := sT2.tail
  clear sT0 sT1 sT2 sT3
  go_upto_region 17 with (go_at_call 5; refine (specStep_any _ _ _ _ M3 ⟨2, 0, 0, 0⟩ _ O16.out.rd HV3.out.2 HOD.out).mono ?_; rw [HS4.out]; rintro e w17 ⟨x0, x1, x2, x3, rfl, o17, hb17⟩; obtain ⟨Y0, y0', Y1, y1', Y2, y2', Y3, y3', rfl, rfl, rfl, rfl⟩ := o17.shape; have S17 := Lib.hid (S16.out.below hb17); have N17 := Lib.hid (o17.lower S16.out.b.size); clear o17 hb17; clear z2_0 z2_1 z2_2 z2_3 zF2_0 zF2_1 zF2_2 zF2_3; have sT0 := S17.out; have sT1 := sT0.tail; have sT2 := sT1.tail; obtain ⟨z2_0, z2_1, z2_2, z2_3⟩ := sT2.c4; have zF2_0 := sT2.f 0; have zF2_1 := sT2.f 1; have zF2_2 := sT2.f 2; have zF2_3 := sT2.f 3; have sT3 := sT2.tail; clear sT0 sT1 sT2 sT3)
  refine st_genO (S17.out.s2 _ _ _ _) (N17.out.set4 S17.out.tail.tail.head (by decide) _ _ _ _) (fun w18 S18' O18' => ?_)
  have S18 := Lib.hid S18'
  have O18 := Lib.hid O18'
  clear S18' O18' S17 N17
  clear z2_0 z2_1 z2_2 z2_3 zF2_0 zF2_1 zF2_2 zF2_3
  go_upto_region 17 with fail
  have SD : St w [(bb, #[.slice E0 M1.ws.length f0, .slice E1 M1.pend.length f1, .slice E2 M1.tlb.length f2, .slice E3 M1.wc.length f3], 30), (pb, #[.int .i64 kd, .int .i64 oa, .int .i64 ob, .int .u64 wd], 33), (mb, #[.slice Y0 M4.ws.length y0', .slice Y1 M4.pend.length y1', .slice Y2 M4.tlb.length y2', .slice Y3 M4.wc.length y3'], 30), (w.heap.size + 1, #[.int .i64 0, .int .i64 0, .int .i64 0, .int .u64 0], 33), (w.heap.size, #[.slice none 0 0, .slice none 0 0, .slice none 0 0, .slice none 0 0], 30)] w18.drew := S18.out.drew
  have OD := O18.out.drew
  have HSD := Lib.hid SD
  have HOD2 := Lib.hid OD
  clear SD OD
  have sT0 := HSD.out
  have sT1 := sT0.tail
  have sT2 := sT1.tail
  obtain ⟨z2_0, z2_1, z2_2, z2_3⟩ := sT2.c4
  have sT3 := sT2.tail
  obtain ⟨z3_0, z3_1, z3_2, z3_3⟩ := sT3.c4
  have zF3_0 := sT3.f 0
  have zF3_1 := sT3.f 1
  have zF3_2 := sT3.f 2
  have zF3_3 := sT3.f 3
  have sT4 := sT3.tail
  obtain ⟨z4_0, z4_1, z4_2, z4_3⟩ := sT4.c4
  have zF4_0 := sT4.f 0
  have zF4_1 := sT4.f 1
  have zF4_2 := sT4.f 2
  have zF4_3 := sT4.f 3
  have sT5 := sT4.tail
  clear sT0 sT1 sT2 sT3 sT4 sT5
  refine wp_region_F (fun w' => w'.cell? ⟨mb, 0, none⟩ = some (.slice Y0 M4.ws.length y0') ∧ w'.cell? ⟨mb, 1, none⟩ = some (.slice Y1 M4.pend.length y1') ∧ w'.cell? ⟨mb, 2, none⟩ = some (.slice Y2 M4.tlb.length y2') ∧ w'.cell? ⟨mb, 3, none⟩ = some (.slice Y3 M4.wc.length y3')) 7 (by kernel_rfl) ⟨z2_0, z2_1, z2_2, z2_3⟩ (fun hS => ?_)
  refine wpAnyF_take (i := 0) (v := ?_) 103 rfl rfl (by kernel_rfl) (by kernel_rfl) (by kernel_rfl) (by kernel_rfl) (fun _ _ _ h => h) (Or.inl ⟨by rfl, fun w' hSw => ?_⟩) hS ?_
  rotate_left
  · (try dsimp only at hSw); go_simp; (try with_reducible rfl)
  try simp only [Act.put, List.setIfInBounds_toArray, List.set_cons_zero, List.set_cons_succ]
  refine wpAnyF_take (i := 1) (v := ?_) 104 rfl rfl (by kernel_rfl) (by kernel_rfl) (by kernel_rfl) (by kernel_rfl) (fun _ _ _ h => h) (Or.inl ⟨by rfl, fun w' hSw => ?_⟩) hS ?_
  rotate_left
  · (try dsimp only at hSw); go_simp; (try with_reducible rfl)
  try simp only [Act.put, List.setIfInBounds_toArray, List.set_cons_zero, List.set_cons_succ]
  refine wpAnyF_take (i := 2) (v := ?_) 105 rfl rfl (by kernel_rfl) (by kernel_rfl) (by kernel_rfl) (by kernel_rfl) (fun _ _ _ h => h) (Or.inl ⟨by rfl, fun w' hSw => ?_⟩) hS ?_
  rotate_left
  · (try dsimp only at hSw); go_simp; (try with_reducible rfl)
  try simp only [Act.put, List.setIfInBounds_toArray, List.set_cons_zero, List.set_cons_succ]
  refine wpAnyF_take (i := 3) (v := ?_) 106 rfl rfl (by kernel_rfl) (by kernel_rfl) (by kernel_rfl) (by kernel_rfl) (fun _ _ _ h => h) (Or.inl ⟨by rfl, fun w' hSw => ?_⟩) hS ?_
  rotate_left
  · (try dsimp only at hSw); go_simp; (try with_reducible rfl)
  try simp only [Act.put, List.setIfInBounds_toArray, List.set_cons_zero, List.set_cons_succ]
  refine wpAnyF_one (i := 4) (by kernel_rfl) rfl (by rfl) (fun K hK => ?_)
  go_simp
  go_at_call 14
  refine (specEncode_any 3 3 z5 3 _).mono ?_
  rintro e w20 ⟨rfl, hb⟩
  have SF := Lib.hid (HSD.out.below hb)
  have OF := Lib.hid (HOD2.out.below hb)
  clear hb
  clear z2_0 z2_1 z2_2 z2_3 z3_0 z3_1 z3_2 z3_3 zF3_0 zF3_1 zF3_2 zF3_3 z4_0 z4_1 z4_2 z4_3 zF4_0 zF4_1 zF4_2 zF4_3
  have sT0 := SF.out
  have sT1 := sT0.tail
  have sT2 := sT1.tail
  obtain ⟨z2_0, z2_1, z2_2, z2_3⟩ := sT2.c4
  have sT3 := sT2.tail
  obtain ⟨z3_0, z3_1, z3_2, z3_3⟩ := sT3.c4
  have zF3_0 := sT3.f 0
  have zF3_1 := sT3.f 1
  have zF3_2 := sT3.f 2
  have zF3_3 := sT3.f 3
  have sT4 := sT3.tail
  obtain ⟨z4_0, z4_1, z4_2, z4_3⟩ := sT4.c4
  have zF4_0 := sT4.f 0
  have zF4_1 := sT4.f 1
  have zF4_2 := sT4.f 2
  have zF4_3 := sT4.f 3
  have sT5 := sT4.tail
  clear sT0 sT1 sT2 sT3 sT4 sT5
  refine hK _ _ (fun _ => ⟨z2_0, z2_1, z2_2, z2_3⟩) ?_
  clear hK K
  try simp only [Act.put, List.setIfInBounds_toArray, List.set_cons_zero, List.set_cons_succ]
  have hS : (fun w' => w'.cell? ⟨mb, 0, none⟩ = some (.slice Y0 M4.ws.length y0') ∧ w'.cell? ⟨mb, 1, none⟩ = some (.slice Y1 M4.pend.length y1') ∧ w'.cell? ⟨mb, 2, none⟩ = some (.slice Y2 M4.tlb.length y2') ∧ w'.cell? ⟨mb, 3, none⟩ = some (.slice Y3 M4.wc.length y3')) w20 := ⟨z2_0, z2_1, z2_2, z2_3⟩
  refine wpAnyF_take (i := 5) (v := ?_) 108 rfl rfl (by kernel_rfl) (by kernel_rfl) (by kernel_rfl) (by kernel_rfl) (fun _ _ _ h => h) (Or.inl ⟨by rfl, fun w' hSw => ?_⟩) hS ?_
  rotate_left
  · (try dsimp only at hSw); go_simp; (try with_reducible rfl)
  try simp only [Act.put, List.setIfInBounds_toArray, List.set_cons_zero, List.set_cons_succ]
  refine wpAnyF_one (i := 6) (by kernel_rfl) rfl (by rfl) (fun K hK => ?_)
  go_simp
  have nn : ¬ w.heap.size = mb := by omega
  refine hK _ _ (fun _ => ⟨far4 z2_0 nn _ _ _ _, far4 z2_1 nn _ _ _ _, far4 z2_2 nn _ _ _ _, far4 z2_3 nn _ _ _ _⟩) ?_
  clear hK K
  try simp only [Act.put, List.setIfInBounds_toArray, List.set_cons_zero, List.set_cons_succ]
  refine wpAnyF_one (i := 7) (by kernel_rfl) rfl (by rfl) (fun K hK => ?_)
  go_simp
  refine hK _ _ (fun h => absurd rfl h) ?_
  clear hK K
  try simp only [Act.put, List.setIfInBounds_toArray, List.set_cons_zero, List.set_cons_succ]
  refine wpAnyF_done (by kernel_rfl) ?_ _
  refine NoPanic.normal ?_
  go_wp2
  refine bodyPost_ret (v := .tuple #[.agg #[.slice Y0 M4.ws.length y0', .slice Y1 M4.pend.length y1', .slice Y2 M4.tlb.length y2', .slice Y3 M4.wc.length y3'], .agg #[.int .i64 1, .int .i64 at0, .int .i64 0, .int .u64 (enc 3 (3, z5, 3))]]) (by simp [results, Try.results4, go_sem, *]) rfl ?_
  rw [HE.out]
  have zz := ret_boxes (l1 := [(bb, #[.slice E0 M1.ws.length f0, .slice E1 M1.pend.length f1, .slice E2 M1.tlb.length f2, .slice E3 M1.wc.length f3], 30), (pb, #[.int .i64 kd, .int .i64 oa, .int .i64 ob, .int .u64 wd], 33), (mb, #[.slice Y0 M4.ws.length y0', .slice Y1 M4.pend.length y1', .slice Y2 M4.tlb.length y2', .slice Y3 M4.wc.length y3'], 30)]) SF.out OF.out (by decide) (by decide)
  exact ⟨_, _, _, _, rfl, (zz _ _ _ _ _ _ _ _).1, (zz _ _ _ _ _ _ _ _).2⟩
end Go.Proofs.Ythphfcheencbgaa.Draw
