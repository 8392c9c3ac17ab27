/- Walk of the reference's l2Go. -/
import Derived.Test.YthphfcheencbgaaSpecAdd
import Derived.Test.YthphfcheencbgaaGoMath
import Derived.Test.YthphfcheencbgaaMachG
namespace Go.Proofs.Ythphfcheencbgaa.Mmu
open Go.RowKit Go.Proofs.Ythphfcheencbgaa.Base Go.Proofs.Ythphfcheencbgaa.Kinds Go.Proofs.Ythphfcheencbgaa.DecMath Go.Proofs.Ythphfcheencbgaa.L1
set_option linter.unusedVariables false
set_option linter.unusedSimpArgs false
theorem index_b (l p x : Int) (w : World) (hl : l = 1 ∨ l = 2 ∨ l = 3) (hp : 0 ≤ p) (hp' : p < 4096) (h : idx l p = x) : Calls Try.prog 33 #[.int .i64 p, .int .i64 l] w fun e w' => e = .returned (.int .i64 x) ∧ w' = w :=
  (l2Index_any l p w hl hp hp').mono (by rintro e w' ⟨rfl, rfl⟩; exact ⟨by rw [h], rfl⟩)
theorem bit_b (c : Int) (b : Nat) (r : Bool) (w : World) (hc : 0 ≤ c) (hc' : c ≤ 65535) (hb : b ≤ 100) (h : bitB c b = r) : Calls Try.prog 50 #[.int .i64 c, .int .i64 b] w fun e w' => e = .returned (.bool r) ∧ w' = w := by
  rw [← h]; exact choiceBit_any c b w hc hc' hb
theorem bit_c (c b : Int) (r : Bool) (w : World) (hc : 0 ≤ c) (hc' : c ≤ 65535) (hb : 0 ≤ b) (hb' : b ≤ 100) (h : bitB c b.toNat = r) : Calls Try.prog 50 #[.int .i64 c, .int .i64 b] w fun e w' => e = .returned (.bool r) ∧ w' = w := by
  obtain ⟨n, rfl⟩ := Int.eq_ofNat_of_zero_le hb
  exact bit_b c n r w hc hc' (by omega) (by simpa using h)
theorem read_b (v0 v1 v2 v3 : Value) (m : SM) (a : Int) (late : Bool) (x : Int) (w : World) (r : RdM w v0 v1 v2 v3 m) (ha : 0 ≤ a) (ha' : a < m.ws.length) (h0 : ∀ x ∈ m.pend, 0 ≤ x.Adr) (h : readP m a late = x) :
    Calls Try.prog 57 #[.agg #[v0, v1, v2, v3], .int .i64 a, .bool late] w fun e w' => e = .returned (.int .u64 x) ∧ Below w.heap.size w w' := by
  rw [← h]; exact read_any v0 v1 v2 v3 m a late w r ha ha' h0

theorem framesS_b (A : Option Addr) (n c : Nat) (x : Int) (w : World) (hn : n ≤ c) (hc : c ≤ 9223372036854775807) (h : framesOf n = x) : Calls Try.prog 11 #[.agg #[.slice A n c]] w fun e w' => e = .returned (.int .i64 x) ∧ Below w.heap.size w w' := by
  rw [← h]; exact l1Frames_any A n c w hn hc
/-- The answer of a walk: the machine, its lists the call's own, and the hit. -/
def GoPost (base : Nat) (w : World) (r : SM × Int × Int × Int × Int) (e : Ending) (w' : World) : Prop :=
  ∃ u0 u1 u2 u3, e = .returned (.tuple #[.agg #[u0, u1, u2, u3], .agg #[.int .i64 r.2.1, .int .i64 r.2.2.1, .int .i64 r.2.2.2.1, .int .i64 r.2.2.2.2]]) ∧ OwnM base w' u0 u1 u2 u3 r.1 ∧ Below w.heap.size w w'

set_option maxRecDepth 100000 in
set_option maxHeartbeats 4000000 in
theorem specGo_step (page choice : Int) (hp : 0 ≤ page ∧ page < 4096) (hc : 0 ≤ choice ∧ choice ≤ 65535) (n : Nat)
    (ih : ∀ (base : Nat) (v0 v1 v2 v3 : Value) (m : SM) (level frame : Int) (doomed : Bool) (w : World), level = 4 - (n : Int) → 1 ≤ level → 0 < n → OwnM base w v0 v1 v2 v3 m → base ≤ w.heap.size → (0 ≤ frame ∧ frame < ((m.ws.length / 16 : Nat) : Int)) → (∀ x ∈ m.pend, 0 ≤ x.Adr) → m.ws.length ≤ 8192 → m.ws.length % 16 = 0 → m.pend.length ≤ 10000 → m.tlb.length ≤ 256 → m.wc.length ≤ 256 → WfM m →
      Calls Try.prog 52 #[.agg #[v0, v1, v2, v3], .int .i64 page, .int .i64 choice, .int .i64 level, .int .i64 frame, .bool doomed] w (GoPost base w (goP page choice n m level frame doomed)))
    (base : Nat) (v0 v1 v2 v3 : Value) (m : SM) (lv : Nat) (frame : Int) (doomed : Bool) (w : World) (hl : (lv : Int) = 4 - ((n + 1 : Nat) : Int)) (hl1 : 1 ≤ lv) (o : OwnM base w v0 v1 v2 v3 m) (hbase : base ≤ w.heap.size)
    (hf : 0 ≤ frame ∧ frame < ((m.ws.length / 16 : Nat) : Int)) (h0 : ∀ x ∈ m.pend, 0 ≤ x.Adr) (hn : m.ws.length ≤ 8192) (hn0 : m.ws.length % 16 = 0) (hn1 : m.pend.length ≤ 10000) (hn2 : m.tlb.length ≤ 256) (hn3 : m.wc.length ≤ 256) (hwf : WfM m) :
    Calls Try.prog 52 #[.agg #[v0, v1, v2, v3], .int .i64 page, .int .i64 choice, .int .i64 lv, .int .i64 frame, .bool doomed] w (GoPost base w (goP page choice (n + 1) m lv frame doomed)) := by
  have IH := Lib.hid ih
  clear ih
  obtain ⟨A0, c0, A1, c1, A2, c2, A3, c3, rfl, rfl, rfl, rfl, hl0, hk0, hl1', hk1, hl2, hk2, hl3, hk3⟩ := o.rd.shape
  have R := Lib.hid o.rd
  have O := Lib.hid o
  clear o
  obtain ⟨hp0, hp1⟩ := hp
  obtain ⟨hc0, hc1⟩ := hc
  obtain ⟨hf0, hf1⟩ := hf
  obtain ⟨ix, hix⟩ : ∃ x, idx (lv : Int) page = x := ⟨_, rfl⟩
  obtain ⟨hi0, hi1⟩ := idx_lt (lv : Int) page hp0
  rw [hix] at hi0 hi1
  obtain ⟨lb, hlb⟩ : ∃ b, bitB choice (lv : Int).toNat = b := ⟨_, rfl⟩
  obtain ⟨wd, hwd⟩ : ∃ x, readP m (frame * 16 + ix) lb = x := ⟨_, rfl⟩
  obtain ⟨dk, dout, dpm, hd⟩ : ∃ a b c, dec (lv : Int) wd = (a, b, c) := ⟨_, _, _, rfl⟩
  have ha1 : frame * 16 + ix < m.ws.length := by omega
  obtain ⟨fr, hfr⟩ : ∃ x : Int, ((m.ws.length / 16 : Nat) : Int) = x := ⟨_, rfl⟩
  have HG : Hid (goP page choice (n + 1) m lv frame doomed = if dk = 0 then (m, 0, 0, 0, 0)
    else if dk = 1 ∧ dout < fr then goP page choice n (addStepP m (bitB choice ((lv : Int) + 3).toNat) lv page dout doomed) (lv + 1) dout doomed
    else if dk = 2 ∨ dk = 3 then (addWholeP m (bitB choice 6) page (if dk = 2 then 16 else 1) dout dpm doomed, 1, dout + page % (if dk = 2 then 16 else 1), dpm, if dk = 2 then 16 else 1)
    else (m, 3, 0, 0, 0)) := Lib.hid (by simp only [goP, hix, hlb, hwd, hd, hfr])
  generalize goP page choice (n + 1) m lv frame doomed = g at HG ⊢
  rw [hfr] at hf1
  have HFR := Lib.hid hfr
  have HIX := Lib.hid hix
  have HLB := Lib.hid hlb
  have HWD := Lib.hid hwd
  have HDK := Lib.hid hd
  have hwr := readP_range m (frame * 16 + ix) lb hwf
  rw [hwd] at hwr
  obtain ⟨hwr0, hwr1⟩ := hwr
  have H0 := Lib.hid h0
  have HWF := Lib.hid hwf
  have HL := Lib.hid hl
  have hlv1 : lv ≤ 3 := by omega
  have HLV : Hid ((lv : Int) = 1 ∨ (lv : Int) = 2 ∨ (lv : Int) = 3) := Lib.hid (by omega)
  have hlva : (1 : Int) ≤ (lv : Int) := by omega
  have hlvb : (lv : Int) ≤ 3 := by omega
  have hw1 : IntKind.i64.wrap (frame * 16) = frame * 16 := by rw [IntKind.wrap_i64]; omega
  have hw2 : IntKind.i64.wrap (frame * 16 + ix) = frame * 16 + ix := by rw [IntKind.wrap_i64]; omega
  clear hix hlb hwd h0 hl hwf hd hfr
  go_enter Try.func52, Try.ntmps52
  go_upto_region 1 with fail
  refine ((St.start w).push3 _ _ _ _ _ _).gen (fun w1 S1 _ => ?_)
  have sT0 := S1
  have sT1 := sT0.tail
  have sT2 := sT1.tail
  obtain ⟨p2_0, p2_1, p2_2, p2_3⟩ := sT2.c4
  have sT3 := sT2.tail
  have pB2_0 := BW.cell p2_0
  have pB2_1 := BW.cell p2_1
  have pB2_2 := BW.cell p2_2
  have pB2_3 := BW.cell p2_3
  clear p2_0 p2_1 p2_2 p2_3
  clear sT0 sT1 sT2 sT3
  have S1' := Lib.hid S1
  clear S1
  (refine wp_region_below (by kernel_rfl) (by kernel_rfl) ?_; (repeat (first | (go_big_quiet_step (first | (go_at_call 33; refine BW.same (index_b _ page ix _ HLV.out hp0 hp1 HIX.out)) | (go_at_call 50; refine BW.same (bit_b choice lv lb _ hc0 hc1 (by omega) HLB.out)) | (go_at_call 57; refine BW.calls (read_b _ _ _ _ m (frame * 16 + ix) lb wd _ (R.out.below (thenB S1'.out.b (BW.h _))) (by omega) ha1 H0.out HWD.out)))) | ((with_reducible refine wpQuiet_step ?_); intro K hK; go_simp; first | ((with_reducible refine hK _ ?_); clear hK K) | (apply Exists.intro; refine ⟨fun _ => ?_, hK _ ?_⟩; (first | (go_at_call 33; refine BW.same (index_b _ page ix _ HLV.out hp0 hp1 HIX.out)) | (go_at_call 50; refine BW.same (bit_b choice lv lb _ hc0 hc1 (by omega) HLB.out)) | (go_at_call 57; refine BW.calls (read_b _ _ _ _ m (frame * 16 + ix) lb wd _ (R.out.below (thenB S1'.out.b (BW.h _))) (by omega) ha1 H0.out HWD.out))); clear hK K)))); (with_reducible refine wpQuiet_nil ?_); intro wq hw'; obtain ⟨⟨wy, hbq⟩, hw''⟩ := hw'; subst hw'')
  clear pB2_0 pB2_1 pB2_2 pB2_3
  have S2 := S1'.out.below hbq
  have S3 := Lib.hid S2
  clear S2 hbq S1'
  go_upto_region 3 with (first | (go_at_call 32; refine (specDecode_any (lv : Int) wd _ hwr0 hwr1).mono ?_; rw [HDK.out]; rintro e w2 ⟨rfl, hb2⟩; have S4 := Lib.hid (S3.out.below hb2); clear hb2 S3))
  refine (S4.out.push _ _).gen (fun w3 S5 _ => ?_)
  have T := S5
  have S := Lib.hid S5
  clear S5 S4
  have hk := dec_kind (lv : Int) wd
  have ho := dec_out (lv : Int) wd
  have ht := dec_table (lv : Int) wd
  rw [HDK.out] at hk ho ht
  simp only at hk ho ht
  obtain ⟨ho0, ho1, ho2, ho3⟩ := ho
  have HT := Lib.hid ht
  clear ht
  have sT0 := T
  obtain ⟨p0_0, p0_1, p0_2⟩ := sT0.c3
  have sT1 := sT0.tail
  obtain ⟨p1_0, p1_1, p1_2, p1_3⟩ := sT1.c4
  have pF1_0 := sT1.f 0
  have pF1_1 := sT1.f 1
  have pF1_2 := sT1.f 2
  have pF1_3 := sT1.f 3
  have sT2 := sT1.tail
  obtain ⟨p2_0, p2_1, p2_2, p2_3⟩ := sT2.c4
  have pF2_0 := sT2.f 0
  have pF2_1 := sT2.f 1
  have pF2_2 := sT2.f 2
  have pF2_3 := sT2.f 3
  have sT3 := sT2.tail
  obtain ⟨p3_0, p3_1, p3_2, p3_3⟩ := sT3.c4
  have sT4 := sT3.tail
  clear sT0 sT1 sT2 sT3 sT4
  clear T
  rcases hk with rfl | rfl | rfl | rfl | rfl
  · go_wp2
    refine bodyPost_ret (v := .tuple #[.agg #[.slice A0 m.ws.length c0, .slice A1 m.pend.length c1, .slice A2 m.tlb.length c2, .slice A3 m.wc.length c3], .agg #[.int .i64 0, .int .i64 0, .int .i64 0, .int .i64 0]]) (by simp [results, Try.results52, go_sem, *]) rfl ?_
    have q : g = (m, 0, 0, 0, 0) := by have q := HG.out; simpa using q
    rw [q]
    have z := ret_boxes (l1 := [_]) S.out (O.out.below S.out.b) (by decide) (by decide)
    exact ⟨_, _, _, _, rfl, (z _ _ _ _ _ _ _ _).1, (z _ _ _ _ _ _ _ _).2⟩
  rotate_right
  · go_wp2
    clear p0_0 p0_1 p0_2 p1_0 p1_1 p1_2 p1_3 pF1_0 pF1_1 pF1_2 pF1_3 p2_0 p2_1 p2_2 p2_3 pF2_0 pF2_1 pF2_2 pF2_3 p3_0 p3_1 p3_2 p3_3
    have sT0 := S.out
    obtain ⟨p0_0, p0_1, p0_2⟩ := sT0.c3
    have sT1 := sT0.tail
    have pB0_0 := BW.cell p0_0
    have pB0_1 := BW.cell p0_1
    have pB0_2 := BW.cell p0_2
    clear p0_0 p0_1 p0_2
    have sT2 := sT1.tail
    have sT3 := sT2.tail
    obtain ⟨p3_0, p3_1, p3_2, p3_3⟩ := sT3.c4
    have sT4 := sT3.tail
    have pB3_0 := BW.cell p3_0
    have pB3_1 := BW.cell p3_1
    have pB3_2 := BW.cell p3_2
    have pB3_3 := BW.cell p3_3
    clear p3_0 p3_1 p3_2 p3_3
    clear sT0 sT1 sT2 sT3 sT4
    (refine wp_region_below (by kernel_rfl) (by kernel_rfl) ?_; (repeat (first | (go_big_quiet_step (fail)) | ((with_reducible refine wpQuiet_step ?_); intro K hK; go_simp; first | ((with_reducible refine hK _ ?_); clear hK K) | (apply Exists.intro; refine ⟨fun _ => ?_, hK _ ?_⟩; (fail); clear hK K)))); (with_reducible refine wpQuiet_nil ?_); intro wq hw'; obtain ⟨⟨wy, hbq⟩, hw''⟩ := hw'; subst hw'')
    clear pB0_0 pB0_1 pB0_2 pB3_0 pB3_1 pB3_2 pB3_3
    have S6 := Lib.hid (S.out.below hbq)
    clear S hbq
    have sT0 := S6.out
    obtain ⟨p0_0, p0_1, p0_2⟩ := sT0.c3
    have sT1 := sT0.tail
    obtain ⟨p1_0, p1_1, p1_2, p1_3⟩ := sT1.c4
    have pF1_0 := sT1.f 0
    have pF1_1 := sT1.f 1
    have pF1_2 := sT1.f 2
    have pF1_3 := sT1.f 3
    have sT2 := sT1.tail
    obtain ⟨p2_0, p2_1, p2_2, p2_3⟩ := sT2.c4
    have pF2_0 := sT2.f 0
    have pF2_1 := sT2.f 1
    have pF2_2 := sT2.f 2
    have pF2_3 := sT2.f 3
    have sT3 := sT2.tail
    obtain ⟨p3_0, p3_1, p3_2, p3_3⟩ := sT3.c4
    have sT4 := sT3.tail
    clear sT0 sT1 sT2 sT3 sT4
    go_wp2
    refine bodyPost_ret (v := .tuple #[.agg #[.slice A0 m.ws.length c0, .slice A1 m.pend.length c1, .slice A2 m.tlb.length c2, .slice A3 m.wc.length c3], .agg #[.int .i64 3, .int .i64 0, .int .i64 0, .int .i64 0]]) (by simp [results, Try.results52, go_sem, *]) rfl ?_
    have q : g = (m, 3, 0, 0, 0) := by have q := HG.out; simpa using q
    rw [q]
    have z := ret_boxes (l1 := [_]) S6.out (O.out.below S6.out.b) (by decide) (by decide)
    exact ⟨_, _, _, _, rfl, (z _ _ _ _ _ _ _ _).1, (z _ _ _ _ _ _ _ _).2⟩
  · go_wp2
    clear p0_0 p0_1 p0_2 p1_0 p1_1 p1_2 p1_3 pF1_0 pF1_1 pF1_2 pF1_3 p2_0 p2_1 p2_2 p2_3 pF2_0 pF2_1 pF2_2 pF2_3 p3_0 p3_1 p3_2 p3_3
    have sT0 := S.out
    obtain ⟨p0_0, p0_1, p0_2⟩ := sT0.c3
    have sT1 := sT0.tail
    have pB0_0 := BW.cell p0_0
    have pB0_1 := BW.cell p0_1
    have pB0_2 := BW.cell p0_2
    clear p0_0 p0_1 p0_2
    have sT2 := sT1.tail
    have sT3 := sT2.tail
    obtain ⟨p3_0, p3_1, p3_2, p3_3⟩ := sT3.c4
    have sT4 := sT3.tail
    have pB3_0 := BW.cell p3_0
    have pB3_1 := BW.cell p3_1
    have pB3_2 := BW.cell p3_2
    have pB3_3 := BW.cell p3_3
    clear p3_0 p3_1 p3_2 p3_3
    clear sT0 sT1 sT2 sT3 sT4
    have hl4 : (lv : Int) ≤ 2 := by have := HT.out (by simp); omega
    have hl3 : decide ((lv : Int) < 3) = true := by simp; omega
    have HF : Hid (framesOf m.ws.length = fr) := Lib.hid (by rw [← HFR.out]; unfold framesOf; rw [if_pos (by omega)])
    by_cases hlt : dout < fr
    · have hlt' : decide (dout < fr) = true := by simpa using hlt
      have HLT := Lib.hid hlt
      clear hlt
      (refine wp_region_below (by kernel_rfl) (by kernel_rfl) ?_; (repeat (first | (go_big_quiet_step (first | (go_at_call 11; refine BW.calls (framesS_b A0 m.ws.length c0 fr _ hl0 hk0 HF.out)))) | ((with_reducible refine wpQuiet_step ?_); intro K hK; go_simp; first | ((with_reducible refine hK _ ?_); clear hK K) | (apply Exists.intro; refine ⟨fun _ => ?_, hK _ ?_⟩; (first | (go_at_call 11; refine BW.calls (framesS_b A0 m.ws.length c0 fr _ hl0 hk0 HF.out))); clear hK K)))); (with_reducible refine wpQuiet_nil ?_); intro wq hw'; obtain ⟨⟨wy, hbq⟩, hw''⟩ := hw'; subst hw'')
      clear pB0_0 pB0_1 pB0_2 pB3_0 pB3_1 pB3_2 pB3_3
      have S6 := Lib.hid (S.out.below hbq)
      clear S hbq
      obtain ⟨sb, hsb⟩ : ∃ b, bitB choice ((lv : Int) + 3).toNat = b := ⟨_, rfl⟩
      have HQ : Hid (g = goP page choice n (addStepP m sb lv page dout doomed) (lv + 1) dout doomed) := Lib.hid (by have q := HG.out; rw [hsb] at q; simpa [HLT.out] using q)
      have HSB := Lib.hid hsb
      clear hsb
      have sT0 := S6.out
      obtain ⟨p0_0, p0_1, p0_2⟩ := sT0.c3
      have sT1 := sT0.tail
      have sT2 := sT1.tail
      have sT3 := sT2.tail
      obtain ⟨p3_0, p3_1, p3_2, p3_3⟩ := sT3.c4
      have sT4 := sT3.tail
      clear sT0 sT1 sT2 sT3 sT4
      cases sb with
      | false =>
        go_upto_region 7 with fail
        refine (S6.out.push _ _).gen (fun w4 S7' _ => ?_)
        have S7 := Lib.hid S7'
        clear S7'
        clear p0_0 p0_1 p0_2 p3_0 p3_1 p3_2 p3_3
        go_upto_region 10 with (first | (go_at_call 50; refine (bit_c choice ((lv : Int) + 3) false _ hc0 hc1 (by omega) (by omega) HSB.out).mono ?_; rintro e w' ⟨rfl, rfl⟩))
        have sT0 := S7.out
        obtain ⟨p0_0, p0_1, p0_2, p0_3⟩ := sT0.c4
        have sT1 := sT0.tail
        obtain ⟨p1_0, p1_1, p1_2⟩ := sT1.c3
        have sT2 := sT1.tail
        obtain ⟨p2_0, p2_1, p2_2, p2_3⟩ := sT2.c4
        have pF2_0 := sT2.f 0
        have pF2_1 := sT2.f 1
        have pF2_2 := sT2.f 2
        have pF2_3 := sT2.f 3
        have sT3 := sT2.tail
        obtain ⟨p3_0, p3_1, p3_2, p3_3⟩ := sT3.c4
        have pF3_0 := sT3.f 0
        have pF3_1 := sT3.f 1
        have pF3_2 := sT3.f 2
        have pF3_3 := sT3.f 3
        have sT4 := sT3.tail
        obtain ⟨p4_0, p4_1, p4_2, p4_3⟩ := sT4.c4
        have sT5 := sT4.tail
        clear sT0 sT1 sT2 sT3 sT4 sT5
        have HQ2 : Hid (goP page choice n m ((lv : Int) + 1) dout doomed = g) := Lib.hid (by rw [HQ.out]; simp [addStepP])
        have hbz : Hid (base ≤ w'.heap.size) := Lib.hid (Nat.le_trans hbase S7.out.b.size)
        go_wp2_with fail
        refine (IH.out base _ _ _ _ m ((lv : Int) + 1) dout doomed _ (by have := HL.out; omega) (by omega) (by have := HL.out; omega) (O.out.below S7.out.b) hbz.out ⟨ho0, by rw [HFR.out]; exact HLT.out⟩ H0.out hn hn0 hn1 hn2 hn3 HWF.out).mono ?_
        rw [HQ2.out]
        rintro e w5 ⟨u0, u1, u2, u3, rfl, o5, hb5⟩
        obtain ⟨B0, d0, B1, d1, B2, d2, B3, d3, rfl, rfl, rfl, rfl⟩ := o5.shape
        have O5 := Lib.hid o5
        have S8 := Lib.hid (S7.out.below hb5)
        clear o5 hb5 S7
        clear p0_0 p0_1 p0_2 p0_3 p1_0 p1_1 p1_2 p2_0 p2_1 p2_2 p2_3 pF2_0 pF2_1 pF2_2 pF2_3 p3_0 p3_1 p3_2 p3_3 pF3_0 pF3_1 pF3_2 pF3_3 p4_0 p4_1 p4_2 p4_3
        have sT0 := S8.out
        have sT1 := sT0.tail
        have sT2 := sT1.tail
        obtain ⟨p2_0, p2_1, p2_2, p2_3⟩ := sT2.c4
        have pF2_0 := sT2.f 0
        have pF2_1 := sT2.f 1
        have pF2_2 := sT2.f 2
        have pF2_3 := sT2.f 3
        have sT3 := sT2.tail
        obtain ⟨p3_0, p3_1, p3_2, p3_3⟩ := sT3.c4
        have pF3_0 := sT3.f 0
        have pF3_1 := sT3.f 1
        have pF3_2 := sT3.f 2
        have pF3_3 := sT3.f 3
        have sT4 := sT3.tail
        clear sT0 sT1 sT2 sT3 sT4
        go_wp2
        refine bodyPost_ret (v := .tuple #[.agg #[.slice B0 g.1.ws.length d0, .slice B1 g.1.pend.length d1, .slice B2 g.1.tlb.length d2, .slice B3 g.1.wc.length d3], .agg #[.int .i64 g.2.1, .int .i64 g.2.2.1, .int .i64 g.2.2.2.1, .int .i64 g.2.2.2.2]]) (by simp [results, Try.results52, go_sem, *]) rfl ?_
        have z := ret_boxes (l1 := [_, _]) S8.out O5.out (by decide) (by decide)
        exact ⟨_, _, _, _, rfl, (z _ _ _ _ _ _ _ _).1, (z _ _ _ _ _ _ _ _).2⟩
      | true =>
        have hcv := cov_pos (lv : Int)
        obtain ⟨cv, hcv'⟩ : ∃ x, cov (lv : Int) = x := ⟨_, rfl⟩
        rw [hcv'] at hcv
        obtain ⟨hcv0, hcv1⟩ := hcv
        have HCV := Lib.hid hcv'
        clear hcv'
        have hm0 : 0 ≤ page % cv := Int.emod_nonneg _ (by omega)
        have hm1 : page % cv ≤ page := by rw [Int.emod_def]; have := Int.mul_nonneg (show 0 ≤ cv by omega) (Int.ediv_nonneg hp0 (show 0 ≤ cv by omega)); omega
        have hcz : ¬ cv = 0 := by omega
        have htm : page.tmod cv = page % cv := Int.tmod_eq_emod_of_nonneg hp0
        have hw3 : IntKind.i64.wrap (page - page % cv) = page - page % cv := by rw [IntKind.wrap_i64]; omega
        have hw4 : IntKind.i64.wrap ((lv : Int) + 1) = (lv : Int) + 1 := by rw [IntKind.wrap_i64]; omega
        obtain ⟨lw, hlw⟩ : ∃ l, addL m.wc ⟨(lv : Int) + 1, page - page % cv, dout, doomed⟩ = l := ⟨_, rfl⟩
        have hlw1 : lw.length ≤ 256 := by rw [← hlw]; exact addL_256 _ _ hn3
        have HLW := Lib.hid hlw
        have HQ2 : Hid (goP page choice n { m with wc := lw } ((lv : Int) + 1) dout doomed = g) := Lib.hid (by rw [HQ.out, ← hlw, ← HCV.out]; rfl)
        clear hlw
        go_upto_region 7 with fail
        refine (S6.out.push _ _).gen (fun w4 S7' _ => ?_)
        have S7 := Lib.hid S7'
        clear S7'
        clear p0_0 p0_1 p0_2 p3_0 p3_1 p3_2 p3_3
        go_upto_region 8 with (first | (go_at_call 50; refine (bit_c choice ((lv : Int) + 3) true _ hc0 hc1 (by omega) (by omega) HSB.out).mono ?_; rintro e w4 ⟨rfl, rfl⟩))
        have sT0 := S7.out
        have sT1 := sT0.tail
        obtain ⟨p1_0, p1_1, p1_2⟩ := sT1.c3
        have sT2 := sT1.tail
        have sT3 := sT2.tail
        have sT4 := sT3.tail
        have sT5 := sT4.tail
        clear sT0 sT1 sT2 sT3 sT4 sT5
        go_region_held3 (fun w' => w'.cell? ⟨w2.heap.size, 1, none⟩ = some (.int .i64 dout)) (go_keep) (first | (go_at_call 22; refine (l1Covers_any _ _).mono ?_; rw [HCV.out]; rintro e w' ⟨rfl, rfl⟩))
        all_goals
          refine ((S7.out.push _ _).drew).gen (fun w6 S9' _ => ?_)
          have S9 := Lib.hid S9'
          clear S9'
          clear p1_0 p1_1 p1_2
          have sT0 := S9.out
          obtain ⟨p0_0, p0_1, p0_2, p0_3⟩ := sT0.c4
          have sT1 := sT0.tail
          obtain ⟨p1_0, p1_1, p1_2, p1_3⟩ := sT1.c4
          have pF1_0 := sT1.f 0
          have pF1_1 := sT1.f 1
          have pF1_2 := sT1.f 2
          have pF1_3 := sT1.f 3
          have sT2 := sT1.tail
          have sT3 := sT2.tail
          have sT4 := sT3.tail
          have sT5 := sT4.tail
          obtain ⟨p5_0, p5_1, p5_2, p5_3⟩ := sT5.c4
          have sT6 := sT5.tail
          clear sT0 sT1 sT2 sT3 sT4 sT5 sT6
          go_wp2_with fail
          refine (addWc_any _ _ _ _ m ⟨(lv : Int) + 1, page - page % cv, dout, doomed⟩ _ (R.out.below S9.out.b) ⟨by omega, by omega, by omega, by omega⟩).mono ?_
          rw [HLW.out]
          rintro e w7 ⟨u0, u1, u2, u3, rfl, o7, hb7⟩
          obtain ⟨B0, d0, B1, d1, B2, d2, B3, d3, rfl, rfl, rfl, rfl⟩ := o7.shape
          have O7 := Lib.hid (o7.lower (Nat.le_trans hbase S9.out.b.size))
          have S10 := Lib.hid (S9.out.below hb7)
          clear o7 hb7 S9
          clear p0_0 p0_1 p0_2 p0_3 p1_0 p1_1 p1_2 p1_3 pF1_0 pF1_1 pF1_2 pF1_3 p5_0 p5_1 p5_2 p5_3
          have sT0 := S10.out
          obtain ⟨p0_0, p0_1, p0_2, p0_3⟩ := sT0.c4
          have sT1 := sT0.tail
          obtain ⟨p1_0, p1_1, p1_2, p1_3⟩ := sT1.c4
          have pF1_0 := sT1.f 0
          have pF1_1 := sT1.f 1
          have pF1_2 := sT1.f 2
          have pF1_3 := sT1.f 3
          have sT2 := sT1.tail
          have sT3 := sT2.tail
          have sT4 := sT3.tail
          have sT5 := sT4.tail
          obtain ⟨p5_0, p5_1, p5_2, p5_3⟩ := sT5.c4
          have sT6 := sT5.tail
          clear sT0 sT1 sT2 sT3 sT4 sT5 sT6
          go_upto_region 10 with fail
          refine st_genO (S10.out.s1 _ _ _ _) (O7.out.set4 S10.out.tail.head (by decide) _ _ _ _) (fun w8 S11' O8' => ?_)
          have S11 := Lib.hid S11'
          have O8 := Lib.hid O8'
          clear S11' O8' S10 O7
          clear p0_0 p0_1 p0_2 p0_3 p1_0 p1_1 p1_2 p1_3 pF1_0 pF1_1 pF1_2 pF1_3 p5_0 p5_1 p5_2 p5_3
          have sT0 := S11.out
          have sT1 := sT0.tail
          obtain ⟨p1_0, p1_1, p1_2, p1_3⟩ := sT1.c4
          have sT2 := sT1.tail
          obtain ⟨p2_0, p2_1, p2_2⟩ := sT2.c3
          have sT3 := sT2.tail
          obtain ⟨p3_0, p3_1, p3_2, p3_3⟩ := sT3.c4
          have pF3_0 := sT3.f 0
          have pF3_1 := sT3.f 1
          have pF3_2 := sT3.f 2
          have pF3_3 := sT3.f 3
          have sT4 := sT3.tail
          obtain ⟨p4_0, p4_1, p4_2, p4_3⟩ := sT4.c4
          have pF4_0 := sT4.f 0
          have pF4_1 := sT4.f 1
          have pF4_2 := sT4.f 2
          have pF4_3 := sT4.f 3
          have sT5 := sT4.tail
          clear sT0 sT1 sT2 sT3 sT4 sT5
          go_wp2_with fail
          refine (IH.out base _ _ _ _ { m with wc := lw } ((lv : Int) + 1) dout doomed _ (by have := HL.out; omega) (by omega) (by have := HL.out; omega) O8.out (Nat.le_trans hbase S11.out.b.size) ⟨ho0, by rw [HFR.out]; exact HLT.out⟩ H0.out hn hn0 hn1 hn2 hlw1 HWF.out).mono ?_
          rw [HQ2.out]
          rintro e w5 ⟨u0, u1, u2, u3, rfl, o5, hb5⟩
          obtain ⟨C0, f0, C1, f1, C2, f2, C3, f3, rfl, rfl, rfl, rfl⟩ := o5.shape
          have O5 := Lib.hid o5
          have S8 := Lib.hid (S11.out.below hb5)
          clear o5 hb5 S11
          clear p1_0 p1_1 p1_2 p1_3 p2_0 p2_1 p2_2 p3_0 p3_1 p3_2 p3_3 pF3_0 pF3_1 pF3_2 pF3_3 p4_0 p4_1 p4_2 p4_3 pF4_0 pF4_1 pF4_2 pF4_3
          have sT0 := S8.out
          have sT1 := sT0.tail
          have sT2 := sT1.tail
          have sT3 := sT2.tail
          obtain ⟨p3_0, p3_1, p3_2, p3_3⟩ := sT3.c4
          have pF3_0 := sT3.f 0
          have pF3_1 := sT3.f 1
          have pF3_2 := sT3.f 2
          have pF3_3 := sT3.f 3
          have sT4 := sT3.tail
          obtain ⟨p4_0, p4_1, p4_2, p4_3⟩ := sT4.c4
          have pF4_0 := sT4.f 0
          have pF4_1 := sT4.f 1
          have pF4_2 := sT4.f 2
          have pF4_3 := sT4.f 3
          have sT5 := sT4.tail
          clear sT0 sT1 sT2 sT3 sT4 sT5
          go_wp2
          refine bodyPost_ret (v := .tuple #[.agg #[.slice C0 g.1.ws.length f0, .slice C1 g.1.pend.length f1, .slice C2 g.1.tlb.length f2, .slice C3 g.1.wc.length f3], .agg #[.int .i64 g.2.1, .int .i64 g.2.2.1, .int .i64 g.2.2.2.1, .int .i64 g.2.2.2.2]]) (by simp [results, Try.results52, go_sem, *]) rfl ?_
          have z := ret_boxes (l1 := [_, _, _]) S8.out O5.out (by decide) (by decide)
          exact ⟨_, _, _, _, rfl, (z _ _ _ _ _ _ _ _).1, (z _ _ _ _ _ _ _ _).2⟩
    · have hlt' : decide (dout < fr) = false := by simpa using hlt
      have HLT := Lib.hid hlt
      clear hlt
      (refine wp_region_below (by kernel_rfl) (by kernel_rfl) ?_; (repeat (first | (go_big_quiet_step (first | (go_at_call 11; refine BW.calls (framesS_b A0 m.ws.length c0 fr _ hl0 hk0 HF.out)))) | ((with_reducible refine wpQuiet_step ?_); intro K hK; go_simp; first | ((with_reducible refine hK _ ?_); clear hK K) | (apply Exists.intro; refine ⟨fun _ => ?_, hK _ ?_⟩; (first | (go_at_call 11; refine BW.calls (framesS_b A0 m.ws.length c0 fr _ hl0 hk0 HF.out))); clear hK K)))); (with_reducible refine wpQuiet_nil ?_); intro wq hw'; obtain ⟨⟨wy, hbq⟩, hw''⟩ := hw'; subst hw'')
      clear pB0_0 pB0_1 pB0_2 pB3_0 pB3_1 pB3_2 pB3_3
      have S6 := Lib.hid (S.out.below hbq)
      clear S hbq
      have sT0 := S6.out
      obtain ⟨p0_0, p0_1, p0_2⟩ := sT0.c3
      have sT1 := sT0.tail
      obtain ⟨p1_0, p1_1, p1_2, p1_3⟩ := sT1.c4
      have pF1_0 := sT1.f 0
      have pF1_1 := sT1.f 1
      have pF1_2 := sT1.f 2
      have pF1_3 := sT1.f 3
      have sT2 := sT1.tail
      obtain ⟨p2_0, p2_1, p2_2, p2_3⟩ := sT2.c4
      have pF2_0 := sT2.f 0
      have pF2_1 := sT2.f 1
      have pF2_2 := sT2.f 2
      have pF2_3 := sT2.f 3
      have sT3 := sT2.tail
      obtain ⟨p3_0, p3_1, p3_2, p3_3⟩ := sT3.c4
      have sT4 := sT3.tail
      clear sT0 sT1 sT2 sT3 sT4
      go_wp2
      refine bodyPost_ret (v := .tuple #[.agg #[.slice A0 m.ws.length c0, .slice A1 m.pend.length c1, .slice A2 m.tlb.length c2, .slice A3 m.wc.length c3], .agg #[.int .i64 3, .int .i64 0, .int .i64 0, .int .i64 0]]) (by simp [results, Try.results52, go_sem, *]) rfl ?_
      have q : g = (m, 3, 0, 0, 0) := by have q := HG.out; simp at q; rwa [if_neg (by have := HLT.out; omega)] at q
      rw [q]
      have z := ret_boxes (l1 := [_]) S6.out (O.out.below S6.out.b) (by decide) (by decide)
      exact ⟨_, _, _, _, rfl, (z _ _ _ _ _ _ _ _).1, (z _ _ _ _ _ _ _ _).2⟩
  · have htm : page.tmod 16 = page % 16 := Int.tmod_eq_emod_of_nonneg hp0
    have hw3 : IntKind.i64.wrap (page - page % 16) = page - page % 16 := by rw [IntKind.wrap_i64]; omega
    have hw4 : IntKind.i64.wrap (dout + page % 16) = dout + page % 16 := by rw [IntKind.wrap_i64]; omega
    have hw5 : IntKind.i64.wrap dout = dout := by rw [IntKind.wrap_i64]; omega
    have hw6 : IntKind.i64.wrap page = page := by rw [IntKind.wrap_i64]; omega
    go_wp2
    clear p0_0 p0_1 p0_2 p1_0 p1_1 p1_2 p1_3 pF1_0 pF1_1 pF1_2 pF1_3 p2_0 p2_1 p2_2 p2_3 pF2_0 pF2_1 pF2_2 pF2_3 p3_0 p3_1 p3_2 p3_3
    have sT0 := S.out
    obtain ⟨p0_0, p0_1, p0_2⟩ := sT0.c3
    have sT1 := sT0.tail
    have pB0_0 := BW.cell p0_0
    have pB0_1 := BW.cell p0_1
    have pB0_2 := BW.cell p0_2
    clear p0_0 p0_1 p0_2
    have sT2 := sT1.tail
    have sT3 := sT2.tail
    obtain ⟨p3_0, p3_1, p3_2, p3_3⟩ := sT3.c4
    have sT4 := sT3.tail
    have pB3_0 := BW.cell p3_0
    have pB3_1 := BW.cell p3_1
    have pB3_2 := BW.cell p3_2
    have pB3_3 := BW.cell p3_3
    clear p3_0 p3_1 p3_2 p3_3
    clear sT0 sT1 sT2 sT3 sT4
    (refine wp_region_below (by kernel_rfl) (by kernel_rfl) ?_; (repeat (first | (go_big_quiet_step (fail)) | ((with_reducible refine wpQuiet_step ?_); intro K hK; go_simp; first | ((with_reducible refine hK _ ?_); clear hK K) | (apply Exists.intro; refine ⟨fun _ => ?_, hK _ ?_⟩; (fail); clear hK K)))); (with_reducible refine wpQuiet_nil ?_); intro wq hw'; obtain ⟨⟨wy, hbq⟩, hw''⟩ := hw'; subst hw'')
    clear pB0_0 pB0_1 pB0_2 pB3_0 pB3_1 pB3_2 pB3_3
    have S6 := Lib.hid (S.out.below hbq)
    clear S hbq
    obtain ⟨tb, htb⟩ : ∃ b, bitB choice 6 = b := ⟨_, rfl⟩
    have HTB := Lib.hid htb
    have HQ : Hid (g = (addWholeP m tb page 16 dout dpm doomed, 1, dout + page % 16, dpm, 16)) := Lib.hid (by have q := HG.out; rw [htb] at q; simpa using q)
    clear htb
    have sT0 := S6.out
    obtain ⟨p0_0, p0_1, p0_2⟩ := sT0.c3
    have sT1 := sT0.tail
    have sT2 := sT1.tail
    have sT3 := sT2.tail
    obtain ⟨p3_0, p3_1, p3_2, p3_3⟩ := sT3.c4
    have sT4 := sT3.tail
    clear sT0 sT1 sT2 sT3 sT4
    go_upto_region 16 with fail
    refine (S6.out.push _ _).gen (fun w4 S7' _ => ?_)
    have S7 := Lib.hid S7'
    clear S7' S6
    clear p0_0 p0_1 p0_2 p3_0 p3_1 p3_2 p3_3
    cases tb with
    | false =>
      have q : g = (m, 1, dout + page % 16, dpm, 16) := by rw [HQ.out]; simp [addWholeP]
      have HQ2 := Lib.hid q
      clear q
      go_wp2_with (first | (go_at_call 50; refine (bit_b choice 6 false _ hc0 hc1 (by omega) HTB.out).mono ?_; rintro e w4 ⟨rfl, rfl⟩))
      have sT0 := S7.out
      obtain ⟨p0_0, p0_1, p0_2, p0_3⟩ := sT0.c4
      have sT1 := sT0.tail
      obtain ⟨p1_0, p1_1, p1_2⟩ := sT1.c3
      have sT2 := sT1.tail
      obtain ⟨p2_0, p2_1, p2_2, p2_3⟩ := sT2.c4
      have pF2_0 := sT2.f 0
      have pF2_1 := sT2.f 1
      have pF2_2 := sT2.f 2
      have pF2_3 := sT2.f 3
      have sT3 := sT2.tail
      obtain ⟨p3_0, p3_1, p3_2, p3_3⟩ := sT3.c4
      have pF3_0 := sT3.f 0
      have pF3_1 := sT3.f 1
      have pF3_2 := sT3.f 2
      have pF3_3 := sT3.f 3
      have sT4 := sT3.tail
      have sT5 := sT4.tail
      clear sT0 sT1 sT2 sT3 sT4 sT5
      have hord := S7.out.ord
      simp at hord
      have n1 : ¬ (w.heap.size + 1 = wq.heap.size) := by omega
      have n2 : ¬ (w.heap.size + 1 = w2.heap.size) := by omega
      have n3 : ¬ (w.heap.size + 1 + 1 = wq.heap.size) := by omega
      have n4 : ¬ (w.heap.size + 1 + 1 = w2.heap.size) := by omega
      clear hord
      go_region_held3 (fun w' => w'.cell? ⟨wq.heap.size, 0, none⟩ = some (.slice A0 m.ws.length c0) ∧ w'.cell? ⟨wq.heap.size, 1, none⟩ = some (.slice A1 m.pend.length c1) ∧ w'.cell? ⟨wq.heap.size, 2, none⟩ = some (.slice A2 m.tlb.length c2) ∧ w'.cell? ⟨wq.heap.size, 3, none⟩ = some (.slice A3 m.wc.length c3) ∧ w'.cell? ⟨w2.heap.size, 1, none⟩ = some (.int .i64 dout) ∧ w'.cell? ⟨w2.heap.size, 2, none⟩ = some (.int .i64 dpm)) (go_keep) (fail)
      go_wp2
      refine bodyPost_ret (v := .tuple #[.agg #[.slice A0 m.ws.length c0, .slice A1 m.pend.length c1, .slice A2 m.tlb.length c2, .slice A3 m.wc.length c3], .agg #[.int .i64 1, .int .i64 (dout + page % 16), .int .i64 dpm, .int .i64 16]]) (by simp [results, Try.results52, go_sem, *]) rfl ?_
      rw [HQ2.out]
      have z := ret_boxes (l1 := [_, _]) S7.out (O.out.below S7.out.b) (by decide) (by decide)
      exact ⟨_, _, _, _, rfl, (z _ _ _ _ _ _ _ _).1.drew, (z _ _ _ _ _ _ _ _).2.drew⟩
    | true =>
      obtain ⟨lw, hlw⟩ : ∃ l, addL m.tlb ⟨page - page % 16, 16, dout, dpm, doomed⟩ = l := ⟨_, rfl⟩
      have HLW := Lib.hid hlw
      have q : g = ({ m with tlb := lw }, 1, dout + page % 16, dpm, 16) := by rw [HQ.out, ← hlw]; simp [addWholeP]
      have HQ2 := Lib.hid q
      clear hlw q
      go_upto_region 17 with (first | (go_at_call 50; refine (bit_b choice 6 true _ hc0 hc1 (by omega) HTB.out).mono ?_; rintro e w4 ⟨rfl, rfl⟩))
      have sT0 := S7.out
      have sT1 := sT0.tail
      obtain ⟨p1_0, p1_1, p1_2⟩ := sT1.c3
      have sT2 := sT1.tail
      have sT3 := sT2.tail
      have sT4 := sT3.tail
      have sT5 := sT4.tail
      clear sT0 sT1 sT2 sT3 sT4 sT5
      go_region_held3 (fun w' => w'.cell? ⟨w2.heap.size, 1, none⟩ = some (.int .i64 dout) ∧ w'.cell? ⟨w2.heap.size, 2, none⟩ = some (.int .i64 dpm)) (go_keep) (fail)
      refine ((S7.out.push _ _).drew).gen (fun w6 S9' _ => ?_)
      have S9 := Lib.hid S9'
      clear S9'
      clear p1_0 p1_1 p1_2
      have sT0 := S9.out
      obtain ⟨p0_0, p0_1, p0_2, p0_3, p0_4⟩ := sT0.c5
      have sT1 := sT0.tail
      obtain ⟨p1_0, p1_1, p1_2, p1_3⟩ := sT1.c4
      have pF1_0 := sT1.f 0
      have pF1_1 := sT1.f 1
      have pF1_2 := sT1.f 2
      have pF1_3 := sT1.f 3
      have sT2 := sT1.tail
      have sT3 := sT2.tail
      have sT4 := sT3.tail
      have sT5 := sT4.tail
      obtain ⟨p5_0, p5_1, p5_2, p5_3⟩ := sT5.c4
      have sT6 := sT5.tail
      clear sT0 sT1 sT2 sT3 sT4 sT5 sT6
      go_wp2_with fail
      refine (addTlb_any _ _ _ _ m ⟨page - page % 16, 16, dout, dpm, doomed⟩ _ (R.out.below S9.out.b) ⟨by omega, by omega, by omega, by omega⟩).mono ?_
      rw [HLW.out]
      rintro e w7 ⟨u0, u1, u2, u3, rfl, o7, hb7⟩
      obtain ⟨B0, d0, B1, d1, B2, d2, B3, d3, rfl, rfl, rfl, rfl⟩ := o7.shape
      have O7 := Lib.hid (o7.lower (Nat.le_trans hbase S9.out.b.size))
      have S10 := Lib.hid (S9.out.below hb7)
      clear o7 hb7 S9
      clear p0_0 p0_1 p0_2 p0_3 p0_4 p1_0 p1_1 p1_2 p1_3 pF1_0 pF1_1 pF1_2 pF1_3 p5_0 p5_1 p5_2 p5_3
      have sT0 := S10.out
      obtain ⟨p0_0, p0_1, p0_2, p0_3, p0_4⟩ := sT0.c5
      have sT1 := sT0.tail
      obtain ⟨p1_0, p1_1, p1_2, p1_3⟩ := sT1.c4
      have pF1_0 := sT1.f 0
      have pF1_1 := sT1.f 1
      have pF1_2 := sT1.f 2
      have pF1_3 := sT1.f 3
      have sT2 := sT1.tail
      have sT3 := sT2.tail
      have sT4 := sT3.tail
      have sT5 := sT4.tail
      obtain ⟨p5_0, p5_1, p5_2, p5_3⟩ := sT5.c4
      have sT6 := sT5.tail
      clear sT0 sT1 sT2 sT3 sT4 sT5 sT6
      go_upto_region 19 with fail
      refine st_genO (S10.out.s1 _ _ _ _) (O7.out.set4 S10.out.tail.head (by decide) _ _ _ _) (fun w8 S11' O8' => ?_)
      have S11 := Lib.hid S11'
      have O8 := Lib.hid O8'
      clear S11' O8' S10 O7
      clear p0_0 p0_1 p0_2 p0_3 p0_4 p1_0 p1_1 p1_2 p1_3 pF1_0 pF1_1 pF1_2 pF1_3 p5_0 p5_1 p5_2 p5_3
      have sT0 := S11.out
      have sT1 := sT0.tail
      obtain ⟨p1_0, p1_1, p1_2, p1_3⟩ := sT1.c4
      have sT2 := sT1.tail
      obtain ⟨p2_0, p2_1, p2_2⟩ := sT2.c3
      have sT3 := sT2.tail
      obtain ⟨p3_0, p3_1, p3_2, p3_3⟩ := sT3.c4
      have pF3_0 := sT3.f 0
      have pF3_1 := sT3.f 1
      have pF3_2 := sT3.f 2
      have pF3_3 := sT3.f 3
      have sT4 := sT3.tail
      obtain ⟨p4_0, p4_1, p4_2, p4_3⟩ := sT4.c4
      have pF4_0 := sT4.f 0
      have pF4_1 := sT4.f 1
      have pF4_2 := sT4.f 2
      have pF4_3 := sT4.f 3
      have sT5 := sT4.tail
      clear sT0 sT1 sT2 sT3 sT4 sT5
      have hord := S11.out.ord
      simp at hord
      have n1 : ¬ (w.heap.size + 1 = wq.heap.size) := by omega
      have n2 : ¬ (w.heap.size + 1 = w2.heap.size) := by omega
      have n3 : ¬ (w.heap.size + 1 + 1 = wq.heap.size) := by omega
      have n4 : ¬ (w.heap.size + 1 + 1 = w2.heap.size) := by omega
      clear hord
      go_region_held3 (fun w' => w'.cell? ⟨wq.heap.size, 0, none⟩ = some (.slice B0 m.ws.length d0) ∧ w'.cell? ⟨wq.heap.size, 1, none⟩ = some (.slice B1 m.pend.length d1) ∧ w'.cell? ⟨wq.heap.size, 2, none⟩ = some (.slice B2 lw.length d2) ∧ w'.cell? ⟨wq.heap.size, 3, none⟩ = some (.slice B3 m.wc.length d3) ∧ w'.cell? ⟨w2.heap.size, 1, none⟩ = some (.int .i64 dout) ∧ w'.cell? ⟨w2.heap.size, 2, none⟩ = some (.int .i64 dpm)) (go_keep) (fail)
      go_wp2
      refine bodyPost_ret (v := .tuple #[.agg #[.slice B0 m.ws.length d0, .slice B1 m.pend.length d1, .slice B2 lw.length d2, .slice B3 m.wc.length d3], .agg #[.int .i64 1, .int .i64 (dout + page % 16), .int .i64 dpm, .int .i64 16]]) (by simp [results, Try.results52, go_sem, *]) rfl ?_
      rw [HQ2.out]
      have z := ret_boxes (l1 := [_, _, _]) S11.out O8.out (by decide) (by decide)
      exact ⟨_, _, _, _, rfl, (z _ _ _ _ _ _ _ _).1.drew, (z _ _ _ _ _ _ _ _).2.drew⟩
  · have htm : page.tmod 1 = page % 1 := Int.tmod_eq_emod_of_nonneg hp0
    have hw3 : IntKind.i64.wrap (page - page % 1) = page - page % 1 := by rw [IntKind.wrap_i64]; omega
    have hw4 : IntKind.i64.wrap (dout + page % 1) = dout + page % 1 := by rw [IntKind.wrap_i64]; omega
    have hw5 : IntKind.i64.wrap dout = dout := by rw [IntKind.wrap_i64]; omega
    have hw6 : IntKind.i64.wrap page = page := by rw [IntKind.wrap_i64]; omega
    go_wp2
    clear p0_0 p0_1 p0_2 p1_0 p1_1 p1_2 p1_3 pF1_0 pF1_1 pF1_2 pF1_3 p2_0 p2_1 p2_2 p2_3 pF2_0 pF2_1 pF2_2 pF2_3 p3_0 p3_1 p3_2 p3_3
    have sT0 := S.out
    obtain ⟨p0_0, p0_1, p0_2⟩ := sT0.c3
    have sT1 := sT0.tail
    have pB0_0 := BW.cell p0_0
    have pB0_1 := BW.cell p0_1
    have pB0_2 := BW.cell p0_2
    clear p0_0 p0_1 p0_2
    have sT2 := sT1.tail
    have sT3 := sT2.tail
    obtain ⟨p3_0, p3_1, p3_2, p3_3⟩ := sT3.c4
    have sT4 := sT3.tail
    have pB3_0 := BW.cell p3_0
    have pB3_1 := BW.cell p3_1
    have pB3_2 := BW.cell p3_2
    have pB3_3 := BW.cell p3_3
    clear p3_0 p3_1 p3_2 p3_3
    clear sT0 sT1 sT2 sT3 sT4
    (refine wp_region_below (by kernel_rfl) (by kernel_rfl) ?_; (repeat (first | (go_big_quiet_step (fail)) | ((with_reducible refine wpQuiet_step ?_); intro K hK; go_simp; first | ((with_reducible refine hK _ ?_); clear hK K) | (apply Exists.intro; refine ⟨fun _ => ?_, hK _ ?_⟩; (fail); clear hK K)))); (with_reducible refine wpQuiet_nil ?_); intro wq hw'; obtain ⟨⟨wy, hbq⟩, hw''⟩ := hw'; subst hw'')
    clear pB0_0 pB0_1 pB0_2 pB3_0 pB3_1 pB3_2 pB3_3
    have S6 := Lib.hid (S.out.below hbq)
    clear S hbq
    obtain ⟨tb, htb⟩ : ∃ b, bitB choice 6 = b := ⟨_, rfl⟩
    have HTB := Lib.hid htb
    have HQ : Hid (g = (addWholeP m tb page 1 dout dpm doomed, 1, dout, dpm, 1)) := Lib.hid (by have q := HG.out; rw [htb] at q; simpa using q)
    clear htb
    have sT0 := S6.out
    obtain ⟨p0_0, p0_1, p0_2⟩ := sT0.c3
    have sT1 := sT0.tail
    have sT2 := sT1.tail
    have sT3 := sT2.tail
    obtain ⟨p3_0, p3_1, p3_2, p3_3⟩ := sT3.c4
    have sT4 := sT3.tail
    clear sT0 sT1 sT2 sT3 sT4
    go_upto_region 16 with fail
    refine (S6.out.push _ _).gen (fun w4 S7' _ => ?_)
    have S7 := Lib.hid S7'
    clear S7' S6
    clear p0_0 p0_1 p0_2 p3_0 p3_1 p3_2 p3_3
    cases tb with
    | false =>
      have q : g = (m, 1, dout, dpm, 1) := by rw [HQ.out]; simp [addWholeP]
      have HQ2 := Lib.hid q
      clear q
      go_wp2_with (first | (go_at_call 50; refine (bit_b choice 6 false _ hc0 hc1 (by omega) HTB.out).mono ?_; rintro e w4 ⟨rfl, rfl⟩))
      have sT0 := S7.out
      obtain ⟨p0_0, p0_1, p0_2, p0_3⟩ := sT0.c4
      have sT1 := sT0.tail
      obtain ⟨p1_0, p1_1, p1_2⟩ := sT1.c3
      have sT2 := sT1.tail
      obtain ⟨p2_0, p2_1, p2_2, p2_3⟩ := sT2.c4
      have pF2_0 := sT2.f 0
      have pF2_1 := sT2.f 1
      have pF2_2 := sT2.f 2
      have pF2_3 := sT2.f 3
      have sT3 := sT2.tail
      obtain ⟨p3_0, p3_1, p3_2, p3_3⟩ := sT3.c4
      have pF3_0 := sT3.f 0
      have pF3_1 := sT3.f 1
      have pF3_2 := sT3.f 2
      have pF3_3 := sT3.f 3
      have sT4 := sT3.tail
      have sT5 := sT4.tail
      clear sT0 sT1 sT2 sT3 sT4 sT5
      have hord := S7.out.ord
      simp at hord
      have n1 : ¬ (w.heap.size + 1 = wq.heap.size) := by omega
      have n2 : ¬ (w.heap.size + 1 = w2.heap.size) := by omega
      have n3 : ¬ (w.heap.size + 1 + 1 = wq.heap.size) := by omega
      have n4 : ¬ (w.heap.size + 1 + 1 = w2.heap.size) := by omega
      clear hord
      go_region_held3 (fun w' => w'.cell? ⟨wq.heap.size, 0, none⟩ = some (.slice A0 m.ws.length c0) ∧ w'.cell? ⟨wq.heap.size, 1, none⟩ = some (.slice A1 m.pend.length c1) ∧ w'.cell? ⟨wq.heap.size, 2, none⟩ = some (.slice A2 m.tlb.length c2) ∧ w'.cell? ⟨wq.heap.size, 3, none⟩ = some (.slice A3 m.wc.length c3) ∧ w'.cell? ⟨w2.heap.size, 1, none⟩ = some (.int .i64 dout) ∧ w'.cell? ⟨w2.heap.size, 2, none⟩ = some (.int .i64 dpm)) (go_keep) (fail)
      go_wp2
      refine bodyPost_ret (v := .tuple #[.agg #[.slice A0 m.ws.length c0, .slice A1 m.pend.length c1, .slice A2 m.tlb.length c2, .slice A3 m.wc.length c3], .agg #[.int .i64 1, .int .i64 (dout), .int .i64 dpm, .int .i64 1]]) (by simp [results, Try.results52, go_sem, *]) rfl ?_
      rw [HQ2.out]
      have z := ret_boxes (l1 := [_, _]) S7.out (O.out.below S7.out.b) (by decide) (by decide)
      exact ⟨_, _, _, _, rfl, (z _ _ _ _ _ _ _ _).1.drew, (z _ _ _ _ _ _ _ _).2.drew⟩
    | true =>
      obtain ⟨lw, hlw⟩ : ∃ l, addL m.tlb ⟨page, 1, dout, dpm, doomed⟩ = l := ⟨_, rfl⟩
      have HLW := Lib.hid hlw
      have q : g = ({ m with tlb := lw }, 1, dout, dpm, 1) := by rw [HQ.out, ← hlw]; simp [addWholeP]
      have HQ2 := Lib.hid q
      clear hlw q
      go_upto_region 17 with (first | (go_at_call 50; refine (bit_b choice 6 true _ hc0 hc1 (by omega) HTB.out).mono ?_; rintro e w4 ⟨rfl, rfl⟩))
      have sT0 := S7.out
      have sT1 := sT0.tail
      obtain ⟨p1_0, p1_1, p1_2⟩ := sT1.c3
      have sT2 := sT1.tail
      have sT3 := sT2.tail
      have sT4 := sT3.tail
      have sT5 := sT4.tail
      clear sT0 sT1 sT2 sT3 sT4 sT5
      go_region_held3 (fun w' => w'.cell? ⟨w2.heap.size, 1, none⟩ = some (.int .i64 dout) ∧ w'.cell? ⟨w2.heap.size, 2, none⟩ = some (.int .i64 dpm)) (go_keep) (fail)
      refine ((S7.out.push _ _).drew).gen (fun w6 S9' _ => ?_)
      have S9 := Lib.hid S9'
      clear S9'
      clear p1_0 p1_1 p1_2
      have sT0 := S9.out
      obtain ⟨p0_0, p0_1, p0_2, p0_3, p0_4⟩ := sT0.c5
      have sT1 := sT0.tail
      obtain ⟨p1_0, p1_1, p1_2, p1_3⟩ := sT1.c4
      have pF1_0 := sT1.f 0
      have pF1_1 := sT1.f 1
      have pF1_2 := sT1.f 2
      have pF1_3 := sT1.f 3
      have sT2 := sT1.tail
      have sT3 := sT2.tail
      have sT4 := sT3.tail
      have sT5 := sT4.tail
      obtain ⟨p5_0, p5_1, p5_2, p5_3⟩ := sT5.c4
      have sT6 := sT5.tail
      clear sT0 sT1 sT2 sT3 sT4 sT5 sT6
      go_wp2_with fail
      refine (addTlb_any _ _ _ _ m ⟨page, 1, dout, dpm, doomed⟩ _ (R.out.below S9.out.b) ⟨by omega, by omega, by omega, by omega⟩).mono ?_
      rw [HLW.out]
      rintro e w7 ⟨u0, u1, u2, u3, rfl, o7, hb7⟩
      obtain ⟨B0, d0, B1, d1, B2, d2, B3, d3, rfl, rfl, rfl, rfl⟩ := o7.shape
      have O7 := Lib.hid (o7.lower (Nat.le_trans hbase S9.out.b.size))
      have S10 := Lib.hid (S9.out.below hb7)
      clear o7 hb7 S9
      clear p0_0 p0_1 p0_2 p0_3 p0_4 p1_0 p1_1 p1_2 p1_3 pF1_0 pF1_1 pF1_2 pF1_3 p5_0 p5_1 p5_2 p5_3
      have sT0 := S10.out
      obtain ⟨p0_0, p0_1, p0_2, p0_3, p0_4⟩ := sT0.c5
      have sT1 := sT0.tail
      obtain ⟨p1_0, p1_1, p1_2, p1_3⟩ := sT1.c4
      have pF1_0 := sT1.f 0
      have pF1_1 := sT1.f 1
      have pF1_2 := sT1.f 2
      have pF1_3 := sT1.f 3
      have sT2 := sT1.tail
      have sT3 := sT2.tail
      have sT4 := sT3.tail
      have sT5 := sT4.tail
      obtain ⟨p5_0, p5_1, p5_2, p5_3⟩ := sT5.c4
      have sT6 := sT5.tail
      clear sT0 sT1 sT2 sT3 sT4 sT5 sT6
      go_upto_region 19 with fail
      refine st_genO (S10.out.s1 _ _ _ _) (O7.out.set4 S10.out.tail.head (by decide) _ _ _ _) (fun w8 S11' O8' => ?_)
      have S11 := Lib.hid S11'
      have O8 := Lib.hid O8'
      clear S11' O8' S10 O7
      clear p0_0 p0_1 p0_2 p0_3 p0_4 p1_0 p1_1 p1_2 p1_3 pF1_0 pF1_1 pF1_2 pF1_3 p5_0 p5_1 p5_2 p5_3
      have sT0 := S11.out
      have sT1 := sT0.tail
      obtain ⟨p1_0, p1_1, p1_2, p1_3⟩ := sT1.c4
      have sT2 := sT1.tail
      obtain ⟨p2_0, p2_1, p2_2⟩ := sT2.c3
      have sT3 := sT2.tail
      obtain ⟨p3_0, p3_1, p3_2, p3_3⟩ := sT3.c4
      have pF3_0 := sT3.f 0
      have pF3_1 := sT3.f 1
      have pF3_2 := sT3.f 2
      have pF3_3 := sT3.f 3
      have sT4 := sT3.tail
      obtain ⟨p4_0, p4_1, p4_2, p4_3⟩ := sT4.c4
      have pF4_0 := sT4.f 0
      have pF4_1 := sT4.f 1
      have pF4_2 := sT4.f 2
      have pF4_3 := sT4.f 3
      have sT5 := sT4.tail
      clear sT0 sT1 sT2 sT3 sT4 sT5
      have hord := S11.out.ord
      simp at hord
      have n1 : ¬ (w.heap.size + 1 = wq.heap.size) := by omega
      have n2 : ¬ (w.heap.size + 1 = w2.heap.size) := by omega
      have n3 : ¬ (w.heap.size + 1 + 1 = wq.heap.size) := by omega
      have n4 : ¬ (w.heap.size + 1 + 1 = w2.heap.size) := by omega
      clear hord
      go_region_held3 (fun w' => w'.cell? ⟨wq.heap.size, 0, none⟩ = some (.slice B0 m.ws.length d0) ∧ w'.cell? ⟨wq.heap.size, 1, none⟩ = some (.slice B1 m.pend.length d1) ∧ w'.cell? ⟨wq.heap.size, 2, none⟩ = some (.slice B2 lw.length d2) ∧ w'.cell? ⟨wq.heap.size, 3, none⟩ = some (.slice B3 m.wc.length d3) ∧ w'.cell? ⟨w2.heap.size, 1, none⟩ = some (.int .i64 dout) ∧ w'.cell? ⟨w2.heap.size, 2, none⟩ = some (.int .i64 dpm)) (go_keep) (fail)
      go_wp2
      refine bodyPost_ret (v := .tuple #[.agg #[.slice B0 m.ws.length d0, .slice B1 m.pend.length d1, .slice B2 lw.length d2, .slice B3 m.wc.length d3], .agg #[.int .i64 1, .int .i64 (dout), .int .i64 dpm, .int .i64 1]]) (by simp [results, Try.results52, go_sem, *]) rfl ?_
      rw [HQ2.out]
      have z := ret_boxes (l1 := [_, _, _]) S11.out O8.out (by decide) (by decide)
      exact ⟨_, _, _, _, rfl, (z _ _ _ _ _ _ _ _).1.drew, (z _ _ _ _ _ _ _ _).2.drew⟩
end Go.Proofs.Ythphfcheencbgaa.Mmu
