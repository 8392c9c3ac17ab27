/- Walks of the program's functions on spans: spanOK, joins, ValidSpans, Span.big, Span.at. -/
import Derived.Test.YtkdclihnmocepaaProg
import Derived.Test.YtkdclihnmocepaaSpanMath
import Derived.Deep.Cut
import Derived.Deep.CutRange
namespace Go.Proofs.Ytkdclihnmocepaa.Mmu
open Go.RowKit Go.Proofs.Ytkdclihnmocepaa.Base Go.Proofs.Ytkdclihnmocepaa.Kinds
set_option linter.unusedVariables false
set_option linter.unusedSimpArgs false

set_option maxRecDepth 100000 in
set_option maxHeartbeats 4000000 in
theorem implSpanOk_any (s : SSpan) (w : World) : Calls Try.prog 20 #[s.val] w fun e w' => e = .returned (.bool (decide (okS s))) ∧ Below w.heap.size w w' := by
  obtain ⟨p, c, o, m, h⟩ := s
  have hd : ∀ b : Bool, (b = true ↔ (1 ≤ c ∧ 0 ≤ p ∧ p + c ≤ 4096 ∧ 0 ≤ o ∧ o + c ≤ 65536 ∧ 1 ≤ m ∧ m ≤ 7)) → b = decide (okS ⟨p, c, o, m, h⟩) := fun b hb => by
    rw [Bool.eq_iff_iff, hb, decide_eq_true_iff]; exact Iff.rfl
  have HD := Lib.hid hd
  clear hd
  unfold SSpan.val
  dsimp only
  go_enter Try.func20, Try.ntmps20
  go_wp2
  all_goals
    go_ret
    refine ⟨ret_bool ?_, allocB (Below.refl _ _) _⟩
    (try simp only [IntKind.wrap_i64] at *)
    refine HD.out _ ?_
    simp only [decide_eq_true_eq, Bool.false_eq_true]
    first | exact ⟨fun hh => hh.elim, fun hh => by omega⟩ | (constructor <;> intro hh <;> omega)

set_option maxRecDepth 100000 in
set_option maxHeartbeats 4000000 in
theorem implJoins_any (a b : SSpan) (ha : okS a) (hb : okS b) (w : World) : Calls Try.prog 21 #[a.val, b.val] w fun e w' => e = .returned (.bool (decide (joinS a b))) ∧ Below w.heap.size w w' := by
  obtain ⟨p, c, o, m, h⟩ := a
  obtain ⟨p', c', o', m', h'⟩ := b
  unfold okS at ha hb
  unfold SSpan.val
  dsimp only at *
  have w1 : IntKind.i64.wrap (p + c) = p + c := by rw [IntKind.wrap_i64]; omega
  have w2 : IntKind.i64.wrap (o + c) = o + c := by rw [IntKind.wrap_i64]; omega
  go_enter Try.func21, Try.ntmps21
  go_wp2
  all_goals
    go_ret
    refine ⟨ret_bool ?_, allocB (allocB (Below.refl _ _) _) _⟩
    simp [joinS] at *
    simp_all
    try (cases h <;> cases h' <;> rfl)

set_option maxRecDepth 100000 in
set_option maxHeartbeats 4000000 in
theorem implBig_any (s : SSpan) (p : Int) (ho : okS s) (hp : 0 ≤ p ∧ p < 4096) (w : World) : Calls Try.prog 26 #[s.val, .int .i64 p] w fun e w' => e = .returned (.bool (bigS s p)) ∧ Below w.heap.size w w' := by
  obtain ⟨pg, c, o, m, h⟩ := s
  obtain ⟨g, hg⟩ : ∃ g, g = p - p % 16 := ⟨_, rfl⟩
  have hb : bigS ⟨pg, c, o, m, h⟩ p = (h && decide (pg ≤ g ∧ g + 16 ≤ pg + c ∧ (o + g - pg) % 16 = 0)) := by subst hg; rfl
  rw [hb]
  unfold okS at ho
  unfold SSpan.val
  dsimp only at *
  have e0 : p / 16 * 16 = g := by omega
  have e1 : IntKind.i64.wrap (p.tdiv 16) = p / 16 := by rw [IntKind.wrap_i64, Int.tdiv_eq_ediv_of_nonneg (by omega)]; omega
  have e2 : IntKind.i64.wrap (p / 16 * 16) = g := by rw [IntKind.wrap_i64]; omega
  have g0 : 0 ≤ g ∧ g < 4096 := by omega
  have w1 : IntKind.i64.wrap (pg + c) = pg + c := by rw [IntKind.wrap_i64]; omega
  have w2 : IntKind.i64.wrap (g + 16) = g + 16 := by rw [IntKind.wrap_i64]; omega
  have w3 : IntKind.i64.wrap (o + g) = o + g := by rw [IntKind.wrap_i64]; omega
  have w4 : IntKind.i64.wrap (o + g - pg) = o + g - pg := by rw [IntKind.wrap_i64]; omega
  have HG := Lib.hid hg
  clear hg hb
  go_enter Try.func26, Try.ntmps26
  go_wp2
  all_goals
    go_ret
    refine ⟨ret_bool ?_, allocB (Below.refl _ _) _⟩
    simp_all <;> first | (rw [Bool.eq_iff_iff]; simp; done) | omega | (intros; omega)

theorem implBig_b (s : SSpan) (p : Int) (ho : okS s) (hp : 0 ≤ p ∧ p < 4096) (b : Bool) (hb : bigS s p = b) (w : World) : Calls Try.prog 26 #[s.val, .int .i64 p] w fun e w' => e = .returned (.bool b) ∧ Below w.heap.size w w' := by
  rw [← hb]; exact implBig_any s p ho hp w

set_option maxRecDepth 100000 in
set_option maxHeartbeats 4000000 in
theorem implHit_any (s : SSpan) (p : Int) (ho : okS s) (hp : 0 ≤ p ∧ p < 4096) (hh : hasS s p) (w : World) : Calls Try.prog 25 #[s.val, .int .i64 p] w fun e w' => e = .returned (hitS s p).val ∧ Below w.heap.size w w' := by
  obtain ⟨b, hb⟩ : ∃ b, bigS s p = b := ⟨_, rfl⟩
  have HB := Lib.hid hb
  have HO := Lib.hid ho
  have HP := Lib.hid hp
  have hv : (hitS s p).val = .agg #[.int .i64 1, .int .i64 (s.Out + p - s.Page), .int .i64 s.Perm, .int .i64 (if b = true then 16 else 1)] := by rw [← hb]; rfl
  rw [hv]
  have e1 : IntKind.i64.wrap (s.Out + p) = s.Out + p := by rw [IntKind.wrap_i64]; unfold okS at ho; omega
  have e2 : IntKind.i64.wrap (s.Out + p - s.Page) = s.Out + p - s.Page := by rw [IntKind.wrap_i64]; unfold okS at ho; omega
  clear hb ho hp hh hv
  go_enter Try.func25, Try.ntmps25
  go_upto_region 1 with fail
  refine ((St.start w).push2 _ _ _ _).gen (fun w1 S1 _ => ?_)
  have sT0 := S1
  obtain ⟨p0_0, p0_1, p0_2, p0_3⟩ := sT0.c4
  have pF0_0 := sT0.f 0
  have pF0_1 := sT0.f 1
  have pF0_2 := sT0.f 2
  have pF0_3 := sT0.f 3
  have sT1 := sT0.tail
  obtain ⟨p1_0, p1_1, p1_2, p1_3, p1_4⟩ := sT1.c5
  have sT2 := sT1.tail
  clear sT0 sT1 sT2
  have HS := Lib.hid S1
  clear S1
  cases b
  · go_upto_region 4 with (first | (go_at_call 26; refine (implBig_b s p HO.out HP.out false HB.out _).mono ?_; rintro e w2 ⟨rfl, hb2⟩))
    have HS2 := Lib.hid (HS.out.below hb2)
    clear p0_0 p0_1 p0_2 p0_3 pF0_0 pF0_1 pF0_2 pF0_3 p1_0 p1_1 p1_2 p1_3 p1_4
    clear HS hb2
    have sT0 := HS2.out
    obtain ⟨p0_0, p0_1, p0_2, p0_3⟩ := sT0.c4
    have pF0_0 := sT0.f 0
    have pF0_1 := sT0.f 1
    have pF0_2 := sT0.f 2
    have pF0_3 := sT0.f 3
    have sT1 := sT0.tail
    obtain ⟨p1_0, p1_1, p1_2, p1_3, p1_4⟩ := sT1.c5
    have sT2 := sT1.tail
    clear sT0 sT1 sT2
    go_wp2
    exact bodyPost_ret (v := .agg #[.int .i64 1, .int .i64 (s.Out + p - s.Page), .int .i64 s.Perm, .int .i64 1]) (by simp [results, Try.results25, go_sem, *]) rfl ⟨rfl, (HS2.out.s0 _ _ _ _).b⟩
  · go_upto_region 4 with (first | (go_at_call 26; refine (implBig_b s p HO.out HP.out true HB.out _).mono ?_; rintro e w2 ⟨rfl, hb2⟩))
    have HS2 := Lib.hid (HS.out.below hb2)
    clear p0_0 p0_1 p0_2 p0_3 pF0_0 pF0_1 pF0_2 pF0_3 p1_0 p1_1 p1_2 p1_3 p1_4
    clear HS hb2
    have sT0 := HS2.out
    obtain ⟨p0_0, p0_1, p0_2, p0_3⟩ := sT0.c4
    have pF0_0 := sT0.f 0
    have pF0_1 := sT0.f 1
    have pF0_2 := sT0.f 2
    have pF0_3 := sT0.f 3
    have sT1 := sT0.tail
    obtain ⟨p1_0, p1_1, p1_2, p1_3, p1_4⟩ := sT1.c5
    have sT2 := sT1.tail
    clear sT0 sT1 sT2
    go_wp2
    exact bodyPost_ret (v := .agg #[.int .i64 1, .int .i64 (s.Out + p - s.Page), .int .i64 s.Perm, .int .i64 16]) (by simp [results, Try.results25, go_sem, *]) rfl ⟨rfl, (HS2.out.s0 _ _ _ _).b⟩
end Go.Proofs.Ytkdclihnmocepaa.Mmu
