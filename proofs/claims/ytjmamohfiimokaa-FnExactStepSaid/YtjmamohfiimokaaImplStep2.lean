/- Walks of the program's operations: is one well formed? -/
import Derived.Test.YtjmamohfiimokaaImplMeets
namespace Go.Proofs.Ytjmamohfiimokaa.Mmu
open Go.RowKit Go.Proofs.Ytjmamohfiimokaa.Base Go.Proofs.Ytjmamohfiimokaa.Kinds Go.Proofs.Ytjmamohfiimokaa.DecMath Go.Proofs.Ytjmamohfiimokaa.L1
set_option linter.unusedVariables false
set_option linter.unusedSimpArgs false
set_option maxRecDepth 100000 in
set_option maxHeartbeats 8000000 in
theorem writeFormed_b (base p : Nat) (v0 v1 v2 v3 v4 : Value) (m : SM) (ls : List Int) (a wd rest : Int) (w : World) (x : OwnX base w p v0 v1 v2 v3 v4 m ls) (b : Bool) (h : decide (0 ≤ a ∧ a < (m.ws.length : Int) ∧ rest = 0 ∧ m.pend.length < 10000) = b) :
    Calls Try.prog 298 #[.agg #[.int .i64 a, .int .u64 wd, .int .i64 rest], .pointer (some ⟨p, 0, none⟩)] w fun e w' => e = .returned (.bool b) ∧ Below w.heap.size w w' := by
  obtain ⟨A0, c0, hv0⟩ := x.ws.shape
  obtain ⟨A2, c2, hv2⟩ := x.pend.shape
  subst hv0 hv2
  have X := Lib.hid x
  have H := Lib.hid h
  clear x h
  rcases Bool.eq_false_or_eq_true (decide (0 ≤ a)) with g1 | g1
  · rcases Bool.eq_false_or_eq_true (decide (a < (m.ws.length : Int))) with g2 | g2
    · rcases Bool.eq_false_or_eq_true (rest == 0) with g3 | g3
      all_goals
        go_enter Try.func298, Try.ntmps298
        go_upto_region 1 with fail
        refine ((St.start w).push _ _).gen (fun w1 S1' _ => ?_)
        have S1 := Lib.hid S1'
        have k0 := BW.cell (X.out.below S1'.b).cell.1
        have k2 := BW.cell (X.out.below S1'.b).cell.2.2.1
        clear S1'
        have sT0 := S1.out
        obtain ⟨p0_0, p0_1, p0_2⟩ := sT0.c3
        have sT1 := sT0.tail
        have pB0_0 := BW.cell p0_0
        have pB0_1 := BW.cell p0_1
        have pB0_2 := BW.cell p0_2
        clear p0_0 p0_1 p0_2
        clear sT0 sT1
        (refine wp_region_below (by kernel_rfl) (by kernel_rfl) ?_; (repeat (first | (go_big_quiet_step (fail)) | ((with_reducible refine wpQuiet_step ?_); intro K hK; go_simp; first | ((with_reducible refine hK _ ?_); clear hK K) | (apply Exists.intro; refine ⟨fun _ => ?_, hK _ ?_⟩; (fail); clear hK K)))); (with_reducible refine wpQuiet_nil ?_); intro wq hw'; obtain ⟨⟨wy, hbq⟩, hw''⟩ := hw'; subst hw'')
        go_wp2
        go_ret
      · exact ⟨ret_bool (by rw [← H.out, Bool.eq_iff_iff]; simp at g1 g2 g3; simp [g1, g2, g3]; omega), thenB S1.out.b hbq⟩
      · exact ⟨ret_bool (by rw [← H.out]; simp at g3; simp [g3]), thenB S1.out.b hbq⟩
    · go_enter Try.func298, Try.ntmps298
      go_upto_region 1 with fail
      refine ((St.start w).push _ _).gen (fun w1 S1' _ => ?_)
      have S1 := Lib.hid S1'
      have k0 := BW.cell (X.out.below S1'.b).cell.1
      have k2 := BW.cell (X.out.below S1'.b).cell.2.2.1
      clear S1'
      have sT0 := S1.out
      obtain ⟨p0_0, p0_1, p0_2⟩ := sT0.c3
      have sT1 := sT0.tail
      have pB0_0 := BW.cell p0_0
      have pB0_1 := BW.cell p0_1
      have pB0_2 := BW.cell p0_2
      clear p0_0 p0_1 p0_2
      clear sT0 sT1
      (refine wp_region_below (by kernel_rfl) (by kernel_rfl) ?_; (repeat (first | (go_big_quiet_step (fail)) | ((with_reducible refine wpQuiet_step ?_); intro K hK; go_simp; first | ((with_reducible refine hK _ ?_); clear hK K) | (apply Exists.intro; refine ⟨fun _ => ?_, hK _ ?_⟩; (fail); clear hK K)))); (with_reducible refine wpQuiet_nil ?_); intro wq hw'; obtain ⟨⟨wy, hbq⟩, hw''⟩ := hw'; subst hw'')
      go_wp2
      go_ret
      exact ⟨ret_bool (by rw [← H.out, eq_comm]; simp at g2; exact decide_eq_false (by omega)), thenB S1.out.b hbq⟩
  · go_enter Try.func298, Try.ntmps298
    go_upto_region 1 with fail
    refine ((St.start w).push _ _).gen (fun w1 S1' _ => ?_)
    have S1 := Lib.hid S1'
    have k0 := BW.cell (X.out.below S1'.b).cell.1
    have k2 := BW.cell (X.out.below S1'.b).cell.2.2.1
    clear S1'
    have sT0 := S1.out
    obtain ⟨p0_0, p0_1, p0_2⟩ := sT0.c3
    have sT1 := sT0.tail
    have pB0_0 := BW.cell p0_0
    have pB0_1 := BW.cell p0_1
    have pB0_2 := BW.cell p0_2
    clear p0_0 p0_1 p0_2
    clear sT0 sT1
    (refine wp_region_below (by kernel_rfl) (by kernel_rfl) ?_; (repeat (first | (go_big_quiet_step (fail)) | ((with_reducible refine wpQuiet_step ?_); intro K hK; go_simp; first | ((with_reducible refine hK _ ?_); clear hK K) | (apply Exists.intro; refine ⟨fun _ => ?_, hK _ ?_⟩; (fail); clear hK K)))); (with_reducible refine wpQuiet_nil ?_); intro wq hw'; obtain ⟨⟨wy, hbq⟩, hw''⟩ := hw'; subst hw'')
    go_wp2
    go_ret
    exact ⟨ret_bool (by rw [← H.out, eq_comm]; simp at g1; exact decide_eq_false (by omega)), thenB S1.out.b hbq⟩

set_option maxRecDepth 100000 in
set_option maxHeartbeats 8000000 in
theorem freeFormed_b (base p : Nat) (v0 v1 v2 v3 v4 : Value) (m : SM) (ls : List Int) (kd a bb wd : Int) (w : World) (x : OwnX base w p v0 v1 v2 v3 v4 m ls) (b : Bool) (h : decide (0 ≤ a ∧ a < ((m.ws.length / 16 : Nat) : Int) ∧ bb = 0 ∧ wd = 0) = b) :
    Calls Try.prog 295 #[.agg #[.int .i64 kd, .int .i64 a, .int .i64 bb, .int .u64 wd], .pointer (some ⟨p, 0, none⟩)] w fun e w' => e = .returned (.bool b) ∧ Below w.heap.size w w' := by
  obtain ⟨A0, c0, hv0, hc0, hm0⟩ := (x.ws.rd wLen).shape
  subst hv0
  have X := Lib.hid x
  obtain ⟨f, hf⟩ : ∃ f : Int, ((m.ws.length / 16 : Nat) : Int) = f := ⟨_, rfl⟩
  rw [hf] at h
  have HF := Lib.hid hf
  have H := Lib.hid h
  clear x h hf
  rcases Bool.eq_false_or_eq_true (decide (0 ≤ a)) with g1 | g1
  · rcases Bool.eq_false_or_eq_true (decide (a < f)) with g2 | g2
    · rcases Bool.eq_false_or_eq_true (bb == 0) with g3 | g3
      all_goals
        go_enter Try.func295, Try.ntmps295
        go_upto_region 1 with fail
        refine ((St.start w).push _ _).gen (fun w1 S1' _ => ?_)
        have S1 := Lib.hid S1'
        have k0 := BW.cell (X.out.below S1'.b).cell.1
        clear S1'
        have sT0 := S1.out
        obtain ⟨p0_0, p0_1, p0_2, p0_3⟩ := sT0.c4
        have sT1 := sT0.tail
        have pB0_0 := BW.cell p0_0
        have pB0_1 := BW.cell p0_1
        have pB0_2 := BW.cell p0_2
        have pB0_3 := BW.cell p0_3
        clear p0_0 p0_1 p0_2 p0_3
        clear sT0 sT1
        (refine wp_region_below (by kernel_rfl) (by kernel_rfl) ?_; (repeat (first | (go_big_quiet_step (first | (go_at_call 129; refine BW.calls (frames_b A0 m.ws.length c0 f _ hc0 hm0 HF.out)))) | ((with_reducible refine wpQuiet_step ?_); intro K hK; go_simp; first | ((with_reducible refine hK _ ?_); clear hK K) | (apply Exists.intro; refine ⟨fun _ => ?_, hK _ ?_⟩; (first | (go_at_call 129; refine BW.calls (frames_b A0 m.ws.length c0 f _ hc0 hm0 HF.out))); clear hK K)))); (with_reducible refine wpQuiet_nil ?_); intro wq hw'; obtain ⟨⟨wy, hbq⟩, hw''⟩ := hw'; subst hw'')
        go_wp2
        go_ret
      · exact ⟨ret_bool (by rw [← H.out, Bool.eq_iff_iff]; simp at g1 g2 g3; simp [g1, g2, g3]), thenB S1.out.b hbq⟩
      · exact ⟨ret_bool (by rw [← H.out]; simp at g3; simp [g3]), thenB S1.out.b hbq⟩
    · go_enter Try.func295, Try.ntmps295
      go_upto_region 1 with fail
      refine ((St.start w).push _ _).gen (fun w1 S1' _ => ?_)
      have S1 := Lib.hid S1'
      have k0 := BW.cell (X.out.below S1'.b).cell.1
      clear S1'
      have sT0 := S1.out
      obtain ⟨p0_0, p0_1, p0_2, p0_3⟩ := sT0.c4
      have sT1 := sT0.tail
      have pB0_0 := BW.cell p0_0
      have pB0_1 := BW.cell p0_1
      have pB0_2 := BW.cell p0_2
      have pB0_3 := BW.cell p0_3
      clear p0_0 p0_1 p0_2 p0_3
      clear sT0 sT1
      (refine wp_region_below (by kernel_rfl) (by kernel_rfl) ?_; (repeat (first | (go_big_quiet_step (first | (go_at_call 129; refine BW.calls (frames_b A0 m.ws.length c0 f _ hc0 hm0 HF.out)))) | ((with_reducible refine wpQuiet_step ?_); intro K hK; go_simp; first | ((with_reducible refine hK _ ?_); clear hK K) | (apply Exists.intro; refine ⟨fun _ => ?_, hK _ ?_⟩; (first | (go_at_call 129; refine BW.calls (frames_b A0 m.ws.length c0 f _ hc0 hm0 HF.out))); clear hK K)))); (with_reducible refine wpQuiet_nil ?_); intro wq hw'; obtain ⟨⟨wy, hbq⟩, hw''⟩ := hw'; subst hw'')
      go_wp2
      go_ret
      exact ⟨ret_bool (by rw [← H.out, eq_comm]; simp at g2; exact decide_eq_false (by omega)), thenB S1.out.b hbq⟩
  · go_enter Try.func295, Try.ntmps295
    go_upto_region 1 with fail
    refine ((St.start w).push _ _).gen (fun w1 S1' _ => ?_)
    have S1 := Lib.hid S1'
    have k0 := BW.cell (X.out.below S1'.b).cell.1
    clear S1'
    have sT0 := S1.out
    obtain ⟨p0_0, p0_1, p0_2, p0_3⟩ := sT0.c4
    have sT1 := sT0.tail
    have pB0_0 := BW.cell p0_0
    have pB0_1 := BW.cell p0_1
    have pB0_2 := BW.cell p0_2
    have pB0_3 := BW.cell p0_3
    clear p0_0 p0_1 p0_2 p0_3
    clear sT0 sT1
    (refine wp_region_below (by kernel_rfl) (by kernel_rfl) ?_; (repeat (first | (go_big_quiet_step (fail)) | ((with_reducible refine wpQuiet_step ?_); intro K hK; go_simp; first | ((with_reducible refine hK _ ?_); clear hK K) | (apply Exists.intro; refine ⟨fun _ => ?_, hK _ ?_⟩; (fail); clear hK K)))); (with_reducible refine wpQuiet_nil ?_); intro wq hw'; obtain ⟨⟨wy, hbq⟩, hw''⟩ := hw'; subst hw'')
    go_wp2
    go_ret
    exact ⟨ret_bool (by rw [← H.out, eq_comm]; simp at g1; exact decide_eq_false (by omega)), thenB S1.out.b hbq⟩

theorem pageOKT_b (p : Int) (b : Bool) (h : decide (0 ≤ p ∧ p < 4096) = b) (w : World) : Calls Try.prog 79 #[.int .i64 p] w fun e w' => e = .returned (.bool b) ∧ w' = w :=
  (pageOK_any p w).mono (by rintro e w' ⟨rfl, rfl⟩; exact ⟨by rw [h], rfl⟩)
set_option maxRecDepth 100000 in
set_option maxHeartbeats 8000000 in
theorem tlbiFormed_b (kd a bb wd : Int) (v : Value) (w : World) (b : Bool) (h : decide (0 ≤ a ∧ a < 4096 ∧ 1 ≤ bb ∧ bb ≤ 4096 - a ∧ wd = 0) = b) :
    Calls Try.prog 305 #[.agg #[.int .i64 kd, .int .i64 a, .int .i64 bb, .int .u64 wd], v] w fun e w' => e = .returned (.bool b) ∧ Below w.heap.size w w' := by
  have H := Lib.hid h
  clear h
  by_cases g : 0 ≤ a ∧ a < 4096
  · have HG := Lib.hid (decide_eq_true g)
    obtain ⟨g0, g1⟩ := g
    have e1 : IntKind.i64.wrap (4096 - a) = 4096 - a := by rw [IntKind.wrap_i64]; omega
    go_enter Try.func305, Try.ntmps305
    go_upto_region 1 with fail
    refine ((St.start w).push _ _).gen (fun w1 S1' _ => ?_)
    have S1 := Lib.hid S1'
    clear S1'
    have sT0 := S1.out
    obtain ⟨p0_0, p0_1, p0_2, p0_3⟩ := sT0.c4
    have sT1 := sT0.tail
    clear sT0 sT1
    go_wp2_with (first | (go_at_call 79; refine (pageOKT_b a true HG.out _).mono ?_; rintro e w2 ⟨rfl, rfl⟩))
    all_goals (go_ret; exact ⟨ret_bool (by rw [← H.out, Bool.eq_iff_iff]; simp [g0, g1] at *; try omega), S1.out.b⟩)
  · have HG := Lib.hid (decide_eq_false g)
    have HB : Hid (b = false) := Lib.hid (by rw [← H.out]; exact decide_eq_false (fun h => g ⟨h.1, h.2.1⟩))
    go_enter Try.func305, Try.ntmps305
    go_upto_region 1 with fail
    refine ((St.start w).push _ _).gen (fun w1 S1' _ => ?_)
    have S1 := Lib.hid S1'
    clear S1'
    have sT0 := S1.out
    obtain ⟨p0_0, p0_1, p0_2, p0_3⟩ := sT0.c4
    have sT1 := sT0.tail
    clear sT0 sT1
    go_wp2_with (first | (go_at_call 79; refine (pageOKT_b a false HG.out _).mono ?_; rintro e w2 ⟨rfl, rfl⟩))
    go_ret
    exact ⟨ret_bool HB.out.symm, S1.out.b⟩
set_option maxRecDepth 100000 in
set_option maxHeartbeats 8000000 in
theorem dsbFormed_b (a bb wd : Int) (v : Value) (w : World) (b : Bool) (h : decide (a = 0 ∧ bb = 0 ∧ wd = 0) = b) :
    Calls Try.prog 302 #[.agg #[.int .i64 2, .int .i64 a, .int .i64 bb, .int .u64 wd], v] w fun e w' => e = .returned (.bool b) ∧ Below w.heap.size w w' := by
  have H := Lib.hid h
  clear h
  go_enter Try.func302, Try.ntmps302
  go_upto_region 1 with fail
  refine ((St.start w).push _ _).gen (fun w1 S1' _ => ?_)
  have S1 := Lib.hid S1'
  clear S1'
  have sT0 := S1.out
  obtain ⟨p0_0, p0_1, p0_2, p0_3⟩ := sT0.c4
  have sT1 := sT0.tail
  clear sT0 sT1
  go_wp2
  all_goals (go_ret; exact ⟨ret_bool (by rw [← H.out, Bool.eq_iff_iff]; simp at *; try omega), S1.out.b⟩)
set_option maxHeartbeats 4000000 in
theorem dsbRefused_b (v : Value) (w : World) (kd a bb wd : Int) : Calls Try.prog 303 #[.agg #[.int .i64 kd, .int .i64 a, .int .i64 bb, .int .u64 wd], v] w fun e w' => e = .returned (.int .i64 0) ∧ Below w.heap.size w w' := by
  go_enter Try.func303, Try.ntmps303
  go_wp2
  go_ret
  exact ⟨rfl, allocB (Below.refl _ _) _⟩
set_option maxHeartbeats 4000000 in
theorem tlbiRefused_b (v : Value) (w : World) (kd a bb wd : Int) : Calls Try.prog 306 #[.agg #[.int .i64 kd, .int .i64 a, .int .i64 bb, .int .u64 wd], v] w fun e w' => e = .returned (.int .i64 0) ∧ Below w.heap.size w w' := by
  go_enter Try.func306, Try.ntmps306
  go_wp2
  go_ret
  exact ⟨rfl, allocB (Below.refl _ _) _⟩
end Go.Proofs.Ytjmamohfiimokaa.Mmu
