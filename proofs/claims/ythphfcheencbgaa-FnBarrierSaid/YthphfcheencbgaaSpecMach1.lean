/- Walks of the reference's functions on entries of the caches. -/
import Derived.Test.YthphfcheencbgaaL1
namespace Go.Proofs.Ythphfcheencbgaa.Mmu
open Go.RowKit Go.Proofs.Ythphfcheencbgaa.Base Go.Proofs.Ythphfcheencbgaa.Kinds Go.Proofs.Ythphfcheencbgaa.DecMath Go.Proofs.Ythphfcheencbgaa.L1
set_option linter.unusedVariables false
set_option linter.unusedSimpArgs false

set_option maxRecDepth 100000 in
set_option maxHeartbeats 4000000 in
theorem tlbOk_any (e : STlb) (w : World) : Calls Try.prog 35 #[e.val] w fun ex w' => ex = .returned (.bool (decide (okTlb e))) ∧ Below w.heap.size w w' := by
  obtain ⟨pg, sz, out, pm, dm⟩ := e
  simp only [STlb.val]
  by_cases hs : sz = 1 ∨ sz = 16
  · rcases hs with rfl | rfl <;> by_cases hp : 0 ≤ pg <;> by_cases ho : 0 ≤ out
    all_goals
      go_enter Try.func35, Try.ntmps35
      go_wp2_with (go_at_call 54; refine (l2PageOk_any _ _).mono ?_; rintro ex w' ⟨rfl, rfl⟩)
      all_goals (go_ret; exact ⟨ret_bool (by rw [Bool.eq_iff_iff, decide_eq_true_iff]; simp [okTlb] at *; try omega), by repeat (first | exact Below.refl _ _ | apply allocB)⟩)
  · have hs1 : ¬ sz = 1 := fun h => hs (Or.inl h)
    have hs2 : ¬ sz = 16 := fun h => hs (Or.inr h)
    clear hs
    go_enter Try.func35, Try.ntmps35
    go_wp2_with (exfalso; simp_all; done)
    all_goals (go_ret; exact ⟨ret_bool (by rw [Bool.eq_iff_iff, decide_eq_true_iff]; simp [okTlb] at *; try omega), by repeat (first | exact Below.refl _ _ | apply allocB)⟩)

set_option maxRecDepth 100000 in
set_option maxHeartbeats 4000000 in
theorem same_any (a b : STlb) (w : World) : Calls Try.prog 60 #[a.val, b.val] w fun ex w' => ex = .returned (.bool (decide (sameP a b))) ∧ Below w.heap.size w w' := by
  obtain ⟨pg, sz, out, pm, dm⟩ := a
  obtain ⟨pg', sz', out', pm', dm'⟩ := b
  simp only [STlb.val]
  go_enter Try.func60, Try.ntmps60
  go_wp2_with (fail)
  all_goals (go_ret; exact ⟨ret_bool (by rw [Bool.eq_iff_iff, decide_eq_true_iff]; simp [sameP] at *; try omega), by repeat (first | exact Below.refl _ _ | apply allocB)⟩)

set_option maxRecDepth 100000 in
set_option maxHeartbeats 4000000 in
theorem wcOk_any (e : SWc) (f : Int) (w : World) : Calls Try.prog 36 #[e.val, .int .i64 f] w fun ex w' => ex = .returned (.bool (decide (okWc f e))) ∧ Below w.heap.size w w' := by
  obtain ⟨lv, pg, tb, dm⟩ := e
  simp only [SWc.val]
  by_cases hs : lv = 2 ∨ lv = 3
  · by_cases hp : 0 ≤ pg ∧ pg < 4096
    · obtain ⟨hp0, hp1⟩ := hp
      have HP : Hid (decide (0 ≤ pg ∧ pg < 4096) = true) := Lib.hid (by simp [hp0, hp1])
      rcases hs with rfl | rfl
      · have hcv : cov 1 = 256 := rfl
        have hok : Hid (okWc f ⟨2, pg, tb, dm⟩ ↔ pg % 256 = 0 ∧ 0 ≤ tb ∧ tb < f) := Lib.hid (by simp [okWc, hp0, hp1, cov])
        have ht : pg.tmod 256 = pg % 256 := Int.tmod_eq_emod_of_nonneg hp0
        rcases Bool.eq_false_or_eq_true (pg.tmod 256 == 0) with h1 | h1 <;> rcases Bool.eq_false_or_eq_true (decide (0 ≤ tb)) with h2 | h2
        all_goals
          have h3 : (pg % 256 == 0) = _ := ht ▸ h1
          have H1 := Lib.hid h3
          have H2 := Lib.hid h2
          clear ht
          go_enter Try.func36, Try.ntmps36
          go_wp2_with (fail)
          go_quiet (first | (go_at_call 54; refine Calls.quiet_of_same (pageOk_b _ true HP.out _)) | (go_at_call 22; refine Calls.quiet_of_same (covers_b _ 256 hcv _)))
          go_wp2
        all_goals (go_ret; exact ⟨ret_bool (by rw [Bool.eq_iff_iff]; simp only [decide_eq_true_iff]; rw [hok.out]; have h4 := H1.out; have h5 := H2.out; simp at *; try omega), by repeat (first | exact Below.refl _ _ | apply allocB | apply below_drewN)⟩)
      · have hcv : cov 2 = 16 := rfl
        have hok : Hid (okWc f ⟨3, pg, tb, dm⟩ ↔ pg % 16 = 0 ∧ 0 ≤ tb ∧ tb < f) := Lib.hid (by simp [okWc, hp0, hp1, cov])
        have ht : pg.tmod 16 = pg % 16 := Int.tmod_eq_emod_of_nonneg hp0
        rcases Bool.eq_false_or_eq_true (pg.tmod 16 == 0) with h1 | h1 <;> rcases Bool.eq_false_or_eq_true (decide (0 ≤ tb)) with h2 | h2
        all_goals
          have h3 : (pg % 16 == 0) = _ := ht ▸ h1
          have H1 := Lib.hid h3
          have H2 := Lib.hid h2
          clear ht
          go_enter Try.func36, Try.ntmps36
          go_wp2_with (fail)
          go_quiet (first | (go_at_call 54; refine Calls.quiet_of_same (pageOk_b _ true HP.out _)) | (go_at_call 22; refine Calls.quiet_of_same (covers_b _ 16 hcv _)))
          go_wp2
        all_goals (go_ret; exact ⟨ret_bool (by rw [Bool.eq_iff_iff]; simp only [decide_eq_true_iff]; rw [hok.out]; have h4 := H1.out; have h5 := H2.out; simp at *; try omega), by repeat (first | exact Below.refl _ _ | apply allocB | apply below_drewN)⟩)
    · have HP : Hid (decide (0 ≤ pg ∧ pg < 4096) = false) := Lib.hid (by simpa using hp)
      have hok : Hid (¬ okWc f ⟨lv, pg, tb, dm⟩) := Lib.hid (fun h => hp h.2.1)
      clear hp
      rcases hs with rfl | rfl
      · go_enter Try.func36, Try.ntmps36
        go_wp2_with (fail)
        go_quiet (first | (go_at_call 54; refine Calls.quiet_of_same (pageOk_b _ false HP.out _)))
        go_wp2
        go_ret
        exact ⟨ret_bool (by rw [eq_comm, decide_eq_false_iff_not]; exact hok.out), by repeat (first | exact Below.refl _ _ | apply allocB | apply below_drewN)⟩
      · go_enter Try.func36, Try.ntmps36
        go_wp2_with (fail)
        go_quiet (first | (go_at_call 54; refine Calls.quiet_of_same (pageOk_b _ false HP.out _)))
        go_wp2
        go_ret
        exact ⟨ret_bool (by rw [eq_comm, decide_eq_false_iff_not]; exact hok.out), by repeat (first | exact Below.refl _ _ | apply allocB | apply below_drewN)⟩
  · have hs1 : ¬ lv = 2 := fun h => hs (Or.inl h)
    have hs2 : ¬ lv = 3 := fun h => hs (Or.inr h)
    clear hs
    go_enter Try.func36, Try.ntmps36
    go_wp2_with (exfalso; simp_all; done)
    all_goals (go_ret; exact ⟨ret_bool (by rw [Bool.eq_iff_iff, decide_eq_true_iff]; simp [okWc] at *; try omega), by repeat (first | exact Below.refl _ _ | apply allocB)⟩)
end Go.Proofs.Ythphfcheencbgaa.Mmu
