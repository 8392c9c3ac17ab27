/- Walk of the program's TablesNeeded. -/
import Derived.Test.YtkdclihnmocepaaImplNeeds
import Derived.Test.YtkdclihnmocepaaTabLaw
namespace Go.Proofs.Ytkdclihnmocepaa.Mmu
open Go.RowKit Go.Proofs.Ytkdclihnmocepaa.Base Go.Proofs.Ytkdclihnmocepaa.Kinds
set_option linter.unusedVariables false
set_option linter.unusedSimpArgs false

theorem implValidS_b (v : Value) (l : List SSpan) (w : World) (r : Rd SSpan.enc 5 w v l) (b : Bool) (hb : decide (ValidS l) = b) :
    Calls Try.prog 13 #[v] w fun e w' => e = .returned (.bool b) ∧ Below w.heap.size w w' := by
  rw [← hb]; exact implValidS_any v l w r

set_option maxRecDepth 100000 in
set_option maxHeartbeats 4000000 in
theorem implTabs_any (v : Value) (l : List SSpan) (w : World) (r : Rd SSpan.enc 5 w v l) :
    Calls Try.prog 7 #[v] w fun e w' => e = .returned (.int .i64 (tabS l)) ∧ Below w.heap.size w w' := by
  have R := Lib.hid r
  clear r
  obtain ⟨n, hn⟩ : ∃ n, tabS l = n := ⟨_, rfl⟩
  rw [hn]
  have HN := Lib.hid hn
  clear hn
  by_cases hv : ValidS l
  · have HV := Lib.hid hv
    have HD := Lib.hid (decide_eq_true hv)
    clear hv
    go_enter Try.func7, Try.ntmps7
    go_wp2_with (first
      | (go_at_call 13; refine (implValidS_b v l _ R.out true HD.out).mono ?_; rintro e w1 ⟨rfl, hb1⟩; have HB1 := Lib.hid hb1; clear hb1)
      | (go_at_call 14; refine (implNeeds_any v l _ (R.out.below HB1.out) HV.out).mono ?_; rintro e w2 ⟨b2, rfl, hb2, hh2, hb3⟩; have c2 := need_cellC (marks_lens (hitsS_len l) 4096 4096 4096) hh2; rw [← tab_eq (hitsS l) (hitsS_len l)] at c2; have HB2 := Lib.hid (thenB HB1.out hb3); clear hb2 hh2 hb3))
    go_ret
    refine ⟨ret_int ?_, HB2.out⟩
    rw [← HN.out]; unfold tabS; rw [if_pos HV.out]
  · have HV := Lib.hid hv
    have HD := Lib.hid (decide_eq_false hv)
    clear hv
    go_enter Try.func7, Try.ntmps7
    go_wp2_with (first
      | (go_at_call 13; refine (implValidS_b v l _ R.out false HD.out).mono ?_; rintro e w1 ⟨rfl, hb1⟩; have HB1 := Lib.hid hb1; clear hb1))
    go_ret
    refine ⟨ret_int ?_, HB1.out⟩
    rw [← HN.out]; unfold tabS; rw [if_neg HV.out]
end Go.Proofs.Ytkdclihnmocepaa.Mmu
