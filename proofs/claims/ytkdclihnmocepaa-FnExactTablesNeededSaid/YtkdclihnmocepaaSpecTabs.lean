/- Walk of the reference's TablesNeeded. -/
import Derived.Test.YtkdclihnmocepaaSpecWant
namespace Go.Proofs.Ytkdclihnmocepaa.Mmu
open Go.RowKit Go.Proofs.Ytkdclihnmocepaa.Base Go.Proofs.Ytkdclihnmocepaa.Kinds
set_option linter.unusedVariables false
set_option linter.unusedSimpArgs false

/-- How many tables a list needs. -/
noncomputable def tabS (l : List SSpan) : Int := if ValidS l then ((wantTo (hitsS l) 256).length : Int) else 0
theorem specValidS_b (v : Value) (l : List SSpan) (w : World) (r : Rd SSpan.enc 5 w v l) (b : Bool) (hb : decide (ValidS l) = b) :
    Calls Try.prog 9 #[v] w fun e w' => e = .returned (.bool b) ∧ Below w.heap.size w w' := by
  rw [← hb]; exact specValidS_any v l w r

set_option maxRecDepth 100000 in
set_option maxHeartbeats 4000000 in
theorem specTabs_any (v : Value) (l : List SSpan) (w : World) (r : Rd SSpan.enc 5 w v l) :
    Calls Try.prog 5 #[v] w fun e w' => e = .returned (.int .i64 (tabS l)) ∧ Below w.heap.size w w' := by
  have R := Lib.hid r
  clear r
  obtain ⟨n, hn⟩ : ∃ n, tabS l = n := ⟨_, rfl⟩
  rw [hn]
  have HN := Lib.hid hn
  clear hn
  by_cases hv : ValidS l
  · have HV := Lib.hid hv
    have HD := Lib.hid (decide_eq_true hv)
    clear hv
    go_enter Try.func5, Try.ntmps5
    go_wp2_with (first
      | (go_at_call 9; refine (specValidS_b v l _ R.out true HD.out).mono ?_; rintro e w1 ⟨rfl, hb1⟩; have HB1 := Lib.hid hb1; clear hb1)
      | (go_at_call 11; refine (specHits_any v l _ (R.out.below HB1.out) HV.out).mono ?_; rintro e w2 ⟨v2, rfl, ho2, hb2⟩; have HO2 := Lib.hid ho2; have HB2 := Lib.hid (thenB HB1.out hb2); clear ho2 hb2)
      | (go_at_call 10; refine (specWanted_any v2 (hitsS l) _ (HO2.out.rd SHit.len) (hitsS_len l)).mono ?_; rintro e w3 ⟨v3, rfl, ho3, hb3⟩; obtain ⟨A3, c3, hv3⟩ := ho3.shape; subst hv3; have HB3 := Lib.hid (thenB HB2.out hb3); clear ho3 hb3))
    go_ret
    refine ⟨ret_int ?_, HB3.out⟩
    rw [← HN.out]; unfold tabS; rw [if_pos HV.out]
  · have HV := Lib.hid hv
    have HD := Lib.hid (decide_eq_false hv)
    clear hv
    go_enter Try.func5, Try.ntmps5
    go_wp2_with (first
      | (go_at_call 9; refine (specValidS_b v l _ R.out false HD.out).mono ?_; rintro e w1 ⟨rfl, hb1⟩; have HB1 := Lib.hid hb1; clear hb1))
    go_ret
    refine ⟨ret_int ?_, HB1.out⟩
    rw [← HN.out]; unfold tabS; rw [if_neg HV.out]
end Go.Proofs.Ytkdclihnmocepaa.Mmu
