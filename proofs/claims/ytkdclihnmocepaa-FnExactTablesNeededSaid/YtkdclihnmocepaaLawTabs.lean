/- The law FnExactTablesNeeded. -/
import Derived.Test.YtkdclihnmocepaaImplTabs
import Derived.Test.YtkdclihnmocepaaLawSpan
namespace Go.Proofs.Ytkdclihnmocepaa.Mmu
open Go.RowKit Go.Proofs.Ytkdclihnmocepaa.Base Go.Proofs.Ytkdclihnmocepaa.Kinds
set_option linter.unusedVariables false
set_option linter.unusedSimpArgs false

set_option maxRecDepth 100000 in
set_option maxHeartbeats 4000000 in
theorem lawTabs (v : Value) (l : List SSpan) (w : World) (r : Rd SSpan.enc 5 w v l) :
    Calls Try.prog 3 #[v] w fun e w' => e = .returned (.bool true) ∧ Below w.heap.size w w' := by
  obtain ⟨A, c, rfl, hc1, hc2⟩ := r.shape
  have R := Lib.hid r
  clear r
  go_enter Try.func3, Try.ntmps3
  go_upto_region 3 with (go_at_call 4; refine (LawsSpan.sz_any A l.length c 1048576 _ hc1 hc2 (by omega) (by omega)).mono ?_; rintro e w2 ⟨rfl, rfl⟩)
  by_cases hbig : 1048576 - (l.length : Int) < 0
  · rw [if_pos hbig]
    clear hbig
    go_wp2
    go_ret
    exact ⟨rfl, Below.refl _ _⟩
  rw [if_neg hbig]
  have hl : l.length ≤ 1048576 := by omega
  obtain ⟨n, hn⟩ : ∃ n, tabS l = n := ⟨_, rfl⟩
  have HN := Lib.hid hn
  clear hn
  go_upto_region 6 with (first
    | (go_at_call 6; refine (LawsSpan.toS_any _ l _ R.out hl).mono ?_; rintro e w3 ⟨v3, rfl, o3, hb3⟩; have HO3 := Lib.hid o3; have HB3 := Lib.hid hb3; clear hb3 o3)
    | (go_at_call 5; refine (specTabs_any v3 l _ (HO3.out.rd SSpan.len)).mono ?_; rw [HN.out]; rintro e w4 ⟨rfl, hb4⟩; have HB4 := Lib.hid (thenB HB3.out hb4); clear hb4))
  go_upto_region 8 with (first
    | (go_at_call 6; refine (LawsSpan.toS_any _ l _ (R.out.below HB4.out) hl).mono ?_; rintro e w5 ⟨v5, rfl, o5, hb5⟩; have HO5 := Lib.hid o5; have HB5 := Lib.hid (thenB HB4.out hb5); clear hb5 o5)
    | (go_at_call 7; refine (implTabs_any v5 l _ (HO5.out.rd SSpan.len)).mono ?_; rw [HN.out]; rintro e w6 ⟨rfl, hb6⟩; have HO6 := Lib.hid (HO5.out.below hb6); have HB6 := Lib.hid (thenB HB5.out hb6); clear hb6))
  have hnn : (n != n) = false := by simp
  go_wp2_with (first
    | (go_at_call 6; refine (LawsSpan.toS_any _ l _ (R.out.below HB6.out) hl).mono ?_; rintro e w7 ⟨v7, rfl, o7, hb7⟩; have HO7 := Lib.hid (HO6.out.below hb7); have HO8 := Lib.hid o7; have HB7 := Lib.hid (thenB HB6.out hb7); clear hb7 o7)
    | (go_at_call 8; refine (LawsSpan.eqS_any v5 v7 l l _ (HO7.out.rd SSpan.len) (HO8.out.rd SSpan.len)).mono ?_; rw [decide_eq_true (rfl : l = l)]; rintro e w8 ⟨rfl, hb8⟩; have HB8 := Lib.hid (thenB HB7.out hb8); clear hb8))
  go_ret
  exact ⟨rfl, HB8.out⟩
end Go.Proofs.Ytkdclihnmocepaa.Mmu
