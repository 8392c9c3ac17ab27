/- Walks of the reference's l2ChoiceBit, l2ChoiceOk, l2Read. Walks of the reference's l2WcCovers and of the program's bit and choiceOK. Walk of the program's bit. -/
import Derived.Test.YthphfcheencbgaaAddPure
import Derived.Test.YthphfcheencbgaaMachG
import Derived.Test.YthphfcheencbgaaL1
import Derived.Test.YthphfcheencbgaaSpecCopy
import Derived.Test.YthphfcheencbgaaGround
namespace Go.Proofs.Ythphfcheencbgaa.Mmu
open Go.RowKit Go.Proofs.Ythphfcheencbgaa.Base Go.Proofs.Ythphfcheencbgaa.Kinds Go.Proofs.Ythphfcheencbgaa.DecMath Go.Proofs.Ythphfcheencbgaa.L1
set_option linter.unusedVariables false
set_option linter.unusedSimpArgs false

set_option maxRecDepth 100000 in
set_option maxHeartbeats 4000000 in
theorem choiceBit_any (c : Int) (b : Nat) (w : World) (hc : 0 ≤ c) (hc' : c ≤ 65535) (hb : b ≤ 100) :
    Calls Try.prog 50 #[.int .i64 c, .int .i64 b] w fun e w' => e = .returned (.bool (bitB c b)) ∧ w' = w := by
  go_enter Try.func50, Try.ntmps50
  go_wp2
  go_loopw [0, 5] (fun x i wr => ∃ k : Nat, k ≤ b ∧ x = .int .i64 (c / 2 ^ k) ∧ i = .int .i64 k ∧ wr = w) (fun _ i _ => b - (intOf i).toNat)
  case atStart => exact ⟨0, Nat.zero_le _, by simp, rfl, rfl⟩
  case round =>
    obtain ⟨k, hk, rfl, rfl, rfl⟩ := hrel
    have hn := half_nonneg c hc k
    have hle := half_le c hc k
    have hst := half_step c hc k
    by_cases hlt : k < b
    · have hlt' : (k : Int) < (b : Int) := by omega
      generalize hx : c / 2 ^ k = x at *
      go_wp2
      go_roundw
      case rel => exact ⟨k + 1, by omega, by rw [← hst], by go_num, trivial⟩
      case measure => simp [intOf]; omega
    · have hlt' : ¬ (k : Int) < (b : Int) := by omega
      obtain rfl : k = b := by omega
      have HBB : Hid (bitB c k = decide (c / 2 ^ k % 2 = 1)) := Lib.hid rfl
      generalize hx : c / 2 ^ k = x at *
      go_wp2
      go_ret
      all_goals exact ⟨ret_bool (by rw [HBB.out, Bool.eq_iff_iff]; simp), rfl⟩

set_option maxRecDepth 100000 in
set_option maxHeartbeats 4000000 in
theorem read_any (v0 v1 v2 v3 : Value) (m : SM) (a : Int) (late : Bool) (w : World) (r : RdM w v0 v1 v2 v3 m) (ha : 0 ≤ a) (ha' : a < m.ws.length) (h0 : ∀ x ∈ m.pend, 0 ≤ x.Adr) :
    Calls Try.prog 57 #[.agg #[v0, v1, v2, v3], .int .i64 a, .bool late] w fun e w' => e = .returned (.int .u64 (readP m a late)) ∧ Below w.heap.size w w' := by
  obtain ⟨A0, c0, A1, c1, A2, c2, A3, c3, rfl, rfl, rfl, rfl, hl0, hk0, hl1, hk1, hl2, hk2, hl3, hk3⟩ := r.shape
  have R := Lib.hid r
  have H0 := Lib.hid h0
  have hat : a.toNat < m.ws.length := by omega
  have hac : ((a.toNat : Nat) : Int) = a := by omega
  clear r h0
  have fin : ∀ (wr : World), Below (w.alloc (.cells #[.slice A0 m.ws.length c0, .slice A1 m.pend.length c1, .slice A2 m.tlb.length c2, .slice A3 m.wc.length c3] 30)).heap.size (w.alloc (.cells #[.slice A0 m.ws.length c0, .slice A1 m.pend.length c1, .slice A2 m.tlb.length c2, .slice A3 m.wc.length c3] 30)) wr → True := fun _ _ => trivial
  clear fin
  cases late with
  | false =>
    obtain ⟨a0, x0, ea, g0, q0⟩ := word_at (R.out.ws.below (allocB (Below.refl _ _) (.cells #[.slice A0 m.ws.length c0, .slice A1 m.pend.length c1, .slice A2 m.tlb.length c2, .slice A3 m.wc.length c3] 30))) hat
    cases ea
    have HR : Hid (readP m a false = x0) := Lib.hid (by unfold readP; rw [if_neg (by decide), List.getD_eq_getElem?_getD, g0]; rfl)
    clear g0
    go_enter Try.func57, Try.ntmps57
    go_wp2
    go_ret
    exact ⟨ret_int HR.out.symm, allocB (Below.refl _ _) _⟩
  | true =>
    go_enter Try.func57, Try.ntmps57
    go_wp2
    go_loopw [7] (fun i wr => ∃ k : Nat, k ≤ m.pend.length ∧ i = .int .i64 ((k : Int) - 1) ∧ (∀ (j : Nat) (e : SWrite), k ≤ j → m.pend[j]? = some e → e.Adr ≠ a) ∧ wr = w.alloc (.cells #[.slice A0 m.ws.length c0, .slice A1 m.pend.length c1, .slice A2 m.tlb.length c2, .slice A3 m.wc.length c3] 30)) (fun i _ => (intOf i + 1).toNat)
    case atStart => exact ⟨m.pend.length, Nat.le_refl _, by go_num, fun j e hj he => by have := (List.getElem?_eq_some_iff.1 he).1; omega, rfl⟩
    case round =>
      obtain ⟨k, hk, rfl, hall, rfl⟩ := hrel
      have HA := Lib.hid hall
      clear hall
      by_cases hlt : 0 < k
      · obtain ⟨j, rfl⟩ : ∃ j, k = j + 1 := ⟨k - 1, by omega⟩
        have hj : j < m.pend.length := by omega
        have hj' : (j : Int) < (m.pend.length : Int) := by omega
        obtain ⟨a0, e0, ea, g0, u0, u1⟩ := SWrite.at (R.out.pend.below (allocB (Below.refl _ _) (.cells #[.slice A0 m.ws.length c0, .slice A1 m.pend.length c1, .slice A2 m.tlb.length c2, .slice A3 m.wc.length c3] 30))) hj
        cases ea
        have G0 := Lib.hid g0
        have ej : (((j + 1 : Nat) : Int) - 1) = (j : Int) := by omega
        rw [ej]
        clear g0
        by_cases he : e0.Adr = a
        · have HR : Hid (readP m a true = e0.Word) := Lib.hid (latest_hit m j e0 G0.out a he hat H0.out (fun j' e' h1 h2 => HA.out j' e' (by omega) h2))
          have heb : (e0.Adr == a) = true := by simpa using he
          clear he
          go_wp2
          go_ret
          exact ⟨ret_int HR.out.symm, allocB (Below.refl _ _) _⟩
        · have heb : (e0.Adr == a) = false := by simpa using he
          have HE := Lib.hid he
          clear he
          go_wp2
          go_roundw
          case rel =>
            refine ⟨j, by omega, by go_num, fun j' e' h1 h2 => ?_, trivial⟩
            by_cases h : j' = j
            · subst h
              obtain rfl := Option.some.inj (G0.out.symm.trans h2)
              exact HE.out
            · exact HA.out j' e' (by omega) h2
          case measure => simp [intOf] <;> omega
      · obtain rfl : k = 0 := by omega
        obtain ⟨a0, x0, ea, g0, q0⟩ := word_at (R.out.ws.below (allocB (Below.refl _ _) (.cells #[.slice A0 m.ws.length c0, .slice A1 m.pend.length c1, .slice A2 m.tlb.length c2, .slice A3 m.wc.length c3] 30))) hat
        cases ea
        have HR : Hid (readP m a true = x0) := Lib.hid (by rw [latest_miss m a ha H0.out (fun j e he => HA.out j e (Nat.zero_le _) he), List.getD_eq_getElem?_getD, g0]; try rfl)
        clear g0
        go_wp2
        go_ret
        exact ⟨ret_int HR.out.symm, allocB (Below.refl _ _) _⟩
end Go.Proofs.Ythphfcheencbgaa.Mmu

namespace Go.Proofs.Ythphfcheencbgaa.Mmu
open Go.RowKit Go.Proofs.Ythphfcheencbgaa.Base Go.Proofs.Ythphfcheencbgaa.Kinds Go.Proofs.Ythphfcheencbgaa.DecMath Go.Proofs.Ythphfcheencbgaa.L1
set_option linter.unusedVariables false
set_option linter.unusedSimpArgs false
set_option maxRecDepth 100000 in
set_option maxHeartbeats 4000000 in
theorem wcCovers_any (e : SWc) (p : Int) (w : World) (hl : e.Level = 2 ∨ e.Level = 3) (hp : 0 ≤ p) (hp' : p ≤ 100000) : Calls Try.prog 51 #[e.val, .int .i64 p] w fun ex w' => ex = .returned (.bool (decide (wcovP e p))) ∧ Below w.heap.size w w' := by
  obtain ⟨lv, pg, tb, dm⟩ := e
  simp only [SWc.val]
  rcases hl with hs | hs <;> (simp only at hs; subst hs)
  · have hcv : cov 1 = 256 := rfl
    have hok : Hid (wcovP ⟨2, pg, tb, dm⟩ p ↔ p - p % 256 = pg) := Lib.hid Iff.rfl
    go_enter Try.func51, Try.ntmps51
    go_wp2
    go_quiet (first | (go_at_call 22; refine Calls.quiet_of_same (covers_b _ 256 hcv _)))
    go_wp2
    all_goals (go_ret; exact ⟨ret_bool (by rw [Bool.eq_iff_iff, decide_eq_true_iff, hok.out]; simp; try omega), by repeat (first | exact Below.refl _ _ | apply allocB | apply below_drewN)⟩)
  · have hcv : cov 2 = 16 := rfl
    have hok : Hid (wcovP ⟨3, pg, tb, dm⟩ p ↔ p - p % 16 = pg) := Lib.hid Iff.rfl
    go_enter Try.func51, Try.ntmps51
    go_wp2
    go_quiet (first | (go_at_call 22; refine Calls.quiet_of_same (covers_b _ 16 hcv _)))
    go_wp2
    all_goals (go_ret; exact ⟨ret_bool (by rw [Bool.eq_iff_iff, decide_eq_true_iff, hok.out]; simp; try omega), by repeat (first | exact Below.refl _ _ | apply allocB | apply below_drewN)⟩)
end Go.Proofs.Ythphfcheencbgaa.Mmu

namespace Go.Proofs.Ythphfcheencbgaa.Mmu
open Go.RowKit Go.Proofs.Ythphfcheencbgaa.Base Go.Proofs.Ythphfcheencbgaa.Kinds Go.Proofs.Ythphfcheencbgaa.DecMath Go.Proofs.Ythphfcheencbgaa.L1
set_option linter.unusedVariables false
set_option linter.unusedSimpArgs false
end Go.Proofs.Ythphfcheencbgaa.Mmu
