/- Walks of the laws' helper functions on machines: counting, copying, comparing, marking, holding. -/
import Derived.Test.YtemfnbcebgflmaaLawMem
import Derived.Test.YtemfnbcebgflmaaLawWrite
import Derived.Test.YtemfnbcebgflmaaLawTlb
import Derived.Test.YtemfnbcebgflmaaLawWc
import Derived.Test.YtemfnbcebgflmaaMach
namespace Go.Proofs.Ytemfnbcebgflmaa.LawsMach
open Go.RowKit Go.Proofs.Ytemfnbcebgflmaa.Base Go.Proofs.Ytemfnbcebgflmaa.Kinds
set_option linter.unusedVariables false
set_option linter.unusedSimpArgs false

/-- What a machine's lists hold together. -/
def bulk (m : SM) : Int := m.ws.length + m.pend.length + m.tlb.length + m.wc.length
theorem bulk_le {m : SM} (h : bulk m ≤ 1048576) : m.ws.length ≤ 1048576 ∧ m.pend.length ≤ 1048576 ∧ m.tlb.length ≤ 1048576 ∧ m.wc.length ≤ 1048576 := by unfold bulk at h; omega


set_option maxRecDepth 100000 in
set_option maxHeartbeats 4000000 in
theorem eq_any (v0 v1 v2 v3 u0 u1 u2 u3 : Value) (m n : SM) (w : World) (r : RdM w v0 v1 v2 v3 m) (q : RdM w u0 u1 u2 u3 n) :
    Calls Try.prog 46 #[.agg #[v0, v1, v2, v3], .agg #[u0, u1, u2, u3]] w fun e w' => e = .returned (.bool (decide (m = n))) ∧ Below w.heap.size w w' := by
  obtain ⟨A0, c0, A1, c1, A2, c2, A3, c3, rfl, rfl, rfl, rfl, _⟩ := r.shape
  obtain ⟨B0, d0, B1, d1, B2, d2, B3, d3, rfl, rfl, rfl, rfl, _⟩ := q.shape
  have R := Lib.hid r
  have Q := Lib.hid q
  have HM : Hid (∀ b : Bool, (b = true ↔ m.ws = n.ws ∧ m.pend = n.pend ∧ m.tlb = n.tlb ∧ m.wc = n.wc) → decide (m = n) = b) := by
    intro b hb
    obtain ⟨a1, a2, a3, a4⟩ := m
    obtain ⟨b1, b2, b3, b4⟩ := n
    rw [Bool.eq_iff_iff, hb]; simp
  clear r q
  go_enter Try.func46, Try.ntmps46
  go_wp2_with (first
    | (go_at_call 33; refine (LawsMem.eq_any _ _ m.ws n.ws _ (R.out.ws.below (allocB (allocB (Below.refl _ _) _) _)) (Q.out.ws.below (allocB (allocB (Below.refl _ _) _) _))).mono ?_; rintro e w1 ⟨rfl, hb1⟩; obtain ⟨hc1, hf1⟩ := bcell hb1; have HB1 := Lib.hid (thenB (allocB (allocB (Below.refl w.heap.size w) _) _) hb1); have hz1 : w.heap.size < w1.heap.size := (by have := hb1.size; simp at this; omega); have hy1 : w.heap.size + 1 < w1.heap.size := (by have := hb1.size; simp at this; omega))
    | (go_at_call 98; refine (LawsWrite.eqS_any _ _ m.pend n.pend _ (R.out.pend.below HB1.out) (Q.out.pend.below HB1.out)).mono ?_; rintro e w2 ⟨rfl, hb2⟩; obtain ⟨hc2, hf2⟩ := bcell hb2; have HB2 := Lib.hid (thenB HB1.out hb2); have hz2 : w.heap.size < w2.heap.size := (by have := hb2.size; omega); have hy2 : w.heap.size + 1 < w2.heap.size := (by have := hb2.size; omega))
    | (go_at_call 99; refine (LawsTlb.eqS_any _ _ m.tlb n.tlb _ (R.out.tlb.below HB2.out) (Q.out.tlb.below HB2.out)).mono ?_; rintro e w3 ⟨rfl, hb3⟩; obtain ⟨hc3, hf3⟩ := bcell hb3; have HB3 := Lib.hid (thenB HB2.out hb3); have hz3 : w.heap.size < w3.heap.size := (by have := hb3.size; omega); have hy3 : w.heap.size + 1 < w3.heap.size := (by have := hb3.size; omega))
    | (go_at_call 100; refine (LawsWc.eqS_any _ _ m.wc n.wc _ (R.out.wc.below HB3.out) (Q.out.wc.below HB3.out)).mono ?_; rintro e w4 ⟨rfl, hb4⟩; have HB4 := Lib.hid (thenB HB3.out hb4)))
  all_goals
    go_ret
    refine ⟨ret_bool ((HM.out _ ?_).symm), by first | exact HB4.out | exact HB3.out | exact HB2.out | exact HB1.out⟩
    simp_all

set_option maxRecDepth 100000 in
set_option maxHeartbeats 4000000 in
theorem sz_any (A0 A1 A2 A3 : Option Addr) (n0 c0 n1 c1 n2 c2 n3 c3 : Nat) (w : World) (h0 : n0 ≤ c0) (k0 : c0 ≤ 9223372036854775807) (h1 : n1 ≤ c1) (k1 : c1 ≤ 9223372036854775807) (h2 : n2 ≤ c2) (k2 : c2 ≤ 9223372036854775807) (h3 : n3 ≤ c3) (k3 : c3 ≤ 9223372036854775807) :
    Calls Try.prog 42 #[.agg #[.slice A0 n0 c0, .slice A1 n1 c1, .slice A2 n2 c2, .slice A3 n3 c3], .int .i64 1048576] w fun e w' => e = .returned (.int .i64 (if (n0 : Int) + n1 + n2 + n3 ≤ 1048576 then 1048576 - ((n0 : Int) + n1 + n2 + n3) else -1)) ∧ Below w.heap.size w w' := by
  by_cases g0 : (1048576 : Int) - n0 < 0
  · rw [if_neg (by omega)]
    go_enter Try.func42, Try.ntmps42
    (go_wp2_with (first | (go_at_call 29; refine (LawsMem.sz_any A0 n0 c0 _ _ h0 k0 (by omega) (by omega)).mono ?_; rw [if_pos (by omega)]; rintro e w1 ⟨rfl, hb1⟩; obtain ⟨hc1, hf1⟩ := bcell hb1; have HB1 := Lib.hid (thenB (allocB (Below.refl w.heap.size w) _) hb1); have hz1 : w.heap.size < w1.heap.size := (by have := hb1.size; simp at this; omega))))
    go_ret
    exact ⟨rfl, HB1.out⟩
  by_cases g1 : ((1048576 - n0) : Int) - n1 < 0
  · rw [if_neg (by omega)]
    go_enter Try.func42, Try.ntmps42
    (go_wp2_with (first | (go_at_call 29; refine (LawsMem.sz_any A0 n0 c0 _ _ h0 k0 (by omega) (by omega)).mono ?_; rw [if_neg (by omega)]; rintro e w1 ⟨rfl, hb1⟩; obtain ⟨hc1, hf1⟩ := bcell hb1; have HB1 := Lib.hid (thenB (allocB (Below.refl w.heap.size w) _) hb1); have hz1 : w.heap.size < w1.heap.size := (by have := hb1.size; simp at this; omega)) | (go_at_call 85; refine (LawsWrite.sz_any A1 n1 c1 _ _ h1 k1 (by omega) (by omega)).mono ?_; rw [if_pos (by omega)]; rintro e w' ⟨rfl, rfl⟩)))
    go_ret
    exact ⟨rfl, HB1.out⟩
  by_cases g2 : ((1048576 - n0 - n1) : Int) - n2 < 0
  · rw [if_neg (by omega)]
    go_enter Try.func42, Try.ntmps42
    (go_wp2_with (first | (go_at_call 29; refine (LawsMem.sz_any A0 n0 c0 _ _ h0 k0 (by omega) (by omega)).mono ?_; rw [if_neg (by omega)]; rintro e w1 ⟨rfl, hb1⟩; obtain ⟨hc1, hf1⟩ := bcell hb1; have HB1 := Lib.hid (thenB (allocB (Below.refl w.heap.size w) _) hb1); have hz1 : w.heap.size < w1.heap.size := (by have := hb1.size; simp at this; omega)) | (go_at_call 85; refine (LawsWrite.sz_any A1 n1 c1 _ _ h1 k1 (by omega) (by omega)).mono ?_; rw [if_neg (by omega)]; rintro e w' ⟨rfl, rfl⟩) | (go_at_call 86; refine (LawsTlb.sz_any A2 n2 c2 _ _ h2 k2 (by omega) (by omega)).mono ?_; rw [if_pos (by omega)]; rintro e w' ⟨rfl, rfl⟩)))
    go_ret
    exact ⟨rfl, HB1.out⟩
  by_cases g3 : ((1048576 - n0 - n1 - n2) : Int) - n3 < 0
  · rw [if_neg (by omega)]
    go_enter Try.func42, Try.ntmps42
    (go_wp2_with (first | (go_at_call 29; refine (LawsMem.sz_any A0 n0 c0 _ _ h0 k0 (by omega) (by omega)).mono ?_; rw [if_neg (by omega)]; rintro e w1 ⟨rfl, hb1⟩; obtain ⟨hc1, hf1⟩ := bcell hb1; have HB1 := Lib.hid (thenB (allocB (Below.refl w.heap.size w) _) hb1); have hz1 : w.heap.size < w1.heap.size := (by have := hb1.size; simp at this; omega)) | (go_at_call 85; refine (LawsWrite.sz_any A1 n1 c1 _ _ h1 k1 (by omega) (by omega)).mono ?_; rw [if_neg (by omega)]; rintro e w' ⟨rfl, rfl⟩) | (go_at_call 86; refine (LawsTlb.sz_any A2 n2 c2 _ _ h2 k2 (by omega) (by omega)).mono ?_; rw [if_neg (by omega)]; rintro e w' ⟨rfl, rfl⟩) | (go_at_call 87; refine (LawsWc.sz_any A3 n3 c3 _ _ h3 k3 (by omega) (by omega)).mono ?_; rw [if_pos (by omega)]; rintro e w' ⟨rfl, rfl⟩)))
    go_ret
    exact ⟨rfl, HB1.out⟩
  rw [if_pos (by omega)]
  go_enter Try.func42, Try.ntmps42
  (go_wp2_with (first | (go_at_call 29; refine (LawsMem.sz_any A0 n0 c0 _ _ h0 k0 (by omega) (by omega)).mono ?_; rw [if_neg (by omega)]; rintro e w1 ⟨rfl, hb1⟩; obtain ⟨hc1, hf1⟩ := bcell hb1; have HB1 := Lib.hid (thenB (allocB (Below.refl w.heap.size w) _) hb1); have hz1 : w.heap.size < w1.heap.size := (by have := hb1.size; simp at this; omega)) | (go_at_call 85; refine (LawsWrite.sz_any A1 n1 c1 _ _ h1 k1 (by omega) (by omega)).mono ?_; rw [if_neg (by omega)]; rintro e w' ⟨rfl, rfl⟩) | (go_at_call 86; refine (LawsTlb.sz_any A2 n2 c2 _ _ h2 k2 (by omega) (by omega)).mono ?_; rw [if_neg (by omega)]; rintro e w' ⟨rfl, rfl⟩) | (go_at_call 87; refine (LawsWc.sz_any A3 n3 c3 _ _ h3 k3 (by omega) (by omega)).mono ?_; rw [if_neg (by omega)]; rintro e w' ⟨rfl, rfl⟩)))
  go_ret
  exact ⟨ret_int (by omega), HB1.out⟩

set_option maxRecDepth 100000 in
set_option maxHeartbeats 4000000 in
theorem to_any (v0 v1 v2 v3 : Value) (m : SM) (w : World) (r : RdM w v0 v1 v2 v3 m) (hl : bulk m ≤ 1048576) :
    Calls Try.prog 44 #[.agg #[v0, v1, v2, v3]] w fun e w' => ∃ u0 u1 u2 u3, e = .returned (.agg #[u0, u1, u2, u3]) ∧ OwnM w.heap.size w' u0 u1 u2 u3 m ∧ Below w.heap.size w w' := by
  obtain ⟨A0, c0, A1, c1, A2, c2, A3, c3, rfl, rfl, rfl, rfl, _⟩ := r.shape
  obtain ⟨l0, l1, l2, l3⟩ := bulk_le hl
  have R := Lib.hid r
  clear r hl
  go_enter Try.func44, Try.ntmps44
  go_wp2_with (first
    | (go_at_call 31; refine (LawsMem.to_any _ m.ws _ (R.out.ws.below (allocB (allocB (allocB (Below.refl _ _) _) _) _)) l0).mono ?_; rintro e w1 ⟨x0, rfl, o0, hb1⟩; obtain ⟨B0, d0, rfl⟩ := o0.shape; obtain ⟨hc1, hf1⟩ := bcell hb1; have HB1 := Lib.hid (thenB (allocB (allocB (allocB (Below.refl w.heap.size w) _) _) _) hb1); have O0 := Lib.hid (o0.lower (show w.heap.size + 3 ≤ _ from by simp)); have hz1 : w.heap.size < w1.heap.size := (by have := hb1.size; simp at this; omega); have hy1 : w.heap.size + 1 < w1.heap.size := (by have := hb1.size; simp at this; omega); have hx1 : w.heap.size + 1 + 1 < w1.heap.size := (by have := hb1.size; simp at this; omega))
    | (go_at_call 91; refine (LawsWrite.toS_any _ m.pend _ (R.out.pend.below (HB1.out.setCell (by simp <;> omega) _)) l1).mono ?_; rintro e w2 ⟨x1, rfl, o1, hb2⟩; obtain ⟨B1, d1, rfl⟩ := o1.shape; obtain ⟨hc2, hf2⟩ := bcell hb2; have HB2 := Lib.hid (thenB (HB1.out.setCell (by simp <;> omega) _) hb2); have O1 := Lib.hid (o1.lower (show w.heap.size + 3 ≤ _ from by simp [World.setCell]; omega)); have hx2 : w.heap.size + 1 + 1 < w2.heap.size := (by have := hb2.size; simp [World.setCell] at this; omega); have hy2 : w.heap.size + 1 < w2.heap.size := (by omega); have hz2 : w.heap.size < w2.heap.size := (by omega))
    | (go_at_call 92; refine (LawsTlb.toS_any _ m.tlb _ (R.out.tlb.below (HB2.out.setCell (by simp <;> omega) _)) l2).mono ?_; rintro e w3 ⟨x2, rfl, o2, hb3⟩; obtain ⟨B2, d2, rfl⟩ := o2.shape; obtain ⟨hc3, hf3⟩ := bcell hb3; have HB3 := Lib.hid (thenB (HB2.out.setCell (by simp <;> omega) _) hb3); have O2 := Lib.hid (o2.lower (show w.heap.size + 3 ≤ _ from by simp [World.setCell]; omega)); have hx3 : w.heap.size + 1 + 1 < w3.heap.size := (by have := hb3.size; simp [World.setCell] at this; omega); have hy3 : w.heap.size + 1 < w3.heap.size := (by omega); have hz3 : w.heap.size < w3.heap.size := (by omega))
    | (go_at_call 93; refine (LawsWc.toS_any _ m.wc _ (R.out.wc.below (HB3.out.setCell (by simp <;> omega) _)) l3).mono ?_; rintro e w4 ⟨x3, rfl, o3, hb4⟩; obtain ⟨B3, d3, rfl⟩ := o3.shape; obtain ⟨hc4, hf4⟩ := bcell hb4; have HB4 := Lib.hid (thenB (HB3.out.setCell (by simp <;> omega) _) hb4); have O3 := Lib.hid (o3.lower (show w.heap.size + 3 ≤ _ from by simp [World.setCell]; omega)); have hx4 : w.heap.size + 1 + 1 < w4.heap.size := (by have := hb4.size; simp [World.setCell] at this; omega); have hy4 : w.heap.size + 1 < w4.heap.size := (by omega); have hz4 : w.heap.size < w4.heap.size := (by omega)))
  have P0 := ((((((O0.out.setBelow (a := ⟨w.heap.size + 1 + 1, 0, none⟩) (by simp) (.slice B0 m.ws.length d0)).below hb2).setBelow (a := ⟨w.heap.size + 1 + 1, 1, none⟩) (by simp) (.slice B1 m.pend.length d1)).below hb3).setBelow (a := ⟨w.heap.size + 1 + 1, 2, none⟩) (by simp) (.slice B2 m.tlb.length d2)).below hb4)
  have P1 := ((((O1.out.setBelow (a := ⟨w.heap.size + 1 + 1, 1, none⟩) (by simp) (.slice B1 m.pend.length d1)).below hb3).setBelow (a := ⟨w.heap.size + 1 + 1, 2, none⟩) (by simp) (.slice B2 m.tlb.length d2)).below hb4)
  have P2 := ((O2.out.setBelow (a := ⟨w.heap.size + 1 + 1, 2, none⟩) (by simp) (.slice B2 m.tlb.length d2)).below hb4)
  have P3 := O3.out
  refine bodyPost_ret (v := .agg #[.slice B0 m.ws.length d0, .slice B1 m.pend.length d1, .slice B2 m.tlb.length d2, .slice B3 m.wc.length d3]) (by simp [results, Try.results44, go_sem, *]) rfl ⟨_, _, _, _, rfl, OwnM.lower (base := w.heap.size + 3) ?_ (by omega), ?_⟩
  · repeat (refine OwnM.setBelow ?_ (by simp) _)
    exact ⟨P0, P1, P2, P3⟩
  · repeat (refine Below.setCell ?_ (by simp <;> omega) _)
    exact HB4.out

/-- What the law marks a machine with, from k on. -/
def markM (k : Int) (m : SM) : SM := ⟨LawsUint64.marks k m.ws.length, LawsWrite.marks (k + m.ws.length) m.pend.length, LawsTlb.marks (k + m.ws.length + 2 * m.pend.length) m.tlb.length, LawsWc.marks (k + m.ws.length + 2 * m.pend.length + 5 * m.tlb.length) m.wc.length⟩
/-- The mark behind the last. -/
def markEnd (k : Int) (m : SM) : Int := k + m.ws.length + 2 * m.pend.length + 5 * m.tlb.length + 4 * m.wc.length

set_option maxRecDepth 100000 in
set_option maxHeartbeats 4000000 in
theorem mark_any (lo hi : Nat) (v0 v1 v2 v3 : Value) (m : SM) (w : World) (o : OwnM lo w v0 v1 v2 v3 m) (hi' : InM hi v0 v1 v2 v3) (hl : bulk m ≤ 1048576) :
    Calls Try.prog 49 #[.agg #[v0, v1, v2, v3], .int .i64 1] w fun e w' => e = .returned (.int .i64 (markEnd 1 m)) ∧ OwnM lo w' v0 v1 v2 v3 (markM 1 m) ∧ Within lo hi w w' := by
  obtain ⟨A0, c0, A1, c1, A2, c2, A3, c3, rfl, rfl, rfl, rfl⟩ := o.shape
  obtain ⟨l0, l1, l2, l3⟩ := bulk_le hl
  obtain ⟨o0, o1, o2, o3⟩ := o
  have O0 := Lib.hid (o0.alloc (.cells #[.slice A0 m.ws.length c0, .slice A1 m.pend.length c1, .slice A2 m.tlb.length c2, .slice A3 m.wc.length c3] 73))
  have O1 := Lib.hid (o1.alloc (.cells #[.slice A0 m.ws.length c0, .slice A1 m.pend.length c1, .slice A2 m.tlb.length c2, .slice A3 m.wc.length c3] 73))
  have O2 := Lib.hid (o2.alloc (.cells #[.slice A0 m.ws.length c0, .slice A1 m.pend.length c1, .slice A2 m.tlb.length c2, .slice A3 m.wc.length c3] 73))
  have O3 := Lib.hid (o3.alloc (.cells #[.slice A0 m.ws.length c0, .slice A1 m.pend.length c1, .slice A2 m.tlb.length c2, .slice A3 m.wc.length c3] 73))
  have g0 : some w.heap.size ≠ (Value.slice A0 m.ws.length c0).ownBlock := fun e => by have := o0.lt _ e.symm; omega
  have g1 : some w.heap.size ≠ (Value.slice A1 m.pend.length c1).ownBlock := fun e => by have := o1.lt _ e.symm; omega
  have g2 : some w.heap.size ≠ (Value.slice A2 m.tlb.length c2).ownBlock := fun e => by have := o2.lt _ e.symm; omega
  have G0 := Lib.hid g0
  have G1 := Lib.hid g1
  have G2 := Lib.hid g2
  have HI := Lib.hid hi'
  have hE : Hid (markEnd 1 m = 1 + m.ws.length + 2 * m.pend.length + 5 * m.tlb.length + 4 * m.wc.length) := rfl
  clear hl o0 o1 o2 o3 hi' g0 g1 g2
  go_enter Try.func49, Try.ntmps49
  go_wp2_with (first
    | (go_at_call 39; refine (LawsMem.mark_any lo _ m.ws _ _ O0.out l0 (by omega) (by omega)).mono ?_; rintro e w1 ⟨rfl, p0, hg1⟩; have HG1 := Lib.hid hg1; have P0 := Lib.hid p0; have P1 := Lib.hid (O1.out.kept hg1 (own_apart (by decide) O1.out O0.out)); have P2 := Lib.hid (O2.out.kept hg1 (own_apart (by decide) O2.out O0.out)); have P3 := Lib.hid (O3.out.kept hg1 (own_apart (by decide) O3.out O0.out)); have e1 : ∀ i, w1.cell? ⟨w.heap.size, i, none⟩ = _ := (fun i => World.cell?_of_block (hg1.block w.heap.size (by simp) G0.out)); have z1 : w.heap.size < w1.heap.size := (by have := hg1.size; simp at this; omega); clear hg1 p0)
    | (go_at_call 105; refine (LawsWrite.markS_any lo _ m.pend _ _ P1.out l1 (by omega) (by omega)).mono ?_; rintro e w2 ⟨rfl, p1, hg2⟩; have HG2 := Lib.hid hg2; have Q1 := Lib.hid p1; have Q0 := Lib.hid (P0.out.kept hg2 (own_apart (by decide) P0.out P1.out)); have Q2 := Lib.hid (P2.out.kept hg2 (own_apart (by decide) P2.out P1.out)); have Q3 := Lib.hid (P3.out.kept hg2 (own_apart (by decide) P3.out P1.out)); have e2 : ∀ i, w2.cell? ⟨w.heap.size, i, none⟩ = _ := (fun i => World.cell?_of_block (hg2.block w.heap.size z1 G1.out)); have z2 : w.heap.size < w2.heap.size := (by have := hg2.size; omega); clear hg2 p1)
    | (go_at_call 106; refine (LawsTlb.markS_any lo _ m.tlb _ _ Q2.out l2 (by omega) (by omega)).mono ?_; rintro e w3 ⟨rfl, p2, hg3⟩; have HG3 := Lib.hid hg3; have S2 := Lib.hid p2; have S0 := Lib.hid (Q0.out.kept hg3 (own_apart (by decide) Q0.out Q2.out)); have S1 := Lib.hid (Q1.out.kept hg3 (own_apart (by decide) Q1.out Q2.out)); have S3 := Lib.hid (Q3.out.kept hg3 (own_apart (by decide) Q3.out Q2.out)); have e3 : ∀ i, w3.cell? ⟨w.heap.size, i, none⟩ = _ := (fun i => World.cell?_of_block (hg3.block w.heap.size z2 G2.out)); have z3 : w.heap.size < w3.heap.size := (by have := hg3.size; omega); clear hg3 p2)
    | (go_at_call 107; refine (LawsWc.markS_any lo _ m.wc _ _ S3.out l3 (by omega) (by omega)).mono ?_; rintro e w4 ⟨rfl, p3, hg4⟩; have HG4 := Lib.hid hg4; have T3 := Lib.hid p3; have T0 := Lib.hid (S0.out.kept hg4 (own_apart (by decide) S0.out S3.out)); have T1 := Lib.hid (S1.out.kept hg4 (own_apart (by decide) S1.out S3.out)); have T2 := Lib.hid (S2.out.kept hg4 (own_apart (by decide) S2.out S3.out)); clear hg4 p3))
  go_ret
  refine ⟨ret_int (by rw [hE.out]), ⟨T0.out, T1.out, T2.out, T3.out⟩, ?_⟩
  have W1 : Within lo hi w w1 := Within.trans (Within.of_below (allocB (Below.refl _ _) _)) (Within.of_grown HG1.out (fun k e => ⟨(O0.out.lt k e).1, HI.out.ws k e⟩))
  have W2 : Within lo hi w1 w2 := Within.of_grown HG2.out (fun k e => ⟨(O1.out.lt k e).1, HI.out.pend k e⟩)
  have W3 : Within lo hi w2 w3 := Within.of_grown HG3.out (fun k e => ⟨(O2.out.lt k e).1, HI.out.tlb k e⟩)
  have W4 : Within lo hi w3 w4 := Within.of_grown HG4.out (fun k e => ⟨(O3.out.lt k e).1, HI.out.wc k e⟩)
  exact ((W1.trans W2).trans W3).trans W4

set_option maxRecDepth 100000 in
set_option maxHeartbeats 4000000 in
theorem held_any (v0 v1 v2 v3 : Value) (m : SM) (w : World) (r : RdM w v0 v1 v2 v3 (markM 1 m)) (hl : bulk m ≤ 1048576) :
    Calls Try.prog 50 #[.agg #[v0, v1, v2, v3], .int .i64 1] w fun e w' => e = .returned (.int .i64 (markEnd 1 m)) ∧ Below w.heap.size w w' := by
  obtain ⟨A0, c0, A1, c1, A2, c2, A3, c3, rfl, rfl, rfl, rfl, _⟩ := r.shape
  obtain ⟨l0, l1, l2, l3⟩ := bulk_le hl
  have R := Lib.hid r
  have hE : Hid (markEnd 1 m = 1 + m.ws.length + 2 * m.pend.length + 5 * m.tlb.length + 4 * m.wc.length) := rfl
  clear hl r
  go_enter Try.func50, Try.ntmps50
  go_wp2_with (first
    | (go_at_call 108; refine (LawsMem.held_any _ m.ws.length 1 _ (R.out.ws.below (allocB (Below.refl _ _) _)) l0 (by omega) (by omega)).mono ?_; rintro e w1 ⟨rfl, hb1⟩; obtain ⟨hc1, hf1⟩ := bcell hb1; have HB1 := Lib.hid (thenB (allocB (Below.refl w.heap.size w) _) hb1); have hz1 : w.heap.size < w1.heap.size := (by have := hb1.size; simp at this; omega))
    | (go_at_call 109; refine (LawsWrite.heldS_any _ m.pend.length _ _ (R.out.pend.below HB1.out) l1 (by omega) (by omega)).mono ?_; rintro e w' ⟨rfl, rfl⟩)
    | (go_at_call 110; refine (LawsTlb.heldS_any _ m.tlb.length _ _ (R.out.tlb.below HB1.out) l2 (by omega) (by omega)).mono ?_; rintro e w' ⟨rfl, rfl⟩)
    | (go_at_call 111; refine (LawsWc.heldS_any _ m.wc.length _ _ (R.out.wc.below HB1.out) l3 (by omega) (by omega)).mono ?_; rintro e w' ⟨rfl, rfl⟩))
  go_ret
  exact ⟨ret_int (by rw [hE.out]), HB1.out⟩

end Go.Proofs.Ytemfnbcebgflmaa.LawsMach
