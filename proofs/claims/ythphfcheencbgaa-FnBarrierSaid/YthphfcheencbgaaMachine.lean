/- Walk of the program's mach.machine. -/
import Derived.Test.YthphfcheencbgaaInfoM
import Derived.Test.YthphfcheencbgaaMachOf
namespace Go.Proofs.Ythphfcheencbgaa.Mmu
open Go.RowKit Go.Proofs.Ythphfcheencbgaa.Base Go.Proofs.Ythphfcheencbgaa.Kinds Go.Proofs.Ythphfcheencbgaa.DecMath Go.Proofs.Ythphfcheencbgaa.L1
set_option linter.unusedVariables false
set_option linter.unusedSimpArgs false

/-- The machine inside, read. -/
structure RdX (w : World) (p : Nat) (v0 v1 v2 v3 v4 : Value) (m : SM) : Prop where
  c0 : w.cell? ⟨p, 0, none⟩ = some v0
  c2 : w.cell? ⟨p, 2, none⟩ = some v2
  c3 : w.cell? ⟨p, 3, none⟩ = some v3
  c4 : w.cell? ⟨p, 4, none⟩ = some v4
  ws : Rd wEnc 1 w v0 m.ws
  pend : Rd SWrite.enc 2 w v2 m.pend
  tlb : Rd wholeEnc 5 w v3 m.tlb
  wc : Rd stepEnc 5 w v4 m.wc
theorem RdX.below {w w1 : World} {p : Nat} {v0 v1 v2 v3 v4 : Value} {m : SM} (h : RdX w p v0 v1 v2 v3 v4 m) (hb : Below w.heap.size w w1) : RdX w1 p v0 v1 v2 v3 v4 m :=
  ⟨(hb.cell (World.block_lt_of_cell? _ _ h.c0)).trans h.c0, (hb.cell (World.block_lt_of_cell? _ _ h.c2)).trans h.c2, (hb.cell (World.block_lt_of_cell? _ _ h.c3)).trans h.c3, (hb.cell (World.block_lt_of_cell? _ _ h.c4)).trans h.c4, h.ws.below hb, h.pend.below hb, h.tlb.below hb, h.wc.below hb⟩
theorem OwnX.rd {base : Nat} {w : World} {p : Nat} {v0 v1 v2 v3 v4 : Value} {m : SM} {ls : List Int} (h : OwnX base w p v0 v1 v2 v3 v4 m ls) : RdX w p v0 v1 v2 v3 v4 m :=
  ⟨h.cell.1, h.cell.2.2.1, h.cell.2.2.2.1, h.cell.2.2.2.2, h.ws.rd wLen, h.pend.rd SWrite.len, h.tlb.rd wholeLen, h.wc.rd stepLen⟩

theorem own_off {α : Type} {enc : α → List Value} {sz E b T z : Nat} {w : World} {v : Value} {l : List α} {cs : Array Value} (hz : w.heap[z]? = some (.cells cs T)) (o : Own enc sz E b w v l) (hE : E ≠ T) : some z ≠ v.ownBlock := by
  rcases o.2 with ⟨rfl, _⟩ | ⟨g, cap, cur, rfl, hb, hg, _⟩
  · simp [Value.ownBlock]
  · intro e
    simp only [Value.ownBlock, Option.some.injEq] at e
    rw [← e, hz] at hg
    simp only [Option.some.injEq, Obj.cells.injEq] at hg
    exact hE hg.2.1.symm
theorem zKept {α : Type} {enc : α → List Value} {sz E b z : Nat} {w w' : World} {v : Value} {l : List α} {cs : Array Value} {T : Nat} (hg : w.grownBy w' v.ownBlock) (o : Own enc sz E b w v l) (hz : w.heap[z]? = some (.cells cs T)) (hE : E ≠ T) : w'.heap[z]? = some (.cells cs T) :=
  (hg.block z (Array.getElem?_eq_some_iff.1 hz).1 (own_off hz o hE)).trans hz
theorem zCells {w : World} {z T : Nat} {a b c d : Value} (hz : w.heap[z]? = some (.cells #[a, b, c, d] T)) :
    w.cell? ⟨z, 0, none⟩ = some a ∧ w.cell? ⟨z, 1, none⟩ = some b ∧ w.cell? ⟨z, 2, none⟩ = some c ∧ w.cell? ⟨z, 3, none⟩ = some d ∧ w.frozen? ⟨z, 0, none⟩ = false ∧ w.frozen? ⟨z, 1, none⟩ = false ∧ w.frozen? ⟨z, 2, none⟩ = false ∧ w.frozen? ⟨z, 3, none⟩ = false := by
  simp [World.cell?, World.frozen?, hz]

set_option maxRecDepth 100000 in
set_option maxHeartbeats 4000000 in
theorem machine_any (p : Nat) (v0 v1 v2 v3 v4 : Value) (m : SM) (w : World) (r : RdX w p v0 v1 v2 v3 v4 m) (hl : m.ws.length ≤ 1048576 ∧ m.pend.length ≤ 1048576 ∧ m.tlb.length ≤ 1048576 ∧ m.wc.length ≤ 1048576) :
    Calls Try.prog 26 #[.pointer (some ⟨p, 0, none⟩)] w fun e w' => ∃ u0 u1 u2 u3, e = .returned (.agg #[u0, u1, u2, u3]) ∧ OwnM w.heap.size w' u0 u1 u2 u3 m ∧ Below w.heap.size w w' := by
  obtain ⟨A0, c0, e0, l0, k0⟩ := r.ws.shape
  obtain ⟨A2, c2, e2, l2, k2⟩ := r.pend.shape
  obtain ⟨A3, c3, e3, l3, k3⟩ := r.tlb.shape
  obtain ⟨A4, c4, e4, l4, k4⟩ := r.wc.shape
  subst e0 e2 e3 e4
  obtain ⟨n0, n1, n2, n3⟩ := hl
  have R := Lib.hid r
  clear r
  go_enter Try.func26, Try.ntmps26
  go_upto_region 1 with fail
  have HB0 : Hid (Below w.heap.size w (w.alloc (.cells #[.slice none 0 0, .slice none 0 0, .slice none 0 0, .slice none 0 0] 30))) := Lib.hid (allocB (Below.refl _ _) _)
  have Z := Lib.hid (heap_alloc_new w (.cells #[.slice none 0 0, .slice none 0 0, .slice none 0 0, .slice none 0 0] 30))
  have hs1 : w.heap.size < (w.alloc (.cells #[.slice none 0 0, .slice none 0 0, .slice none 0 0, .slice none 0 0] 30)).heap.size := by simp
  generalize (w.alloc (.cells #[.slice none 0 0, .slice none 0 0, .slice none 0 0, .slice none 0 0] 30)) = w1 at *
  have R1 := Lib.hid (R.out.below HB0.out)
  have m0 := R1.out.c0
  have m2 := R1.out.c2
  have hp1 : p < w1.heap.size := World.block_lt_of_cell? _ _ m0
  go_cut [3] from 8 to 19 (fun x wx => ∃ (b : Nat) (x0 x1 : Value), x = .pointer (some ⟨b, 0, none⟩) ∧ w1.heap.size ≤ b ∧ wx.heap[b]? = some (.cells #[x0, x1, .slice none 0 0, .slice none 0 0] 30) ∧ Own wEnc 1 31 w1.heap.size wx x0 m.ws ∧ Own SWrite.enc 2 60 w1.heap.size wx x1 m.pend ∧ Below w1.heap.size w1 wx)
  case first =>
    go_region_held3 (fun w' => (w'.cell? ⟨p, 0, none⟩ = some (.slice A0 m.ws.length c0) ∧ w'.cell? ⟨p, 2, none⟩ = some (.slice A2 m.pend.length c2)) ∧ Below w1.heap.size w1 w')
      (first
        | exact keepS hp1 m0 m2 (below_drewN (Below.refl _ _) 1)
        | exact keepS hp1 m0 m2 (thenB (And.right (by assumption)) hbA)
        | exact keepS hp1 m0 m2 (Own.grown hoS (And.right (by assumption)) (Below.size (And.right (by assumption))) hgP)
        | exact keepS hp1 m0 m2 (allocB (And.right (by assumption)) _)
        | exact keepS hp1 m0 m2 (allocB hBP _)
        | exact keepS hp1 m0 m2 (Below.setCell (Below.setCell (Below.setCell (Below.setCell hBP (by first | omega | (dsimp only; omega) | (simp; done) | (simp; omega)) _) (by first | omega | (dsimp only; omega) | (simp; done) | (simp; omega)) _) (by first | omega | (dsimp only; omega) | (simp; done) | (simp; omega)) _) (by first | omega | (dsimp only; omega) | (simp; done) | (simp; omega)) _))
      (first
        | (go_at_call 45; refine (copyMem_any _ m.ws _ (R1.out.ws.below (And.right (by assumption))) n0).mono ?_; rintro e wA ⟨vA, rfl, hoA, hbA⟩; obtain ⟨BA, dA, rfl⟩ := hoA.shape; have zA : w1.heap.size ≤ wA.heap.size := Nat.le_trans (Below.size (And.right (by assumption))) hbA.size; replace hoA := hoA.lower (base' := w1.heap.size) (Below.size (And.right (by assumption))))
        | (have hoS := (Own.made SWrite.enc 2 60 (base := w1.heap.size) wA zA).alloc (.cells #[.slice none 0 0, .slice none 0 0, .slice none 0 0, .slice none 0 0] 30)
           have zf := heap_alloc_new (wA.alloc (.cells #[] 60)) (.cells #[.slice none 0 0, .slice none 0 0, .slice none 0 0, .slice none 0 0] 30)
           rw [(show (wA.alloc (.cells #[] 60)).heap.size = wA.heap.size + 1 by simp)] at zf
           refine step_appendAll 60 2 16 26 (.agg #[.int .i64 0, .int .u64 0]) Try.underlying26 infoWr rfl (by decide) SWrite.len SWrite.one rfl (.tmp 13) (.tmp 17) rfl w1.heap.size _ (.slice A2 m.pend.length c2) [] m.pend rfl rfl hoS (R1.out.pend.below (And.right (by assumption))) (by simp; omega) (by decide) (Below.size (And.right (by assumption))) ?_
           intro vP wP hoP hgP
           have hBP : Below w1.heap.size w1 wP := Own.grown hoS (And.right (by assumption)) (Below.size (And.right (by assumption))) hgP
           obtain ⟨BP, dP, rfl⟩ := hoP.shape
           have zP := zKept (z := wA.heap.size + 1) hgP hoS zf (by decide)
           have zc := zCells zP
           obtain ⟨zc0, zc1, zc2, zc3, zf0, zf1, zf2, zf3⟩ := zc)
        | (have hoS := Own.made SWrite.enc 2 60 (base := w1.heap.size) (wA.alloc (.cells #[.slice none 0 0, .slice none 0 0, .slice none 0 0, .slice none 0 0] 30)) (Nat.le_trans zA (by simp))
           rw [(show (wA.alloc (.cells #[.slice none 0 0, .slice none 0 0, .slice none 0 0, .slice none 0 0] 30)).heap.size = wA.heap.size + 1 by simp)] at hoS
           have zf := (heap_alloc_old (wA.alloc (.cells #[.slice none 0 0, .slice none 0 0, .slice none 0 0, .slice none 0 0] 30)) (.cells #[] 60) (show wA.heap.size < (wA.alloc (.cells #[.slice none 0 0, .slice none 0 0, .slice none 0 0, .slice none 0 0] 30)).heap.size by simp)).trans (heap_alloc_new wA (.cells #[.slice none 0 0, .slice none 0 0, .slice none 0 0, .slice none 0 0] 30))
           refine step_appendAll 60 2 16 26 (.agg #[.int .i64 0, .int .u64 0]) Try.underlying26 infoWr rfl (by decide) SWrite.len SWrite.one rfl (.tmp 13) (.tmp 17) rfl w1.heap.size _ (.slice A2 m.pend.length c2) [] m.pend rfl rfl hoS (R1.out.pend.below (And.right (by assumption))) (by simp; omega) (by decide) (Below.size (And.right (by assumption))) ?_
           intro vP wP hoP hgP
           have hBP : Below w1.heap.size w1 wP := Own.grown hoS (And.right (by assumption)) (Below.size (And.right (by assumption))) hgP
           obtain ⟨BP, dP, rfl⟩ := hoP.shape
           have zP := zKept (z := wA.heap.size) hgP hoS zf (by decide)
           have zc := zCells zP
           obtain ⟨zc0, zc1, zc2, zc3, zf0, zf1, zf2, zf3⟩ := zc)
        | (have hoS := Own.made SWrite.enc 2 60 (base := w1.heap.size) wA zA
           have zf := (heap_alloc_old wA (.cells #[] 60) (show w1.drew.heap.size < wA.heap.size from Nat.lt_of_lt_of_le (by simp) hbA.size)).trans ((hbA.block w1.drew.heap.size (by simp)).trans (heap_alloc_new w1.drew (.cells #[.slice none 0 0, .slice none 0 0, .slice none 0 0, .slice none 0 0] 30)))
           refine step_appendAll 60 2 16 26 (.agg #[.int .i64 0, .int .u64 0]) Try.underlying26 infoWr rfl (by decide) SWrite.len SWrite.one rfl (.tmp 13) (.tmp 17) rfl w1.heap.size _ (.slice A2 m.pend.length c2) [] m.pend rfl rfl hoS (R1.out.pend.below (And.right (by assumption))) (by simp; omega) (by decide) (Below.size (And.right (by assumption))) ?_
           intro vP wP hoP hgP
           have hBP : Below w1.heap.size w1 wP := Own.grown hoS (And.right (by assumption)) (Below.size (And.right (by assumption))) hgP
           obtain ⟨BP, dP, rfl⟩ := hoP.shape
           have zP := zKept (z := w1.heap.size) hgP hoS zf (by decide)
           have zc := zCells zP
           obtain ⟨zc0, zc1, zc2, zc3, zf0, zf1, zf2, zf3⟩ := zc)
        | (have hoS := ((Own.made SWrite.enc 2 60 (base := w1.heap.size) w1.drew (Nat.le_refl _)).below hbA).alloc (.cells #[.slice none 0 0, .slice none 0 0, .slice none 0 0, .slice none 0 0] 30)
           have zf := heap_alloc_new wA (.cells #[.slice none 0 0, .slice none 0 0, .slice none 0 0, .slice none 0 0] 30)
           refine step_appendAll 60 2 16 26 (.agg #[.int .i64 0, .int .u64 0]) Try.underlying26 infoWr rfl (by decide) SWrite.len SWrite.one rfl (.tmp 13) (.tmp 17) rfl w1.heap.size _ (.slice A2 m.pend.length c2) [] m.pend rfl rfl hoS (R1.out.pend.below (And.right (by assumption))) (by simp; omega) (by decide) (Below.size (And.right (by assumption))) ?_
           intro vP wP hoP hgP
           have hBP : Below w1.heap.size w1 wP := Own.grown hoS (And.right (by assumption)) (Below.size (And.right (by assumption))) hgP
           obtain ⟨BP, dP, rfl⟩ := hoP.shape
           have zP := zKept (z := wA.heap.size) hgP hoS zf (by decide)
           have zc := zCells zP
           obtain ⟨zc0, zc1, zc2, zc3, zf0, zf1, zf2, zf3⟩ := zc)
        | (have hoS := ((Own.made SWrite.enc 2 60 (base := w1.heap.size) w1.drew (Nat.le_refl _)).alloc (.cells #[.slice none 0 0, .slice none 0 0, .slice none 0 0, .slice none 0 0] 30)).below hbA
           have zf := (hbA.block (w1.drew.alloc (.cells #[] 60)).heap.size (by simp)).trans (heap_alloc_new (w1.drew.alloc (.cells #[] 60)) (.cells #[.slice none 0 0, .slice none 0 0, .slice none 0 0, .slice none 0 0] 30))
           rw [(show (w1.drew.alloc (.cells #[] 60)).heap.size = w1.heap.size + 1 by simp)] at zf
           refine step_appendAll 60 2 16 26 (.agg #[.int .i64 0, .int .u64 0]) Try.underlying26 infoWr rfl (by decide) SWrite.len SWrite.one rfl (.tmp 13) (.tmp 17) rfl w1.heap.size _ (.slice A2 m.pend.length c2) [] m.pend rfl rfl hoS (R1.out.pend.below (And.right (by assumption))) (by simp; omega) (by decide) (Below.size (And.right (by assumption))) ?_
           intro vP wP hoP hgP
           have hBP : Below w1.heap.size w1 wP := Own.grown hoS (And.right (by assumption)) (Below.size (And.right (by assumption))) hgP
           obtain ⟨BP, dP, rfl⟩ := hoP.shape
           have zP := zKept (z := w1.heap.size + 1) hgP hoS zf (by decide)
           have zc := zCells zP
           obtain ⟨zc0, zc1, zc2, zc3, zf0, zf1, zf2, zf3⟩ := zc)
        | (have hoS := (Own.made SWrite.enc 2 60 (base := w1.heap.size) (w1.drew.alloc (.cells #[.slice none 0 0, .slice none 0 0, .slice none 0 0, .slice none 0 0] 30)) (by simp)).below hbA
           rw [(show (w1.drew.alloc (.cells #[.slice none 0 0, .slice none 0 0, .slice none 0 0, .slice none 0 0] 30)).heap.size = w1.heap.size + 1 by simp)] at hoS
           have zf := (hbA.block w1.drew.heap.size (by simp <;> omega)).trans ((heap_alloc_old (w1.drew.alloc (.cells #[.slice none 0 0, .slice none 0 0, .slice none 0 0, .slice none 0 0] 30)) (.cells #[] 60) (show w1.drew.heap.size < (w1.drew.alloc (.cells #[.slice none 0 0, .slice none 0 0, .slice none 0 0, .slice none 0 0] 30)).heap.size by simp)).trans (heap_alloc_new w1.drew (.cells #[.slice none 0 0, .slice none 0 0, .slice none 0 0, .slice none 0 0] 30)))
           refine step_appendAll 60 2 16 26 (.agg #[.int .i64 0, .int .u64 0]) Try.underlying26 infoWr rfl (by decide) SWrite.len SWrite.one rfl (.tmp 13) (.tmp 17) rfl w1.heap.size _ (.slice A2 m.pend.length c2) [] m.pend rfl rfl hoS (R1.out.pend.below (And.right (by assumption))) (by simp; omega) (by decide) (Below.size (And.right (by assumption))) ?_
           intro vP wP hoP hgP
           have hBP : Below w1.heap.size w1 wP := Own.grown hoS (And.right (by assumption)) (Below.size (And.right (by assumption))) hgP
           obtain ⟨BP, dP, rfl⟩ := hoP.shape
           have zP := zKept (z := w1.heap.size) hgP hoS zf (by decide)
           have zc := zCells zP
           obtain ⟨zc0, zc1, zc2, zc3, zf0, zf1, zf2, zf3⟩ := zc)
        | (have hoS := Own.made SWrite.enc 2 60 (base := w1.heap.size) wA zA
           refine step_appendAll 60 2 16 26 (.agg #[.int .i64 0, .int .u64 0]) Try.underlying26 infoWr rfl (by decide) SWrite.len SWrite.one rfl (.tmp 13) (.tmp 17) rfl w1.heap.size _ (.slice A2 m.pend.length c2) [] m.pend rfl rfl hoS (R1.out.pend.below (And.right (by assumption))) (by simp; omega) (by decide) (Below.size (And.right (by assumption))) ?_
           intro vP wP hoP hgP
           have hBP : Below w1.heap.size w1 wP := Own.grown hoS (And.right (by assumption)) (Below.size (And.right (by assumption))) hgP
           obtain ⟨BP, dP, rfl⟩ := hoP.shape)
        | (have hoS := (Own.made SWrite.enc 2 60 (base := w1.heap.size) w1.drew (Nat.le_refl _)).below hbA
           refine step_appendAll 60 2 16 26 (.agg #[.int .i64 0, .int .u64 0]) Try.underlying26 infoWr rfl (by decide) SWrite.len SWrite.one rfl (.tmp 13) (.tmp 17) rfl w1.heap.size _ (.slice A2 m.pend.length c2) [] m.pend rfl rfl hoS (R1.out.pend.below (And.right (by assumption))) (by simp; omega) (by decide) (Below.size (And.right (by assumption))) ?_
           intro vP wP hoP hgP
           have hBP : Below w1.heap.size w1 wP := Own.grown hoS (And.right (by assumption)) (Below.size (And.right (by assumption))) hgP
           obtain ⟨BP, dP, rfl⟩ := hoP.shape))
    all_goals
      have qA : Own wEnc 1 31 w1.heap.size wP (.slice BA m.ws.length dA) m.ws := keptW hgP hoS (show (31 : Nat) ≠ 60 from by decide) (by first | exact hoA | exact hoA.alloc _ | exact (hoA.alloc _).alloc _)
      have hzP : w1.heap.size ≤ wP.heap.size := hBP.size
      go_wp2
      go_meet
      case rel =>
        first
          | exact ⟨_, _, _, rfl, hzP, heap_alloc_new _ _, qA.alloc _, hoP.alloc _, allocB hBP _⟩
          | (refine ⟨_, .slice BA m.ws.length dA, .slice BP m.pend.length dP, rfl, ?_, ?_, ?_, ?_, ?_⟩
             · first | exact zA | exact Nat.le_refl _ | omega
             · rw [box_set (box_set (box_set (box_set zP 0 _) 1 _) 2 _) 3 _]; rfl
             · have hne := own_off zP qA (by decide)
               exact own_setOff (own_setOff (own_setOff (own_setOff qA hne _) hne _) hne _) hne _
             · have hne := own_off zP hoP (by decide)
               exact own_setOff (own_setOff (own_setOff (own_setOff hoP hne _) hne _) hne _) hne _
             · exact And.right (by assumption))
  case rest =>
    obtain ⟨b, x0, x1, rfl, hbb, hz, ho0, ho1, hb⟩ := hcut
    have HZ := Lib.hid hz
    have H0 := Lib.hid ho0
    have H1 := Lib.hid ho1
    have HB := Lib.hid hb
    have d3 := (R1.out.below hb).c3
    have hbb1 : w1.heap.size ≤ b := hbb
    clear hz ho0 ho1 hb m0 m2
    go_wp2
    clear d3
    go_loopw [25] (fun i wr => ∃ (k : Nat) (x : Value), k ≤ m.tlb.length ∧ i = .int .i64 k ∧ wr.heap[b]? = some (.cells #[x0, x1, x, .slice none 0 0] 30) ∧ Own wEnc 1 31 w1.heap.size wr x0 m.ws ∧ Own SWrite.enc 2 60 w1.heap.size wr x1 m.pend ∧ Own STlb.enc 5 40 w1.heap.size wr x (m.tlb.take k) ∧ Below w1.heap.size w1 wr) (fun i _ => m.tlb.length - (intOf i).toNat)
    case atStart => exact ⟨0, .slice none 0 0, Nat.zero_le _, rfl, HZ.out, H0.out, H1.out, Own.nil _ _ _ _ _, HB.out⟩
    case round =>
      obtain ⟨k, x, hk, rfl, hz, ho0, ho1, hox, hb⟩ := hrel
      have d3 := (R1.out.below hb).c3
      have RT := Lib.hid ((R1.out.below hb).tlb)
      have Khz := Lib.hid hz
      have Kho0 := Lib.hid ho0
      have Kho1 := Lib.hid ho1
      have Khox := Lib.hid hox
      have Khb := Lib.hid hb
      by_cases hlt : k < m.tlb.length
      · have hlt' : (k : Int) < (m.tlb.length : Int) := by omega
        obtain ⟨a0, e0, ea, g0, u0, u1, u2, u3, u4⟩ := whole_at RT.out hlt
        cases ea
        have G0 := Lib.hid g0
        obtain ⟨Ax, cx, e⟩ := hox.shape
        rw [take_len (by omega)] at e
        subst e
        obtain ⟨f0, f1, f2, f3, g4, g5, g6, g7⟩ := zCells hz
        have hbz : b < wr.heap.size := (Array.getElem?_eq_some_iff.1 hz).1
        have hbne : b ≠ wr.heap.size := Nat.ne_of_lt hbz
        have hwz : w1.heap.size ≤ (wr.alloc (.cells #[.int .i64 e0.Page, .int .i64 e0.Size, .bool e0.Doomed, .int .i64 e0.Out, .int .i64 e0.Perm] 101)).heap.size := by have := hb.size; simp; omega
        have KA := Lib.hid (hox.alloc (.cells #[.int .i64 e0.Page, .int .i64 e0.Size, .bool e0.Doomed, .int .i64 e0.Out, .int .i64 e0.Perm] 101))
        clear hz ho0 ho1 hox hb g0 d3
        go_wp2_with (at_builtin; refine append1 40 5 40 27 (.agg #[.int .i64 0, .int .i64 0, .int .i64 0, .int .i64 0, .bool false]) Try.underlying27 infoTlS rfl (by decide) STlb.len STlb.one rfl (.tmp 30) (.tmp 45) rfl w1.heap.size (.slice Ax k cx) (m.tlb.take k) e0 _ rfl rfl (by simp [Act.eval]) KA.out (by rw [take_len (by omega)]; omega) (by decide) hwz ?_)
        intro v' wq hoq hgq
        have hg : wr.grownBy wq (Value.slice Ax k cx).ownBlock := World.grownBy.trans (World.grownBy_alloc wr _ _) hgq
        have zq := zKept (T := 30) hg Khox.out Khz.out (by decide)
        have n0 := Kho0.out.kept hg (own_apart (by decide) Kho0.out Khox.out)
        have n1 := Kho1.out.kept hg (own_apart (by decide) Kho1.out Khox.out)
        have hbq : Below w1.heap.size w1 wq := Own.grown Khox.out Khb.out Khb.out.size hg
        rw [← take_snoc G0.out] at hoq
        obtain ⟨Aq, cq, e⟩ := hoq.shape
        rw [take_len (by omega)] at e
        subst e
        obtain ⟨j0, j1, j2, j3, j4, j5, j6, j7⟩ := zCells zq
        have NQ := Lib.hid zq
        have N0 := Lib.hid n0
        have N1 := Lib.hid n1
        have NO := Lib.hid hoq
        have NB := Lib.hid hbq
        clear zq n0 n1 hoq hbq hg hgq f0 f1 f2 f3 g4 g5 g6 g7 u0 u1 u2 u3 u4
        go_wp2
        go_roundw
        case rel =>
          refine ⟨k + 1, _, by omega, by go_num, ?_, own_setOff N0.out (own_off NQ.out N0.out (by decide)) _, own_setOff N1.out (own_off NQ.out N1.out (by decide)) _, own_setOff NO.out (own_off NQ.out NO.out (by decide)) _, NB.out.setCell hbb1 _⟩
          rw [box_set NQ.out 2 _]; rfl
        case measure => simp [intOf]; omega
      · obtain rfl : k = m.tlb.length := by omega
        have hlt' : ¬ ((m.tlb.length : Nat) : Int) < (m.tlb.length : Int) := by omega
        rw [List.take_length] at hox
        have d4 := (R1.out.below hb).c4
        have HZ1 := Lib.hid hz
        have H01 := Lib.hid ho0
        have H11 := Lib.hid ho1
        have H2 := Lib.hid hox
        have HB1 := Lib.hid hb
        clear hz ho0 ho1 hox hb HZ H0 H1 HB Khz Kho0 Kho1 Khox Khb
        go_wp2
        clear d3 d4 hk hlt hlt' RT
        generalize hy : x = y2 at *
        clear hy
        generalize hwy : wr = wy at *
        clear hwy
        go_loopw [54] (fun i wr => ∃ (k : Nat) (x : Value), k ≤ m.wc.length ∧ i = .int .i64 k ∧ wr.heap[b]? = some (.cells #[x0, x1, y2, x] 30) ∧ Own wEnc 1 31 w1.heap.size wr x0 m.ws ∧ Own SWrite.enc 2 60 w1.heap.size wr x1 m.pend ∧ Own SWc.enc 4 42 w1.heap.size wr x (m.wc.take k) ∧ Below w1.heap.size w1 wr ∧ Own STlb.enc 5 40 w1.heap.size wr y2 m.tlb) (fun i _ => m.wc.length - (intOf i).toNat)
        case atStart => exact ⟨0, .slice none 0 0, Nat.zero_le _, rfl, HZ1.out, H01.out, H11.out, Own.nil _ _ _ _ _, HB1.out, H2.out⟩
        case round =>
          obtain ⟨k, x, hk, rfl, hz, ho0, ho1, hox, hb, ho2⟩ := hrel
          have d3 := (R1.out.below hb).c4
          have RT := Lib.hid ((R1.out.below hb).wc)
          have Khz := Lib.hid hz
          have Kho0 := Lib.hid ho0
          have Kho1 := Lib.hid ho1
          have Khox := Lib.hid hox
          have Khb := Lib.hid hb
          have Kho2 := Lib.hid ho2
          by_cases hlt : k < m.wc.length
          · have hlt' : (k : Int) < (m.wc.length : Int) := by omega
            obtain ⟨a0, e0, ea, g0, u0, u1, u2, u3, u4⟩ := step_at RT.out hlt
            cases ea
            have G0 := Lib.hid g0
            obtain ⟨Ax, cx, e⟩ := hox.shape
            rw [take_len (by omega)] at e
            subst e
            obtain ⟨f0, f1, f2, f3, g4, g5, g6, g7⟩ := zCells hz
            have hbz : b < wr.heap.size := (Array.getElem?_eq_some_iff.1 hz).1
            have hbne : b ≠ wr.heap.size := Nat.ne_of_lt hbz
            have hwz : w1.heap.size ≤ (wr.alloc (.cells #[.int .i64 e0.Page, .int .i64 (Go.Proofs.Ythphfcheencbgaa.DecMath.cov (e0.Level - 1)), .bool e0.Doomed, .int .i64 e0.Level, .int .i64 e0.Table] 103)).heap.size := by have := hb.size; simp; omega
            have KA := Lib.hid (hox.alloc (.cells #[.int .i64 e0.Page, .int .i64 (Go.Proofs.Ythphfcheencbgaa.DecMath.cov (e0.Level - 1)), .bool e0.Doomed, .int .i64 e0.Level, .int .i64 e0.Table] 103))
            clear hz ho0 ho1 hox hb g0 d3 ho2
            go_wp2_with (at_builtin; refine append1 42 4 32 28 (.agg #[.int .i64 0, .int .i64 0, .int .i64 0, .bool false]) Try.underlying28 infoWcS rfl (by decide) SWc.len SWc.one rfl (.tmp 59) (.tmp 71) rfl w1.heap.size (.slice Ax k cx) (m.wc.take k) e0 _ rfl rfl (by simp [Act.eval]) KA.out (by rw [take_len (by omega)]; omega) (by decide) hwz ?_)
            intro v' wq hoq hgq
            have hg : wr.grownBy wq (Value.slice Ax k cx).ownBlock := World.grownBy.trans (World.grownBy_alloc wr _ _) hgq
            have zq := zKept (T := 30) hg Khox.out Khz.out (by decide)
            have n0 := Kho0.out.kept hg (own_apart (by decide) Kho0.out Khox.out)
            have n1 := Kho1.out.kept hg (own_apart (by decide) Kho1.out Khox.out)
            have n2 := Kho2.out.kept hg (own_apart (by decide) Kho2.out Khox.out)
            have hbq : Below w1.heap.size w1 wq := Own.grown Khox.out Khb.out Khb.out.size hg
            rw [← take_snoc G0.out] at hoq
            obtain ⟨Aq, cq, e⟩ := hoq.shape
            rw [take_len (by omega)] at e
            subst e
            obtain ⟨j0, j1, j2, j3, j4, j5, j6, j7⟩ := zCells zq
            have NQ := Lib.hid zq
            have N0 := Lib.hid n0
            have N1 := Lib.hid n1
            have NO := Lib.hid hoq
            have NB := Lib.hid hbq
            have N2 := Lib.hid n2
            clear zq n0 n1 hoq hbq hg hgq f0 f1 f2 f3 g4 g5 g6 g7 u0 u1 u2 u3 u4 n2
            go_wp2
            go_roundw
            case rel =>
              refine ⟨k + 1, _, by omega, by go_num, ?_, own_setOff N0.out (own_off NQ.out N0.out (by decide)) _, own_setOff N1.out (own_off NQ.out N1.out (by decide)) _, own_setOff NO.out (own_off NQ.out NO.out (by decide)) _, NB.out.setCell hbb1 _, own_setOff N2.out (own_off NQ.out N2.out (by decide)) _⟩
              rw [box_set NQ.out 3 _]; rfl
            case measure => simp [intOf]; omega
          · obtain rfl : k = m.wc.length := by omega
            have hlt' : ¬ ((m.wc.length : Nat) : Int) < (m.wc.length : Int) := by omega
            rw [List.take_length] at hox
            obtain ⟨f0, f1, f2, f3, g4, g5, g6, g7⟩ := zCells hz
            obtain ⟨Bx, bx, ex⟩ := ho0.shape
            obtain ⟨Cx, cx, ey⟩ := ho1.shape
            obtain ⟨Dx, dx, ez⟩ := ho2.shape
            obtain ⟨Ex, exx, ew⟩ := hox.shape
            subst ex ey ez ew
            have zr : wr.heap[w.heap.size]? = _ := (hb.block _ hs1).trans Z.out
            obtain ⟨r0, r1, r2, r3, r4, r5, r6, r7⟩ := zCells zr
            have hne : b ≠ w.heap.size := by omega
            have PO : Hid (OwnM w1.heap.size wr (.slice Bx m.ws.length bx) (.slice Cx m.pend.length cx) (.slice Dx m.tlb.length dx) (.slice Ex m.wc.length exx) m) := Lib.hid ⟨ho0, ho1, ho2, hox⟩
            clear hz ho0 ho1 hox ho2 zr
            go_wp2
            refine bodyPost_ret (v := .agg #[.slice Bx m.ws.length bx, .slice Cx m.pend.length cx, .slice Dx m.tlb.length dx, .slice Ex m.wc.length exx]) (by simp [results, Try.results26, go_sem, *]) rfl ⟨_, _, _, _, rfl, ?_, ?_⟩
            · refine OwnM.lower (base := w1.heap.size) ?_ HB0.out.size
              exact OwnM.setBelow (OwnM.setBelow (OwnM.setBelow (OwnM.setBelow PO.out hs1 _) hs1 _) hs1 _) hs1 _
            · exact Below.setCell (Below.setCell (Below.setCell (Below.setCell (thenB HB0.out hb) (Nat.le_refl _) _) (Nat.le_refl _) _) (Nat.le_refl _) _) (Nat.le_refl _) _
end Go.Proofs.Ythphfcheencbgaa.Mmu
