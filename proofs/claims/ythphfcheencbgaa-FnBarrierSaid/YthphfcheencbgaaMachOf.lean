/- Walk of the program's machOf. -/
import Derived.Test.YthphfcheencbgaaImplMach
import Derived.Test.YthphfcheencbgaaMachG
import Derived.Test.YthphfcheencbgaaGround
namespace Go.Proofs.Ythphfcheencbgaa.Mmu
open Go.RowKit Go.Proofs.Ythphfcheencbgaa.Base Go.Proofs.Ythphfcheencbgaa.Kinds Go.Proofs.Ythphfcheencbgaa.DecMath Go.Proofs.Ythphfcheencbgaa.L1
set_option linter.unusedVariables false
set_option linter.unusedSimpArgs false

theorem infoWr : (Try.prog.info? 60).map (fun i => (i.zero, i.size, i.bytes)) = some (some (.agg #[.int .i64 0, .int .u64 0]), 2, 16) := by kernel_rfl
theorem keptW {α β : Type} {enc : α → List Value} {enc' : β → List Value} {sz sz' E E' b b' : Nat} {w w' : World} {v v' : Value} {l : List α} {l' : List β} (hg : w.grownBy w' v'.ownBlock) (o : Own enc' sz' E' b' w v' l') (hE : E ≠ E') (h : Own enc sz E b w v l) : Own enc sz E b w' v l :=
  h.kept hg (own_apart hE h o)
theorem infoWh : (Try.prog.info? 101).map (fun i => (i.zero, i.size, i.bytes)) = some (some (.agg #[.int .i64 0, .int .i64 0, .bool false, .int .i64 0, .int .i64 0]), 5, 40) := by kernel_rfl
theorem infoSt : (Try.prog.info? 103).map (fun i => (i.zero, i.size, i.bytes)) = some (some (.agg #[.int .i64 0, .int .i64 0, .bool false, .int .i64 0, .int .i64 0]), 5, 40) := by kernel_rfl
theorem keep5 {w w' : World} {row : Option Nat} {b : Nat} {v0 v1 v2 v3 v4 : Value} (h : w.cell? ⟨b, 0, none⟩ = some v0 ∧ w.cell? ⟨b, 1, none⟩ = some v1 ∧ w.cell? ⟨b, 2, none⟩ = some v2 ∧ w.cell? ⟨b, 3, none⟩ = some v3 ∧ w.cell? ⟨b, 4, none⟩ = some v4) (hg : w.grownBy w' row) (hn : some b ≠ row) :
    w'.cell? ⟨b, 0, none⟩ = some v0 ∧ w'.cell? ⟨b, 1, none⟩ = some v1 ∧ w'.cell? ⟨b, 2, none⟩ = some v2 ∧ w'.cell? ⟨b, 3, none⟩ = some v3 ∧ w'.cell? ⟨b, 4, none⟩ = some v4 :=
  ⟨hg.cell h.1 hn, hg.cell h.2.1 hn, hg.cell h.2.2.1 hn, hg.cell h.2.2.2.1 hn, hg.cell h.2.2.2.2 hn⟩
theorem keep6 {w w' : World} {row : Option Nat} {b q i : Nat} {v0 v1 v2 v3 v4 u : Value} (h : w.cell? ⟨b, 0, none⟩ = some v0 ∧ w.cell? ⟨b, 1, none⟩ = some v1 ∧ w.cell? ⟨b, 2, none⟩ = some v2 ∧ w.cell? ⟨b, 3, none⟩ = some v3 ∧ w.cell? ⟨b, 4, none⟩ = some v4 ∧ w.cell? ⟨q, i, none⟩ = some u) (hg : w.grownBy w' row) (hn : some b ≠ row) (hq : some q ≠ row) :
    w'.cell? ⟨b, 0, none⟩ = some v0 ∧ w'.cell? ⟨b, 1, none⟩ = some v1 ∧ w'.cell? ⟨b, 2, none⟩ = some v2 ∧ w'.cell? ⟨b, 3, none⟩ = some v3 ∧ w'.cell? ⟨b, 4, none⟩ = some v4 ∧ w'.cell? ⟨q, i, none⟩ = some u :=
  ⟨hg.cell h.1 hn, hg.cell h.2.1 hn, hg.cell h.2.2.1 hn, hg.cell h.2.2.2.1 hn, hg.cell h.2.2.2.2.1 hn, hg.cell h.2.2.2.2.2 hq⟩
theorem keep5' {w w' : World} {row : Option Nat} {b q i : Nat} {v0 v1 v2 v3 u : Value} (h : w.cell? ⟨b, 0, none⟩ = some v0 ∧ w.cell? ⟨b, 1, none⟩ = some v1 ∧ w.cell? ⟨b, 2, none⟩ = some v2 ∧ w.cell? ⟨b, 3, none⟩ = some v3 ∧ w.cell? ⟨q, i, none⟩ = some u) (hg : w.grownBy w' row) (hn : some b ≠ row) (hq : some q ≠ row) :
    w'.cell? ⟨b, 0, none⟩ = some v0 ∧ w'.cell? ⟨b, 1, none⟩ = some v1 ∧ w'.cell? ⟨b, 2, none⟩ = some v2 ∧ w'.cell? ⟨b, 3, none⟩ = some v3 ∧ w'.cell? ⟨q, i, none⟩ = some u :=
  ⟨hg.cell h.1 hn, hg.cell h.2.1 hn, hg.cell h.2.2.1 hn, hg.cell h.2.2.2.1 hn, hg.cell h.2.2.2.2 hq⟩
theorem keep4 {w w' : World} {row : Option Nat} {b : Nat} {v0 v1 v2 v3 : Value} (h : w.cell? ⟨b, 0, none⟩ = some v0 ∧ w.cell? ⟨b, 1, none⟩ = some v1 ∧ w.cell? ⟨b, 2, none⟩ = some v2 ∧ w.cell? ⟨b, 3, none⟩ = some v3) (hg : w.grownBy w' row) (hn : some b ≠ row) :
    w'.cell? ⟨b, 0, none⟩ = some v0 ∧ w'.cell? ⟨b, 1, none⟩ = some v1 ∧ w'.cell? ⟨b, 2, none⟩ = some v2 ∧ w'.cell? ⟨b, 3, none⟩ = some v3 :=
  ⟨hg.cell h.1 hn, hg.cell h.2.1 hn, hg.cell h.2.2.1 hn, hg.cell h.2.2.2 hn⟩
theorem keepS {w wb : World} {a1 a2 : Addr} {v1 v2 : Value} (hz : a1.block < w.heap.size) (m1 : w.cell? a1 = some v1) (m2 : w.cell? a2 = some v2) (hb : Below w.heap.size w wb) : (wb.cell? a1 = some v1 ∧ wb.cell? a2 = some v2) ∧ Below w.heap.size w wb :=
  ⟨⟨(hb.cell (World.block_lt_of_cell? _ _ m1)).trans m1, (hb.cell (World.block_lt_of_cell? _ _ m2)).trans m2⟩, hb⟩

set_option maxRecDepth 100000 in
set_option maxHeartbeats 4000000 in
theorem machOf_any (v0 v1 v2 v3 : Value) (m : SM) (w : World) (r : RdM w v0 v1 v2 v3 m) (hv : Valid m) :
    Calls Try.prog 24 #[.agg #[v0, v1, v2, v3]] w fun ex w' => ∃ p u0 u1 u2 u3 u4, ex = .returned (.pointer (some ⟨p, 0, none⟩)) ∧ OwnX w.heap.size w' p u0 u1 u2 u3 u4 m (latestOf m) ∧ Below w.heap.size w w' := by
  obtain ⟨A0, c0, A1, c1, A2, c2, A3, c3, rfl, rfl, rfl, rfl, hl0, hk0, hl1, hk1, hl2, hk2, hl3, hk3⟩ := r.shape
  have R := Lib.hid r
  have V := Lib.hid hv
  have hn : m.ws.length ≤ 1048576 := by have := hv.frames; omega
  have hn1 : m.pend.length ≤ 10000 := hv.npend
  have hn2 : m.tlb.length ≤ 256 := hv.ntlb
  have hn3 : m.wc.length ≤ 256 := hv.nwc
  clear r hv
  go_enter Try.func24, Try.ntmps24
  go_upto_region 1 with fail
  have hb0 : Below w.heap.size w (w.alloc (.cells #[.slice A0 m.ws.length c0, .slice A1 m.pend.length c1, .slice A2 m.tlb.length c2, .slice A3 m.wc.length c3] 30)) := allocB (Below.refl _ _) _
  have m0 : (w.alloc (.cells #[.slice A0 m.ws.length c0, .slice A1 m.pend.length c1, .slice A2 m.tlb.length c2, .slice A3 m.wc.length c3] 30)).cell? ⟨w.heap.size, 0, none⟩ = some (.slice A0 m.ws.length c0) := by go_simp
  have m1 : (w.alloc (.cells #[.slice A0 m.ws.length c0, .slice A1 m.pend.length c1, .slice A2 m.tlb.length c2, .slice A3 m.wc.length c3] 30)).cell? ⟨w.heap.size, 1, none⟩ = some (.slice A1 m.pend.length c1) := by go_simp
  have m2 : (w.alloc (.cells #[.slice A0 m.ws.length c0, .slice A1 m.pend.length c1, .slice A2 m.tlb.length c2, .slice A3 m.wc.length c3] 30)).cell? ⟨w.heap.size, 2, none⟩ = some (.slice A2 m.tlb.length c2) := by go_simp
  have m3 : (w.alloc (.cells #[.slice A0 m.ws.length c0, .slice A1 m.pend.length c1, .slice A2 m.tlb.length c2, .slice A3 m.wc.length c3] 30)).cell? ⟨w.heap.size, 3, none⟩ = some (.slice A3 m.wc.length c3) := by go_simp
  have hz : w.heap.size < (w.alloc (.cells #[.slice A0 m.ws.length c0, .slice A1 m.pend.length c1, .slice A2 m.tlb.length c2, .slice A3 m.wc.length c3] 30)).heap.size := by simp
  generalize (w.alloc (.cells #[.slice A0 m.ws.length c0, .slice A1 m.pend.length c1, .slice A2 m.tlb.length c2, .slice A3 m.wc.length c3] 30)) = w1 at *
  have HB0 := Lib.hid hb0
  have M0 := Lib.hid m0
  have M1 := Lib.hid m1
  have M2 := Lib.hid m2
  have M3 := Lib.hid m3
  have R1 := Lib.hid (R.out.below hb0)
  clear hb0 m2 m3
  go_cut [3] from 10 to 21 (fun x wx => ∃ p u0 u1 u2, x = .pointer (some ⟨p, 0, none⟩) ∧ OwnX w1.heap.size wx p u0 u1 u2 (.slice none 0 0) (.slice none 0 0) ⟨m.ws, m.pend, [], []⟩ m.ws ∧ Below w1.heap.size w1 wx)
  case first =>
    go_region_held3 (fun w' => (w'.cell? ⟨w.heap.size, 0, none⟩ = some (.slice A0 m.ws.length c0) ∧ w'.cell? ⟨w.heap.size, 1, none⟩ = some (.slice A1 m.pend.length c1)) ∧ Below w1.heap.size w1 w')
      (first
        | exact keepS hz m0 m1 (below_drewN (Below.refl _ _) 1)
        | exact keepS hz m0 m1 (thenB (And.right (by assumption)) hbB)
        | exact keepS hz m0 m1 (thenB (And.right (by assumption)) hbA)
        | exact keepS hz m0 m1 (Own.grown hoS (And.right (by assumption)) (Below.size (And.right (by assumption))) hgP)
        | exact keepS hz m0 m1 (allocB (And.right (by assumption)) _))
      (first
        | (go_at_call 45; refine (copyMem_any _ m.ws _ (R1.out.ws.below (And.right (by assumption))) hn).mono ?_; first | (have hq := hbA; clear hq; rintro e wB ⟨vB, rfl, hoB, hbB⟩; obtain ⟨BB, dB, rfl⟩ := hoB.shape; have zB : w1.heap.size ≤ wB.heap.size := Nat.le_trans (Below.size (And.right (by assumption))) hbB.size) | (rintro e wA ⟨vA, rfl, hoA, hbA⟩; obtain ⟨BA, dA, rfl⟩ := hoA.shape; have zA : w1.heap.size ≤ wA.heap.size := Nat.le_trans (Below.size (And.right (by assumption))) hbA.size; replace hoA := hoA.lower (base' := w1.heap.size) (Below.size (And.right (by assumption)))))
        | (have hoS := Own.made SWrite.enc 2 60 (base := w1.heap.size) wB zB
           refine step_appendAll 60 2 16 26 (.agg #[.int .i64 0, .int .u64 0]) Try.underlying26 infoWr rfl (by decide) SWrite.len SWrite.one rfl (.tmp 16) (.tmp 18) rfl w1.heap.size _ (.slice A1 m.pend.length c1) [] m.pend rfl rfl hoS (R1.out.pend.below (And.right (by assumption))) (by simp; omega) (by decide) (Below.size (And.right (by assumption))) ?_
           intro vP wP hoP hgP
           obtain ⟨BP, dP, rfl⟩ := hoP.shape)
        | (have hoS := (Own.made SWrite.enc 2 60 (base := w1.heap.size) wA zA).below hbB
           refine step_appendAll 60 2 16 26 (.agg #[.int .i64 0, .int .u64 0]) Try.underlying26 infoWr rfl (by decide) SWrite.len SWrite.one rfl (.tmp 16) (.tmp 18) rfl w1.heap.size _ (.slice A1 m.pend.length c1) [] m.pend rfl rfl hoS (R1.out.pend.below (And.right (by assumption))) (by simp; omega) (by decide) (Below.size (And.right (by assumption))) ?_
           intro vP wP hoP hgP
           obtain ⟨BP, dP, rfl⟩ := hoP.shape)
        | (have hoS := ((Own.made SWrite.enc 2 60 (base := w1.heap.size) w1.drew (Nat.le_refl _)).below hbA).below hbB
           refine step_appendAll 60 2 16 26 (.agg #[.int .i64 0, .int .u64 0]) Try.underlying26 infoWr rfl (by decide) SWrite.len SWrite.one rfl (.tmp 16) (.tmp 18) rfl w1.heap.size _ (.slice A1 m.pend.length c1) [] m.pend rfl rfl hoS (R1.out.pend.below (And.right (by assumption))) (by simp; omega) (by decide) (Below.size (And.right (by assumption))) ?_
           intro vP wP hoP hgP
           obtain ⟨BP, dP, rfl⟩ := hoP.shape))
    all_goals
      have qA : Own wEnc 1 31 w1.heap.size wP (.slice BA m.ws.length dA) m.ws := keptW hgP hoS (show (31 : Nat) ≠ 60 from by decide) (by first | exact hoA.below hbB | exact (hoA.alloc _).below hbB | exact (hoA.below hbB).alloc _)
      have qB : Own wEnc 1 31 w1.heap.size wP (.slice BB m.ws.length dB) m.ws := keptW hgP hoS (show (31 : Nat) ≠ 60 from by decide) (by first | exact hoB.lower (Nat.le_trans zA (by simp)) | exact (hoB.lower (Nat.le_trans zA (by simp))).alloc _)
      have ap : (Value.slice BA m.ws.length dA).ownBlock = none ∨ (Value.slice BA m.ws.length dA).ownBlock ≠ (Value.slice BB m.ws.length dB).ownBlock := by
        cases BA with
        | none => exact Or.inl rfl
        | some b =>
          refine Or.inr fun e => ?_
          have h1 := (hoA.lt b.block rfl).2
          have h2 := (hoB.lt b.block (by rw [← e]; rfl)).1
          try simp at h2
          omega
      have hzP : w1.heap.size ≤ wP.heap.size := by have h := hgP.size; (try simp at h); omega
      have hP := Lib.hid hoP
      go_wp2
      go_meet
      case rel =>
        refine ⟨_, _, _, _, rfl, ⟨hzP, ?_, qA.alloc _, qB.alloc _, ap, hoP.alloc _, Own.nil _ _ _ _ _, Own.nil _ _ _ _ _⟩, And.right (by assumption)⟩
        exact heap_alloc_new _ _
  case rest =>
    obtain ⟨p, q0, q1, q2, rfl, hX, hbx⟩ := hcut
    have HX := Lib.hid hX
    have HBX := Lib.hid hbx
    have k1 : wc.cell? ⟨w.heap.size, 1, none⟩ = some (.slice A1 m.pend.length c1) := (hbx.cell hz).trans M1.out
    clear hX hbx m0 m1
    go_wp2
    clear k1
    have hp1 : w1.heap.size ≤ p := HX.out.low
    go_loopw [25] (fun i wr => ∃ k : Nat, k ≤ m.pend.length ∧ i = .int .i64 k ∧ OwnX w1.heap.size wr p q0 q1 q2 (.slice none 0 0) (.slice none 0 0) ⟨m.ws, m.pend, [], []⟩ (writes m.ws (m.pend.take k)) ∧ Below w1.heap.size w1 wr) (fun i _ => m.pend.length - (intOf i).toNat)
    case atStart => exact ⟨0, Nat.zero_le _, rfl, HX.out, HBX.out⟩
    case round =>
      obtain ⟨k, hk, rfl, hX, hb⟩ := hrel
      have HX := Lib.hid hX
      clear hX
      have k1 : wr.cell? ⟨w.heap.size, 1, none⟩ = some (.slice A1 m.pend.length c1) := (hb.cell hz).trans M1.out
      by_cases hlt : k < m.pend.length
      · have hlt' : (k : Int) < (m.pend.length : Int) := by omega
        obtain ⟨a0, e0, ea, g0, u0, u1⟩ := SWrite.at (R1.out.pend.below hb) hlt
        cases ea
        have hok := V.out.pend e0 (List.mem_of_getElem? g0)
        have G0 := Lib.hid g0
        have HB := Lib.hid hb
        clear hb g0
        obtain ⟨adr, wd⟩ := e0
        simp only at u0 u1
        obtain ⟨hok0, hok1⟩ := hok
        simp only at hok0 hok1
        go_upto_region 5 with fail
        have hX2 := HX.out.below (allocB (Below.refl _ _) (.cells #[.int .i64 adr, .int .u64 wd] 60))
        have HB2 : Hid (Below w1.heap.size w1 (wr.alloc (.cells #[.int .i64 adr, .int .u64 wd] 60))) := Lib.hid (allocB HB.out _)
        have e0 : (wr.alloc (.cells #[.int .i64 adr, .int .u64 wd] 60)).cell? ⟨wr.heap.size, 0, none⟩ = some (.int .i64 adr) := by go_simp
        have e1 : (wr.alloc (.cells #[.int .i64 adr, .int .u64 wd] 60)).cell? ⟨wr.heap.size, 1, none⟩ = some (.int .u64 wd) := by go_simp
        have hzw : w.heap.size < (wr.alloc (.cells #[.int .i64 adr, .int .u64 wd] 60)).heap.size := by have h := HB2.out.size; omega
        generalize (wr.alloc (.cells #[.int .i64 adr, .int .u64 wd] 60)) = w2 at *
        obtain ⟨A5, c5, e⟩ := hX2.ls.shape
        rw [writes_len] at e
        have HX2 := Lib.hid hX2
        subst e
        obtain ⟨g, rfl, hg1, hg2, hgf, hgc⟩ := hX2.ls.block wLen (by rw [writes_len]; omega)
        have f1 := hX2.cell.2.1
        have hgf0 := hgf adr.toNat
        have hlw : adr.toNat < (writes m.ws (m.pend.take k)).length := by rw [writes_len]; omega
        have hgc0 := hgc adr.toNat _ (List.getElem?_eq_getElem hlw) 0 _ rfl
        simp only [Nat.mul_one, Nat.add_zero] at hgc0
        clear hX2 u0 u1 hgf hgc k1
        go_still_tail 10, (by kernel_rfl)
        change wpList _ _ _ _ _ w2.drew
        have HX3 := Lib.hid HX2.out.drew
        have hgf3 : w2.drew.frozen? ⟨g, adr.toNat, none⟩ = false := hgf0
        have hgc3 : w2.drew.cell? ⟨g, adr.toNat, none⟩ = _ := hgc0
        have HB3 : Hid (Below w1.heap.size w1 w2.drew) := Lib.hid (below_drewN HB2.out 1)
        clear hgf0 hgc0 f1 e0 e1 HX2 HB2 HX HB hzw hg2
        generalize w2.drew = w3 at *
        go_wp2
        go_roundw
        case rel =>
          refine ⟨k + 1, by omega, by go_num, ?_, HB3.out.setCell hg1 _⟩
          rw [take_snoc G0.out, writes_snoc]
          exact HX3.out.setWord adr.toNat hlw wd
        case measure => simp [intOf]; omega
      · have hlt' : ¬ (k : Int) < (m.pend.length : Int) := by omega
        have k2 : wr.cell? ⟨w.heap.size, 2, none⟩ = some (.slice A2 m.tlb.length c2) := (hb.cell hz).trans M2.out
        have HXL : Hid (OwnX w1.heap.size wr p q0 q1 q2 (.slice none 0 0) (.slice none 0 0) ⟨m.ws, m.pend, [], []⟩ (latestOf m)) := Lib.hid (by
          have h := HX.out
          rw [List.take_of_length_le (by omega)] at h
          exact h)
        have HB := Lib.hid hb
        go_wp2
        clear k1 k2 hb HX hk hlt hlt' HBX
        generalize wr = w2 at *
        go_loopw [43] (fun i wr => ∃ (k : Nat) (u3 : Value), k ≤ m.tlb.length ∧ i = .int .i64 k ∧ OwnX w1.heap.size wr p q0 q1 q2 u3 (.slice none 0 0) ⟨m.ws, m.pend, m.tlb.take k, []⟩ (latestOf m) ∧ Below w1.heap.size w1 wr) (fun i _ => m.tlb.length - (intOf i).toNat)
        case atStart => exact ⟨0, _, Nat.zero_le _, rfl, HXL.out, HB.out⟩
        case round =>
          obtain ⟨k, u3, hk, rfl, hX, hb⟩ := hrel
          have HX := Lib.hid hX
          clear hX
          have k1 : wr.cell? ⟨w.heap.size, 2, none⟩ = some (.slice A2 m.tlb.length c2) := (hb.cell hz).trans M2.out
          by_cases hlt : k < m.tlb.length
          · have hlt' : (k : Int) < (m.tlb.length : Int) := by omega
            obtain ⟨a0, e0, ea, g0, u0, u1, u2, u3', u4⟩ := STlb.at (R1.out.tlb.below hb) hlt
            cases ea
            have G0 := Lib.hid g0
            have HB := Lib.hid hb
            clear hb g0
            obtain ⟨pg, sz, out, pm, dm⟩ := e0
            simp only at u0 u1 u2 u3' u4
            go_upto_region 10 with fail
            have hX2 := HX.out.below (allocB (Below.refl _ _) (.cells #[.int .i64 pg, .int .i64 sz, .int .i64 out, .int .i64 pm, .bool dm] 40))
            have HB2 : Hid (Below w1.heap.size w1 (wr.alloc (.cells #[.int .i64 pg, .int .i64 sz, .int .i64 out, .int .i64 pm, .bool dm] 40))) := Lib.hid (allocB HB.out _)
            have e0 : (wr.alloc (.cells #[.int .i64 pg, .int .i64 sz, .int .i64 out, .int .i64 pm, .bool dm] 40)).cell? ⟨wr.heap.size, 0, none⟩ = some (.int .i64 pg) := by go_simp
            have e1 : (wr.alloc (.cells #[.int .i64 pg, .int .i64 sz, .int .i64 out, .int .i64 pm, .bool dm] 40)).cell? ⟨wr.heap.size, 1, none⟩ = some (.int .i64 sz) := by go_simp
            have e2 : (wr.alloc (.cells #[.int .i64 pg, .int .i64 sz, .int .i64 out, .int .i64 pm, .bool dm] 40)).cell? ⟨wr.heap.size, 2, none⟩ = some (.int .i64 out) := by go_simp
            have e3 : (wr.alloc (.cells #[.int .i64 pg, .int .i64 sz, .int .i64 out, .int .i64 pm, .bool dm] 40)).cell? ⟨wr.heap.size, 3, none⟩ = some (.int .i64 pm) := by go_simp
            have e4 : (wr.alloc (.cells #[.int .i64 pg, .int .i64 sz, .int .i64 out, .int .i64 pm, .bool dm] 40)).cell? ⟨wr.heap.size, 4, none⟩ = some (.bool dm) := by go_simp
            have hzw : w.heap.size < (wr.alloc (.cells #[.int .i64 pg, .int .i64 sz, .int .i64 out, .int .i64 pm, .bool dm] 40)).heap.size := by have h := HB2.out.size; omega
            generalize (wr.alloc (.cells #[.int .i64 pg, .int .i64 sz, .int .i64 out, .int .i64 pm, .bool dm] 40)) = w3 at *
            have HX2 := Lib.hid hX2.drew
            have f3 : w3.cell? ⟨p, 3, none⟩ = some u3 := hX2.cell.2.2.2.1
            have f4 : w3.frozen? ⟨p, 3, none⟩ = false := hX2.frozen 3
            have hp3 : p < w3.heap.size := hX2.lt
            have hpq : p ≠ w3.heap.size := Nat.ne_of_lt hp3
            have f5 := World.cell?_alloc_lt w3 (.cells #[.int .i64 pg, .int .i64 sz, .bool dm, .int .i64 out, .int .i64 pm] 101) ⟨p, 3, none⟩ hp3
            rw [f3] at f5
            have hpn : p ≠ wr.heap.size := by have := HX.out.lt; omega
            have hun : some wr.heap.size ≠ u3.ownBlock := fun e => by have := (HX.out.tlb.lt _ e.symm).2; omega
            have hup : some p ≠ u3.ownBlock := HX.out.off HX.out.tlb (by decide)
            obtain ⟨A5, c5, e⟩ := hX2.tlb.shape
            simp only at e
            rw [take_len (by omega)] at e
            subst e
            have HUN := Lib.hid hun
            have HUP := Lib.hid hup
            clear hX2 u0 u1 u2 u3' u4 k1 hun hup
            refine wp_region_F (fun w' => w'.cell? ⟨wr.heap.size, 0, none⟩ = some (.int .i64 pg) ∧ w'.cell? ⟨wr.heap.size, 1, none⟩ = some (.int .i64 sz) ∧ w'.cell? ⟨wr.heap.size, 2, none⟩ = some (.int .i64 out) ∧ w'.cell? ⟨wr.heap.size, 3, none⟩ = some (.int .i64 pm) ∧ w'.cell? ⟨wr.heap.size, 4, none⟩ = some (.bool dm) ∧ w'.cell? ⟨p, 3, none⟩ = some (.slice A5 k c5)) 21 (by kernel_rfl) ⟨e0, e1, e2, e3, e4, f3⟩ (fun hS => ?_)
            refine wpAnyF_take (i := 0) (v := ?_) 47 rfl rfl (by kernel_rfl) (by kernel_rfl) (by kernel_rfl) (by kernel_rfl) (fun _ _ _ h => h) (Or.inl ⟨by rfl, fun w' hSw => ?_⟩) hS ?_
            rotate_left
            · (try dsimp only at hSw); go_simp; (try with_reducible rfl)
            try simp only [Act.put, List.setIfInBounds_toArray, List.set_cons_zero, List.set_cons_succ]
            refine wpAnyF_take (i := 1) (v := ?_) 48 rfl rfl (by kernel_rfl) (by kernel_rfl) (by kernel_rfl) (by kernel_rfl) (fun _ _ _ h => h) (Or.inl ⟨by rfl, fun w' hSw => ?_⟩) hS ?_
            rotate_left
            · (try dsimp only at hSw); go_simp; (try with_reducible rfl)
            try simp only [Act.put, List.setIfInBounds_toArray, List.set_cons_zero, List.set_cons_succ]
            refine wpAnyF_take (i := 2) (v := ?_) 49 rfl rfl (by kernel_rfl) (by kernel_rfl) (by kernel_rfl) (by kernel_rfl) (fun _ _ _ h => h) (Or.inl ⟨by rfl, fun w' hSw => ?_⟩) hS ?_
            rotate_left
            · (try dsimp only at hSw); go_simp; (try with_reducible rfl)
            try simp only [Act.put, List.setIfInBounds_toArray, List.set_cons_zero, List.set_cons_succ]
            refine wpAnyF_take (i := 3) (v := ?_) 50 rfl rfl (by kernel_rfl) (by kernel_rfl) (by kernel_rfl) (by kernel_rfl) (fun _ _ _ h => h) (Or.inl ⟨by rfl, fun w' hSw => ?_⟩) hS ?_
            rotate_left
            · (try dsimp only at hSw); go_simp; (try with_reducible rfl)
            try simp only [Act.put, List.setIfInBounds_toArray, List.set_cons_zero, List.set_cons_succ]
            refine wpAnyF_take (i := 4) (v := ?_) 51 rfl rfl (by kernel_rfl) (by kernel_rfl) (by kernel_rfl) (by kernel_rfl) (fun _ _ _ h => h) (Or.inl ⟨by rfl, fun w' hSw => ?_⟩) hS ?_
            rotate_left
            · (try dsimp only at hSw); go_simp; (try with_reducible rfl)
            try simp only [Act.put, List.setIfInBounds_toArray, List.set_cons_zero, List.set_cons_succ]
            refine wpAnyF_take (i := 5) (v := ?_) 52 rfl rfl (by kernel_rfl) (by kernel_rfl) (by kernel_rfl) (by kernel_rfl) (fun _ _ _ h => h) (Or.inl ⟨by rfl, fun w' hSw => ?_⟩) hS ?_
            rotate_left
            · (try dsimp only at hSw); go_simp; (try with_reducible rfl)
            try simp only [Act.put, List.setIfInBounds_toArray, List.set_cons_zero, List.set_cons_succ]
            refine wpAnyF_take (i := 6) (v := ?_) 53 rfl rfl (by kernel_rfl) (by kernel_rfl) (by kernel_rfl) (by kernel_rfl) (fun _ _ _ h => h) (Or.inl ⟨by rfl, fun w' hSw => ?_⟩) hS ?_
            rotate_left
            · (try dsimp only at hSw); go_simp; (try with_reducible rfl)
            try simp only [Act.put, List.setIfInBounds_toArray, List.set_cons_zero, List.set_cons_succ]
            refine wpAnyF_take (i := 7) (v := ?_) 54 rfl rfl (by kernel_rfl) (by kernel_rfl) (by kernel_rfl) (by kernel_rfl) (fun _ _ _ h => h) (Or.inl ⟨by rfl, fun w' hSw => ?_⟩) hS ?_
            rotate_left
            · (try dsimp only at hSw); go_simp; (try with_reducible rfl)
            try simp only [Act.put, List.setIfInBounds_toArray, List.set_cons_zero, List.set_cons_succ]
            refine wpAnyF_take (i := 8) (v := ?_) 55 rfl rfl (by kernel_rfl) (by kernel_rfl) (by kernel_rfl) (by kernel_rfl) (fun _ _ _ h => h) (Or.inl ⟨by rfl, fun w' hSw => ?_⟩) hS ?_
            rotate_left
            · (try dsimp only at hSw); go_simp; (try with_reducible rfl)
            try simp only [Act.put, List.setIfInBounds_toArray, List.set_cons_zero, List.set_cons_succ]
            refine wpAnyF_take (i := 9) (v := ?_) 56 rfl rfl (by kernel_rfl) (by kernel_rfl) (by kernel_rfl) (by kernel_rfl) (fun _ _ _ h => h) (Or.inl ⟨by rfl, fun w' hSw => ?_⟩) hS ?_
            rotate_left
            · (try dsimp only at hSw); go_simp; (try with_reducible rfl)
            try simp only [Act.put, List.setIfInBounds_toArray, List.set_cons_zero, List.set_cons_succ]
            refine wpAnyF_take (i := 10) (v := ?_) 57 rfl rfl (by kernel_rfl) (by kernel_rfl) (by kernel_rfl) (by kernel_rfl) (fun _ _ _ h => h) (Or.inl ⟨by rfl, fun w' hSw => ?_⟩) hS ?_
            rotate_left
            · (try dsimp only at hSw); go_simp; (try with_reducible rfl)
            try simp only [Act.put, List.setIfInBounds_toArray, List.set_cons_zero, List.set_cons_succ]
            refine wpAnyF_take (i := 11) (v := ?_) 58 rfl rfl (by kernel_rfl) (by kernel_rfl) (by kernel_rfl) (by kernel_rfl) (fun _ _ _ h => h) (Or.inl ⟨by rfl, fun w' hSw => ?_⟩) hS ?_
            rotate_left
            · (try dsimp only at hSw); go_simp; (try with_reducible rfl)
            try simp only [Act.put, List.setIfInBounds_toArray, List.set_cons_zero, List.set_cons_succ]
            refine wpAnyF_take (i := 12) (v := ?_) 59 rfl rfl (by kernel_rfl) (by kernel_rfl) (by kernel_rfl) (by kernel_rfl) (fun _ _ _ h => h) (Or.inl ⟨by rfl, fun w' hSw => ?_⟩) hS ?_
            rotate_left
            · (try dsimp only at hSw); go_simp; (try with_reducible rfl)
            try simp only [Act.put, List.setIfInBounds_toArray, List.set_cons_zero, List.set_cons_succ]
            refine wpAnyF_take (i := 13) (v := ?_) 60 rfl rfl (by kernel_rfl) (by kernel_rfl) (by kernel_rfl) (by kernel_rfl) (fun _ _ _ h => h) (Or.inl ⟨by rfl, fun w' hSw => ?_⟩) hS ?_
            rotate_left
            · (try dsimp only at hSw); go_simp; (try with_reducible rfl)
            try simp only [Act.put, List.setIfInBounds_toArray, List.set_cons_zero, List.set_cons_succ]
            refine wpAnyF_take (i := 14) (v := ?_) 61 rfl rfl (by kernel_rfl) (by kernel_rfl) (by kernel_rfl) (by kernel_rfl) (fun _ _ _ h => h) (Or.inl ⟨by rfl, fun w' hSw => ?_⟩) hS ?_
            rotate_left
            · (try dsimp only at hSw); go_simp; (try with_reducible rfl)
            try simp only [Act.put, List.setIfInBounds_toArray, List.set_cons_zero, List.set_cons_succ]
            refine wpAnyF_take (i := 15) (v := ?_) 62 rfl rfl (by kernel_rfl) (by kernel_rfl) (by kernel_rfl) (by kernel_rfl) (fun _ _ _ h => h) (Or.inl ⟨by rfl, fun w' hSw => ?_⟩) hS ?_
            rotate_left
            · (try dsimp only at hSw); go_simp; (try with_reducible rfl)
            try simp only [Act.put, List.setIfInBounds_toArray, List.set_cons_zero, List.set_cons_succ]
            refine wpAnyF_take (i := 16) (v := ?_) 63 rfl rfl (by kernel_rfl) (by kernel_rfl) (by kernel_rfl) (by kernel_rfl) (fun _ _ _ h => h) (Or.inl ⟨by rfl, fun w' hSw => ?_⟩) hS ?_
            rotate_left
            · (try dsimp only at hSw); go_simp; (try with_reducible rfl)
            try simp only [Act.put, List.setIfInBounds_toArray, List.set_cons_zero, List.set_cons_succ]
            refine wpAnyF_one (i := 17) (by kernel_rfl) rfl (by rfl) (fun K hK => ?_)
            go_simp
            have hA := keep6 hS (World.grownBy_alloc w3.drew (.cells #[.int .i64 pg, .int .i64 sz, .bool dm, .int .i64 out, .int .i64 pm] 101) none) (by simp) (by simp)
            refine hK _ _ (fun _ => hA) ?_
            clear hK K
            try simp only [Act.put, List.setIfInBounds_toArray, List.set_cons_zero, List.set_cons_succ]
            refine wpAnyF_one (i := 18) (by kernel_rfl) rfl (by rfl) (fun K hK => ?_)
            refine wp_appendAll 101 5 40 94 (.agg #[.int .i64 0, .int .i64 0, .bool false, .int .i64 0, .int .i64 0]) Try.underlying94 infoWh rfl (by decide) wholeLen wholeOne (.tmp 51) (.tmp 64) rfl w1.heap.size _ _ (m.tlb.take k) [⟨pg, sz, out, pm, dm⟩] rfl rfl (HX2.out.tlb.alloc _) (rd_laid wholeLen w3.drew _ _ rfl) (by rw [take_len (by omega)]; simp; omega) (by decide) (by have h := HB2.out.size; simp; omega) ?_
            intro vT wT hoT hgT
            have sT1 := hgT.cell (HX2.out.below (allocB (Below.refl _ _) _)).cell.2.2.2.1 HUP.out
            have sT2 : wT.frozen? ⟨p, 3, none⟩ = false := (hgT.frozen_far ⟨p, 3, none⟩ (HX2.out.below (allocB (Below.refl _ _) _)).lt HUP.out).trans ((HX2.out.below (allocB (Below.refl _ _) _)).frozen 3)
            obtain ⟨BT, dT, rfl⟩ := hoT.shape
            have hT := keep6 hA hgT HUN.out HUP.out
            refine hK _ _ (fun _ => hT) ?_
            clear hK K
            try simp only [Act.put, List.setIfInBounds_toArray, List.set_cons_zero, List.set_cons_succ]
            refine wpAnyF_one (i := 19) (by kernel_rfl) rfl (by rfl) (fun K hK => ?_)
            go_simp
            refine hK _ _ (fun _ => hT) ?_
            clear hK K
            try simp only [Act.put, List.setIfInBounds_toArray, List.set_cons_zero, List.set_cons_succ]
            refine wpAnyF_one (i := 20) (by kernel_rfl) rfl (by rfl) (fun K hK => ?_)
            go_simp
            refine hK _ _ (fun _ => hT) ?_
            clear hK K
            try simp only [Act.put, List.setIfInBounds_toArray, List.set_cons_zero, List.set_cons_succ]
            refine wpAnyF_one (i := 21) (by kernel_rfl) rfl (by rfl) (fun K hK => ?_)
            go_simp
            refine hK _ _ (fun h => absurd rfl h) ?_
            clear hK K
            try simp only [Act.put, List.setIfInBounds_toArray, List.set_cons_zero, List.set_cons_succ]
            refine wpAnyF_done (by kernel_rfl) ?_ _
            refine NoPanic.normal ?_
            · have hg3 : w3.drew.grownBy wT (Value.slice A5 k c5).ownBlock := World.grownBy.trans (World.grownBy_alloc w3.drew _ _) hgT
              rw [← take_snoc G0.out, take_len (by omega)] at hoT
              have hXn := HX2.out.setTlb hg3 hoT
              have hbT : Below w1.heap.size w1 wT := Own.grown HX2.out.tlb (below_drewN HB2.out 1) HB2.out.size hg3
              have HXN := Lib.hid hXn
              have HBT := Lib.hid hbT
              clear hXn hbT hg3 hoT hgT
              go_wp2
              go_roundw
              case rel => exact ⟨k + 1, _, by omega, by go_num, HXN.out, HBT.out.setCell hp1 _⟩
              case measure => simp [intOf]; omega
          · have hlt' : ¬ (k : Int) < (m.tlb.length : Int) := by omega
            have k2 : wr.cell? ⟨w.heap.size, 3, none⟩ = some (.slice A3 m.wc.length c3) := (hb.cell hz).trans M3.out
            have HXM : Hid (OwnX w1.heap.size wr p q0 q1 q2 u3 (.slice none 0 0) ⟨m.ws, m.pend, m.tlb, []⟩ (latestOf m)) := Lib.hid (by
              have h := HX.out
              rw [List.take_of_length_le (by omega)] at h
              exact h)
            have HB3 := Lib.hid hb
            go_wp2
            clear k1 k2 hb HX hk hlt hlt' HXL HB
            generalize wr = w4 at *
            go_loopw [72] (fun i wr => ∃ (k : Nat) (u4 : Value), k ≤ m.wc.length ∧ i = .int .i64 k ∧ OwnX w1.heap.size wr p q0 q1 q2 u3 u4 ⟨m.ws, m.pend, m.tlb, m.wc.take k⟩ (latestOf m) ∧ Below w1.heap.size w1 wr) (fun i _ => m.wc.length - (intOf i).toNat)
            case atStart => exact ⟨0, _, Nat.zero_le _, rfl, HXM.out, HB3.out⟩
            case round =>
              obtain ⟨k, u4, hk, rfl, hX, hb⟩ := hrel
              have HX := Lib.hid hX
              clear hX
              have k1 : wr.cell? ⟨w.heap.size, 3, none⟩ = some (.slice A3 m.wc.length c3) := (hb.cell hz).trans M3.out
              by_cases hlt : k < m.wc.length
              · have hlt' : (k : Int) < (m.wc.length : Int) := by omega
                obtain ⟨a0, e0, ea, g0, x0, x1, x2, x3⟩ := SWc.at (R1.out.wc.below hb) hlt
                cases ea
                have hlv := (V.out.wc e0 (List.mem_of_getElem? g0)).1
                have G0 := Lib.hid g0
                have HB := Lib.hid hb
                clear hb g0
                obtain ⟨lv, pg, tb, dm⟩ := e0
                simp only at x0 x1 x2 x3 hlv
                have hl0 : 2 ≤ lv := by omega
                have hl1 : lv ≤ 3 := by omega
                clear hlv
                go_upto_region 15 with fail
                have hX2 := HX.out.below (allocB (Below.refl _ _) (.cells #[.int .i64 lv, .int .i64 pg, .int .i64 tb, .bool dm] 42))
                have HB2 : Hid (Below w1.heap.size w1 (wr.alloc (.cells #[.int .i64 lv, .int .i64 pg, .int .i64 tb, .bool dm] 42))) := Lib.hid (allocB HB.out _)
                have e0 : (wr.alloc (.cells #[.int .i64 lv, .int .i64 pg, .int .i64 tb, .bool dm] 42)).cell? ⟨wr.heap.size, 0, none⟩ = some (.int .i64 lv) := by go_simp
                have e1 : (wr.alloc (.cells #[.int .i64 lv, .int .i64 pg, .int .i64 tb, .bool dm] 42)).cell? ⟨wr.heap.size, 1, none⟩ = some (.int .i64 pg) := by go_simp
                have e2 : (wr.alloc (.cells #[.int .i64 lv, .int .i64 pg, .int .i64 tb, .bool dm] 42)).cell? ⟨wr.heap.size, 2, none⟩ = some (.int .i64 tb) := by go_simp
                have e3 : (wr.alloc (.cells #[.int .i64 lv, .int .i64 pg, .int .i64 tb, .bool dm] 42)).cell? ⟨wr.heap.size, 3, none⟩ = some (.bool dm) := by go_simp
                have hzw : w.heap.size < (wr.alloc (.cells #[.int .i64 lv, .int .i64 pg, .int .i64 tb, .bool dm] 42)).heap.size := by have h := HB2.out.size; omega
                generalize (wr.alloc (.cells #[.int .i64 lv, .int .i64 pg, .int .i64 tb, .bool dm] 42)) = w3 at *
                have HX2 := Lib.hid hX2.drew
                have f3 : w3.cell? ⟨p, 4, none⟩ = some u4 := hX2.cell.2.2.2.2
                have f4 : w3.frozen? ⟨p, 4, none⟩ = false := hX2.frozen 4
                have hp3 : p < w3.heap.size := hX2.lt
                have hpq : p ≠ w3.heap.size := Nat.ne_of_lt hp3
                have f5 := World.cell?_alloc_lt w3 (.cells #[.int .i64 pg, .int .i64 (cov (lv - 1)), .bool dm, .int .i64 lv, .int .i64 tb] 103) ⟨p, 4, none⟩ hp3
                rw [f3] at f5
                have hpn : p ≠ wr.heap.size := by have := HX.out.lt; omega
                have hun : some wr.heap.size ≠ u4.ownBlock := fun e => by have := (HX.out.wc.lt _ e.symm).2; omega
                have hup : some p ≠ u4.ownBlock := HX.out.off HX.out.wc (by decide)
                obtain ⟨A5, c5, e⟩ := hX2.wc.shape
                simp only at e
                rw [take_len (by omega)] at e
                subst e
                have HUN := Lib.hid hun
                have HUP := Lib.hid hup
                have hwl : IntKind.i64.wrap (lv - 1) = lv - 1 := by rw [IntKind.wrap_i64]; omega
                clear hX2 x0 x1 x2 x3 k1 hun hup
                refine wp_region_F (fun w' => w'.cell? ⟨wr.heap.size, 0, none⟩ = some (.int .i64 lv) ∧ w'.cell? ⟨wr.heap.size, 1, none⟩ = some (.int .i64 pg) ∧ w'.cell? ⟨wr.heap.size, 2, none⟩ = some (.int .i64 tb) ∧ w'.cell? ⟨wr.heap.size, 3, none⟩ = some (.bool dm) ∧ w'.cell? ⟨p, 4, none⟩ = some (.slice A5 k c5)) 23 (by kernel_rfl) ⟨e0, e1, e2, e3, f3⟩ (fun hS => ?_)
                refine wpAnyF_take (i := 0) (v := ?_) 76 rfl rfl (by kernel_rfl) (by kernel_rfl) (by kernel_rfl) (by kernel_rfl) (fun _ _ _ h => h) (Or.inl ⟨by rfl, fun w' hSw => ?_⟩) hS ?_
                rotate_left
                · (try dsimp only at hSw); go_simp; (try with_reducible rfl)
                try simp only [Act.put, List.setIfInBounds_toArray, List.set_cons_zero, List.set_cons_succ]
                refine wpAnyF_take (i := 1) (v := ?_) 77 rfl rfl (by kernel_rfl) (by kernel_rfl) (by kernel_rfl) (by kernel_rfl) (fun _ _ _ h => h) (Or.inl ⟨by rfl, fun w' hSw => ?_⟩) hS ?_
                rotate_left
                · (try dsimp only at hSw); go_simp; (try with_reducible rfl)
                try simp only [Act.put, List.setIfInBounds_toArray, List.set_cons_zero, List.set_cons_succ]
                refine wpAnyF_take (i := 2) (v := ?_) 78 rfl rfl (by kernel_rfl) (by kernel_rfl) (by kernel_rfl) (by kernel_rfl) (fun _ _ _ h => h) (Or.inl ⟨by rfl, fun w' hSw => ?_⟩) hS ?_
                rotate_left
                · (try dsimp only at hSw); go_simp; (try with_reducible rfl)
                try simp only [Act.put, List.setIfInBounds_toArray, List.set_cons_zero, List.set_cons_succ]
                refine wpAnyF_take (i := 3) (v := ?_) 79 rfl rfl (by kernel_rfl) (by kernel_rfl) (by kernel_rfl) (by kernel_rfl) (fun _ _ _ h => h) (Or.inl ⟨by rfl, fun w' hSw => ?_⟩) hS ?_
                rotate_left
                · (try dsimp only at hSw); go_simp; (try with_reducible rfl)
                try simp only [Act.put, List.setIfInBounds_toArray, List.set_cons_zero, List.set_cons_succ]
                refine wpAnyF_take (i := 4) (v := ?_) 80 rfl rfl (by kernel_rfl) (by kernel_rfl) (by kernel_rfl) (by kernel_rfl) (fun _ _ _ h => h) (Or.inl ⟨by rfl, fun w' hSw => ?_⟩) hS ?_
                rotate_left
                · (try dsimp only at hSw); go_simp; (try with_reducible rfl)
                try simp only [Act.put, List.setIfInBounds_toArray, List.set_cons_zero, List.set_cons_succ]
                refine wpAnyF_take (i := 5) (v := ?_) 81 rfl rfl (by kernel_rfl) (by kernel_rfl) (by kernel_rfl) (by kernel_rfl) (fun _ _ _ h => h) (Or.inl ⟨by rfl, fun w' hSw => ?_⟩) hS ?_
                rotate_left
                · (try dsimp only at hSw); go_simp; (try with_reducible rfl)
                try simp only [Act.put, List.setIfInBounds_toArray, List.set_cons_zero, List.set_cons_succ]
                refine wpAnyF_take (i := 6) (v := ?_) 82 rfl rfl (by kernel_rfl) (by kernel_rfl) (by kernel_rfl) (by kernel_rfl) (fun _ _ _ h => h) (Or.inl ⟨by rfl, fun w' hSw => ?_⟩) hS ?_
                rotate_left
                · (try dsimp only at hSw); go_simp; (try with_reducible rfl)
                try simp only [Act.put, List.setIfInBounds_toArray, List.set_cons_zero, List.set_cons_succ]
                refine wpAnyF_take (i := 7) (v := ?_) 83 rfl rfl (by kernel_rfl) (by kernel_rfl) (by kernel_rfl) (by kernel_rfl) (fun _ _ _ h => h) (Or.inl ⟨by rfl, fun w' hSw => ?_⟩) hS ?_
                rotate_left
                · (try dsimp only at hSw); go_simp; (try with_reducible rfl)
                try simp only [Act.put, List.setIfInBounds_toArray, List.set_cons_zero, List.set_cons_succ]
                refine wpAnyF_take (i := 8) (v := ?_) 84 rfl rfl (by kernel_rfl) (by kernel_rfl) (by kernel_rfl) (by kernel_rfl) (fun _ _ _ h => h) (Or.inl ⟨by rfl, fun w' hSw => ?_⟩) hS ?_
                rotate_left
                · (try dsimp only at hSw); go_simp; (try with_reducible rfl)
                try simp only [Act.put, List.setIfInBounds_toArray, List.set_cons_zero, List.set_cons_succ]
                refine wpAnyF_take (i := 9) (v := ?_) 85 rfl rfl (by kernel_rfl) (by kernel_rfl) (by kernel_rfl) (by kernel_rfl) (fun _ _ _ h => h) (Or.inl ⟨by rfl, fun w' hSw => ?_⟩) hS ?_
                rotate_left
                · (try dsimp only at hSw); go_simp; (try with_reducible rfl)
                try simp only [Act.put, List.setIfInBounds_toArray, List.set_cons_zero, List.set_cons_succ]
                refine wpAnyF_take (i := 11) (v := ?_) 87 rfl rfl (by kernel_rfl) (by kernel_rfl) (by kernel_rfl) (by kernel_rfl) (fun _ _ _ h => h) (Or.inl ⟨by rfl, fun w' hSw => ?_⟩) hS ?_
                rotate_left
                · (try dsimp only at hSw); go_simp; (try with_reducible rfl)
                try simp only [Act.put, List.setIfInBounds_toArray, List.set_cons_zero, List.set_cons_succ]
                refine wpAnyF_take (i := 12) (v := ?_) 88 rfl rfl (by kernel_rfl) (by kernel_rfl) (by kernel_rfl) (by kernel_rfl) (fun _ _ _ h => h) (Or.inl ⟨by rfl, fun w' hSw => ?_⟩) hS ?_
                rotate_left
                · (try dsimp only at hSw); go_simp; (try with_reducible rfl)
                try simp only [Act.put, List.setIfInBounds_toArray, List.set_cons_zero, List.set_cons_succ]
                refine wpAnyF_take (i := 14) (v := ?_) 90 rfl rfl (by kernel_rfl) (by kernel_rfl) (by kernel_rfl) (by kernel_rfl) (fun _ _ _ h => h) (Or.inl ⟨by rfl, fun w' hSw => ?_⟩) hS ?_
                rotate_left
                · (try dsimp only at hSw); go_simp; (try with_reducible rfl)
                try simp only [Act.put, List.setIfInBounds_toArray, List.set_cons_zero, List.set_cons_succ]
                refine wpAnyF_take (i := 15) (v := ?_) 91 rfl rfl (by kernel_rfl) (by kernel_rfl) (by kernel_rfl) (by kernel_rfl) (fun _ _ _ h => h) (Or.inl ⟨by rfl, fun w' hSw => ?_⟩) hS ?_
                rotate_left
                · (try dsimp only at hSw); go_simp; (try with_reducible rfl)
                try simp only [Act.put, List.setIfInBounds_toArray, List.set_cons_zero, List.set_cons_succ]
                refine wpAnyF_take (i := 16) (v := ?_) 92 rfl rfl (by kernel_rfl) (by kernel_rfl) (by kernel_rfl) (by kernel_rfl) (fun _ _ _ h => h) (Or.inl ⟨by rfl, fun w' hSw => ?_⟩) hS ?_
                rotate_left
                · (try dsimp only at hSw); go_simp; (try with_reducible rfl)
                try simp only [Act.put, List.setIfInBounds_toArray, List.set_cons_zero, List.set_cons_succ]
                refine wpAnyF_take (i := 17) (v := ?_) 93 rfl rfl (by kernel_rfl) (by kernel_rfl) (by kernel_rfl) (by kernel_rfl) (fun _ _ _ h => h) (Or.inl ⟨by rfl, fun w' hSw => ?_⟩) hS ?_
                rotate_left
                · (try dsimp only at hSw); go_simp; (try with_reducible rfl)
                try simp only [Act.put, List.setIfInBounds_toArray, List.set_cons_zero, List.set_cons_succ]
                refine wpAnyF_one (i := 10) (by kernel_rfl) rfl (by rfl) (fun K hK => ?_)
                go_simp
                go_at_call 43
                refine (cover_any _ _).mono ?_
                rintro e w' ⟨rfl, rfl⟩
                refine hK _ _ (fun _ => hS) ?_
                clear hK K
                try simp only [Act.put, List.setIfInBounds_toArray, List.set_cons_zero, List.set_cons_succ]
                refine wpAnyF_take (i := 13) (v := ?_) 89 rfl rfl (by kernel_rfl) (by kernel_rfl) (by kernel_rfl) (by kernel_rfl) (fun _ _ _ h => h) (Or.inl ⟨by rfl, fun w' hSw => ?_⟩) hS ?_
                rotate_left
                · (try dsimp only at hSw); go_simp; (try with_reducible rfl)
                try simp only [Act.put, List.setIfInBounds_toArray, List.set_cons_zero, List.set_cons_succ]
                refine wpAnyF_take (i := 18) (v := ?_) 94 rfl rfl (by kernel_rfl) (by kernel_rfl) (by kernel_rfl) (by kernel_rfl) (fun _ _ _ h => h) (Or.inl ⟨by rfl, fun w' hSw => ?_⟩) hS ?_
                rotate_left
                · (try dsimp only at hSw); go_simp; (try with_reducible rfl)
                try simp only [Act.put, List.setIfInBounds_toArray, List.set_cons_zero, List.set_cons_succ]
                refine wpAnyF_one (i := 19) (by kernel_rfl) rfl (by rfl) (fun K hK => ?_)
                go_simp
                have hA := keep5' hS (World.grownBy_alloc w3.drew (.cells #[.int .i64 pg, .int .i64 (cov (lv - 1)), .bool dm, .int .i64 lv, .int .i64 tb] 103) none) (by simp) (by simp)
                refine hK _ _ (fun _ => hA) ?_
                clear hK K
                try simp only [Act.put, List.setIfInBounds_toArray, List.set_cons_zero, List.set_cons_succ]
                refine wpAnyF_one (i := 20) (by kernel_rfl) rfl (by rfl) (fun K hK => ?_)
                refine wp_appendAll 103 5 40 95 (.agg #[.int .i64 0, .int .i64 0, .bool false, .int .i64 0, .int .i64 0]) Try.underlying95 infoSt rfl (by decide) stepLen stepOne (.tmp 80) (.tmp 95) rfl w1.heap.size _ _ (m.wc.take k) [⟨lv, pg, tb, dm⟩] rfl rfl (HX2.out.wc.alloc _) (rd_laid stepLen w3.drew _ _ rfl) (by rw [take_len (by omega)]; simp; omega) (by decide) (by have h := HB2.out.size; simp; omega) ?_
                intro vT wT hoT hgT
                have sT1 := hgT.cell (HX2.out.below (allocB (Below.refl _ _) _)).cell.2.2.2.2 HUP.out
                have sT2 : wT.frozen? ⟨p, 4, none⟩ = false := (hgT.frozen_far ⟨p, 4, none⟩ (HX2.out.below (allocB (Below.refl _ _) _)).lt HUP.out).trans ((HX2.out.below (allocB (Below.refl _ _) _)).frozen 4)
                obtain ⟨BT, dT, rfl⟩ := hoT.shape
                have hT := keep5' hA hgT HUN.out HUP.out
                refine hK _ _ (fun _ => hT) ?_
                clear hK K
                try simp only [Act.put, List.setIfInBounds_toArray, List.set_cons_zero, List.set_cons_succ]
                refine wpAnyF_one (i := 21) (by kernel_rfl) rfl (by rfl) (fun K hK => ?_)
                go_simp
                refine hK _ _ (fun _ => hT) ?_
                clear hK K
                try simp only [Act.put, List.setIfInBounds_toArray, List.set_cons_zero, List.set_cons_succ]
                refine wpAnyF_one (i := 22) (by kernel_rfl) rfl (by rfl) (fun K hK => ?_)
                go_simp
                refine hK _ _ (fun _ => hT) ?_
                clear hK K
                try simp only [Act.put, List.setIfInBounds_toArray, List.set_cons_zero, List.set_cons_succ]
                refine wpAnyF_one (i := 23) (by kernel_rfl) rfl (by rfl) (fun K hK => ?_)
                go_simp
                refine hK _ _ (fun h => absurd rfl h) ?_
                clear hK K
                try simp only [Act.put, List.setIfInBounds_toArray, List.set_cons_zero, List.set_cons_succ]
                refine wpAnyF_done (by kernel_rfl) ?_ _
                refine NoPanic.normal ?_
                · have hg3 : w3.drew.grownBy wT (Value.slice A5 k c5).ownBlock := World.grownBy.trans (World.grownBy_alloc w3.drew _ _) hgT
                  rw [← take_snoc G0.out, take_len (by omega)] at hoT
                  have hXn := HX2.out.setWc hg3 hoT
                  have hbT : Below w1.heap.size w1 wT := Own.grown HX2.out.wc (below_drewN HB2.out 1) HB2.out.size hg3
                  have HXN := Lib.hid hXn
                  have HBT := Lib.hid hbT
                  clear hXn hbT hg3 hoT hgT
                  go_wp2
                  go_roundw
                  case rel => exact ⟨k + 1, _, by omega, by go_num, HXN.out, HBT.out.setCell hp1 _⟩
                  case measure => simp [intOf]; omega
              · have hlt' : ¬ (k : Int) < (m.wc.length : Int) := by omega
                go_wp2
                go_ret
                have hX := HX.out
                rw [List.take_of_length_le (by omega)] at hX
                exact ⟨p, rfl, ⟨_, _, _, _, _, ⟨by have := HB0.out.size; omega, hX.box, hX.ws.lower HB0.out.size, hX.ls.lower HB0.out.size, hX.apart, hX.pend.lower HB0.out.size, hX.tlb.lower HB0.out.size, hX.wc.lower HB0.out.size⟩⟩, thenB HB0.out hb⟩
end Go.Proofs.Ythphfcheencbgaa.Mmu
