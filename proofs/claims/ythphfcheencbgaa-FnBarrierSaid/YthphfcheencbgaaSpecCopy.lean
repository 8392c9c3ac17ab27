/- Walks of the reference's l2CopyMem and l2Copy. -/
import Derived.Test.YthphfcheencbgaaInfoM
import Derived.Test.YthphfcheencbgaaL1
import Derived.Test.YthphfcheencbgaaMachG
import Derived.Deep.Cut
import Derived.Deep.CutRange
namespace Go.Proofs.Ythphfcheencbgaa.Mmu
open Go.RowKit Go.Proofs.Ythphfcheencbgaa.Base Go.Proofs.Ythphfcheencbgaa.Kinds Go.Proofs.Ythphfcheencbgaa.DecMath Go.Proofs.Ythphfcheencbgaa.L1
set_option linter.unusedVariables false
set_option linter.unusedSimpArgs false

set_option maxRecDepth 100000 in
set_option maxHeartbeats 2000000 in
theorem specCopyMem_any (v0 : Value) (l0 : List Int) (w : World) (r0 : Rd wEnc 1 w v0 l0) (hn : l0.length ≤ 1048576) :
    Calls Try.prog 37 #[.agg #[v0]] w fun e w' => ∃ v, e = .returned (.agg #[v]) ∧ Own wEnc 1 31 w.heap.size w' v l0 ∧ Below w.heap.size w w' := by
  obtain ⟨A0, c0, rfl, hc0, hn0⟩ := id r0.shape
  go_enter Try.func37, Try.ntmps37
  go_wp2
  go_loopw [3, 4] (fun v i wr => ∃ (k : Nat) (A : Option Addr) (c : Nat), k ≤ l0.length ∧ v = .slice A k c ∧ i = .int .i64 k ∧ Own wEnc 1 31 (w.heap.size + 2) wr v (l0.take k) ∧ Below (w.heap.size + 2) ((w.alloc (.cells #[.slice A0 l0.length c0] 25)).alloc (.cells #[.slice none 0 0] 25)) wr) (fun _ i _ => l0.length - (intOf i).toNat)
  case atStart =>
    refine ⟨0, _, _, Nat.zero_le _, rfl, rfl, ?_, (Below.refl _ _).alloc (by simp) _⟩
    simpa using Own.made wEnc 1 31 (base := w.heap.size + 2) ((w.alloc (.cells #[.slice A0 l0.length c0] 25)).alloc (.cells #[.slice none 0 0] 25)) (by simp)
  case round =>
    obtain ⟨k, Av, cv, hk, rfl, rfl, ho, hb⟩ := hrel
    have hz : w.heap.size + 2 ≤ wr.heap.size := by have := hb.size; simpa using this
    have hbox : wr.cell? ⟨w.heap.size, 0, none⟩ = some (.slice A0 l0.length c0) := (hb.cell (by simp)).trans (by go_simp)
    have hbw : Below w.heap.size w wr := ((((Below.refl _ _).alloc (Nat.le_refl _) _).alloc (by simp) _).trans (hb.mono (by omega)))
    have R0 := Lib.hid (r0.below hbw)
    clear r0
    have hlk : (l0.take k).length = k := by rw [List.length_take]; omega
    by_cases hlt : k < l0.length
    · obtain ⟨a0, x0, e0, g0, q0⟩ := word_at R0.out hlt
      cases e0
      have G0 := Lib.hid g0
      clear g0
      have HO := Lib.hid ho
      have HK := Lib.hid hlk
      clear ho hlk
      go_wp2_with (at_builtin; refine append1 31 1 8 23 (.int .u64 0) Try.underlying23 infoU rfl (by decide) wLen wOne rfl (.tmp 13) (.tmp 19) rfl (w.heap.size + 2) (.slice Av k cv) (l0.take k) x0 _ rfl rfl rfl HO.out (by rw [HK.out]; omega) (by decide) hz ?_)
      intro v1 w1 ho1 hg1
      have hb1 : Below (w.heap.size + 2) ((w.alloc (.cells #[.slice (some a0) l0.length c0] 25)).alloc (.cells #[.slice none 0 0] 25)) w1 := Own.grown HO.out hb hz hg1
      rw [← take_snoc G0.out] at ho1
      obtain ⟨A1, c1, rfl⟩ : ∃ A c, v1 = .slice A (k + 1) c := by have := ho1.shape; rwa [List.length_take, Nat.min_eq_left (by omega)] at this
      clear hb hg1
      go_wp2
      go_roundw
      case rel => exact ⟨k + 1, _, _, by omega, rfl, by go_num, ho1, hb1⟩
      case measure => simp [intOf]; omega
    · obtain rfl : k = l0.length := by omega
      have hr1 : wr.cell? ⟨w.heap.size + 1, 0, none⟩ = some (.slice none 0 0) := (hb.cell (by simp)).trans (by go_simp)
      have hr2 : wr.frozen? ⟨w.heap.size + 1, 0, none⟩ = false := (hb.frozen (by simp)).trans (by go_simp)
      rw [List.take_length] at ho
      have hlk' : l0.length = l0.length := rfl
      clear hlk
      go_wp2
      exact bodyPost_ret (v := .agg #[.slice Av l0.length cv]) (by simp [results, Try.results37, go_sem, hr1, hr2]) rfl ⟨_, rfl, (ho.setBelow (by simp) _).lower (by omega), hbw.setCell (by simp) _⟩

set_option maxRecDepth 100000 in
set_option maxHeartbeats 4000000 in
theorem specCopy_any (v0 v1 v2 v3 : Value) (m : SM) (w : World) (r : RdM w v0 v1 v2 v3 m) (hl : m.ws.length ≤ 1048576 ∧ m.pend.length ≤ 1048576 ∧ m.tlb.length ≤ 1048576 ∧ m.wc.length ≤ 1048576) :
    Calls Try.prog 16 #[.agg #[v0, v1, v2, v3]] w fun e w' => ∃ u0 u1 u2 u3, e = .returned (.agg #[u0, u1, u2, u3]) ∧ OwnM w.heap.size w' u0 u1 u2 u3 m ∧ Below w.heap.size w w' := by
  obtain ⟨A0, c0, A1, c1, A2, c2, A3, c3, rfl, rfl, rfl, rfl, hl0, hk0, hl1, hk1, hl2, hk2, hl3, hk3⟩ := r.shape
  obtain ⟨n0, n1, n2, n3⟩ := hl
  have R := Lib.hid r
  clear r
  go_enter Try.func16, Try.ntmps16
  go_upto_region 1 with fail
  have HB0 : Hid (Below w.heap.size w ((w.alloc (.cells #[.slice A0 m.ws.length c0, .slice A1 m.pend.length c1, .slice A2 m.tlb.length c2, .slice A3 m.wc.length c3] 30)).alloc (.cells #[.slice none 0 0, .slice none 0 0, .slice none 0 0, .slice none 0 0] 30))) := Lib.hid (allocB (allocB (Below.refl _ _) _) _)
  have x0 : ((w.alloc (.cells #[.slice A0 m.ws.length c0, .slice A1 m.pend.length c1, .slice A2 m.tlb.length c2, .slice A3 m.wc.length c3] 30)).alloc (.cells #[.slice none 0 0, .slice none 0 0, .slice none 0 0, .slice none 0 0] 30)).cell? ⟨w.heap.size, 0, none⟩ = some (.slice A0 m.ws.length c0) := by go_simp
  have x1 : ((w.alloc (.cells #[.slice A0 m.ws.length c0, .slice A1 m.pend.length c1, .slice A2 m.tlb.length c2, .slice A3 m.wc.length c3] 30)).alloc (.cells #[.slice none 0 0, .slice none 0 0, .slice none 0 0, .slice none 0 0] 30)).cell? ⟨w.heap.size, 1, none⟩ = some (.slice A1 m.pend.length c1) := by go_simp
  have x2 : ((w.alloc (.cells #[.slice A0 m.ws.length c0, .slice A1 m.pend.length c1, .slice A2 m.tlb.length c2, .slice A3 m.wc.length c3] 30)).alloc (.cells #[.slice none 0 0, .slice none 0 0, .slice none 0 0, .slice none 0 0] 30)).cell? ⟨w.heap.size, 2, none⟩ = some (.slice A2 m.tlb.length c2) := by go_simp
  have x3 : ((w.alloc (.cells #[.slice A0 m.ws.length c0, .slice A1 m.pend.length c1, .slice A2 m.tlb.length c2, .slice A3 m.wc.length c3] 30)).alloc (.cells #[.slice none 0 0, .slice none 0 0, .slice none 0 0, .slice none 0 0] 30)).cell? ⟨w.heap.size, 3, none⟩ = some (.slice A3 m.wc.length c3) := by go_simp
  have z : ((w.alloc (.cells #[.slice A0 m.ws.length c0, .slice A1 m.pend.length c1, .slice A2 m.tlb.length c2, .slice A3 m.wc.length c3] 30)).alloc (.cells #[.slice none 0 0, .slice none 0 0, .slice none 0 0, .slice none 0 0] 30)).heap[w.heap.size + 1]? = some (.cells #[.slice none 0 0, .slice none 0 0, .slice none 0 0, .slice none 0 0] 30) := by have := heap_alloc_new (w.alloc (.cells #[.slice A0 m.ws.length c0, .slice A1 m.pend.length c1, .slice A2 m.tlb.length c2, .slice A3 m.wc.length c3] 30)) (.cells #[.slice none 0 0, .slice none 0 0, .slice none 0 0, .slice none 0 0] 30); simpa using this
  have hs : ((w.alloc (.cells #[.slice A0 m.ws.length c0, .slice A1 m.pend.length c1, .slice A2 m.tlb.length c2, .slice A3 m.wc.length c3] 30)).alloc (.cells #[.slice none 0 0, .slice none 0 0, .slice none 0 0, .slice none 0 0] 30)).heap.size = w.heap.size + 2 := by simp
  generalize ((w.alloc (.cells #[.slice A0 m.ws.length c0, .slice A1 m.pend.length c1, .slice A2 m.tlb.length c2, .slice A3 m.wc.length c3] 30)).alloc (.cells #[.slice none 0 0, .slice none 0 0, .slice none 0 0, .slice none 0 0] 30)) = w2 at *
  have X0 := Lib.hid x0
  have X1 := Lib.hid x1
  have X2 := Lib.hid x2
  have X3 := Lib.hid x3
  have Z := Lib.hid z
  have HS := Lib.hid hs
  have hs1 : w.heap.size < w2.heap.size := by omega
  have hs2 : w.heap.size + 1 < w2.heap.size := by omega
  clear x0 x1 x2 x3 z hs
  go_wp2
  go_loopw [3, 4] (fun v i wr => ∃ (k : Nat) (A : Option Addr) (c : Nat), k ≤ m.pend.length ∧ v = .slice A k c ∧ i = .int .i64 k ∧ Own SWrite.enc 2 60 w2.heap.size wr v (m.pend.take k) ∧ Below w2.heap.size w2 wr) (fun _ i _ => m.pend.length - (intOf i).toNat)
  case atStart =>
    refine ⟨0, _, _, Nat.zero_le _, rfl, rfl, ?_, (Below.refl _ _).alloc (Nat.le_refl _) _⟩
    simpa using Own.made SWrite.enc 2 60 (base := w2.heap.size) w2 (Nat.le_refl _)
  case round =>
    obtain ⟨k, Av, cv, hk, rfl, rfl, ho, hb⟩ := hrel
    have hx : wr.cell? ⟨w.heap.size, 1, none⟩ = some (.slice A1 m.pend.length c1) := (hb.cell hs1).trans X1.out
    by_cases hlt : k < m.pend.length
    · obtain ⟨a0, e0, ea, g0, u0, u1⟩ := SWrite.at (R.out.pend.below (thenB HB0.out hb)) hlt
      cases ea
      have G0 := Lib.hid g0
      have HO := Lib.hid ho
      have HB := Lib.hid hb
      have hlt' : (k : Int) < (m.pend.length : Int) := by omega
      have hzz := hb.size
      clear ho hb g0
      go_wp2_with (at_builtin; refine append1 60 2 16 26 (.agg #[.int .i64 0, .int .u64 0]) Try.underlying26 infoWrS rfl (by decide) SWrite.len SWrite.one rfl (.tmp 17) (.tmp 23) rfl w2.heap.size (.slice Av k cv) (m.pend.take k) e0 _ rfl rfl rfl HO.out (by rw [take_len (by omega)]; omega) (by decide) hzz ?_)
      intro v1 wq ho1 hg1
      have hb1 : Below w2.heap.size w2 wq := Own.grown HO.out HB.out HB.out.size hg1
      rw [← take_snoc G0.out] at ho1
      obtain ⟨Aq, cq, rfl⟩ : ∃ A c, v1 = .slice A (k + 1) c := by have := ho1.shape; rwa [take_len (by omega)] at this
      clear hg1 u0 u1 hx
      go_wp2
      go_roundw
      case rel => exact ⟨k + 1, _, _, by omega, rfl, by go_num, ho1, hb1⟩
      case measure => simp [intOf]; omega
    · obtain rfl : k = m.pend.length := by omega
      have hlt' : ¬ ((m.pend.length : Nat) : Int) < (m.pend.length : Int) := by omega
      rw [List.take_length] at ho
      have HOpend := Lib.hid ho
      have HBz0 := Lib.hid hb
      clear ho hb
      have hgo : True := trivial
      clear hgo hk hlt
      revert HOpend
      generalize Av = Ppend
      generalize cv = qpend
      intro HOpend
      generalize hwz : wr = wz0 at *
      clear hwz
      go_wp2
      go_loopw [5, 6] (fun v i wr => ∃ (k : Nat) (A : Option Addr) (c : Nat), k ≤ m.tlb.length ∧ v = .slice A k c ∧ i = .int .i64 k ∧ Own STlb.enc 5 40 w2.heap.size wr v (m.tlb.take k) ∧ Below w2.heap.size w2 wr ∧ Own SWrite.enc 2 60 w2.heap.size wr (.slice Ppend m.pend.length qpend) m.pend) (fun _ i _ => m.tlb.length - (intOf i).toNat)
      case atStart =>
        refine ⟨0, _, _, Nat.zero_le _, rfl, rfl, ?_, HBz0.out.alloc HBz0.out.size _, HOpend.out.alloc _⟩
        simpa using Own.made STlb.enc 5 40 (base := w2.heap.size) wz0 HBz0.out.size
      case round =>
        obtain ⟨k, Av, cv, hk, rfl, rfl, ho, hb, hopend⟩ := hrel
        have hx : wr.cell? ⟨w.heap.size, 2, none⟩ = some (.slice A2 m.tlb.length c2) := (hb.cell hs1).trans X2.out
        have HOpend := Lib.hid hopend
        clear hopend
        by_cases hlt : k < m.tlb.length
        · obtain ⟨a0, e0, ea, g0, u0, u1, u2, u3, u4⟩ := STlb.at (R.out.tlb.below (thenB HB0.out hb)) hlt
          cases ea
          have G0 := Lib.hid g0
          have HO := Lib.hid ho
          have HB := Lib.hid hb
          have hlt' : (k : Int) < (m.tlb.length : Int) := by omega
          have hzz := hb.size
          clear ho hb g0
          go_wp2_with (at_builtin; refine append1 40 5 40 27 (.agg #[.int .i64 0, .int .i64 0, .int .i64 0, .int .i64 0, .bool false]) Try.underlying27 infoTlS rfl (by decide) STlb.len STlb.one rfl (.tmp 33) (.tmp 39) rfl w2.heap.size (.slice Av k cv) (m.tlb.take k) e0 _ rfl rfl rfl HO.out (by rw [take_len (by omega)]; omega) (by decide) hzz ?_)
          intro v1 wq ho1 hg1
          have hb1 : Below w2.heap.size w2 wq := Own.grown HO.out HB.out HB.out.size hg1
          have hnpend := HOpend.out.kept hg1 (own_apart (by decide) HOpend.out HO.out)
          rw [← take_snoc G0.out] at ho1
          obtain ⟨Aq, cq, rfl⟩ : ∃ A c, v1 = .slice A (k + 1) c := by have := ho1.shape; rwa [take_len (by omega)] at this
          clear hg1 u0 u1 u2 u3 u4 hx
          go_wp2
          go_roundw
          case rel => exact ⟨k + 1, _, _, by omega, rfl, by go_num, ho1, hb1, hnpend⟩
          case measure => simp [intOf]; omega
        · obtain rfl : k = m.tlb.length := by omega
          have hlt' : ¬ ((m.tlb.length : Nat) : Int) < (m.tlb.length : Int) := by omega
          rw [List.take_length] at ho
          have HOtlb := Lib.hid ho
          have HBz1 := Lib.hid hb
          clear ho hb
          have hgo : True := trivial
          clear hgo hk hlt
          revert HOtlb
          generalize Av = Ptlb
          generalize cv = qtlb
          intro HOtlb
          generalize hwz : wr = wz1 at *
          clear hwz
          go_wp2
          go_loopw [7, 8] (fun v i wr => ∃ (k : Nat) (A : Option Addr) (c : Nat), k ≤ m.wc.length ∧ v = .slice A k c ∧ i = .int .i64 k ∧ Own SWc.enc 4 42 w2.heap.size wr v (m.wc.take k) ∧ Below w2.heap.size w2 wr ∧ Own SWrite.enc 2 60 w2.heap.size wr (.slice Ppend m.pend.length qpend) m.pend ∧ Own STlb.enc 5 40 w2.heap.size wr (.slice Ptlb m.tlb.length qtlb) m.tlb) (fun _ i _ => m.wc.length - (intOf i).toNat)
          case atStart =>
            refine ⟨0, _, _, Nat.zero_le _, rfl, rfl, ?_, HBz1.out.alloc HBz1.out.size _, HOpend.out.alloc _, HOtlb.out.alloc _⟩
            simpa using Own.made SWc.enc 4 42 (base := w2.heap.size) wz1 HBz1.out.size
          case round =>
            obtain ⟨k, Av, cv, hk, rfl, rfl, ho, hb, hopend, hotlb⟩ := hrel
            have hx : wr.cell? ⟨w.heap.size, 3, none⟩ = some (.slice A3 m.wc.length c3) := (hb.cell hs1).trans X3.out
            have HOpend := Lib.hid hopend
            clear hopend
            have HOtlb := Lib.hid hotlb
            clear hotlb
            by_cases hlt : k < m.wc.length
            · obtain ⟨a0, e0, ea, g0, u0, u1, u2, u3⟩ := SWc.at (R.out.wc.below (thenB HB0.out hb)) hlt
              cases ea
              have G0 := Lib.hid g0
              have HO := Lib.hid ho
              have HB := Lib.hid hb
              have hlt' : (k : Int) < (m.wc.length : Int) := by omega
              have hzz := hb.size
              clear ho hb g0
              go_wp2_with (at_builtin; refine append1 42 4 32 28 (.agg #[.int .i64 0, .int .i64 0, .int .i64 0, .bool false]) Try.underlying28 infoWcS rfl (by decide) SWc.len SWc.one rfl (.tmp 49) (.tmp 55) rfl w2.heap.size (.slice Av k cv) (m.wc.take k) e0 _ rfl rfl rfl HO.out (by rw [take_len (by omega)]; omega) (by decide) hzz ?_)
              intro v1 wq ho1 hg1
              have hb1 : Below w2.heap.size w2 wq := Own.grown HO.out HB.out HB.out.size hg1
              have hnpend := HOpend.out.kept hg1 (own_apart (by decide) HOpend.out HO.out)
              have hntlb := HOtlb.out.kept hg1 (own_apart (by decide) HOtlb.out HO.out)
              rw [← take_snoc G0.out] at ho1
              obtain ⟨Aq, cq, rfl⟩ : ∃ A c, v1 = .slice A (k + 1) c := by have := ho1.shape; rwa [take_len (by omega)] at this
              clear hg1 u0 u1 u2 u3 hx
              go_wp2
              go_roundw
              case rel => exact ⟨k + 1, _, _, by omega, rfl, by go_num, ho1, hb1, hnpend, hntlb⟩
              case measure => simp [intOf]; omega
            · obtain rfl : k = m.wc.length := by omega
              have hlt' : ¬ ((m.wc.length : Nat) : Int) < (m.wc.length : Int) := by omega
              rw [List.take_length] at ho
              have HOwc := Lib.hid ho
              have HBz := Lib.hid hb
              have hx0 : wr.cell? ⟨w.heap.size, 0, none⟩ = some (.slice A0 m.ws.length c0) := (hb.cell hs1).trans X0.out
              clear ho hb
              go_wp2_with (go_at_call 37; refine (specCopyMem_any _ m.ws _ (R.out.ws.below (thenB HB0.out HBz.out)) n0).mono ?_; rintro e w5 ⟨x0, rfl, o0, hb5⟩; have O0 := Lib.hid o0; have HB5 := Lib.hid hb5; obtain ⟨B0, d0, rfl⟩ := o0.shape; have zd : w5.heap[w.heap.size + 1]? = _ := ((thenB HBz.out hb5).block _ hs2).trans Z.out; have c0 : w5.cell? ⟨w.heap.size + 1, 0, none⟩ = some (.slice none 0 0) := (by simp [World.cell?, zd]); have f0 : w5.frozen? ⟨w.heap.size + 1, 0, none⟩ = false := (by simp [World.frozen?, zd]); have c1 : w5.cell? ⟨w.heap.size + 1, 1, none⟩ = some (.slice none 0 0) := (by simp [World.cell?, zd]); have f1 : w5.frozen? ⟨w.heap.size + 1, 1, none⟩ = false := (by simp [World.frozen?, zd]); have c2 : w5.cell? ⟨w.heap.size + 1, 2, none⟩ = some (.slice none 0 0) := (by simp [World.cell?, zd]); have f2 : w5.frozen? ⟨w.heap.size + 1, 2, none⟩ = false := (by simp [World.frozen?, zd]); have c3 : w5.cell? ⟨w.heap.size + 1, 3, none⟩ = some (.slice none 0 0) := (by simp [World.cell?, zd]); have f3 : w5.frozen? ⟨w.heap.size + 1, 3, none⟩ = false := (by simp [World.frozen?, zd]); clear o0 hb5 zd)
              have P0 : OwnM w2.heap.size w5 (.slice B0 m.ws.length d0) (.slice Ppend m.pend.length qpend) (.slice Ptlb m.tlb.length qtlb) (.slice Av m.wc.length cv) m := ⟨O0.out.lower HBz.out.size, HOpend.out.below HB5.out, HOtlb.out.below HB5.out, HOwc.out.below HB5.out⟩
              have hl5 : w.heap.size + 1 < w2.heap.size := hs2
              refine bodyPost_ret (v := .agg #[.slice B0 m.ws.length d0, .slice Ppend m.pend.length qpend, .slice Ptlb m.tlb.length qtlb, .slice Av m.wc.length cv]) (by simp [results, Try.results16, go_sem, *]) rfl ⟨_, _, _, _, rfl, OwnM.lower (base := w2.heap.size) ?_ HB0.out.size, ?_⟩
              · repeat (refine OwnM.setBelow ?_ hl5 _)
                exact P0
              · repeat (refine Below.setCell ?_ (by simp) _)
                exact thenB (thenB HB0.out HBz.out) HB5.out
end Go.Proofs.Ythphfcheencbgaa.Mmu
