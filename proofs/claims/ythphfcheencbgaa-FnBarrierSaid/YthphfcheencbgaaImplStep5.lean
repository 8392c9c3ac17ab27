/- Walk of the program's operations: what a TLBI does. -/
import Derived.Test.YthphfcheencbgaaImplStep3
namespace Go.Proofs.Ythphfcheencbgaa.Mmu
open Go.RowKit Go.Proofs.Ythphfcheencbgaa.Base Go.Proofs.Ythphfcheencbgaa.Kinds Go.Proofs.Ythphfcheencbgaa.DecMath Go.Proofs.Ythphfcheencbgaa.L1
set_option linter.unusedVariables false
set_option linter.unusedSimpArgs false
/-- One cell of an element is written. -/
theorem own_setN {α : Type} {enc : α → List Value} {E sz base : Nat} {w : World} {g n c : Nat} {l : List α} (hlen : ∀ x, (enc x).length = sz) (h : Own enc sz E base w (.slice (some ⟨g, 0, none⟩) n c) l) (j : Nat) (x y : α) (hx : l[j]? = some x) (i : Nat) (hi : i < sz) (u : Value) (hy : enc y = (enc x).set i u) :
    Own enc sz E base (w.setCell ⟨g, j * sz + i, none⟩ u) (.slice (some ⟨g, 0, none⟩) n c) (l.set j y) := by
  obtain ⟨P, S, hP, hf, hs⟩ := flat_parts hlen l j x hx
  unfold Own at h ⊢
  rw [hf] at h
  rw [hs y, hy, List.length_set]
  have h0 := row_set h (P.length + i) (by simp [hlen]; omega) u
  rw [set_mid (by rw [hlen]; exact hi), hP] at h0
  exact h0
theorem dmap_step {α : Type} (f : α → α) (l : List α) (k : Nat) (x : α) (hx : l[k]? = some x) : ((l.take k).map f ++ l.drop k).set k (f x) = (l.take (k + 1)).map f ++ l.drop (k + 1) := by
  have hk := (List.getElem?_eq_some_iff.1 hx).1
  rw [take_snoc hx, List.map_append, List.set_append, if_neg (by simp; omega), drop_at hx]
  simp [List.length_take, Nat.min_eq_left (Nat.le_of_lt hk)]
theorem dmap_same {α : Type} (f : α → α) (l : List α) (k : Nat) (x : α) (hx : l[k]? = some x) (hf : f x = x) : (l.take k).map f ++ l.drop k = (l.take (k + 1)).map f ++ l.drop (k + 1) := by
  rw [take_snoc hx, List.map_append, drop_at hx]
  simp [hf]
theorem dmap_get {α : Type} (f : α → α) (l : List α) (k : Nat) (hk : k < l.length) : ((l.take k).map f ++ l.drop k)[k]? = l[k]? := by
  rw [List.getElem?_append_right (by simp; omega), List.length_map, List.length_take, Nat.min_eq_left (Nat.le_of_lt hk), Nat.sub_self, List.getElem?_drop]; simp
theorem dmap_len {α : Type} (f : α → α) (l : List α) (k : Nat) (hk : k ≤ l.length) : ((l.take k).map f ++ l.drop k).length = l.length := by simp; omega
theorem dmap_end {α : Type} (f : α → α) (l : List α) : (l.take l.length).map f ++ l.drop l.length = l.map f := by simp
/-- An entry of tlb is written. -/
theorem ownX_cellT {base p g n c : Nat} {w : World} {v0 v1 v2 v4 : Value} {m : SM} {ls : List Int} (h : OwnX base w p v0 v1 v2 (.slice (some ⟨g, 0, none⟩) n c) v4 m ls) (j : Nat) (x y : STlb) (hx : m.tlb[j]? = some x) (i : Nat) (hi : i < 5) (u : Value) (hy : wholeEnc y = (wholeEnc x).set i u) :
    OwnX base (w.setCell ⟨g, j * 5 + i, none⟩ u) p v0 v1 v2 (.slice (some ⟨g, 0, none⟩) n c) v4 { m with tlb := m.tlb.set j y } ls := by
  have hp := h.off h.tlb (by decide)
  have fr : ∀ {α : Type} {enc : α → List Value} {sz E b : Nat} {v : Value} {l : List α}, Own enc sz E b w v l → E ≠ 101 → some g ≠ v.ownBlock := by
    intro α enc sz E b v l o hE e
    rcases own_apart hE o h.tlb with q | q
    · rw [q] at e; simp at e
    · exact q e.symm
  refine ⟨h.low, ?_, own_setOff h.ws (a := ⟨g, j * 5 + i, none⟩) (fr h.ws (by decide)) _, own_setOff h.ls (a := ⟨g, j * 5 + i, none⟩) (fr h.ls (by decide)) _, h.apart, own_setOff h.pend (a := ⟨g, j * 5 + i, none⟩) (fr h.pend (by decide)) _, own_setN wholeLen h.tlb j x y hx i hi u hy, own_setOff h.wc (a := ⟨g, j * 5 + i, none⟩) (fr h.wc (by decide)) _⟩
  rw [Below.heap_setCell _ _ _ _ (by simpa [Value.ownBlock] using hp)]; exact h.box
/-- .. of wc. -/
theorem ownX_cellW {base p g n c : Nat} {w : World} {v0 v1 v2 v3 : Value} {m : SM} {ls : List Int} (h : OwnX base w p v0 v1 v2 v3 (.slice (some ⟨g, 0, none⟩) n c) m ls) (j : Nat) (x y : SWc) (hx : m.wc[j]? = some x) (i : Nat) (hi : i < 5) (u : Value) (hy : stepEnc y = (stepEnc x).set i u) :
    OwnX base (w.setCell ⟨g, j * 5 + i, none⟩ u) p v0 v1 v2 v3 (.slice (some ⟨g, 0, none⟩) n c) { m with wc := m.wc.set j y } ls := by
  have hp := h.off h.wc (by decide)
  have fr : ∀ {α : Type} {enc : α → List Value} {sz E b : Nat} {v : Value} {l : List α}, Own enc sz E b w v l → E ≠ 103 → some g ≠ v.ownBlock := by
    intro α enc sz E b v l o hE e
    rcases own_apart hE o h.wc with q | q
    · rw [q] at e; simp at e
    · exact q e.symm
  refine ⟨h.low, ?_, own_setOff h.ws (a := ⟨g, j * 5 + i, none⟩) (fr h.ws (by decide)) _, own_setOff h.ls (a := ⟨g, j * 5 + i, none⟩) (fr h.ls (by decide)) _, h.apart, own_setOff h.pend (a := ⟨g, j * 5 + i, none⟩) (fr h.pend (by decide)) _, own_setOff h.tlb (a := ⟨g, j * 5 + i, none⟩) (fr h.tlb (by decide)) _, own_setN stepLen h.wc j x y hx i hi u hy⟩
  rw [Below.heap_setCell _ _ _ _ (by simpa [Value.ownBlock] using hp)]; exact h.box
set_option maxRecDepth 100000 in
set_option maxHeartbeats 16000000 in
theorem tlbiDo_any (base p : Nat) (v0 v1 v2 v3 v4 : Value) (m : SM) (ls : List Int) (kd a bb wd : Int) (w : World) (X : OwnX base w p v0 v1 v2 v3 v4 m ls) (hv : Valid m) (ha : 0 ≤ a ∧ a ≤ 10000) (hbb : 0 ≤ bb ∧ bb ≤ 10000) :
    Calls Try.prog 93 #[.agg #[.int .i64 kd, .int .i64 a, .int .i64 bb, .int .u64 wd], .pointer (some ⟨p, 0, none⟩)] w (DoPost base p w (tlbiS m a bb) ls (.tuple #[])) := by
  obtain ⟨A3, c3, e3⟩ := X.tlb.shape
  obtain ⟨A4, c4, e4⟩ := X.wc.shape
  subst e3 e4
  have HX := Lib.hid X
  have hp1 : base ≤ p := X.low
  have hp2 : p < w.heap.size := X.lt
  have V := Lib.hid hv
  have HAA := Lib.hid ha
  have HBB := Lib.hid hbb
  have hnt : m.tlb.length ≤ 256 := hv.ntlb
  have hnw : m.wc.length ≤ 256 := hv.nwc
  clear X hv
  go_enter Try.func93, Try.ntmps93
  go_upto_region 1 with fail
  refine ((St.start w).push _ _).gen (fun w1 S1' _ => ?_)
  have S1 := Lib.hid S1'
  have X1 := Lib.hid (HX.out.below S1'.b)
  clear S1'
  have k3 := X1.out.cell.2.2.2.1
  go_wp2
  clear k3
  go_loopw [11] (fun i wr => ∃ k : Nat, k ≤ m.tlb.length ∧ i = .int .i64 k ∧ OwnX base wr p v0 v1 v2 (.slice A3 m.tlb.length c3) (.slice A4 m.wc.length c4) { m with tlb := ((m.tlb.take k).map (doomT a bb) ++ m.tlb.drop k) } ls ∧ Below base w wr ∧ KeepX w1 wr) (fun i _ => m.tlb.length - (intOf i).toNat)
  case atStart => exact ⟨0, Nat.zero_le _, rfl, by simpa using X1.out, S1.out.b.mono (by omega), KeepX.refl _⟩
  case round =>
    obtain ⟨k, hk, rfl, hx, hb, hkx⟩ := hrel
    have XR := Lib.hid hx
    have HB := Lib.hid hb
    have HK := Lib.hid hkx
    clear hx hb hkx
    have hlen : ((m.tlb.take k).map (doomT a bb) ++ m.tlb.drop k).length = m.tlb.length := dmap_len _ _ _ hk
    have HLEN := Lib.hid hlen
    clear hlen
    by_cases hlt : k < m.tlb.length
    · have hlt' : (k : Int) < (m.tlb.length : Int) := by omega
      obtain ⟨g, hA, hg1, hg2, hgf, hgc⟩ := XR.out.tlb.block wholeLen (by show 0 < ((m.tlb.take k).map (doomT a bb) ++ m.tlb.drop k).length; rw [HLEN.out]; omega)
      subst hA
      obtain ⟨e0, he0⟩ : ∃ e, m.tlb[k]? = some e := ⟨_, List.getElem?_eq_getElem hlt⟩
      have OK := V.out.tlb e0 (List.mem_of_getElem? he0)
      obtain ⟨f0, f1, f2, f3, dm⟩ := e0
      have hkx : ((m.tlb.take k).map (doomT a bb) ++ m.tlb.drop k)[k]? = some ⟨f0, f1, f2, f3, dm⟩ := (dmap_get _ _ _ hlt).trans he0
      have G0 := Lib.hid he0
      have HKX := Lib.hid hkx
      have hpg : 0 ≤ f0 ∧ f0 ≤ 10000 := by have := OK.2.1; simp only at this; omega
      have hsz : 0 ≤ f1 ∧ f1 ≤ 10000 := by rcases OK.1 with h | h <;> simp only at h <;> omega
      have HPG := Lib.hid hpg
      have HSZ := Lib.hid hsz
      have q0 := hgc k _ hkx 0 _ rfl
      have q1 := hgc k _ hkx 1 _ rfl
      have q2 := hgc k _ hkx 2 _ rfl
      have qf := hgf (k * 5 + 2)
      simp only [Nat.add_zero] at q0
      have Q2 := Lib.hid q2
      have QF := Lib.hid qf
      have kc := XR.out.cell.2.2.2.1
      have hzr := HK.out.block _ _ _ S1.out.head (by decide)
      have z1 : wr.cell? ⟨w.heap.size, 1, none⟩ = some (.int .i64 a) := by simp [World.cell?, hzr]
      have z2 : wr.cell? ⟨w.heap.size, 2, none⟩ = some (.int .i64 bb) := by simp [World.cell?, hzr]
      go_upto_region 4 with fail
      have b0 := BW.cell kc
      have b1 := BW.cell z1
      have b2 := BW.cell z2
      have x0 := BW.cell q0
      have x1 := BW.cell q1
      clear q0 q1 q2 qf hgf hgc he0 hkx hpg hsz hzr z1 z2 OK
      rcases Bool.eq_false_or_eq_true (tlbMeet a bb ⟨f0, f1, f2, f3, dm⟩) with hc | hc
      · have HC := Lib.hid hc
        clear hc
        (refine wp_region_below (by kernel_rfl) (by kernel_rfl) ?_; (repeat (first | (go_big_quiet_step (first | (go_at_call 89; refine BW.calls (meetsH_b _ f0 f1 a bb _ _ HC.out (x0 _) (x1 _) (by have := HAA.out; have := HBB.out; have := HPG.out; have := HSZ.out; omega) (by have := HPG.out; have := HSZ.out; omega) (by have := HAA.out; have := HBB.out; omega))))) | ((with_reducible refine wpQuiet_step ?_); intro K hK; go_simp; first | ((with_reducible refine hK _ ?_); clear hK K) | (apply Exists.intro; refine ⟨fun _ => ?_, hK _ ?_⟩; (first | (go_at_call 89; refine BW.calls (meetsH_b _ f0 f1 a bb _ _ HC.out (x0 _) (x1 _) (by have := HAA.out; have := HBB.out; have := HPG.out; have := HSZ.out; omega) (by have := HPG.out; have := HSZ.out; omega) (by have := HAA.out; have := HBB.out; omega)))); clear hK K)))); (with_reducible refine wpQuiet_nil ?_); intro wq hw'; obtain ⟨⟨wy, hbq⟩, hw''⟩ := hw'; subst hw'')
        have kc2 := bC hbq kc
        have q3 := bC hbq Q2.out
        have qf3 : wq.frozen? ⟨g, k * 5 + 2, none⟩ = false := (hbq.frozen (by exact hg2)).trans QF.out
        have Q3 := Lib.hid q3
        have QF3 := Lib.hid qf3
        have XQ := Lib.hid (XR.out.below hbq)
        have HBQ := Lib.hid (HB.out.trans (hbq.mono (by have := XR.out.lt; omega)))
        have HKQ := Lib.hid (HK.out.trans (KeepX.of_below hbq))
        clear hbq kc q3 qf3
        go_wp2_with (first | (go_at_call 96; refine (doom_any g (k * 5) _ _ Q3.out QF3.out).mono ?_; rintro e w9 ⟨rfl, rfl⟩))
        have XN := ownX_cellT XQ.out k _ ⟨f0, f1, f2, f3, true⟩ HKX.out 2 (by decide) (.bool true) rfl
        have hds : ((m.tlb.take k).map (doomT a bb) ++ m.tlb.drop k).set k ⟨f0, f1, f2, f3, true⟩ = ((m.tlb.take (k + 1)).map (doomT a bb) ++ m.tlb.drop (k + 1)) := by
          rw [← dmap_step _ _ _ _ G0.out]
          unfold doomT
          rw [if_pos HC.out]
        simp only at XN
        rw [hds] at XN
        go_roundw
        case rel => exact ⟨k + 1, by omega, by go_num, XN, HBQ.out.setCell hg1 _, HKQ.out.trans (keepX_set XQ.out.tlb (by decide) _ _)⟩
        case measure => simp [intOf]; omega
      · have HC := Lib.hid hc
        clear hc
        (refine wp_region_below (by kernel_rfl) (by kernel_rfl) ?_; (repeat (first | (go_big_quiet_step (first | (go_at_call 89; refine BW.calls (meetsH_b _ f0 f1 a bb _ _ HC.out (x0 _) (x1 _) (by have := HAA.out; have := HBB.out; have := HPG.out; have := HSZ.out; omega) (by have := HPG.out; have := HSZ.out; omega) (by have := HAA.out; have := HBB.out; omega))))) | ((with_reducible refine wpQuiet_step ?_); intro K hK; go_simp; first | ((with_reducible refine hK _ ?_); clear hK K) | (apply Exists.intro; refine ⟨fun _ => ?_, hK _ ?_⟩; (first | (go_at_call 89; refine BW.calls (meetsH_b _ f0 f1 a bb _ _ HC.out (x0 _) (x1 _) (by have := HAA.out; have := HBB.out; have := HPG.out; have := HSZ.out; omega) (by have := HPG.out; have := HSZ.out; omega) (by have := HAA.out; have := HBB.out; omega)))); clear hK K)))); (with_reducible refine wpQuiet_nil ?_); intro wq hw'; obtain ⟨⟨wy, hbq⟩, hw''⟩ := hw'; subst hw'')
        have XQ := Lib.hid (XR.out.below hbq)
        have HBQ := Lib.hid (HB.out.trans (hbq.mono (by have := XR.out.lt; omega)))
        have HKQ := Lib.hid (HK.out.trans (KeepX.of_below hbq))
        have hds : Hid (((m.tlb.take k).map (doomT a bb) ++ m.tlb.drop k) = ((m.tlb.take (k + 1)).map (doomT a bb) ++ m.tlb.drop (k + 1))) := Lib.hid (dmap_same _ _ _ _ G0.out (by unfold doomT; rw [if_neg (by rw [HC.out]; simp)]))
        rw [hds.out] at XQ
        clear hbq kc
        go_wp2
        go_roundw
        case rel => exact ⟨k + 1, by omega, by go_num, XQ.out, HBQ.out, HKQ.out⟩
        case measure => simp [intOf]; omega
    · have hlt' : ¬ (k : Int) < (m.tlb.length : Int) := by omega
      obtain rfl : k = m.tlb.length := by omega
      rw [dmap_end] at XR
      generalize wr = w8 at *
      have X8 := XR
      have HB8 := HB
      have HK8 := HK
      have k4 := X8.out.cell.2.2.2.2
      clear XR HB HK
      go_wp2
      clear k4
      go_loopw [42] (fun i wr => ∃ k : Nat, k ≤ m.wc.length ∧ i = .int .i64 k ∧ OwnX base wr p v0 v1 v2 (.slice A3 m.tlb.length c3) (.slice A4 m.wc.length c4) { m with tlb := m.tlb.map (doomT a bb), wc := ((m.wc.take k).map (doomW a bb) ++ m.wc.drop k) } ls ∧ Below base w wr ∧ KeepX w1 wr) (fun i _ => m.wc.length - (intOf i).toNat)
      case atStart => exact ⟨0, Nat.zero_le _, rfl, by simpa using X8.out, HB8.out, HK8.out⟩
      case round =>
        obtain ⟨k, hk, rfl, hx, hb, hkx⟩ := hrel
        have XR := Lib.hid hx
        have HB := Lib.hid hb
        have HK := Lib.hid hkx
        clear hx hb hkx
        have hlen : ((m.wc.take k).map (doomW a bb) ++ m.wc.drop k).length = m.wc.length := dmap_len _ _ _ hk
        have HLEN := Lib.hid hlen
        clear hlen
        by_cases hlt : k < m.wc.length
        · have hlt' : (k : Int) < (m.wc.length : Int) := by omega
          obtain ⟨g, hA, hg1, hg2, hgf, hgc⟩ := XR.out.wc.block stepLen (by show 0 < ((m.wc.take k).map (doomW a bb) ++ m.wc.drop k).length; rw [HLEN.out]; omega)
          subst hA
          obtain ⟨e0, he0⟩ : ∃ e, m.wc[k]? = some e := ⟨_, List.getElem?_eq_getElem hlt⟩
          have OK := V.out.wc e0 (List.mem_of_getElem? he0)
          obtain ⟨f0, f1, f2, dm⟩ := e0
          have hkx : ((m.wc.take k).map (doomW a bb) ++ m.wc.drop k)[k]? = some ⟨f0, f1, f2, dm⟩ := (dmap_get _ _ _ hlt).trans he0
          have G0 := Lib.hid he0
          have HKX := Lib.hid hkx
          have hpg : 0 ≤ f1 ∧ f1 ≤ 10000 := by have := OK.2.1; simp only at this; omega
          obtain ⟨cvl, hcvl⟩ : ∃ c, cov (f0 - 1) = c := ⟨_, rfl⟩
          have hsz : 0 ≤ cvl ∧ cvl ≤ 10000 := by rw [← hcvl]; unfold cov; split <;> (try split) <;> omega
          have HCV := Lib.hid hcvl
          have HPG := Lib.hid hpg
          have HSZ := Lib.hid hsz
          have q0 := hgc k _ hkx 0 _ rfl
          have q1 := hgc k _ hkx 1 _ (by show some _ = _; simp only [hcvl]; rfl)
          have q2 := hgc k _ hkx 2 _ rfl
          have qf := hgf (k * 5 + 2)
          simp only [Nat.add_zero] at q0
          have Q2 := Lib.hid q2
          have QF := Lib.hid qf
          have kc := XR.out.cell.2.2.2.2
          have hzr := HK.out.block _ _ _ S1.out.head (by decide)
          have z1 : wr.cell? ⟨w.heap.size, 1, none⟩ = some (.int .i64 a) := by simp [World.cell?, hzr]
          have z2 : wr.cell? ⟨w.heap.size, 2, none⟩ = some (.int .i64 bb) := by simp [World.cell?, hzr]
          go_upto_region 10 with fail
          have b0 := BW.cell kc
          have b1 := BW.cell z1
          have b2 := BW.cell z2
          have x0 := BW.cell q0
          have x1 := BW.cell q1
          clear q0 q1 q2 qf hgf hgc he0 hkx hpg hsz hzr z1 z2 OK hcvl
          rcases Bool.eq_false_or_eq_true (wcMeet a bb ⟨f0, f1, f2, dm⟩) with hc | hc
          · have HC := Lib.hid hc
            clear hc
            (refine wp_region_below (by kernel_rfl) (by kernel_rfl) ?_; (repeat (first | (go_big_quiet_step (first | (go_at_call 89; refine BW.calls (meetsH_b _ f1 cvl a bb _ _ (by have h := HC.out; unfold wcMeet at h; simp only [HCV.out] at h; exact h) (x0 _) (x1 _) (by have := HAA.out; have := HBB.out; have := HPG.out; have := HSZ.out; omega) (by have := HPG.out; have := HSZ.out; omega) (by have := HAA.out; have := HBB.out; omega))))) | ((with_reducible refine wpQuiet_step ?_); intro K hK; go_simp; first | ((with_reducible refine hK _ ?_); clear hK K) | (apply Exists.intro; refine ⟨fun _ => ?_, hK _ ?_⟩; (first | (go_at_call 89; refine BW.calls (meetsH_b _ f1 cvl a bb _ _ (by have h := HC.out; unfold wcMeet at h; simp only [HCV.out] at h; exact h) (x0 _) (x1 _) (by have := HAA.out; have := HBB.out; have := HPG.out; have := HSZ.out; omega) (by have := HPG.out; have := HSZ.out; omega) (by have := HAA.out; have := HBB.out; omega)))); clear hK K)))); (with_reducible refine wpQuiet_nil ?_); intro wq hw'; obtain ⟨⟨wy, hbq⟩, hw''⟩ := hw'; subst hw'')
            have kc2 := bC hbq kc
            have q3 := bC hbq Q2.out
            have qf3 : wq.frozen? ⟨g, k * 5 + 2, none⟩ = false := (hbq.frozen (by exact hg2)).trans QF.out
            have Q3 := Lib.hid q3
            have QF3 := Lib.hid qf3
            have XQ := Lib.hid (XR.out.below hbq)
            have HBQ := Lib.hid (HB.out.trans (hbq.mono (by have := XR.out.lt; omega)))
            have HKQ := Lib.hid (HK.out.trans (KeepX.of_below hbq))
            clear hbq kc q3 qf3
            go_wp2_with (first | (go_at_call 96; refine (doom_any g (k * 5) _ _ Q3.out QF3.out).mono ?_; rintro e w9 ⟨rfl, rfl⟩))
            have XN := ownX_cellW XQ.out k _ ⟨f0, f1, f2, true⟩ HKX.out 2 (by decide) (.bool true) rfl
            have hds : ((m.wc.take k).map (doomW a bb) ++ m.wc.drop k).set k ⟨f0, f1, f2, true⟩ = ((m.wc.take (k + 1)).map (doomW a bb) ++ m.wc.drop (k + 1)) := by
              rw [← dmap_step _ _ _ _ G0.out]
              unfold doomW
              rw [if_pos HC.out]
            simp only at XN
            rw [hds] at XN
            go_roundw
            case rel => exact ⟨k + 1, by omega, by go_num, XN, HBQ.out.setCell hg1 _, HKQ.out.trans (keepX_set XQ.out.wc (by decide) _ _)⟩
            case measure => simp [intOf]; omega
          · have HC := Lib.hid hc
            clear hc
            (refine wp_region_below (by kernel_rfl) (by kernel_rfl) ?_; (repeat (first | (go_big_quiet_step (first | (go_at_call 89; refine BW.calls (meetsH_b _ f1 cvl a bb _ _ (by have h := HC.out; unfold wcMeet at h; simp only [HCV.out] at h; exact h) (x0 _) (x1 _) (by have := HAA.out; have := HBB.out; have := HPG.out; have := HSZ.out; omega) (by have := HPG.out; have := HSZ.out; omega) (by have := HAA.out; have := HBB.out; omega))))) | ((with_reducible refine wpQuiet_step ?_); intro K hK; go_simp; first | ((with_reducible refine hK _ ?_); clear hK K) | (apply Exists.intro; refine ⟨fun _ => ?_, hK _ ?_⟩; (first | (go_at_call 89; refine BW.calls (meetsH_b _ f1 cvl a bb _ _ (by have h := HC.out; unfold wcMeet at h; simp only [HCV.out] at h; exact h) (x0 _) (x1 _) (by have := HAA.out; have := HBB.out; have := HPG.out; have := HSZ.out; omega) (by have := HPG.out; have := HSZ.out; omega) (by have := HAA.out; have := HBB.out; omega)))); clear hK K)))); (with_reducible refine wpQuiet_nil ?_); intro wq hw'; obtain ⟨⟨wy, hbq⟩, hw''⟩ := hw'; subst hw'')
            have XQ := Lib.hid (XR.out.below hbq)
            have HBQ := Lib.hid (HB.out.trans (hbq.mono (by have := XR.out.lt; omega)))
            have HKQ := Lib.hid (HK.out.trans (KeepX.of_below hbq))
            have hds : Hid (((m.wc.take k).map (doomW a bb) ++ m.wc.drop k) = ((m.wc.take (k + 1)).map (doomW a bb) ++ m.wc.drop (k + 1))) := Lib.hid (dmap_same _ _ _ _ G0.out (by unfold doomW; rw [if_neg (by rw [HC.out]; simp)]))
            rw [hds.out] at XQ
            clear hbq kc
            go_wp2
            go_roundw
            case rel => exact ⟨k + 1, by omega, by go_num, XQ.out, HBQ.out, HKQ.out⟩
            case measure => simp [intOf]; omega
        · have hlt' : ¬ (k : Int) < (m.wc.length : Int) := by omega
          obtain rfl : k = m.wc.length := by omega
          rw [dmap_end] at XR
          generalize wr = w9 at *
          go_wp2
          refine bodyPost_end (v := .tuple #[]) (by simp [results, Try.results93, go_sem]) rfl ⟨rfl, _, _, _, _, _, XR.out, HB.out, (KeepX.of_below S1.out.b).trans HK.out⟩
end Go.Proofs.Ythphfcheencbgaa.Mmu
