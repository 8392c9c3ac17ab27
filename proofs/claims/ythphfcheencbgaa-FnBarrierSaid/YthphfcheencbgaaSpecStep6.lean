/- Walk of the reference's Step: DSB, TLBI. -/
import Derived.Test.YthphfcheencbgaaSpecStep5
namespace Go.Proofs.Ythphfcheencbgaa.Mmu
open Go.RowKit Go.Proofs.Ythphfcheencbgaa.Base Go.Proofs.Ythphfcheencbgaa.Kinds Go.Proofs.Ythphfcheencbgaa.DecMath Go.Proofs.Ythphfcheencbgaa.L1
set_option linter.unusedVariables false
set_option linter.unusedSimpArgs false
theorem st_gen4 {w0 w : World} {l : List (Nat × Array Value × Nat)} {base : Nat} {v0 v1 v2 v3 : Value} {m : SM} {α β : Type} {e1 : α → List Value} {e2 : β → List Value} {s1 s2 E1 E2 b1 b2 : Nat} {u1 u2 : Value} {L1 : List α} {L2 : List β} (S : St w0 l w) (h : OwnM base w v0 v1 v2 v3 m) (o1 : Own e1 s1 E1 b1 w u1 L1) (o2 : Own e2 s2 E2 b2 w u2 L2) {wb : World} {B : Nat} (hb : Below B wb w)
    {G : World → Prop} (k : ∀ w', St w0 l w' → OwnM base w' v0 v1 v2 v3 m → Own e1 s1 E1 b1 w' u1 L1 → Own e2 s2 E2 b2 w' u2 L2 → Below B wb w' → G w') : G w := k w S h o1 o2 hb
theorem st_ownB {w0 wb w : World} {l : List (Nat × Array Value × Nat)} {B : Nat} {α : Type} {e : α → List Value} {s E b : Nat} {v : Value} {L : List α} (S : St w0 l w) (h : Own e s E b w v L) (hb : Below B wb w) {G : World → Prop} (k : ∀ w', St w0 l w' → Own e s E b w' v L → Below B wb w' → G w') : G w := k w S h hb
theorem filter_snoc {α : Type} {p : α → Bool} {l : List α} {k : Nat} {x : α} (h : l[k]? = some x) : (l.take (k + 1)).filter p = (l.take k).filter p ++ (if p x = true then [x] else []) := by
  rw [List.take_add_one, h, List.filter_append]
  simp [List.filter_cons]
theorem map_snoc {α β : Type} {f : α → β} {l : List α} {k : Nat} {x : α} (h : l[k]? = some x) : (l.map f).take (k + 1) = (l.map f).take k ++ [f x] := by
  rw [List.take_add_one, List.getElem?_map, h]
  rfl
set_option maxRecDepth 100000 in
set_option maxHeartbeats 8000000 in
theorem specStep_d (v0 v1 v2 v3 : Value) (m : SM) (o : SOp) (w : World) (r : RdM w v0 v1 v2 v3 m) (hv : Valid m) (hw : WfM m) (ho : opOk m o) (hk : o.Kind = 2) : Calls Try.prog 5 #[.agg #[v0, v1, v2, v3], o.val] w (MIPost w (stepS m o)) := by
  obtain ⟨A0, c0, A1, c1, A2, c2, A3, c3, rfl, rfl, rfl, rfl, hl0, hk0, hl1, hk1, hl2, hk2, hl3, hk3⟩ := r.shape
  have R := Lib.hid r
  obtain ⟨kd, a, bb, wd⟩ := o
  simp only [SOp.val]
  have V := Lib.hid hv
  have HV : Hid (decide (Valid m) = true) := Lib.hid (decide_eq_true hv)
  have HL : Hid (m.ws.length ≤ 1048576 ∧ m.pend.length ≤ 1048576 ∧ m.tlb.length ≤ 1048576 ∧ m.wc.length ≤ 1048576) := Lib.hid (by have := hv.frames; have := hv.npend; have := hv.ntlb; have := hv.nwc; omega)
  have hnp : m.pend.length ≤ 10000 := hv.npend
  have hnt : m.tlb.length ≤ 256 := hv.ntlb
  have hnw : m.wc.length ≤ 256 := hv.nwc
  have WM := Lib.hid hw
  have HW : Hid (decide (opOk m ⟨kd, a, bb, wd⟩) = true) := Lib.hid (decide_eq_true ho)
  simp only at hk
  subst hk
  have HR : Hid (stepS m ⟨2, a, bb, wd⟩ = (dsbS m, 0)) := Lib.hid (by unfold stepS; rw [if_pos ho]; rfl)
  clear r hv hw ho
  go_enter Try.func5, Try.ntmps5
  go_upto_region 1 with fail
  refine ((St.start w).push3 _ _ _ _ _ _).gen (fun w1 S1' _ => ?_)
  have S1 := Lib.hid S1'
  clear S1'
  have sT0 := S1.out
  obtain ⟨p0_0, p0_1, p0_2, p0_3⟩ := sT0.c4
  have pF0_0 := sT0.f 0
  have pF0_1 := sT0.f 1
  have pF0_2 := sT0.f 2
  have pF0_3 := sT0.f 3
  have sT1 := sT0.tail
  obtain ⟨p1_0, p1_1, p1_2, p1_3⟩ := sT1.c4
  have sT2 := sT1.tail
  obtain ⟨p2_0, p2_1, p2_2, p2_3⟩ := sT2.c4
  have sT3 := sT2.tail
  clear sT0 sT1 sT2 sT3
  go_upto_region 3 with (first | (go_at_call 15; refine (validT_b _ _ _ _ m true _ (R.out.below S1.out.b) HV.out).mono ?_; rintro e w2 ⟨rfl, hb2⟩; have S2 := Lib.hid (S1.out.below hb2); clear hb2))
  clear p0_0 p0_1 p0_2 p0_3 pF0_0 pF0_1 pF0_2 pF0_3 p1_0 p1_1 p1_2 p1_3 p2_0 p2_1 p2_2 p2_3
  have sT0 := S2.out
  obtain ⟨p0_0, p0_1, p0_2, p0_3⟩ := sT0.c4
  have pF0_0 := sT0.f 0
  have pF0_1 := sT0.f 1
  have pF0_2 := sT0.f 2
  have pF0_3 := sT0.f 3
  have sT1 := sT0.tail
  obtain ⟨p1_0, p1_1, p1_2, p1_3⟩ := sT1.c4
  have sT2 := sT1.tail
  obtain ⟨p2_0, p2_1, p2_2, p2_3⟩ := sT2.c4
  have sT3 := sT2.tail
  clear sT0 sT1 sT2 sT3
  go_wp2_with fail
  refine (specCopy_any _ _ _ _ m _ (R.out.below S2.out.b) HL.out).mono ?_
  rintro e w3 ⟨u0, u1, u2, u3, rfl, o3, hb3⟩
  obtain ⟨B0, d0, B1, d1, B2, d2, B3, d3, rfl, rfl, rfl, rfl⟩ := o3.shape
  have O3 := Lib.hid (o3.lower S2.out.b.size)
  have S3 := Lib.hid (S2.out.below hb3)
  clear o3 hb3 S2
  clear p0_0 p0_1 p0_2 p0_3 pF0_0 pF0_1 pF0_2 pF0_3 p1_0 p1_1 p1_2 p1_3 p2_0 p2_1 p2_2 p2_3
  go_upto_region 4 with fail
  refine st_genO (S3.out.push _ _) (O3.out.below (allocB (Below.refl _ _) _)) (fun w4 S4' O4' => ?_)
  have S4 := Lib.hid S4'
  have O4 := Lib.hid O4'
  clear S4' O4' S3 O3
  have sT0 := S4.out
  obtain ⟨p0_0, p0_1, p0_2, p0_3⟩ := sT0.c4
  have pF0_0 := sT0.f 0
  have pF0_1 := sT0.f 1
  have pF0_2 := sT0.f 2
  have pF0_3 := sT0.f 3
  have sT1 := sT0.tail
  obtain ⟨p1_0, p1_1, p1_2, p1_3⟩ := sT1.c4
  have pF1_0 := sT1.f 0
  have pF1_1 := sT1.f 1
  have pF1_2 := sT1.f 2
  have pF1_3 := sT1.f 3
  have sT2 := sT1.tail
  obtain ⟨p2_0, p2_1, p2_2, p2_3⟩ := sT2.c4
  have sT3 := sT2.tail
  obtain ⟨p3_0, p3_1, p3_2, p3_3⟩ := sT3.c4
  have sT4 := sT3.tail
  clear sT0 sT1 sT2 sT3 sT4
  go_upto_region 6 with (first | (go_at_call 17; refine (wellFormed_b _ _ _ _ m ⟨2, a, bb, wd⟩ _ (R.out.below S4.out.b) V.out true HW.out).mono ?_; rintro e w5 ⟨rfl, hb5⟩; have S5 := Lib.hid (S4.out.below hb5); have O5 := Lib.hid (O4.out.below hb5); clear hb5))
  clear p0_0 p0_1 p0_2 p0_3 pF0_0 pF0_1 pF0_2 pF0_3 p1_0 p1_1 p1_2 p1_3 pF1_0 pF1_1 pF1_2 pF1_3 p2_0 p2_1 p2_2 p2_3 p3_0 p3_1 p3_2 p3_3
  have sT0 := S5.out
  obtain ⟨p0_0, p0_1, p0_2, p0_3⟩ := sT0.c4
  have pF0_0 := sT0.f 0
  have pF0_1 := sT0.f 1
  have pF0_2 := sT0.f 2
  have pF0_3 := sT0.f 3
  have sT1 := sT0.tail
  obtain ⟨p1_0, p1_1, p1_2, p1_3⟩ := sT1.c4
  have pF1_0 := sT1.f 0
  have pF1_1 := sT1.f 1
  have pF1_2 := sT1.f 2
  have pF1_3 := sT1.f 3
  have sT2 := sT1.tail
  obtain ⟨p2_0, p2_1, p2_2, p2_3⟩ := sT2.c4
  have sT3 := sT2.tail
  obtain ⟨p3_0, p3_1, p3_2, p3_3⟩ := sT3.c4
  have sT4 := sT3.tail
  clear sT0 sT1 sT2 sT3 sT4
  go_upto_region 17 with fail
  refine st_gen4 (S5.out.below (allocB (allocB (Below.refl _ _) (.cells #[] 40)) (.cells #[] 42))) (O5.out.below (allocB (allocB (Below.refl _ _) _) _)) ((Own.made STlb.enc 5 40 (base := w5.heap.size) w5 (Nat.le_refl _)).alloc _) (Own.made SWc.enc 4 42 (base := w5.heap.size) (w5.alloc (.cells #[] 40)) (by simp)) (allocB (allocB (Below.refl w5.heap.size w5) _) _) (fun w6 S6' O6' OT' OW' HB6' => ?_)
  rw [show (w5.alloc (.cells #[] 40)).heap.size = w5.heap.size + 1 by simp] at OW'
  have S6 := Lib.hid S6'
  have O6 := Lib.hid O6'
  have OT := Lib.hid OT'
  have OW := Lib.hid OW'
  have HB6 := Lib.hid HB6'
  clear S6' O6' OT' OW' HB6'
  clear p0_0 p0_1 p0_2 p0_3 pF0_0 pF0_1 pF0_2 pF0_3 p1_0 p1_1 p1_2 p1_3 pF1_0 pF1_1 pF1_2 pF1_3 p2_0 p2_1 p2_2 p2_3 p3_0 p3_1 p3_2 p3_3
  have sT0 := S6.out
  obtain ⟨p0_0, p0_1, p0_2, p0_3⟩ := sT0.c4
  have pF0_0 := sT0.f 0
  have pF0_1 := sT0.f 1
  have pF0_2 := sT0.f 2
  have pF0_3 := sT0.f 3
  have sT1 := sT0.tail
  obtain ⟨p1_0, p1_1, p1_2, p1_3⟩ := sT1.c4
  have pF1_0 := sT1.f 0
  have pF1_1 := sT1.f 1
  have pF1_2 := sT1.f 2
  have pF1_3 := sT1.f 3
  have sT2 := sT1.tail
  obtain ⟨p2_0, p2_1, p2_2, p2_3⟩ := sT2.c4
  have sT3 := sT2.tail
  obtain ⟨p3_0, p3_1, p3_2, p3_3⟩ := sT3.c4
  have sT4 := sT3.tail
  clear sT0 sT1 sT2 sT3 sT4
  go_wp2
  clear p0_0 p0_1 p0_2 p0_3 pF0_0 pF0_1 pF0_2 pF0_3 p1_0 p1_1 p1_2 p1_3 pF1_0 pF1_1 pF1_2 pF1_3 p2_0 p2_1 p2_2 p2_3 p3_0 p3_1 p3_2 p3_3
  go_loopw [8, 10] (fun v i wr => ∃ (k : Nat) (A : Option Addr) (c n : Nat), k ≤ m.tlb.length ∧ v = .slice A n c ∧ n = ((m.tlb.take k).filter (fun e => !e.Doomed)).length ∧ i = .int .i64 k ∧ Own STlb.enc 5 40 w5.heap.size wr v ((m.tlb.take k).filter (fun e => !e.Doomed)) ∧ Own SWc.enc 4 42 w5.heap.size wr (.slice (some ⟨w5.heap.size + 1, 0, none⟩) 0 0) [] ∧ Below w5.heap.size w5 wr) (fun _ i _ => m.tlb.length - (intOf i).toNat)
  case atStart => exact ⟨0, _, _, _, Nat.zero_le _, rfl, rfl, rfl, OT.out, OW.out, HB6.out⟩
  case round =>
    obtain ⟨k, Av, cv, nv, hk, rfl, hnv, rfl, ho, hoo, hb⟩ := hrel
    have HO := Lib.hid ho
    have HOO := Lib.hid hoo
    have HB := Lib.hid hb
    have HNV := Lib.hid hnv
    have S7 := Lib.hid (S5.out.below hb)
    have hz7 : w5.heap.size ≤ wr.heap.size := hb.size
    clear ho hoo hb hnv
    have sT0 := S7.out
    obtain ⟨p0_0, p0_1, p0_2, p0_3⟩ := sT0.c4
    have pF0_0 := sT0.f 0
    have pF0_1 := sT0.f 1
    have pF0_2 := sT0.f 2
    have pF0_3 := sT0.f 3
    have sT1 := sT0.tail
    obtain ⟨p1_0, p1_1, p1_2, p1_3⟩ := sT1.c4
    have pF1_0 := sT1.f 0
    have pF1_1 := sT1.f 1
    have pF1_2 := sT1.f 2
    have pF1_3 := sT1.f 3
    have sT2 := sT1.tail
    obtain ⟨p2_0, p2_1, p2_2, p2_3⟩ := sT2.c4
    have sT3 := sT2.tail
    obtain ⟨p3_0, p3_1, p3_2, p3_3⟩ := sT3.c4
    have sT4 := sT3.tail
    clear sT0 sT1 sT2 sT3 sT4
    by_cases hlt : k < m.tlb.length
    · have hlt' : (k : Int) < (m.tlb.length : Int) := by omega
      obtain ⟨a0, e0, ea, g0, u0, u1, u2, u3, u4⟩ := STlb.at (R.out.tlb.below S7.out.b) hlt
      cases ea
      have G0 := Lib.hid g0
      clear g0
      have hlc : ((m.tlb.take k).filter (fun e => !e.Doomed)).length ≤ k := Nat.le_trans (List.length_filter_le _ _) (by rw [List.length_take]; omega)
      have HLC := Lib.hid hlc
      clear hlc
      obtain ⟨f0, f1, f2, f3, dm⟩ := e0
      simp only at u0 u1 u2 u3 u4
      rcases dm
      rotate_left
      · have HE : Hid (((m.tlb.take (k + 1)).filter (fun e => !e.Doomed)) = ((m.tlb.take k).filter (fun e => !e.Doomed))) := Lib.hid (by rw [filter_snoc G0.out]; simp)
        go_wp2
        go_roundw
        case rel => exact ⟨k + 1, Av, cv, nv, by omega, rfl, by rw [HE.out]; exact HNV.out, by go_num, by rw [HE.out]; exact HO.out, HOO.out, HB.out⟩
        case measure => simp [intOf]; omega
      · have HE : Hid (((m.tlb.take (k + 1)).filter (fun e => !e.Doomed)) = ((m.tlb.take k).filter (fun e => !e.Doomed)) ++ [⟨f0, f1, f2, f3, false⟩]) := Lib.hid (by rw [filter_snoc G0.out]; simp)
        go_wp2_with (at_builtin; refine append1 40 5 40 27 (.agg #[.int .i64 0, .int .i64 0, .int .i64 0, .int .i64 0, .bool false]) Try.underlying27 infoTlS rfl (by decide) STlb.len STlb.one rfl (.tmp 75) (.tmp 81) rfl w5.heap.size (.slice Av nv cv) ((m.tlb.take k).filter (fun e => !e.Doomed)) ⟨f0, f1, f2, f3, false⟩ _ rfl rfl rfl HO.out (by have := HLC.out; omega) (by decide) hz7 ?_)
        intro v1 wq ho1 hg1
        have hb1 : Below w5.heap.size w5 wq := Own.grown HO.out HB.out hz7 hg1
        have HO1 := Lib.hid (HOO.out.kept hg1 (own_apart (by decide) HOO.out HO.out))
        rw [← HE.out] at ho1
        obtain ⟨Aq, cq, hv1⟩ := ho1.shape
        subst hv1
        clear hg1
        go_wp2
        go_roundw
        case rel => exact ⟨k + 1, _, _, _, by omega, rfl, rfl, by go_num, ho1, HO1.out, hb1⟩
        case measure => simp [intOf]; omega
    · have hlt' : ¬ (k : Int) < (m.tlb.length : Int) := by omega
      obtain rfl : k = m.tlb.length := by omega
      rw [List.take_length] at HNV HO
      have O7 := Lib.hid (O5.out.below HB.out)
      generalize wr = w8 at *
      go_wp2
      clear p0_0 p0_1 p0_2 p0_3 pF0_0 pF0_1 pF0_2 pF0_3 p1_0 p1_1 p1_2 p1_3 pF1_0 pF1_1 pF1_2 pF1_3 p2_0 p2_1 p2_2 p2_3 p3_0 p3_1 p3_2 p3_3
      have OTL := HO
      have OWE := HOO
      have HB8 := HB
      have HNT := HNV
      obtain ⟨At, ct, nt, hvt⟩ : ∃ A c n, Value.slice Av nv cv = .slice A n c := ⟨_, _, _, rfl⟩
      rw [hvt] at OTL
      simp only [Value.slice.injEq] at hvt
      obtain ⟨hv1, hv2, hv3⟩ := hvt
      subst hv1 hv2 hv3
      clear HO HOO HB HNV S7 O7
      go_loopw [9, 11] (fun v i wr => ∃ (k : Nat) (A : Option Addr) (c n : Nat), k ≤ m.wc.length ∧ v = .slice A n c ∧ n = ((m.wc.take k).filter (fun e => !e.Doomed)).length ∧ i = .int .i64 k ∧ Own SWc.enc 4 42 w5.heap.size wr v ((m.wc.take k).filter (fun e => !e.Doomed)) ∧ Own STlb.enc 5 40 w5.heap.size wr (.slice Av nv cv) (m.tlb.filter (fun e => !e.Doomed)) ∧ Below w5.heap.size w5 wr) (fun _ i _ => m.wc.length - (intOf i).toNat)
      case atStart => exact ⟨0, _, _, _, Nat.zero_le _, rfl, rfl, rfl, OWE.out, OTL.out, HB8.out⟩
      case round =>
        obtain ⟨k, Aw, cw, nw, hk, rfl, hnv, rfl, ho, hoo, hb⟩ := hrel
        have HO := Lib.hid ho
        have HOO := Lib.hid hoo
        have HB := Lib.hid hb
        have HNV := Lib.hid hnv
        have S7 := Lib.hid (S5.out.below hb)
        have hz7 : w5.heap.size ≤ wr.heap.size := hb.size
        clear ho hoo hb hnv
        have sT0 := S7.out
        obtain ⟨p0_0, p0_1, p0_2, p0_3⟩ := sT0.c4
        have pF0_0 := sT0.f 0
        have pF0_1 := sT0.f 1
        have pF0_2 := sT0.f 2
        have pF0_3 := sT0.f 3
        have sT1 := sT0.tail
        obtain ⟨p1_0, p1_1, p1_2, p1_3⟩ := sT1.c4
        have pF1_0 := sT1.f 0
        have pF1_1 := sT1.f 1
        have pF1_2 := sT1.f 2
        have pF1_3 := sT1.f 3
        have sT2 := sT1.tail
        obtain ⟨p2_0, p2_1, p2_2, p2_3⟩ := sT2.c4
        have sT3 := sT2.tail
        obtain ⟨p3_0, p3_1, p3_2, p3_3⟩ := sT3.c4
        have sT4 := sT3.tail
        clear sT0 sT1 sT2 sT3 sT4
        by_cases hlt : k < m.wc.length
        · have hlt' : (k : Int) < (m.wc.length : Int) := by omega
          obtain ⟨a0, e0, ea, g0, u0, u1, u2, u3⟩ := SWc.at (R.out.wc.below S7.out.b) hlt
          cases ea
          have G0 := Lib.hid g0
          clear g0
          have hlc : ((m.wc.take k).filter (fun e => !e.Doomed)).length ≤ k := Nat.le_trans (List.length_filter_le _ _) (by rw [List.length_take]; omega)
          have HLC := Lib.hid hlc
          clear hlc
          obtain ⟨f0, f1, f2, dm⟩ := e0
          simp only at u0 u1 u2 u3
          rcases dm
          rotate_left
          · have HE : Hid (((m.wc.take (k + 1)).filter (fun e => !e.Doomed)) = ((m.wc.take k).filter (fun e => !e.Doomed))) := Lib.hid (by rw [filter_snoc G0.out]; simp)
            go_wp2
            go_roundw
            case rel => exact ⟨k + 1, Aw, cw, nw, by omega, rfl, by rw [HE.out]; exact HNV.out, by go_num, by rw [HE.out]; exact HO.out, HOO.out, HB.out⟩
            case measure => simp [intOf]; omega
          · have HE : Hid (((m.wc.take (k + 1)).filter (fun e => !e.Doomed)) = ((m.wc.take k).filter (fun e => !e.Doomed)) ++ [⟨f0, f1, f2, false⟩]) := Lib.hid (by rw [filter_snoc G0.out]; simp)
            go_wp2_with (at_builtin; refine append1 42 4 32 28 (.agg #[.int .i64 0, .int .i64 0, .int .i64 0, .bool false]) Try.underlying28 infoWcS rfl (by decide) SWc.len SWc.one rfl (.tmp 97) (.tmp 103) rfl w5.heap.size (.slice Aw nw cw) ((m.wc.take k).filter (fun e => !e.Doomed)) ⟨f0, f1, f2, false⟩ _ rfl rfl rfl HO.out (by have := HLC.out; omega) (by decide) hz7 ?_)
            intro v1 wq ho1 hg1
            have hb1 : Below w5.heap.size w5 wq := Own.grown HO.out HB.out hz7 hg1
            have HO1 := Lib.hid (HOO.out.kept hg1 (own_apart (by decide) HOO.out HO.out))
            rw [← HE.out] at ho1
            obtain ⟨Aq, cq, hv1⟩ := ho1.shape
            subst hv1
            clear hg1
            go_wp2
            go_roundw
            case rel => exact ⟨k + 1, _, _, _, by omega, rfl, rfl, by go_num, ho1, HO1.out, hb1⟩
            case measure => simp [intOf]; omega
        · have hlt' : ¬ (k : Int) < (m.wc.length : Int) := by omega
          obtain rfl : k = m.wc.length := by omega
          rw [List.take_length] at HNV HO
          have O7 := Lib.hid (O5.out.below HB.out)
          generalize wr = w9 at *
          go_wp2_with fail
          refine (latest_any _ _ _ _ m _ (R.out.below S7.out.b) V.out).mono ?_
          rintro e w10 ⟨v, rfl, o10, hb10⟩
          obtain ⟨Al, cl, hvl⟩ := o10.shape
          subst hvl
          have S10 := Lib.hid (S7.out.below hb10)
          have hz10 : w.heap.size ≤ w10.heap.size := S10.out.b.size
          have hz5 : w.heap.size ≤ w5.heap.size := S5.out.b.size
          have M10 : Hid (OwnM w.heap.size (w10.alloc (.cells #[] 60)) (.slice Al (latestOf m).length cl) (.slice (some ⟨w10.heap.size, 0, none⟩) 0 0) (.slice Av nv cv) (.slice Aw nw cw) (dsbS m)) := Lib.hid ⟨(o10.lower S7.out.b.size).alloc _, Own.made SWrite.enc 2 60 w10 hz10, ((HOO.out.lower hz5).below hb10).alloc _, ((HO.out.lower hz5).below hb10).alloc _⟩
          clear o10 hb10
          have SA := Lib.hid (S10.out.push #[] 60)
          clear p0_0 p0_1 p0_2 p0_3 pF0_0 pF0_1 pF0_2 pF0_3 p1_0 p1_1 p1_2 p1_3 pF1_0 pF1_1 pF1_2 pF1_3 p2_0 p2_1 p2_2 p2_3 p3_0 p3_1 p3_2 p3_3
          have sT0 := SA.out
          have sT1 := sT0.tail
          obtain ⟨p1_0, p1_1, p1_2, p1_3⟩ := sT1.c4
          have pF1_0 := sT1.f 0
          have pF1_1 := sT1.f 1
          have pF1_2 := sT1.f 2
          have pF1_3 := sT1.f 3
          have sT2 := sT1.tail
          obtain ⟨p2_0, p2_1, p2_2, p2_3⟩ := sT2.c4
          have pF2_0 := sT2.f 0
          have pF2_1 := sT2.f 1
          have pF2_2 := sT2.f 2
          have pF2_3 := sT2.f 3
          have sT3 := sT2.tail
          obtain ⟨p3_0, p3_1, p3_2, p3_3⟩ := sT3.c4
          have sT4 := sT3.tail
          obtain ⟨p4_0, p4_1, p4_2, p4_3⟩ := sT4.c4
          have sT5 := sT4.tail
          clear sT0 sT1 sT2 sT3 sT4 sT5
          go_wp2
          rw [HR.out]
          refine bodyPost_ret (v := .tuple #[.agg #[.slice Al (latestOf m).length cl, .slice (some ⟨w10.heap.size, 0, none⟩) 0 0, .slice Av nv cv, .slice Aw nw cw], .int .i64 0]) (by simp [results, Try.results5, go_sem, *]) rfl ⟨_, _, _, _, rfl, M10.out.set4 (S10.out.push _ _).tail.tail.head (by decide) _ _ _ _, ((S10.out.push _ _).s2 _ _ _ _).b⟩
theorem st_gen5 {w0 w : World} {l : List (Nat × Array Value × Nat)} {α β : Type} {e1 : α → List Value} {e2 : β → List Value} {s1 s2 E1 E2 b1 b2 : Nat} {u1 u2 : Value} {L1 : List α} {L2 : List β} (S : St w0 l w) (o1 : Own e1 s1 E1 b1 w u1 L1) (o2 : Own e2 s2 E2 b2 w u2 L2) {wb : World} {B : Nat} (hb : Below B wb w)
    {G : World → Prop} (k : ∀ w', St w0 l w' → Own e1 s1 E1 b1 w' u1 L1 → Own e2 s2 E2 b2 w' u2 L2 → Below B wb w' → G w') : G w := k w S o1 o2 hb
set_option maxRecDepth 100000 in
set_option maxHeartbeats 8000000 in
theorem specStep_t (v0 v1 v2 v3 : Value) (m : SM) (o : SOp) (w : World) (r : RdM w v0 v1 v2 v3 m) (hv : Valid m) (hw : WfM m) (ho : opOk m o) (hk : o.Kind = 3) : Calls Try.prog 5 #[.agg #[v0, v1, v2, v3], o.val] w (MIPost w (stepS m o)) := by
  obtain ⟨A0, c0, A1, c1, A2, c2, A3, c3, rfl, rfl, rfl, rfl, hl0, hk0, hl1, hk1, hl2, hk2, hl3, hk3⟩ := r.shape
  have R := Lib.hid r
  obtain ⟨kd, a, bb, wd⟩ := o
  simp only [SOp.val]
  have V := Lib.hid hv
  have HV : Hid (decide (Valid m) = true) := Lib.hid (decide_eq_true hv)
  have HL : Hid (m.ws.length ≤ 1048576 ∧ m.pend.length ≤ 1048576 ∧ m.tlb.length ≤ 1048576 ∧ m.wc.length ≤ 1048576) := Lib.hid (by have := hv.frames; have := hv.npend; have := hv.ntlb; have := hv.nwc; omega)
  have hnp : m.pend.length ≤ 10000 := hv.npend
  have hnt : m.tlb.length ≤ 256 := hv.ntlb
  have hnw : m.wc.length ≤ 256 := hv.nwc
  have WM := Lib.hid hw
  have HW : Hid (decide (opOk m ⟨kd, a, bb, wd⟩) = true) := Lib.hid (decide_eq_true ho)
  simp only at hk
  subst hk
  have HR : Hid (stepS m ⟨3, a, bb, wd⟩ = (tlbiS m a bb, 0)) := Lib.hid (by unfold stepS; rw [if_pos ho]; rfl)
  have hAB : (0 ≤ a ∧ a ≤ 1000000) ∧ (0 ≤ bb ∧ bb ≤ 1000000) := by unfold opOk at ho; simp only at ho; omega
  have HAA := Lib.hid hAB.1
  have HBB := Lib.hid hAB.2
  clear r hv hw ho hAB
  go_enter Try.func5, Try.ntmps5
  go_upto_region 1 with fail
  refine ((St.start w).push3 _ _ _ _ _ _).gen (fun w1 S1' _ => ?_)
  have S1 := Lib.hid S1'
  clear S1'
  have sT0 := S1.out
  obtain ⟨p0_0, p0_1, p0_2, p0_3⟩ := sT0.c4
  have pF0_0 := sT0.f 0
  have pF0_1 := sT0.f 1
  have pF0_2 := sT0.f 2
  have pF0_3 := sT0.f 3
  have sT1 := sT0.tail
  obtain ⟨p1_0, p1_1, p1_2, p1_3⟩ := sT1.c4
  have sT2 := sT1.tail
  obtain ⟨p2_0, p2_1, p2_2, p2_3⟩ := sT2.c4
  have sT3 := sT2.tail
  clear sT0 sT1 sT2 sT3
  go_upto_region 3 with (first | (go_at_call 15; refine (validT_b _ _ _ _ m true _ (R.out.below S1.out.b) HV.out).mono ?_; rintro e w2 ⟨rfl, hb2⟩; have S2 := Lib.hid (S1.out.below hb2); clear hb2))
  clear p0_0 p0_1 p0_2 p0_3 pF0_0 pF0_1 pF0_2 pF0_3 p1_0 p1_1 p1_2 p1_3 p2_0 p2_1 p2_2 p2_3
  have sT0 := S2.out
  obtain ⟨p0_0, p0_1, p0_2, p0_3⟩ := sT0.c4
  have pF0_0 := sT0.f 0
  have pF0_1 := sT0.f 1
  have pF0_2 := sT0.f 2
  have pF0_3 := sT0.f 3
  have sT1 := sT0.tail
  obtain ⟨p1_0, p1_1, p1_2, p1_3⟩ := sT1.c4
  have sT2 := sT1.tail
  obtain ⟨p2_0, p2_1, p2_2, p2_3⟩ := sT2.c4
  have sT3 := sT2.tail
  clear sT0 sT1 sT2 sT3
  go_wp2_with fail
  refine (specCopy_any _ _ _ _ m _ (R.out.below S2.out.b) HL.out).mono ?_
  rintro e w3 ⟨u0, u1, u2, u3, rfl, o3, hb3⟩
  obtain ⟨B0, d0, B1, d1, B2, d2, B3, d3, rfl, rfl, rfl, rfl⟩ := o3.shape
  have O3 := Lib.hid (o3.lower S2.out.b.size)
  have S3 := Lib.hid (S2.out.below hb3)
  clear o3 hb3 S2
  clear p0_0 p0_1 p0_2 p0_3 pF0_0 pF0_1 pF0_2 pF0_3 p1_0 p1_1 p1_2 p1_3 p2_0 p2_1 p2_2 p2_3
  go_upto_region 4 with fail
  refine st_genO (S3.out.push _ _) (O3.out.below (allocB (Below.refl _ _) _)) (fun w4 S4' O4' => ?_)
  have S4 := Lib.hid S4'
  have O4 := Lib.hid O4'
  clear S4' O4' S3 O3
  have sT0 := S4.out
  obtain ⟨p0_0, p0_1, p0_2, p0_3⟩ := sT0.c4
  have pF0_0 := sT0.f 0
  have pF0_1 := sT0.f 1
  have pF0_2 := sT0.f 2
  have pF0_3 := sT0.f 3
  have sT1 := sT0.tail
  obtain ⟨p1_0, p1_1, p1_2, p1_3⟩ := sT1.c4
  have pF1_0 := sT1.f 0
  have pF1_1 := sT1.f 1
  have pF1_2 := sT1.f 2
  have pF1_3 := sT1.f 3
  have sT2 := sT1.tail
  obtain ⟨p2_0, p2_1, p2_2, p2_3⟩ := sT2.c4
  have sT3 := sT2.tail
  obtain ⟨p3_0, p3_1, p3_2, p3_3⟩ := sT3.c4
  have sT4 := sT3.tail
  clear sT0 sT1 sT2 sT3 sT4
  go_upto_region 6 with (first | (go_at_call 17; refine (wellFormed_b _ _ _ _ m ⟨3, a, bb, wd⟩ _ (R.out.below S4.out.b) V.out true HW.out).mono ?_; rintro e w5 ⟨rfl, hb5⟩; have S5 := Lib.hid (S4.out.below hb5); have O5 := Lib.hid (O4.out.below hb5); clear hb5))
  clear p0_0 p0_1 p0_2 p0_3 pF0_0 pF0_1 pF0_2 pF0_3 p1_0 p1_1 p1_2 p1_3 pF1_0 pF1_1 pF1_2 pF1_3 p2_0 p2_1 p2_2 p2_3 p3_0 p3_1 p3_2 p3_3
  have sT0 := S5.out
  obtain ⟨p0_0, p0_1, p0_2, p0_3⟩ := sT0.c4
  have pF0_0 := sT0.f 0
  have pF0_1 := sT0.f 1
  have pF0_2 := sT0.f 2
  have pF0_3 := sT0.f 3
  have sT1 := sT0.tail
  obtain ⟨p1_0, p1_1, p1_2, p1_3⟩ := sT1.c4
  have pF1_0 := sT1.f 0
  have pF1_1 := sT1.f 1
  have pF1_2 := sT1.f 2
  have pF1_3 := sT1.f 3
  have sT2 := sT1.tail
  obtain ⟨p2_0, p2_1, p2_2, p2_3⟩ := sT2.c4
  have sT3 := sT2.tail
  obtain ⟨p3_0, p3_1, p3_2, p3_3⟩ := sT3.c4
  have sT4 := sT3.tail
  clear sT0 sT1 sT2 sT3 sT4
  go_upto_region 17 with fail
  refine st_gen4 (S5.out.below (allocB (allocB (Below.refl _ _) (.cells #[] 40)) (.cells #[] 42))) (O5.out.below (allocB (allocB (Below.refl _ _) _) _)) ((Own.made STlb.enc 5 40 (base := w5.heap.size) w5 (Nat.le_refl _)).alloc _) (Own.made SWc.enc 4 42 (base := w5.heap.size) (w5.alloc (.cells #[] 40)) (by simp)) (allocB (allocB (Below.refl w5.heap.size w5) _) _) (fun w6 S6' O6' OT' OW' HB6' => ?_)
  rw [show (w5.alloc (.cells #[] 40)).heap.size = w5.heap.size + 1 by simp] at OW'
  have S6 := Lib.hid S6'
  have O6 := Lib.hid O6'
  have OT := Lib.hid OT'
  have OW := Lib.hid OW'
  have HB6 := Lib.hid HB6'
  clear S6' O6' OT' OW' HB6'
  clear p0_0 p0_1 p0_2 p0_3 pF0_0 pF0_1 pF0_2 pF0_3 p1_0 p1_1 p1_2 p1_3 pF1_0 pF1_1 pF1_2 pF1_3 p2_0 p2_1 p2_2 p2_3 p3_0 p3_1 p3_2 p3_3
  have sT0 := S6.out
  obtain ⟨p0_0, p0_1, p0_2, p0_3⟩ := sT0.c4
  have pF0_0 := sT0.f 0
  have pF0_1 := sT0.f 1
  have pF0_2 := sT0.f 2
  have pF0_3 := sT0.f 3
  have sT1 := sT0.tail
  obtain ⟨p1_0, p1_1, p1_2, p1_3⟩ := sT1.c4
  have pF1_0 := sT1.f 0
  have pF1_1 := sT1.f 1
  have pF1_2 := sT1.f 2
  have pF1_3 := sT1.f 3
  have sT2 := sT1.tail
  obtain ⟨p2_0, p2_1, p2_2, p2_3⟩ := sT2.c4
  have sT3 := sT2.tail
  obtain ⟨p3_0, p3_1, p3_2, p3_3⟩ := sT3.c4
  have sT4 := sT3.tail
  clear sT0 sT1 sT2 sT3 sT4
  go_wp2
  clear p0_0 p0_1 p0_2 p0_3 pF0_0 pF0_1 pF0_2 pF0_3 p1_0 p1_1 p1_2 p1_3 pF1_0 pF1_1 pF1_2 pF1_3 p2_0 p2_1 p2_2 p2_3 p3_0 p3_1 p3_2 p3_3
  go_loopw [8, 12] (fun v i wr => ∃ (k : Nat) (A : Option Addr) (c n : Nat), k ≤ m.tlb.length ∧ v = .slice A n c ∧ n = ((m.tlb.map (doomT a bb)).take k).length ∧ i = .int .i64 k ∧ Own STlb.enc 5 40 w5.heap.size wr v ((m.tlb.map (doomT a bb)).take k) ∧ Own SWc.enc 4 42 w5.heap.size wr (.slice (some ⟨w5.heap.size + 1, 0, none⟩) 0 0) [] ∧ Below w5.heap.size w5 wr) (fun _ i _ => m.tlb.length - (intOf i).toNat)
  case atStart => exact ⟨0, _, _, _, Nat.zero_le _, rfl, rfl, rfl, OT.out, OW.out, HB6.out⟩
  case round =>
    obtain ⟨k, Av, cv, nv, hk, rfl, hnv, rfl, ho, hoo, hb⟩ := hrel
    have HO := Lib.hid ho
    have HOO := Lib.hid hoo
    have HB := Lib.hid hb
    have HNV := Lib.hid hnv
    have S7 := Lib.hid (S5.out.below hb)
    have hz7 : w5.heap.size ≤ wr.heap.size := hb.size
    clear ho hoo hb hnv
    have sT0 := S7.out
    obtain ⟨p0_0, p0_1, p0_2, p0_3⟩ := sT0.c4
    have pF0_0 := sT0.f 0
    have pF0_1 := sT0.f 1
    have pF0_2 := sT0.f 2
    have pF0_3 := sT0.f 3
    have sT1 := sT0.tail
    obtain ⟨p1_0, p1_1, p1_2, p1_3⟩ := sT1.c4
    have pF1_0 := sT1.f 0
    have pF1_1 := sT1.f 1
    have pF1_2 := sT1.f 2
    have pF1_3 := sT1.f 3
    have sT2 := sT1.tail
    obtain ⟨p2_0, p2_1, p2_2, p2_3⟩ := sT2.c4
    have sT3 := sT2.tail
    obtain ⟨p3_0, p3_1, p3_2, p3_3⟩ := sT3.c4
    have sT4 := sT3.tail
    clear sT0 sT1 sT2 sT3 sT4
    by_cases hlt : k < m.tlb.length
    · have hlt' : (k : Int) < (m.tlb.length : Int) := by omega
      obtain ⟨a0, e0, ea, g0, u0, u1, u2, u3, u4⟩ := STlb.at (R.out.tlb.below S7.out.b) hlt
      cases ea
      have G0 := Lib.hid g0
      have OK := Lib.hid (V.out.tlb e0 (List.mem_of_getElem? g0))
      clear g0
      have hlc : ((m.tlb.map (doomT a bb)).take k).length ≤ k := by rw [List.length_take]; omega
      have HLC := Lib.hid hlc
      clear hlc
      obtain ⟨f0, f1, f2, f3, dm⟩ := e0
      simp only at u0 u1 u2 u3 u4
      go_upto_region 33 with fail
      have LB : Hid (some wr.heap.size ≠ (Value.slice Av nv cv).ownBlock) := Lib.hid (fun e => by have := (HO.out.lt _ e.symm).2; omega)
      refine st_gen5 (S7.out.push _ _) (HO.out.alloc _) (HOO.out.alloc _) (allocB HB.out _) (fun w7 S8' HO8' HOO8' HB8' => ?_)
      have S8 := Lib.hid S8'
      have HO8 := Lib.hid HO8'
      have HOO8 := Lib.hid HOO8'
      have HB8 := Lib.hid HB8'
      have hz8 : w5.heap.size ≤ w7.heap.size := HB8'.size
      clear S8' HO8' HOO8' HB8' u0 u1 u2 u3 u4 S7 HO HOO HB
      clear p0_0 p0_1 p0_2 p0_3 pF0_0 pF0_1 pF0_2 pF0_3 p1_0 p1_1 p1_2 p1_3 pF1_0 pF1_1 pF1_2 pF1_3 p2_0 p2_1 p2_2 p2_3 p3_0 p3_1 p3_2 p3_3
      have sT0 := S8.out
      obtain ⟨p0_0, p0_1, p0_2, p0_3, p0_4⟩ := sT0.c5
      have pF0_0 := sT0.f 0
      have pF0_1 := sT0.f 1
      have pF0_2 := sT0.f 2
      have pF0_3 := sT0.f 3
      have pF0_4 := sT0.f 4
      have sT1 := sT0.tail
      obtain ⟨p1_0, p1_1, p1_2, p1_3⟩ := sT1.c4
      have pF1_0 := sT1.f 0
      have pF1_1 := sT1.f 1
      have pF1_2 := sT1.f 2
      have pF1_3 := sT1.f 3
      have sT2 := sT1.tail
      obtain ⟨p2_0, p2_1, p2_2, p2_3⟩ := sT2.c4
      have pF2_0 := sT2.f 0
      have pF2_1 := sT2.f 1
      have pF2_2 := sT2.f 2
      have pF2_3 := sT2.f 3
      have sT3 := sT2.tail
      obtain ⟨p3_0, p3_1, p3_2, p3_3⟩ := sT3.c4
      have sT4 := sT3.tail
      obtain ⟨p4_0, p4_1, p4_2, p4_3⟩ := sT4.c4
      have sT5 := sT4.tail
      clear sT0 sT1 sT2 sT3 sT4 sT5
      have hpg : 0 ≤ f0 ∧ f0 ≤ 1000000 := by have := OK.out.2.1; simp only at this; omega
      have hsz : 0 ≤ f1 ∧ f1 ≤ 1000000 := by rcases OK.out.1 with h | h <;> simp only at h <;> omega
      have HPG := Lib.hid hpg
      have HSZ := Lib.hid hsz
      clear hpg hsz
      rcases Bool.eq_false_or_eq_true (tlbMeet a bb ⟨f0, f1, f2, f3, dm⟩) with hc | hc
      · have HC := Lib.hid hc
        clear hc
        go_upto_region 34 with (first | (go_at_call 21; refine (meet_b a bb f0 f1 true _ HAA.out HBB.out HPG.out HSZ.out HC.out).mono ?_; rintro e w8 ⟨rfl, rfl⟩))
        go_upto_region 35 with fail
        refine st_gen5 (S8.out.set (l1 := []) 4 _) (own_setOff HO8.out (a := ⟨wr.heap.size, 4, none⟩) LB.out _) (own_setOff HOO8.out (a := ⟨wr.heap.size, 4, none⟩) (off_box HOO8.out S8.out.head (by decide)) _) (HB8.out.setCell (p := ⟨wr.heap.size, 4, none⟩) hz7 _) (fun w9 S9' HO9' HOO9' HB9' => ?_)
        have S9 : Hid (St w _ w9) := Lib.hid S9'
        simp only [List.nil_append, List.setIfInBounds_toArray, List.set_cons_zero, List.set_cons_succ] at S9
        have HO9 := Lib.hid HO9'
        have HOO9 := Lib.hid HOO9'
        have HB9 := Lib.hid HB9'
        have hz9 : w5.heap.size ≤ w9.heap.size := HB9'.size
        clear S9' HO9' HOO9' HB9'
        clear p0_0 p0_1 p0_2 p0_3 p0_4 pF0_0 pF0_1 pF0_2 pF0_3 pF0_4 p1_0 p1_1 p1_2 p1_3 pF1_0 pF1_1 pF1_2 pF1_3 p2_0 p2_1 p2_2 p2_3 pF2_0 pF2_1 pF2_2 pF2_3 p3_0 p3_1 p3_2 p3_3 p4_0 p4_1 p4_2 p4_3
        have sT0 := S9.out
        obtain ⟨p0_0, p0_1, p0_2, p0_3, p0_4⟩ := sT0.c5
        have sT1 := sT0.tail
        have sT2 := sT1.tail
        have sT3 := sT2.tail
        have sT4 := sT3.tail
        have sT5 := sT4.tail
        clear sT0 sT1 sT2 sT3 sT4 sT5
        have HE : Hid (((m.tlb.map (doomT a bb)).take (k + 1)) = ((m.tlb.map (doomT a bb)).take k) ++ [⟨f0, f1, f2, f3, true⟩]) := Lib.hid (by rw [map_snoc G0.out]; unfold doomT; rw [if_pos HC.out])
        go_wp2_with (at_builtin; refine append1 40 5 40 27 (.agg #[.int .i64 0, .int .i64 0, .int .i64 0, .int .i64 0, .bool false]) Try.underlying27 infoTlS rfl (by decide) STlb.len STlb.one rfl (.tmp 133) (.tmp 135) rfl w5.heap.size (.slice Av nv cv) ((m.tlb.map (doomT a bb)).take k) ⟨f0, f1, f2, f3, true⟩ _ rfl rfl rfl HO9.out (by have := HLC.out; omega) (by decide) hz9 ?_)
        intro v1 wz ho1 hg1
        have hb1 : Below w5.heap.size w5 wz := Own.grown HO9.out HB9.out hz9 hg1
        have HO1 := Lib.hid (HOO9.out.kept hg1 (own_apart (by decide) HOO9.out HO9.out))
        rw [← HE.out] at ho1
        obtain ⟨Aq, cq, hv1⟩ := ho1.shape
        subst hv1
        clear hg1
        go_wp2
        go_roundw
        case rel => exact ⟨k + 1, _, _, _, by omega, rfl, rfl, by go_num, ho1, HO1.out, hb1⟩
        case measure => simp [intOf]; omega
      · have HC := Lib.hid hc
        clear hc
        go_upto_region 35 with (first | (go_at_call 21; refine (meet_b a bb f0 f1 false _ HAA.out HBB.out HPG.out HSZ.out HC.out).mono ?_; rintro e w8 ⟨rfl, rfl⟩))
        have HE : Hid (((m.tlb.map (doomT a bb)).take (k + 1)) = ((m.tlb.map (doomT a bb)).take k) ++ [⟨f0, f1, f2, f3, dm⟩]) := Lib.hid (by rw [map_snoc G0.out]; unfold doomT; rw [if_neg (by rw [HC.out]; simp)])
        go_wp2_with (at_builtin; refine append1 40 5 40 27 (.agg #[.int .i64 0, .int .i64 0, .int .i64 0, .int .i64 0, .bool false]) Try.underlying27 infoTlS rfl (by decide) STlb.len STlb.one rfl (.tmp 133) (.tmp 135) rfl w5.heap.size (.slice Av nv cv) ((m.tlb.map (doomT a bb)).take k) ⟨f0, f1, f2, f3, dm⟩ _ rfl rfl rfl HO8.out (by have := HLC.out; omega) (by decide) hz8 ?_)
        intro v1 wz ho1 hg1
        have hb1 : Below w5.heap.size w5 wz := Own.grown HO8.out HB8.out hz8 hg1
        have HO1 := Lib.hid (HOO8.out.kept hg1 (own_apart (by decide) HOO8.out HO8.out))
        rw [← HE.out] at ho1
        obtain ⟨Aq, cq, hv1⟩ := ho1.shape
        subst hv1
        clear hg1
        go_wp2
        go_roundw
        case rel => exact ⟨k + 1, _, _, _, by omega, rfl, rfl, by go_num, ho1, HO1.out, hb1⟩
        case measure => simp [intOf]; omega
    · have hlt' : ¬ (k : Int) < (m.tlb.length : Int) := by omega
      obtain rfl : k = m.tlb.length := by omega
      rw [List.take_of_length_le (by simp)] at HNV HO
      generalize wr = w8 at *
      go_wp2
      clear p0_0 p0_1 p0_2 p0_3 pF0_0 pF0_1 pF0_2 pF0_3 p1_0 p1_1 p1_2 p1_3 pF1_0 pF1_1 pF1_2 pF1_3 p2_0 p2_1 p2_2 p2_3 p3_0 p3_1 p3_2 p3_3
      have OTL := HO
      have OWE := HOO
      have HB8 := HB
      clear HO HOO HB HNV S7
      go_loopw [9, 14] (fun v i wr => ∃ (k : Nat) (A : Option Addr) (c n : Nat), k ≤ m.wc.length ∧ v = .slice A n c ∧ n = ((m.wc.map (doomW a bb)).take k).length ∧ i = .int .i64 k ∧ Own SWc.enc 4 42 w5.heap.size wr v ((m.wc.map (doomW a bb)).take k) ∧ Own STlb.enc 5 40 w5.heap.size wr (.slice Av nv cv) (m.tlb.map (doomT a bb)) ∧ Below w5.heap.size w5 wr) (fun _ i _ => m.wc.length - (intOf i).toNat)
      case atStart => exact ⟨0, _, _, _, Nat.zero_le _, rfl, rfl, rfl, OWE.out, OTL.out, HB8.out⟩
      case round =>
        obtain ⟨k, Aw, cw, nw, hk, rfl, hnv, rfl, ho, hoo, hb⟩ := hrel
        have HO := Lib.hid ho
        have HOO := Lib.hid hoo
        have HB := Lib.hid hb
        have HNV := Lib.hid hnv
        have S7 := Lib.hid (S5.out.below hb)
        have hz7 : w5.heap.size ≤ wr.heap.size := hb.size
        clear ho hoo hb hnv
        have sT0 := S7.out
        obtain ⟨p0_0, p0_1, p0_2, p0_3⟩ := sT0.c4
        have pF0_0 := sT0.f 0
        have pF0_1 := sT0.f 1
        have pF0_2 := sT0.f 2
        have pF0_3 := sT0.f 3
        have sT1 := sT0.tail
        obtain ⟨p1_0, p1_1, p1_2, p1_3⟩ := sT1.c4
        have pF1_0 := sT1.f 0
        have pF1_1 := sT1.f 1
        have pF1_2 := sT1.f 2
        have pF1_3 := sT1.f 3
        have sT2 := sT1.tail
        obtain ⟨p2_0, p2_1, p2_2, p2_3⟩ := sT2.c4
        have sT3 := sT2.tail
        obtain ⟨p3_0, p3_1, p3_2, p3_3⟩ := sT3.c4
        have sT4 := sT3.tail
        clear sT0 sT1 sT2 sT3 sT4
        by_cases hlt : k < m.wc.length
        · have hlt' : (k : Int) < (m.wc.length : Int) := by omega
          obtain ⟨a0, e0, ea, g0, u0, u1, u2, u3⟩ := SWc.at (R.out.wc.below S7.out.b) hlt
          cases ea
          have G0 := Lib.hid g0
          have OK := Lib.hid (V.out.wc e0 (List.mem_of_getElem? g0))
          clear g0
          have hlc : ((m.wc.map (doomW a bb)).take k).length ≤ k := by rw [List.length_take]; omega
          have HLC := Lib.hid hlc
          clear hlc
          obtain ⟨f0, f1, f2, dm⟩ := e0
          simp only at u0 u1 u2 u3
          go_upto_region 40 with fail
          have LB : Hid (some wr.heap.size ≠ (Value.slice Aw nw cw).ownBlock) := Lib.hid (fun e => by have := (HO.out.lt _ e.symm).2; omega)
          refine st_gen5 (S7.out.push _ _) (HO.out.alloc _) (HOO.out.alloc _) (allocB HB.out _) (fun w7 S8' HO8' HOO8' HB8' => ?_)
          have S8 := Lib.hid S8'
          have HO8 := Lib.hid HO8'
          have HOO8 := Lib.hid HOO8'
          have HB8 := Lib.hid HB8'
          have hz8 : w5.heap.size ≤ w7.heap.size := HB8'.size
          clear S8' HO8' HOO8' HB8' u0 u1 u2 u3 S7 HO HOO HB
          clear p0_0 p0_1 p0_2 p0_3 pF0_0 pF0_1 pF0_2 pF0_3 p1_0 p1_1 p1_2 p1_3 pF1_0 pF1_1 pF1_2 pF1_3 p2_0 p2_1 p2_2 p2_3 p3_0 p3_1 p3_2 p3_3
          have sT0 := S8.out
          obtain ⟨p0_0, p0_1, p0_2, p0_3⟩ := sT0.c4
          have pF0_0 := sT0.f 0
          have pF0_1 := sT0.f 1
          have pF0_2 := sT0.f 2
          have pF0_3 := sT0.f 3
          have sT1 := sT0.tail
          obtain ⟨p1_0, p1_1, p1_2, p1_3⟩ := sT1.c4
          have pF1_0 := sT1.f 0
          have pF1_1 := sT1.f 1
          have pF1_2 := sT1.f 2
          have pF1_3 := sT1.f 3
          have sT2 := sT1.tail
          obtain ⟨p2_0, p2_1, p2_2, p2_3⟩ := sT2.c4
          have pF2_0 := sT2.f 0
          have pF2_1 := sT2.f 1
          have pF2_2 := sT2.f 2
          have pF2_3 := sT2.f 3
          have sT3 := sT2.tail
          obtain ⟨p3_0, p3_1, p3_2, p3_3⟩ := sT3.c4
          have sT4 := sT3.tail
          obtain ⟨p4_0, p4_1, p4_2, p4_3⟩ := sT4.c4
          have sT5 := sT4.tail
          clear sT0 sT1 sT2 sT3 sT4 sT5
          have hpg : 0 ≤ f1 ∧ f1 ≤ 1000000 := by have := OK.out.2.1; simp only at this; omega
          obtain ⟨cvl, hcvl⟩ : ∃ c, cov (f0 - 1) = c := ⟨_, rfl⟩
          have hsz : 0 ≤ cvl ∧ cvl ≤ 1000000 := by rw [← hcvl]; unfold cov; split <;> (try split) <;> omega
          have hlw : IntKind.i64.wrap (f0 - 1) = f0 - 1 := by rw [IntKind.wrap_i64]; rcases OK.out.1 with h | h <;> simp only at h <;> omega
          have HPG := Lib.hid hpg
          have HSZ := Lib.hid hsz
          have HCV := Lib.hid hcvl
          clear hpg hsz hcvl
          rcases Bool.eq_false_or_eq_true (wcMeet a bb ⟨f0, f1, f2, dm⟩) with hc | hc
          · have HC := Lib.hid hc
            clear hc
            go_upto_region 40 with fail
            clear p0_0 p0_1 p0_2 p0_3 pF0_0 pF0_1 pF0_2 pF0_3 p1_0 p1_1 p1_2 p1_3 pF1_0 pF1_1 pF1_2 pF1_3 p2_0 p2_1 p2_2 p2_3 pF2_0 pF2_1 pF2_2 pF2_3 p3_0 p3_1 p3_2 p3_3 p4_0 p4_1 p4_2 p4_3
            have sT0 := S8.out
            obtain ⟨p0_0, p0_1, p0_2, p0_3⟩ := sT0.c4
            have sT1 := sT0.tail
            have pB0_0 := BW.cell p0_0
            have pB0_1 := BW.cell p0_1
            have pB0_2 := BW.cell p0_2
            have pB0_3 := BW.cell p0_3
            clear p0_0 p0_1 p0_2 p0_3
            have sT2 := sT1.tail
            have sT3 := sT2.tail
            obtain ⟨p3_0, p3_1, p3_2, p3_3⟩ := sT3.c4
            have sT4 := sT3.tail
            have pB3_0 := BW.cell p3_0
            have pB3_1 := BW.cell p3_1
            have pB3_2 := BW.cell p3_2
            have pB3_3 := BW.cell p3_3
            clear p3_0 p3_1 p3_2 p3_3
            have sT5 := sT4.tail
            clear sT0 sT1 sT2 sT3 sT4 sT5
            (refine wp_region_below (by kernel_rfl) (by kernel_rfl) ?_; (repeat (first | (go_big_quiet_step (first | (go_at_call 21; refine BW.same (meet_b a bb f1 cvl true _ HAA.out HBB.out HPG.out HSZ.out (by have h := HC.out; unfold wcMeet at h; simp only [HCV.out] at h; exact h))) | (go_at_call 22; refine BW.same (coversP_b _ cvl HCV.out _)))) | ((with_reducible refine wpQuiet_step ?_); intro K hK; go_simp; first | ((with_reducible refine hK _ ?_); clear hK K) | (apply Exists.intro; refine ⟨fun _ => ?_, hK _ ?_⟩; (first | (go_at_call 21; refine BW.same (meet_b a bb f1 cvl true _ HAA.out HBB.out HPG.out HSZ.out (by have h := HC.out; unfold wcMeet at h; simp only [HCV.out] at h; exact h))) | (go_at_call 22; refine BW.same (coversP_b _ cvl HCV.out _))); clear hK K)))); (with_reducible refine wpQuiet_nil ?_); intro wq hw'; obtain ⟨⟨wy, hbq⟩, hw''⟩ := hw'; subst hw'')
            have S8a := Lib.hid (S8.out.below hbq)
            have HO8a := Lib.hid (HO8.out.below hbq)
            have HOO8a := Lib.hid (HOO8.out.below hbq)
            have HB8a := Lib.hid (thenB HB8.out hbq)
            have hz8a : w5.heap.size ≤ wq.heap.size := HB8a.out.size
            clear S8 HO8 HOO8 HB8 hz8 hbq
            rename_i wq8
            clear pB0_0 pB0_1 pB0_2 pB0_3 pB3_0 pB3_1 pB3_2 pB3_3
            have sT0 := S8a.out
            obtain ⟨p0_0, p0_1, p0_2, p0_3⟩ := sT0.c4
            have pF0_0 := sT0.f 0
            have pF0_1 := sT0.f 1
            have pF0_2 := sT0.f 2
            have pF0_3 := sT0.f 3
            have sT1 := sT0.tail
            have sT2 := sT1.tail
            have sT3 := sT2.tail
            have sT4 := sT3.tail
            have sT5 := sT4.tail
            clear sT0 sT1 sT2 sT3 sT4 sT5
            go_upto_region 42 with fail
            refine st_gen5 (S8a.out.set (l1 := []) 3 _) (own_setOff HO8a.out (a := ⟨wr.heap.size, 3, none⟩) LB.out _) (own_setOff HOO8a.out (a := ⟨wr.heap.size, 3, none⟩) (off_box HOO8a.out S8a.out.head (by decide)) _) (HB8a.out.setCell (p := ⟨wr.heap.size, 3, none⟩) hz7 _) (fun w9 S9' HO9' HOO9' HB9' => ?_)
            have S9 : Hid (St w _ w9) := Lib.hid S9'
            simp only [List.nil_append, List.setIfInBounds_toArray, List.set_cons_zero, List.set_cons_succ] at S9
            have HO9 := Lib.hid HO9'
            have HOO9 := Lib.hid HOO9'
            have HB9 := Lib.hid HB9'
            have hz9 : w5.heap.size ≤ w9.heap.size := HB9'.size
            clear S9' HO9' HOO9' HB9'
            clear p0_0 p0_1 p0_2 p0_3 pF0_0 pF0_1 pF0_2 pF0_3
            have sT0 := S9.out
            obtain ⟨p0_0, p0_1, p0_2, p0_3⟩ := sT0.c4
            have sT1 := sT0.tail
            have sT2 := sT1.tail
            have sT3 := sT2.tail
            have sT4 := sT3.tail
            have sT5 := sT4.tail
            clear sT0 sT1 sT2 sT3 sT4 sT5
            have HE : Hid (((m.wc.map (doomW a bb)).take (k + 1)) = ((m.wc.map (doomW a bb)).take k) ++ [⟨f0, f1, f2, true⟩]) := Lib.hid (by rw [map_snoc G0.out]; unfold doomW; rw [if_pos HC.out])
            go_wp2_with (at_builtin; refine append1 42 4 32 28 (.agg #[.int .i64 0, .int .i64 0, .int .i64 0, .bool false]) Try.underlying28 infoWcS rfl (by decide) SWc.len SWc.one rfl (.tmp 161) (.tmp 163) rfl w5.heap.size (.slice Aw nw cw) ((m.wc.map (doomW a bb)).take k) ⟨f0, f1, f2, true⟩ _ rfl rfl rfl HO9.out (by have := HLC.out; omega) (by decide) hz9 ?_)
            intro v1 wz ho1 hg1
            have hb1 : Below w5.heap.size w5 wz := Own.grown HO9.out HB9.out hz9 hg1
            have HO1 := Lib.hid (HOO9.out.kept hg1 (own_apart (by decide) HOO9.out HO9.out))
            rw [← HE.out] at ho1
            obtain ⟨Aq, cq, hv1⟩ := ho1.shape
            subst hv1
            clear hg1
            go_wp2
            go_roundw
            case rel => exact ⟨k + 1, _, _, _, by omega, rfl, rfl, by go_num, ho1, HO1.out, hb1⟩
            case measure => simp [intOf]; omega
          · have HC := Lib.hid hc
            clear hc
            go_upto_region 40 with fail
            clear p0_0 p0_1 p0_2 p0_3 pF0_0 pF0_1 pF0_2 pF0_3 p1_0 p1_1 p1_2 p1_3 pF1_0 pF1_1 pF1_2 pF1_3 p2_0 p2_1 p2_2 p2_3 pF2_0 pF2_1 pF2_2 pF2_3 p3_0 p3_1 p3_2 p3_3 p4_0 p4_1 p4_2 p4_3
            have sT0 := S8.out
            obtain ⟨p0_0, p0_1, p0_2, p0_3⟩ := sT0.c4
            have sT1 := sT0.tail
            have pB0_0 := BW.cell p0_0
            have pB0_1 := BW.cell p0_1
            have pB0_2 := BW.cell p0_2
            have pB0_3 := BW.cell p0_3
            clear p0_0 p0_1 p0_2 p0_3
            have sT2 := sT1.tail
            have sT3 := sT2.tail
            obtain ⟨p3_0, p3_1, p3_2, p3_3⟩ := sT3.c4
            have sT4 := sT3.tail
            have pB3_0 := BW.cell p3_0
            have pB3_1 := BW.cell p3_1
            have pB3_2 := BW.cell p3_2
            have pB3_3 := BW.cell p3_3
            clear p3_0 p3_1 p3_2 p3_3
            have sT5 := sT4.tail
            clear sT0 sT1 sT2 sT3 sT4 sT5
            (refine wp_region_below (by kernel_rfl) (by kernel_rfl) ?_; (repeat (first | (go_big_quiet_step (first | (go_at_call 21; refine BW.same (meet_b a bb f1 cvl false _ HAA.out HBB.out HPG.out HSZ.out (by have h := HC.out; unfold wcMeet at h; simp only [HCV.out] at h; exact h))) | (go_at_call 22; refine BW.same (coversP_b _ cvl HCV.out _)))) | ((with_reducible refine wpQuiet_step ?_); intro K hK; go_simp; first | ((with_reducible refine hK _ ?_); clear hK K) | (apply Exists.intro; refine ⟨fun _ => ?_, hK _ ?_⟩; (first | (go_at_call 21; refine BW.same (meet_b a bb f1 cvl false _ HAA.out HBB.out HPG.out HSZ.out (by have h := HC.out; unfold wcMeet at h; simp only [HCV.out] at h; exact h))) | (go_at_call 22; refine BW.same (coversP_b _ cvl HCV.out _))); clear hK K)))); (with_reducible refine wpQuiet_nil ?_); intro wq hw'; obtain ⟨⟨wy, hbq⟩, hw''⟩ := hw'; subst hw'')
            have S8a := Lib.hid (S8.out.below hbq)
            have HO8a := Lib.hid (HO8.out.below hbq)
            have HOO8a := Lib.hid (HOO8.out.below hbq)
            have HB8a := Lib.hid (thenB HB8.out hbq)
            have hz8a : w5.heap.size ≤ wq.heap.size := HB8a.out.size
            clear S8 HO8 HOO8 HB8 hz8 hbq
            rename_i wq8
            clear pB0_0 pB0_1 pB0_2 pB0_3 pB3_0 pB3_1 pB3_2 pB3_3
            have sT0 := S8a.out
            obtain ⟨p0_0, p0_1, p0_2, p0_3⟩ := sT0.c4
            have sT1 := sT0.tail
            have sT2 := sT1.tail
            have sT3 := sT2.tail
            have sT4 := sT3.tail
            have sT5 := sT4.tail
            clear sT0 sT1 sT2 sT3 sT4 sT5
            have HE : Hid (((m.wc.map (doomW a bb)).take (k + 1)) = ((m.wc.map (doomW a bb)).take k) ++ [⟨f0, f1, f2, dm⟩]) := Lib.hid (by rw [map_snoc G0.out]; unfold doomW; rw [if_neg (by rw [HC.out]; simp)])
            go_wp2_with (at_builtin; refine append1 42 4 32 28 (.agg #[.int .i64 0, .int .i64 0, .int .i64 0, .bool false]) Try.underlying28 infoWcS rfl (by decide) SWc.len SWc.one rfl (.tmp 161) (.tmp 163) rfl w5.heap.size (.slice Aw nw cw) ((m.wc.map (doomW a bb)).take k) ⟨f0, f1, f2, dm⟩ _ rfl rfl rfl HO8a.out (by have := HLC.out; omega) (by decide) hz8a ?_)
            intro v1 wz ho1 hg1
            have hb1 : Below w5.heap.size w5 wz := Own.grown HO8a.out HB8a.out hz8a hg1
            have HO1 := Lib.hid (HOO8a.out.kept hg1 (own_apart (by decide) HOO8a.out HO8a.out))
            rw [← HE.out] at ho1
            obtain ⟨Aq, cq, hv1⟩ := ho1.shape
            subst hv1
            clear hg1
            go_wp2
            go_roundw
            case rel => exact ⟨k + 1, _, _, _, by omega, rfl, rfl, by go_num, ho1, HO1.out, hb1⟩
            case measure => simp [intOf]; omega
        · have hlt' : ¬ (k : Int) < (m.wc.length : Int) := by omega
          obtain rfl : k = m.wc.length := by omega
          rw [List.take_of_length_le (by simp)] at HNV HO
          generalize wr = w9 at *
          have O9 := Lib.hid (O5.out.below HB.out)
          have hz5 : w.heap.size ≤ w5.heap.size := S5.out.b.size
          have M9 : Hid (OwnM w.heap.size w9 (.slice B0 m.ws.length d0) (.slice B1 m.pend.length d1) (.slice Av nv cv) (.slice Aw nw cw) (tlbiS m a bb)) := Lib.hid ⟨O9.out.ws, O9.out.pend, HOO.out.lower hz5, HO.out.lower hz5⟩
          go_upto_region 45 with fail
          refine st_genO ((S7.out.set (l1 := []) 2 _).set (l1 := []) 3 _) ((M9.out.set1 S7.out.head (by decide) 2 _).set1 (S7.out.set (l1 := []) 2 _).head (by decide) 3 _) (fun wf SF' MF' => ?_)
          have SF : Hid (St w _ wf) := Lib.hid SF'
          have MF := Lib.hid MF'
          simp only [List.nil_append, List.setIfInBounds_toArray, List.set_cons_zero, List.set_cons_succ] at SF
          clear SF' MF' M9 O9
          clear p0_0 p0_1 p0_2 p0_3 pF0_0 pF0_1 pF0_2 pF0_3 p1_0 p1_1 p1_2 p1_3 pF1_0 pF1_1 pF1_2 pF1_3 p2_0 p2_1 p2_2 p2_3 p3_0 p3_1 p3_2 p3_3
          have sT0 := SF.out
          obtain ⟨p0_0, p0_1, p0_2, p0_3⟩ := sT0.c4
          have pF0_0 := sT0.f 0
          have pF0_1 := sT0.f 1
          have pF0_2 := sT0.f 2
          have pF0_3 := sT0.f 3
          have sT1 := sT0.tail
          obtain ⟨p1_0, p1_1, p1_2, p1_3⟩ := sT1.c4
          have pF1_0 := sT1.f 0
          have pF1_1 := sT1.f 1
          have pF1_2 := sT1.f 2
          have pF1_3 := sT1.f 3
          have sT2 := sT1.tail
          obtain ⟨p2_0, p2_1, p2_2, p2_3⟩ := sT2.c4
          have sT3 := sT2.tail
          obtain ⟨p3_0, p3_1, p3_2, p3_3⟩ := sT3.c4
          have sT4 := sT3.tail
          clear sT0 sT1 sT2 sT3 sT4
          go_wp2
          rw [HR.out]
          refine bodyPost_ret (v := .tuple #[.agg #[.slice B0 m.ws.length d0, .slice B1 m.pend.length d1, .slice Av nv cv, .slice Aw nw cw], .int .i64 0]) (by simp [results, Try.results5, go_sem, *]) rfl ⟨_, _, _, _, ?_, MF.out.set4 SF.out.tail.head (by decide) _ _ _ _, (SF.out.s1 _ _ _ _).b⟩
          rfl
end Go.Proofs.Ythphfcheencbgaa.Mmu
