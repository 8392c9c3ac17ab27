/- Walk of the program's operations: what a DSB does. -/
import Derived.Test.YthphfcheencbgaaImplStep3
namespace Go.Proofs.Ythphfcheencbgaa.Mmu
open Go.RowKit Go.Proofs.Ythphfcheencbgaa.Base Go.Proofs.Ythphfcheencbgaa.Kinds Go.Proofs.Ythphfcheencbgaa.DecMath Go.Proofs.Ythphfcheencbgaa.L1
set_option linter.unusedVariables false
set_option linter.unusedSimpArgs false
/-- A field of the struct is written. -/
theorem ownX_put {base p : Nat} {w : World} {cs : Array Value} {v0 v1 v2 v3 v4 : Value} {m : SM} {ls : List Int} (i : Nat) (u : Value) (low : base ≤ p) (hz : w.heap[p]? = some (.cells cs 97)) (hc : cs.setIfInBounds i u = #[v0, v1, v2, v3, v4])
    (o0 : Own wEnc 1 31 base w v0 m.ws) (o1 : Own wEnc 1 31 base w v1 ls) (ap : v0.ownBlock = none ∨ v0.ownBlock ≠ v1.ownBlock) (o2 : Own SWrite.enc 2 60 base w v2 m.pend) (o3 : Own wholeEnc 5 101 base w v3 m.tlb) (o4 : Own stepEnc 5 103 base w v4 m.wc) :
    OwnX base (w.setCell ⟨p, i, none⟩ u) p v0 v1 v2 v3 v4 m ls :=
  ⟨low, by rw [box_set hz, hc], own_setOff o0 (a := ⟨p, i, none⟩) (off_box o0 hz (by decide)) u, own_setOff o1 (a := ⟨p, i, none⟩) (off_box o1 hz (by decide)) u, ap, own_setOff o2 (a := ⟨p, i, none⟩) (off_box o2 hz (by decide)) u, own_setOff o3 (a := ⟨p, i, none⟩) (off_box o3 hz (by decide)) u, own_setOff o4 (a := ⟨p, i, none⟩) (off_box o4 hz (by decide)) u⟩
theorem genO2 {w0 w : World} {l : List (Nat × Array Value × Nat)} {α β : Type} {e1 : α → List Value} {e2 : β → List Value} {s1 s2 E1 E2 b1 b2 : Nat} {u1 u2 : Value} {L1 : List α} {L2 : List β} (S : St w0 l w) (o1 : Own e1 s1 E1 b1 w u1 L1) (o2 : Own e2 s2 E2 b2 w u2 L2) {wb : World} {B : Nat} (hb : Below B wb w)
    {G : World → Prop} (k : ∀ w', St w0 l w' → Own e1 s1 E1 b1 w' u1 L1 → Own e2 s2 E2 b2 w' u2 L2 → Below B wb w' → G w') : G w := k w S o1 o2 hb
theorem genXO2 {w : World} {base p : Nat} {v0 v1 v2 v3 v4 : Value} {m : SM} {ls : List Int} {α β : Type} {e1 : α → List Value} {e2 : β → List Value} {s1 s2 E1 E2 b1 b2 : Nat} {u1 u2 : Value} {L1 : List α} {L2 : List β} (X : OwnX base w p v0 v1 v2 v3 v4 m ls) (o1 : Own e1 s1 E1 b1 w u1 L1) (o2 : Own e2 s2 E2 b2 w u2 L2) {wb : World} {B : Nat} (hb : Below B wb w)
    {G : World → Prop} (k : ∀ w', OwnX base w' p v0 v1 v2 v3 v4 m ls → Own e1 s1 E1 b1 w' u1 L1 → Own e2 s2 E2 b2 w' u2 L2 → Below B wb w' → G w') : G w := k w X o1 o2 hb
theorem filterI_snoc {α : Type} {p : α → Bool} {l : List α} {k : Nat} {x : α} (h : l[k]? = some x) : (l.take (k + 1)).filter p = (l.take k).filter p ++ (if p x = true then [x] else []) := by
  rw [List.take_add_one, h, List.filter_append]
  simp [List.filter_cons]
set_option maxRecDepth 100000 in
set_option maxHeartbeats 16000000 in
theorem dsbDo_any (base p : Nat) (v0 v1 v2 v3 v4 o : Value) (m : SM) (ls : List Int) (w : World) (X : OwnX base w p v0 v1 v2 v3 v4 m ls) (ho : ∃ c0 c1 c2 c3, o = .agg #[c0, c1, c2, c3]) (hls : ls.length ≤ 1048576) (hnt : m.tlb.length ≤ 256) (hnw : m.wc.length ≤ 256) :
    Calls Try.prog 90 #[o, .pointer (some ⟨p, 0, none⟩)] w (DoPost base p w ⟨ls, [], m.tlb.filter (fun e => !e.Doomed), m.wc.filter (fun e => !e.Doomed)⟩ ls (.tuple #[])) := by
  obtain ⟨oc0, oc1, oc2, oc3, rfl⟩ := ho
  obtain ⟨A1, c1, e1⟩ := X.ls.shape
  obtain ⟨A3, c3, e3⟩ := X.tlb.shape
  obtain ⟨A4, c4, e4⟩ := X.wc.shape
  subst e1 e3 e4
  have HX := Lib.hid X
  have hp1 : base ≤ p := X.low
  have hp2 : p < w.heap.size := X.lt
  clear X
  go_enter Try.func90, Try.ntmps90
  go_upto_region 1 with fail
  refine ((St.start w).push _ _).gen (fun w1 S1' _ => ?_)
  have HB1 := Lib.hid S1'.b
  have X1 := Lib.hid (HX.out.below S1'.b)
  clear S1'
  have k1 := X1.out.cell.2.1
  go_wp2_with fail
  refine (copyMem_any _ ls _ (X1.out.ls.rd wLen) hls).mono ?_
  rintro e w2 ⟨v, rfl, o2, hb2⟩
  obtain ⟨Av, cv, hvv⟩ := o2.shape
  subst hvv
  have X2 := Lib.hid (X1.out.below hb2)
  have HB2 := Lib.hid (thenB HB1.out hb2)
  have hz1 : w.heap.size ≤ w1.heap.size := HB1.out.size
  have AP : Hid ((Value.slice Av ls.length cv).ownBlock = none ∨ (Value.slice Av ls.length cv).ownBlock ≠ (Value.slice A1 ls.length c1).ownBlock) := Lib.hid (by
    rcases Av with _ | b
    · exact Or.inl rfl
    · refine Or.inr fun e => ?_
      have h1 := (o2.lt b.block rfl).1
      have h2 := (X1.out.ls.lt b.block (by rw [← e]; rfl)).2
      omega)
  have O2 := Lib.hid (o2.lower (base' := base) (by omega))
  clear o2 hb2 k1 X1
  have k0 := X2.out.cell.1
  have kf0 := X2.out.frozen 0
  go_upto_region 2 with fail
  refine genX (ownX_put (base := base) (p := p) 0 (.slice Av ls.length cv) hp1 X2.out.box (v0 := .slice Av ls.length cv) (m := { m with ws := ls }) (by rfl) O2.out X2.out.ls AP.out X2.out.pend X2.out.tlb X2.out.wc) (HB2.out.mono (by omega) |>.setCell (p := ⟨p, 0, none⟩) hp1 _) ((KeepX.of_below HB2.out).trans (KeepX.set X2.out.box (by decide) 0 _)) (fun w3 X3' HB3' HK3' => ?_)
  have X3 := Lib.hid X3'
  have HB3 := Lib.hid HB3'
  have HK3 := Lib.hid HK3'
  clear X3' HB3' HK3' k0 kf0 X2 HB2 O2 AP HB1
  have k2 := X3.out.cell.2.2.1
  have kf2 := X3.out.frozen 2
  go_upto_region 3 with fail
  refine genX (ownX_put (base := base) (p := p) 2 (.slice none 0 0) hp1 X3.out.box (v2 := .slice none 0 0) (m := ⟨ls, [], m.tlb, m.wc⟩) (by rfl) X3.out.ws X3.out.ls X3.out.apart (Own.nil _ _ _ _ _) X3.out.tlb X3.out.wc) (HB3.out.setCell (p := ⟨p, 2, none⟩) hp1 _) (HK3.out.trans (KeepX.set X3.out.box (by decide) 2 _)) (fun w5 X5' HB5' HK5' => ?_)
  have X5 := Lib.hid X5'
  have HB5 := Lib.hid HB5'
  have HK5 := Lib.hid HK5'
  clear X5' HB5' HK5' k2 kf2 X3 HB3 HK3
  go_upto_region 4 with fail
  refine genXO2 (X5.out.below (allocB (allocB (Below.refl _ _) (.cells #[] 101)) (.cells #[] 103))) ((Own.made wholeEnc 5 101 (base := w5.heap.size) w5 (Nat.le_refl _)).alloc _) (Own.made stepEnc 5 103 (base := w5.heap.size) (w5.alloc (.cells #[] 101)) (by simp)) (allocB (allocB (Below.refl w5.heap.size w5) _) _) (fun w6 X6' OT' OW' HB6' => ?_)
  rw [show (w5.alloc (.cells #[] 101)).heap.size = w5.heap.size + 1 by simp] at OW'
  have X6 := Lib.hid X6'
  have OT := Lib.hid OT'
  have OW := Lib.hid OW'
  have HB6 := Lib.hid HB6'
  clear X6' OT' OW' HB6'
  have k3 := X6.out.cell.2.2.2.1
  go_wp2
  clear k3
  go_loopw [4, 28] (fun v i wr => ∃ (k : Nat) (A : Option Addr) (c n : Nat), k ≤ m.tlb.length ∧ v = .slice A n c ∧ n = ((m.tlb.take k).filter (fun e => !e.Doomed)).length ∧ i = .int .i64 k ∧ Own wholeEnc 5 101 w5.heap.size wr v ((m.tlb.take k).filter (fun e => !e.Doomed)) ∧ Own stepEnc 5 103 w5.heap.size wr (.slice (some ⟨w5.heap.size + 1, 0, none⟩) 0 0) [] ∧ Below w5.heap.size w5 wr) (fun _ i _ => m.tlb.length - (intOf i).toNat)
  case atStart => exact ⟨0, _, _, _, Nat.zero_le _, rfl, rfl, rfl, OT.out, OW.out, HB6.out⟩
  case round =>
    obtain ⟨k, Av1, cv1, nv1, hk, rfl, hnv, rfl, ho, hoo, hb⟩ := hrel
    have HO := Lib.hid ho
    have HOO := Lib.hid hoo
    have HB := Lib.hid hb
    have HNV := Lib.hid hnv
    have X7 := Lib.hid (X5.out.below hb)
    have hz7 : w5.heap.size ≤ wr.heap.size := hb.size
    clear ho hoo hb hnv
    by_cases hlt : k < m.tlb.length
    · have hlt' : (k : Int) < (m.tlb.length : Int) := by omega
      obtain ⟨a0, e0, ea, g0, u0, u1, u2, u3, u4⟩ := whole_at (X7.out.tlb.rd wholeLen) hlt
      cases ea
      have G0 := Lib.hid g0
      clear g0
      have hlc : ((m.tlb.take k).filter (fun e => !e.Doomed)).length ≤ k := Nat.le_trans (List.length_filter_le _ _) (by rw [List.length_take]; omega)
      have HLC := Lib.hid hlc
      clear hlc
      obtain ⟨f0, f1, f2, f3, dm⟩ := e0
      simp only at u0 u1 u2 u3 u4
      go_upto_region 7 with fail
      refine genO2 (St.start wr |>.push _ _) (HO.out.alloc _) (HOO.out.alloc _) (allocB HB.out _) (fun w7 S8' HO8' HOO8' HB8' => ?_)
      have S8 := Lib.hid S8'
      have HO8 := Lib.hid HO8'
      have HOO8 := Lib.hid HOO8'
      have HB8 := Lib.hid HB8'
      have hz8 : w5.heap.size ≤ w7.heap.size := HB8'.size
      clear S8' HO8' HOO8' HB8' u0 u1 u2 u3 u4 HO HOO HB X7
      have sT0 := S8.out
      obtain ⟨p0_0, p0_1, p0_2, p0_3, p0_4⟩ := sT0.c5
      have sT1 := sT0.tail
      clear sT0 sT1
      rcases dm
      rotate_left
      · have HE : Hid (((m.tlb.take (k + 1)).filter (fun e => !e.Doomed)) = ((m.tlb.take k).filter (fun e => !e.Doomed))) := Lib.hid (by rw [filterI_snoc G0.out]; simp)
        go_wp2
        go_roundw
        case rel => exact ⟨k + 1, Av1, cv1, nv1, by omega, rfl, by rw [HE.out]; exact HNV.out, by go_num, by rw [HE.out]; exact HO8.out, HOO8.out, HB8.out⟩
        case measure => simp [intOf]; omega
      · have HE : Hid (((m.tlb.take (k + 1)).filter (fun e => !e.Doomed)) = ((m.tlb.take k).filter (fun e => !e.Doomed)) ++ [⟨f0, f1, f2, f3, false⟩]) := Lib.hid (by rw [filterI_snoc G0.out]; simp)
        go_wp2_with (at_builtin; refine append1 101 5 40 94 (.agg #[.int .i64 0, .int .i64 0, .bool false, .int .i64 0, .int .i64 0]) Try.underlying94 infoWh rfl (by decide) wholeLen wholeOne rfl (.tmp 36) (.tmp 38) rfl w5.heap.size (.slice Av1 nv1 cv1) ((m.tlb.take k).filter (fun e => !e.Doomed)) ⟨f0, f1, f2, f3, false⟩ _ rfl rfl rfl HO8.out (by have := HLC.out; omega) (by decide) hz8 ?_)
        intro v1 wz ho1 hg1
        have hb1 : Below w5.heap.size w5 wz := Own.grown HO8.out HB8.out hz8 hg1
        have HO1 := Lib.hid (HOO8.out.kept hg1 (own_apart (by decide) HOO8.out HO8.out))
        rw [← HE.out] at ho1
        obtain ⟨Aq, cq, hv1⟩ := ho1.shape
        subst hv1
        clear hg1
        go_wp2
        go_roundw
        case rel => exact ⟨k + 1, _, _, _, by omega, rfl, rfl, by go_num, ho1, HO1.out, hb1⟩
        case measure => simp [intOf]; omega
    · have hlt' : ¬ (k : Int) < (m.tlb.length : Int) := by omega
      obtain rfl : k = m.tlb.length := by omega
      rw [List.take_length] at HNV HO
      generalize wr = w8 at *
      have OTL := HO
      have OWE := HOO
      have HB8 := HB
      have k4 := X7.out.cell.2.2.2.2
      clear HO HOO HB X7
      go_wp2
      clear k4
      go_loopw [5, 46] (fun v i wr => ∃ (k : Nat) (A : Option Addr) (c n : Nat), k ≤ m.wc.length ∧ v = .slice A n c ∧ n = ((m.wc.take k).filter (fun e => !e.Doomed)).length ∧ i = .int .i64 k ∧ Own stepEnc 5 103 w5.heap.size wr v ((m.wc.take k).filter (fun e => !e.Doomed)) ∧ Own wholeEnc 5 101 w5.heap.size wr (.slice Av1 nv1 cv1) (m.tlb.filter (fun e => !e.Doomed)) ∧ Below w5.heap.size w5 wr) (fun _ i _ => m.wc.length - (intOf i).toNat)
      case atStart => exact ⟨0, _, _, _, Nat.zero_le _, rfl, rfl, rfl, OWE.out, OTL.out, HB8.out⟩
      case round =>
        obtain ⟨k, Aw, cw, nw, hk, rfl, hnv, rfl, ho, hoo, hb⟩ := hrel
        have HO := Lib.hid ho
        have HOO := Lib.hid hoo
        have HB := Lib.hid hb
        have HNV := Lib.hid hnv
        have X7 := Lib.hid (X5.out.below hb)
        have hz7 : w5.heap.size ≤ wr.heap.size := hb.size
        clear ho hoo hb hnv
        by_cases hlt : k < m.wc.length
        · have hlt' : (k : Int) < (m.wc.length : Int) := by omega
          obtain ⟨a0, e0, ea, g0, u0, u1, u2, u3, u4⟩ := step_at (X7.out.wc.rd stepLen) hlt
          cases ea
          have G0 := Lib.hid g0
          clear g0
          have hlc : ((m.wc.take k).filter (fun e => !e.Doomed)).length ≤ k := Nat.le_trans (List.length_filter_le _ _) (by rw [List.length_take]; omega)
          have HLC := Lib.hid hlc
          clear hlc
          obtain ⟨f0, f1, f2, dm⟩ := e0
          simp only at u0 u1 u2 u3 u4
          go_upto_region 13 with fail
          refine genO2 (St.start wr |>.push _ _) (HO.out.alloc _) (HOO.out.alloc _) (allocB HB.out _) (fun w7 S8' HO8' HOO8' HB8' => ?_)
          have S8 := Lib.hid S8'
          have HO8 := Lib.hid HO8'
          have HOO8 := Lib.hid HOO8'
          have HB8 := Lib.hid HB8'
          have hz8 : w5.heap.size ≤ w7.heap.size := HB8'.size
          clear S8' HO8' HOO8' HB8' u0 u1 u2 u3 u4 HO HOO HB X7
          have sT0 := S8.out
          obtain ⟨p0_0, p0_1, p0_2, p0_3, p0_4⟩ := sT0.c5
          have sT1 := sT0.tail
          clear sT0 sT1
          rcases dm
          rotate_left
          · have HE : Hid (((m.wc.take (k + 1)).filter (fun e => !e.Doomed)) = ((m.wc.take k).filter (fun e => !e.Doomed))) := Lib.hid (by rw [filterI_snoc G0.out]; simp)
            go_wp2
            go_roundw
            case rel => exact ⟨k + 1, Aw, cw, nw, by omega, rfl, by rw [HE.out]; exact HNV.out, by go_num, by rw [HE.out]; exact HO8.out, HOO8.out, HB8.out⟩
            case measure => simp [intOf]; omega
          · have HE : Hid (((m.wc.take (k + 1)).filter (fun e => !e.Doomed)) = ((m.wc.take k).filter (fun e => !e.Doomed)) ++ [⟨f0, f1, f2, false⟩]) := Lib.hid (by rw [filterI_snoc G0.out]; simp)
            go_wp2_with (at_builtin; refine append1 103 5 40 95 (.agg #[.int .i64 0, .int .i64 0, .bool false, .int .i64 0, .int .i64 0]) Try.underlying95 infoSt rfl (by decide) stepLen stepOne rfl (.tmp 54) (.tmp 56) rfl w5.heap.size (.slice Aw nw cw) ((m.wc.take k).filter (fun e => !e.Doomed)) ⟨f0, f1, f2, false⟩ _ rfl rfl rfl HO8.out (by have := HLC.out; omega) (by decide) hz8 ?_)
            intro v1 wz ho1 hg1
            have hb1 : Below w5.heap.size w5 wz := Own.grown HO8.out HB8.out hz8 hg1
            have HO1 := Lib.hid (HOO8.out.kept hg1 (own_apart (by decide) HOO8.out HO8.out))
            rw [← HE.out] at ho1
            obtain ⟨Aq, cq, hv1⟩ := ho1.shape
            subst hv1
            clear hg1
            go_wp2
            go_roundw
            case rel => exact ⟨k + 1, _, _, _, by omega, rfl, rfl, by go_num, ho1, HO1.out, hb1⟩
            case measure => simp [intOf]; omega
        · have hlt' : ¬ (k : Int) < (m.wc.length : Int) := by omega
          obtain rfl : k = m.wc.length := by omega
          rw [List.take_length] at HNV HO
          generalize wr = w9 at *
          have hz5 : base ≤ w5.heap.size := by have := X5.out.lt; omega
          have OT9 := Lib.hid (HOO.out.lower hz5)
          have OW9 := Lib.hid (HO.out.lower hz5)
          have k3 := X7.out.cell.2.2.2.1
          have kf3 := X7.out.frozen 3
          have k4 := X7.out.cell.2.2.2.2
          have kf4 := X7.out.frozen 4
          go_wp2
          have XA := ownX_put (base := base) (p := p) 3 (.slice Av1 nv1 cv1) hp1 X7.out.box (v3 := .slice Av1 nv1 cv1) (m := ⟨ls, [], m.tlb.filter (fun e => !e.Doomed), m.wc⟩) (by rfl) X7.out.ws X7.out.ls X7.out.apart X7.out.pend OT9.out X7.out.wc
          have XB := ownX_put (base := base) (p := p) 4 (.slice Aw nw cw) hp1 XA.box (v4 := .slice Aw nw cw) (m := ⟨ls, [], m.tlb.filter (fun e => !e.Doomed), m.wc.filter (fun e => !e.Doomed)⟩) (by rfl) XA.ws XA.ls XA.apart XA.pend XA.tlb (own_setOff OW9.out (a := ⟨p, 3, none⟩) (off_box OW9.out X7.out.box (by decide)) _)
          refine bodyPost_end (v := .tuple #[]) (by simp [results, Try.results90, go_sem]) rfl ⟨rfl, _, _, _, _, _, XB, ((HB5.out.trans (HB.out.mono hz5)).setCell (p := ⟨p, 3, none⟩) hp1 _).setCell (p := ⟨p, 4, none⟩) hp1 _, ((HK5.out.trans (KeepX.of_below HB.out)).trans (KeepX.set X7.out.box (by decide) 3 _)).trans (KeepX.set XA.box (by decide) 4 _)⟩
end Go.Proofs.Ythphfcheencbgaa.Mmu
