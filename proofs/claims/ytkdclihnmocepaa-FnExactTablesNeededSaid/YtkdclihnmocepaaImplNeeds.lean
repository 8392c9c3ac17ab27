/- Walk of the program's needsOf. -/
import Derived.Test.YtkdclihnmocepaaImplNeeds0
namespace Go.Proofs.Ytkdclihnmocepaa.Mmu
open Go.RowKit Go.Proofs.Ytkdclihnmocepaa.Base Go.Proofs.Ytkdclihnmocepaa.Kinds
set_option linter.unusedVariables false
set_option linter.unusedSimpArgs false

theorem sizeBool : (Try.prog.info? 4).map (·.size) = some 1 := by kernel_rfl
theorem sizeB16 : (Try.prog.info? 41).map (·.size) = some 16 := by kernel_rfl
theorem sizeB256 : (Try.prog.info? 42).map (·.size) = some 256 := by kernel_rfl
theorem sizeHit : (Try.prog.info? 39).map (·.size) = some 4 := by kernel_rfl
/-- What needsOf makes of a list. -/
noncomputable def needOf (H : List SHit) (c : Int) : Array Value := needCells H (markS fBig 256 H 4096) (markS fSmall 16 H 4096) (markS fBlock 16 H 4096) c
theorem marks_lens {H : List SHit} (h : H.length = 4096) (p q r : Nat) : NeedLens H (markS fBig 256 H p) (markS fSmall 16 H q) (markS fBlock 16 H r) := ⟨h, by rw [markS_len], by rw [markS_len], by rw [markS_len]⟩

set_option maxRecDepth 100000 in
set_option maxHeartbeats 4000000 in
theorem implNeeds_any (v : Value) (l : List SSpan) (w : World) (r : Rd SSpan.enc 5 w v l) (hv : ValidS l) :
    Calls Try.prog 14 #[v] w fun e w' => ∃ b, e = .returned (.pointer (some ⟨b, 0, none⟩)) ∧ w.heap.size ≤ b ∧
      w'.heap[b]? = some (.cells (needOf (hitsS l) (1 + (cntT (markS fBig 256 (hitsS l) 4096) : Int) + (cntT (markS fSmall 16 (hitsS l) 4096) : Int))) 44) ∧ Below w.heap.size w w' := by
  have R := Lib.hid r
  have HV := Lib.hid hv
  clear r hv
  obtain ⟨H, hH⟩ : ∃ H, hitsS l = H := ⟨_, rfl⟩
  have hlen : H.length = 4096 := by rw [← hH]; exact hitsS_len l
  rw [hH]
  have HH := Lib.hid hH
  have HL := Lib.hid hlen
  have HBT := Lib.hid (builtNeed H hlen)
  have HML := Lib.hid (fun p q r => marks_lens hlen p q r)
  have hxs : (hitCells H).size = 16384 := by rw [hitCells_size, hlen]
  have HXS := Lib.hid hxs
  obtain ⟨X, hX⟩ : ∃ X, hitCells H = X := ⟨_, rfl⟩
  rw [hX] at HBT HXS
  have HX := Lib.hid hX
  obtain ⟨N0, hN0⟩ : ∃ N, needCells H (falses 16) (falses 256) (falses 256) 1 = N := ⟨_, rfl⟩
  rw [hN0] at HBT
  have HN0 : Hid (N0 = needCells H (markS fBig 256 H 0) (markS fSmall 16 H 0) (markS fBlock 16 H 0) 1) := Lib.hid (by rw [← hN0, markS_zero, markS_zero, markS_zero]; rfl)
  clear hH hlen hxs hX hN0
  go_enter Try.func14, Try.ntmps14
  go_upto_region 2 with (first
    | (go_at_call 22; refine (implEvery_any v l _ R.out HV.out).mono ?_; rw [HH.out, HX.out]; rintro e we ⟨rfl, hbe⟩; have HBE := Lib.hid hbe; clear hbe)
    | (refine big_build rfl 44 _ rfl #[(0, .agg X), (4, .int .i64 1)] (by simp [Act.eval]) N0 HBT.out ?_; (try simp only [Act.put, List.setIfInBounds_toArray, List.set_cons_zero, List.set_cons_succ]))
    | (refine big_box rfl 44 _ rfl N0 (by simp [Act.eval]) ?_; (try simp only [Act.put, List.setIfInBounds_toArray, List.set_cons_zero, List.set_cons_succ])))
  refine (((St.start w).below HBE.out).push _ _).gen (fun w1 S1 _ => ?_)
  have HR : Hid (w1.rangeAt we.heap.size 0 X.toList) := Lib.hid (by
    have h := S1.head
    rw [HN0.out] at h
    have := need_rangeH (HML.out 0 0 0) h
    rw [← HX.out]; exact this)
  rw [HN0.out] at S1
  obtain ⟨bn, hbn⟩ : ∃ b, we.heap.size = b := ⟨_, rfl⟩
  have hbw : w.heap.size ≤ bn := by rw [← hbn]; exact HBE.out.size
  rw [hbn] at S1 HR ⊢
  have HS1 := Lib.hid S1
  have HBW := Lib.hid hbw
  clear S1 hbn hbw HBE
  go_wp2_with (first
    | (refine wpList_load_mid rfl 40 _ rfl bn 0 (by simp [Act.eval]) X.toList _ HR.out Try.underlying40 rfl (by rw [Array.length_toList, HXS.out]; exact sizeTab) ?_; rw [Array.toArray_toList]; (try simp only [Act.put, List.setIfInBounds_toArray, List.set_cons_zero, List.set_cons_succ])))
  go_loopw [18] (fun i wr => ∃ p : Nat, p ≤ 4096 ∧ i = .int .i64 p ∧ Hid (St w [(bn, needCells H (markS fBig 256 H p) (markS fSmall 16 H p) (markS fBlock 16 H p) 1, 44)] wr)) (fun i _ => 4096 - (intOf i).toNat)
  case atStart => exact ⟨0, Nat.zero_le _, rfl, HS1⟩
  case round =>
    obtain ⟨p, hp, rfl, HS⟩ := hrel
    by_cases hlt : p < 4096
    · have hlt' : (p : Int) < 4096 := by omega
      obtain ⟨h, hh⟩ : ∃ h, H[p]? = some h := ⟨_, List.getElem?_eq_getElem (by rw [HL.out]; exact hlt)⟩
      have HP := Lib.hid hh
      clear hh
      go_upto_region 5 with (first
        | (refine big_index rfl 40 _ _ rfl X (by simp [Act.eval]) p 4096 39 4 (by simp [Act.eval]) Try.underlying40 hlt sizeHit _ Try.underlying39 #[.int .i64 h.Kind, .int .i64 h.Out, .int .i64 h.Perm, .int .i64 h.Size] (by rw [← HX.out]; exact hit_extract HP.out) ?_; (try simp only [Act.put, List.setIfInBounds_toArray, List.set_cons_zero, List.set_cons_succ])))
      refine (HS.out.push _ _).gen (fun w2 S2 _ => ?_)
      have HS2 := Lib.hid S2
      clear S2
      have sT0 := HS2.out
      obtain ⟨z0_0, z0_1, z0_2, z0_3⟩ := sT0.c4
      have sT1 := sT0.tail
      have sT2 := sT1.tail
      clear sT0 sT1 sT2
      have e0 : IntKind.i64.wrap ((p : Int).tdiv 256) = ((p / 256 : Nat) : Int) := by rw [IntKind.wrap_i64, Int.tdiv_eq_ediv_of_nonneg (by omega)]; omega
      have e1 : IntKind.i64.wrap ((p : Int).tdiv 16) = ((p / 16 : Nat) : Int) := by rw [IntKind.wrap_i64, Int.tdiv_eq_ediv_of_nonneg (by omega)]; omega
      have d0 : p / 256 < 16 := by omega
      have d1 : p / 16 < 256 := by omega
      have d0' : ((p / 256 : Nat) : Int) < 16 := by omega
      have d1' : ((p / 16 : Nat) : Int) < 256 := by omega
      obtain ⟨kb, hkb⟩ : ∃ b, (h.Kind != 1) = b := ⟨_, rfl⟩
      have HKB := Lib.hid hkb
      cases kb
      · have hk1 : h.Kind = 1 := by simpa using hkb
        have HK1 := Lib.hid hk1
        obtain ⟨x0, hx0, c0⟩ := bool_at (need_rangeB (HML.out p p p) HS2.out.tail.head) (p / 256) (by rw [markS_len]; omega)
        have f0 := HS2.out.tail.f (16384 + p / 256)
        clear hx0 hk1
        go_upto_region 7 with fail
        have S3 := St.set (l1 := [_]) HS2.out (16384 + p / 256) (.bool true)
        rw [need_setB (HML.out p p p) (p / 256) d0 true, markS_yes HP.out (by simp [fBig, HK1.out])] at S3
        simp only [List.cons_append, List.nil_append] at S3
        refine S3.gen (fun w3 S3' _ => ?_)
        have HS3 := Lib.hid S3'
        clear S3 S3' c0 f0 HS2
        clear z0_0 z0_1 z0_2 z0_3
        have sT0 := HS3.out
        obtain ⟨z0_0, z0_1, z0_2, z0_3⟩ := sT0.c4
        have sT1 := sT0.tail
        have sT2 := sT1.tail
        clear sT0 sT1 sT2
        obtain ⟨sb, hsb⟩ : ∃ b, (h.Size == 1) = b := ⟨_, rfl⟩
        have HSB := Lib.hid hsb
        cases sb
        · have hs1 : ¬ h.Size = 1 := by simpa using hsb
          have HS1' := Lib.hid hs1
          obtain ⟨x1, hx1, c1⟩ := bool_at (need_rangeK (HML.out (p + 1) p p) HS3.out.tail.head) (p / 16) (by rw [markS_len]; omega)
          have f1 := HS3.out.tail.f (16656 + p / 16)
          clear hx1 hs1
          go_wp2
          go_roundw
          case rel =>
            have hs := St.set (l1 := [_]) HS3.out (16656 + p / 16) (.bool true)
            rw [need_setK (HML.out (p + 1) p p) (p / 16) d1 true, markS_yes HP.out (by simp [fBlock, HK1.out, HS1'.out]), ← markS_no HP.out (by simp [fSmall, HK1.out, HS1'.out])] at hs
            exact ⟨p + 1, by omega, by go_num, Lib.hid hs.tail⟩
          case measure => simp [intOf]; omega
        · have hs1 : h.Size = 1 := by simpa using hsb
          have HS1' := Lib.hid hs1
          obtain ⟨x1, hx1, c1⟩ := bool_at (need_rangeS (HML.out (p + 1) p p) HS3.out.tail.head) (p / 16) (by rw [markS_len]; omega)
          have f1 := HS3.out.tail.f (16400 + p / 16)
          clear hx1 hs1
          go_wp2
          go_roundw
          case rel =>
            have hs := St.set (l1 := [_]) HS3.out (16400 + p / 16) (.bool true)
            rw [need_setS (HML.out (p + 1) p p) (p / 16) d1 true, markS_yes HP.out (by simp [fSmall, HK1.out, HS1'.out]), ← markS_no HP.out (by simp [fBlock, HK1.out, HS1'.out])] at hs
            exact ⟨p + 1, by omega, by go_num, Lib.hid hs.tail⟩
          case measure => simp [intOf]; omega
      · have hk1 : ¬ h.Kind = 1 := by simpa using hkb
        have HK1 := Lib.hid hk1
        clear hk1
        go_wp2
        go_roundw
        case rel =>
          have hs := HS2.out.tail
          rw [← markS_no HP.out (by simp [fBig, HK1.out]), ← markS_no HP.out (by simp [fSmall, HK1.out]), ← markS_no HP.out (by simp [fBlock, HK1.out])] at hs
          exact ⟨p + 1, by omega, by go_num, Lib.hid hs⟩
        case measure => simp [intOf]; omega
    · obtain rfl : p = 4096 := by omega
      have NL := Lib.hid (HML.out 4096 4096 4096)
      obtain ⟨B, hB⟩ : ∃ B, markS fBig 256 H 4096 = B := ⟨_, rfl⟩
      obtain ⟨S, hS⟩ : ∃ B, markS fSmall 16 H 4096 = B := ⟨_, rfl⟩
      obtain ⟨K, hK⟩ : ∃ B, markS fBlock 16 H 4096 = B := ⟨_, rfl⟩
      have HFIN : Hid (∀ (w' : World) (b : Nat), w'.heap[b]? = some (.cells (needCells H B S K (1 + (cntT B : Int) + (cntT S : Int))) 44) → w'.heap[b]? = some (.cells (needOf H (1 + (cntT (markS fBig 256 H 4096) : Int) + (cntT (markS fSmall 16 H 4096) : Int))) 44)) := Lib.hid (fun w' b h => by unfold needOf; rw [hB, hS, hK]; exact h)
      rw [hB, hS, hK] at NL HS
      clear hB hS hK
      go_wp2_with (first
        | (refine wpList_load_mid rfl 41 _ rfl bn 16384 (by simp [Act.eval]) (B.map Value.bool) _ (need_rangeB NL.out HS.out.head) Try.underlying41 rfl (by rw [List.length_map, NL.out.b]; exact sizeB16) ?_; (try simp only [Act.put, List.setIfInBounds_toArray, List.set_cons_zero, List.set_cons_succ])))
      go_loopw [51] (fun i wr => ∃ p : Nat, p ≤ 16 ∧ i = .int .i64 p ∧ Hid (St w [(bn, needCells H B S K (1 + (cntT (B.take p) : Int)), 44)] wr)) (fun i _ => 16 - (intOf i).toNat)
      case atStart => exact ⟨0, Nat.zero_le _, rfl, by simpa [cntT] using HS⟩
      case round =>
        obtain ⟨p, hp, rfl, HS4⟩ := hrel
        by_cases hlt : p < 16
        · have hlt' : (p : Int) < 16 := by omega
          obtain ⟨x, hx⟩ : ∃ x, B[p]? = some x := ⟨_, List.getElem?_eq_getElem (by rw [NL.out.b]; exact hlt)⟩
          have HX1 := Lib.hid hx
          clear hx
          go_upto_region 14 with (first
            | (refine big_index1 rfl 41 _ _ rfl (B.map Value.bool).toArray (by simp [Act.eval]) p 16 4 (by simp [Act.eval]) Try.underlying41 hlt sizeBool _ Try.underlying4 rfl (.bool x) (by simp [HX1.out]) ?_; (try simp only [Act.put, List.setIfInBounds_toArray, List.set_cons_zero, List.set_cons_succ])))
          cases x
          · go_wp2
            go_roundw
            case rel =>
              have e := cntT_step HX1.out
              exact ⟨p + 1, by omega, by go_num, by rw [e]; simpa using HS4⟩
            case measure => simp [intOf]; omega
          · obtain ⟨c, hc⟩ : ∃ c, 1 + (cntT (B.take p) : Int) = c := ⟨_, rfl⟩
            have hcb : 0 ≤ c ∧ c ≤ 1000 := by
              have h1 := cntT_le (B.take p)
              have h2 := cntT_le B
              have h3 := NL.out.b
              have h4 := NL.out.s
              have h5 := take_len (l := B) (k := p) (by rw [NL.out.b]; omega)
              omega
            have ew : IntKind.i64.wrap (c + 1) = c + 1 := by rw [IntKind.wrap_i64]; omega
            have HC := Lib.hid hc
            rw [hc] at HS4
            have c2 := need_cellC NL.out HS4.out.head
            have f2 := HS4.out.f 16912
            clear hc
            go_wp2
            go_roundw
            case rel =>
              have hs := St.set (l1 := []) HS4.out 16912 (.int .i64 (c + 1))
              rw [need_setC NL.out] at hs
              have e := cntT_step HX1.out
              have e2 : c + 1 = 1 + (cntT (B.take (p + 1)) : Int) := by rw [e, ← HC.out]; simp; omega
              exact ⟨p + 1, by omega, by go_num, Lib.hid (by rw [← e2]; exact hs)⟩
            case measure => simp [intOf]; omega
        · obtain rfl : p = 16 := by omega
          rw [List.take_of_length_le (by rw [NL.out.b]; omega)] at HS4
          go_wp2_with (first
            | (refine wpList_load_mid rfl 42 _ rfl bn 16400 (by simp [Act.eval]) (S.map Value.bool) _ (need_rangeS NL.out HS4.out.head) Try.underlying42 rfl (by rw [List.length_map, NL.out.s]; exact sizeB256) ?_; (try simp only [Act.put, List.setIfInBounds_toArray, List.set_cons_zero, List.set_cons_succ])))
          go_loopw [67] (fun i wr => ∃ p : Nat, p ≤ 256 ∧ i = .int .i64 p ∧ Hid (St w [(bn, needCells H B S K (1 + (cntT B : Int) + (cntT (S.take p) : Int)), 44)] wr)) (fun i _ => 256 - (intOf i).toNat)
          case atStart => exact ⟨0, Nat.zero_le _, rfl, by simpa [cntT] using HS4⟩
          case round =>
            obtain ⟨p, hp, rfl, HS5⟩ := hrel
            by_cases hlt : p < 256
            · have hlt' : (p : Int) < 256 := by omega
              obtain ⟨x, hx⟩ : ∃ x, S[p]? = some x := ⟨_, List.getElem?_eq_getElem (by rw [NL.out.s]; exact hlt)⟩
              have HX1 := Lib.hid hx
              clear hx
              go_upto_region 20 with (first
                | (refine big_index1 rfl 42 _ _ rfl (S.map Value.bool).toArray (by simp [Act.eval]) p 256 4 (by simp [Act.eval]) Try.underlying42 hlt sizeBool _ Try.underlying4 rfl (.bool x) (by simp [HX1.out]) ?_; (try simp only [Act.put, List.setIfInBounds_toArray, List.set_cons_zero, List.set_cons_succ])))
              cases x
              · go_wp2
                go_roundw
                case rel =>
                  have e := cntT_step HX1.out
                  exact ⟨p + 1, by omega, by go_num, by rw [e]; simpa using HS5⟩
                case measure => simp [intOf]; omega
              · obtain ⟨c, hc⟩ : ∃ c, 1 + (cntT B : Int) + (cntT (S.take p) : Int) = c := ⟨_, rfl⟩
                have hcb : 0 ≤ c ∧ c ≤ 1000 := by
                  have h1 := cntT_le (S.take p)
                  have h2 := cntT_le B
                  have h3 := NL.out.b
                  have h4 := NL.out.s
                  have h5 := take_len (l := S) (k := p) (by rw [NL.out.s]; omega)
                  omega
                have ew : IntKind.i64.wrap (c + 1) = c + 1 := by rw [IntKind.wrap_i64]; omega
                have HC := Lib.hid hc
                rw [hc] at HS5
                have c2 := need_cellC NL.out HS5.out.head
                have f2 := HS5.out.f 16912
                clear hc
                go_wp2
                go_roundw
                case rel =>
                  have hs := St.set (l1 := []) HS5.out 16912 (.int .i64 (c + 1))
                  rw [need_setC NL.out] at hs
                  have e := cntT_step HX1.out
                  have e2 : c + 1 = 1 + (cntT B : Int) + (cntT (S.take (p + 1)) : Int) := by rw [e, ← HC.out]; simp; omega
                  exact ⟨p + 1, by omega, by go_num, Lib.hid (by rw [← e2]; exact hs)⟩
                case measure => simp [intOf]; omega
            · obtain rfl : p = 256 := by omega
              rw [List.take_of_length_le (by rw [NL.out.s]; omega)] at HS5
              go_wp2
              go_ret
              exact ⟨bn, rfl, HBW.out, HFIN.out _ _ HS5.out.head, HS5.out.b⟩
end Go.Proofs.Ytkdclihnmocepaa.Mmu
