/- Walk of the reference's l1DrawTree. -/
import Derived.Test.YthphfcheencbgaaDraw2
namespace Go.Proofs.Ythphfcheencbgaa.Draw
open Go.RowKit Go.Proofs.Ythphfcheencbgaa.Base Go.Proofs.Ythphfcheencbgaa.Kinds Go.Proofs.Ythphfcheencbgaa.DecMath Go.Proofs.Ythphfcheencbgaa.L1 Go.Proofs.Ythphfcheencbgaa.Mmu
set_option linter.unusedVariables false
set_option linter.unusedSimpArgs false

theorem madeW (n : Nat) : (madeCells (Value.cells (.int .u64 0)) (n * 1)).toList = (List.replicate n (0 : Int)).flatMap wEnc := made_rep wLen (0 : Int) rfl (by decide) n
theorem tree_gen {w0 w : World} {b : Nat} {cs : Array Value} {vw vl vf : Value} {d : DT} (h : TreeW w0 b cs vw vl vf d w) {G : World → Prop} (k : ∀ w', TreeW w0 b cs vw vl vf d w' → Below w.heap.size w w' → G w') : G w := k w h (Below.refl _ _)

set_option maxRecDepth 100000 in
set_option maxHeartbeats 8000000 in
theorem drawTree_any (v : Value) (c : List Int) (p : Nat) (w : World) (r : Rd bEnc 1 w v c) (hb : Bytes c) (hL : c.length ≤ 1048576) (hp : p ≤ 1000) :
    Calls Try.prog 47 #[v, .int .i64 p] w fun e w' => ∃ vw, e = .returned (.tuple #[.agg #[vw], .int .i64 (treeW c p).1]) ∧ Own wEnc 1 31 w.heap.size w' vw (treeW c p).2 ∧ Below w.heap.size w w' := by
  have R := Lib.hid r
  have HB := Lib.hid hb
  have hTN := treeN_b c
  have hex := takeP_lt hb p 3 (by omega)
  obtain ⟨n, hn⟩ : ∃ n, treeN c = n := ⟨_, rfl⟩
  obtain ⟨x, hx⟩ : ∃ x : Nat, takeP c p 3 = (x : Int) := ⟨(takeP c p 3).toNat, by omega⟩
  have HOK := treeD_ok hb p
  have HTD : Hid (treeD c p = treeTo c ⟨p + 1, List.replicate (16 * (n + x)) 0, [1], [0]⟩ (n - 1)) := Lib.hid (by unfold treeD; rw [hn, hx]; rfl)
  rw [hn] at hTN HOK
  rw [hx] at hex HOK
  have HSZ : Hid (sizeP c 6 3 24 = n) := Lib.hid (by rw [← hn]; rfl)
  have HX := Lib.hid hx
  have hT0 : OkT n (n + x) ⟨p + 1, List.replicate (16 * (n + x)) 0, [1], [0]⟩ := ⟨rfl, by simp, by simp; omega, by simp, by simp; omega, by simp, by intro y hy; rw [List.eq_of_mem_replicate hy]; omega⟩
  have HT0 := Lib.hid hT0
  have HTT : Hid (∀ k, k < n → OkT n (n + x) (treeTo c ⟨p + 1, List.replicate (16 * (n + x)) 0, [1], [0]⟩ k)) := Lib.hid (fun k hk => treeTo_ok hb hT0 rfl k hk)
  have HTP : Hid (∀ k, (treeTo c ⟨p + 1, List.replicate (16 * (n + x)) 0, [1], [0]⟩ k).p = p + 1 + 2 * k ∧ (treeTo c ⟨p + 1, List.replicate (16 * (n + x)) 0, [1], [0]⟩ k).fr.length ≤ 1 + k) := Lib.hid (fun k => treeTo_p c _ k)
  obtain ⟨D0, hD0⟩ : ∃ D, (⟨p + 1, List.replicate (16 * (n + x)) 0, [1], [0]⟩ : DT) = D := ⟨_, rfl⟩
  have HD0 := Lib.hid hD0
  rw [hD0] at HTD HT0 HTT HTP
  have HOKD := Lib.hid HOK.1
  have HOKP := Lib.hid HOK.2
  clear r hb hn hx HOK hT0 hD0
  obtain ⟨hex0, hex1⟩ := hex
  obtain ⟨i0, hi, hz0, hz1, hz2⟩ := info_parts infoW
  have HI := Lib.hid hi
  have HZ0 := Lib.hid hz0
  have HZ1 := Lib.hid hz1
  have HZ2 := Lib.hid hz2
  clear hi hz0 hz1 hz2
  have ew0 : IntKind.i64.wrap ((n : Int) + (x : Int)) = ((n + x : Nat) : Int) := by rw [IntKind.wrap_i64]; omega
  have ew1 : IntKind.i64.wrap (16 * ((n + x : Nat) : Int)) = ((16 * (n + x) : Nat) : Int) := by rw [IntKind.wrap_i64]; omega
  have ew2 : IntKind.i64.wrap (16 * ((n : Int) + (x : Int))) = ((16 * (n + x) : Nat) : Int) := by rw [IntKind.wrap_i64]; omega
  go_enter Try.func47, Try.ntmps47
  go_upto_region 1 with fail
  refine ((St.start w).push _ _).gen (fun w1 S1 _ => ?_)
  have HS1 := Lib.hid S1
  clear S1
  go_upto_region 4 with (first
    | (go_at_call 29; refine (size_any v c 6 3 24 _ (R.out.below HS1.out.b) hL (by decide) (by decide) (by decide) (by decide)).mono ?_; rw [HSZ.out]; rintro e w2 ⟨rfl, hb2⟩; have HS2 := Lib.hid (HS1.out.below hb2); clear hb2)
    | (go_at_call 8; refine (take_any v c p 3 _ (R.out.below HS2.out.b) HB.out hL (by omega) (by omega)).mono ?_; rw [HX.out]; rintro e w3 ⟨rfl, hb3⟩; have HS3 := Lib.hid (HS2.out.below hb3); clear hb3))
  go_upto_region 5 with (first
    | (at_make; refine wpList_make_full _ rfl _ _ 23 rfl w.heap.size 31 i0 _ 1 Try.underlying23 HI.out HZ0.out HZ1.out .i64 .i64 ((16 * (n + x) : Nat) : Int) ((16 * (n + x) : Nat) : Int) (16 * (n + x)) rfl rfl rfl rfl (by rw [HZ2.out]; omega) (by unfold maxLen; omega) HS3.out.b.size ?_; intro w4 ho4 hg4; rw [madeW] at ho4; have HO4 : Hid (Own wEnc 1 31 w.heap.size w4 (.slice (some ⟨w3.heap.size, 0, none⟩) (16 * (n + x)) (16 * (n + x))) (List.replicate (16 * (n + x)) 0)) := Lib.hid (by unfold Own; rw [List.length_replicate]; exact ho4); have HS4 := Lib.hid (St.kept HS3.out hg4 (by simp) (by simp)); clear ho4 hg4))
  obtain ⟨gw, hgw⟩ : ∃ g, w3.heap.size = g := ⟨_, rfl⟩
  rw [hgw] at HO4 ⊢
  clear hgw
  go_upto_region 8 with fail
  have hT4 : TreeW w w.heap.size #[.slice none 0 0] (.slice (some ⟨gw, 0, none⟩) (16 * (n + x)) (16 * (n + x))) (.slice (some ⟨w4.heap.size, 0, none⟩) 1 1) (.slice (some ⟨w4.heap.size + 1, 0, none⟩) 1 1) D0 ((w4.alloc (.cells #[.int .i64 1] 3)).alloc (.cells #[.int .i64 0] 3)) := by
    rw [← HD0.out]
    refine ⟨HS4.out.below (allocB (allocB (Below.refl _ _) _) _), (HO4.out.alloc _).alloc _, (Own.one1 1 3 w4 HS4.out.b.size (1 : Int) iLen _ rfl).alloc _, ?_, by simp [Value.ownBlock]⟩
    have := Own.one1 1 3 (w4.alloc (.cells #[.int .i64 1] 3)) (base := w.heap.size) (Nat.le_trans HS4.out.b.size (by simp)) (0 : Int) iLen _ rfl
    rwa [show (w4.alloc (.cells #[.int .i64 1] 3)).heap.size = w4.heap.size + 1 by simp] at this
  refine tree_gen hT4 (fun w5 T5 _ => ?_)
  have HT5 := Lib.hid T5
  clear hT4 T5
  obtain ⟨b0, hb0⟩ : ∃ b, w.heap.size = b := ⟨_, rfl⟩
  have hl0 : D0.lv.length = 1 ∧ D0.fr.length = 1 ∧ D0.p = p + 1 := by rw [← HD0.out]; simp
  have HL0 := Lib.hid hl0
  clear hl0
  obtain ⟨l4, hl4⟩ : ∃ b, w4.heap.size = b := ⟨_, rfl⟩
  rw [hb0, hl4] at HT5
  rw [hb0, hl4]
  have HB0 := Lib.hid hb0
  clear hb0 hl4
  go_loopw [1, 12, 13, 14] (fun vp vl vf vi wr => ∃ (k nl nf : Nat) (Al Af : Option Addr) (cl cf : Nat), k < n ∧ vp = .int .i64 (((treeTo c D0 k).p : Nat) : Int) ∧ vl = .slice Al nl cl ∧ vf = .slice Af nf cf ∧ vi = .int .i64 ((k + 1 : Nat) : Int) ∧ Hid (nl = (treeTo c D0 k).lv.length) ∧ Hid (nf = (treeTo c D0 k).fr.length) ∧ Hid (TreeW w b0 #[.slice none 0 0] (.slice (some ⟨gw, 0, none⟩) (16 * (n + x)) (16 * (n + x))) vl vf (treeTo c D0 k) wr)) (fun _ _ _ i _ => n - (intOf i).toNat)
  case atStart =>
    refine ⟨0, 1, 1, _, _, _, _, by omega, ?_, rfl, rfl, rfl, Lib.hid HL0.out.1.symm, Lib.hid HL0.out.2.1.symm, HT5⟩
    show Value.int .i64 ((p : Int) + 1) = .int .i64 ((D0.p : Nat) : Int)
    rw [HL0.out.2.2]; simp
  case round =>
    obtain ⟨k, nl, nf, Al, Af, cl, cf, hk, rfl, rfl, rfl, rfl, HNL, HNF, HT⟩ := hrel
    by_cases hlt : k + 1 < n
    · have hlt' : ((k + 1 : Nat) : Int) < (n : Int) := by omega
      obtain ⟨d, hd⟩ : ∃ d, treeTo c D0 k = d := ⟨_, rfl⟩
      have hdp := (HTP.out k).1
      have hok := HTT.out k (by omega)
      have HNX : Hid (treeTo c D0 (k + 1) = treeStep c d (k + 1)) := Lib.hid (by simp only [treeTo]; rw [hd])
      rw [hd] at HNL HNF HT hdp hok ⊢
      have HOK := Lib.hid hok
      have HDX := Lib.hid hd
      have hla := hok.a HB.out
      have hat := hok.at HB.out (by omega : n ≤ n + x)
      obtain ⟨a, ha⟩ : ∃ a, d.a c = a := ⟨_, rfl⟩
      obtain ⟨t, hte⟩ : ∃ t, d.at c = t := ⟨_, rfl⟩
      rw [ha] at hla hat
      rw [hte] at hat
      obtain ⟨q, hq⟩ : ∃ q, d.p = q := ⟨_, rfl⟩
      rw [hq] at hdp hla hat ⊢
      obtain ⟨f, hf⟩ : ∃ f, d.fr.getD a 0 = f := ⟨_, rfl⟩
      obtain ⟨la, hlae⟩ : ∃ f, d.lv.getD a 0 = f := ⟨_, rfl⟩
      obtain ⟨xw, hxw⟩ : ∃ f, d.ws.getD t 0 = f := ⟨_, rfl⟩
      obtain ⟨b, hbe⟩ : ∃ b : Nat, takeP c (q + 1) 16 = (b : Int) := ⟨(takeP c (q + 1) 16).toNat, by have := takeP_lt HB.out (q + 1) 16 (by omega); omega⟩
      have hbl := takeP_lt HB.out (q + 1) 16 (by omega)
      rw [hf, hbe] at hat
      rw [hbe] at hbl
      have hnl := HNL.out
      have hnf := HNF.out
      have hcnt := hok.cnt
      have hlen := hok.len
      have hwl := hok.ws
      have hlab := getD_mem hok.lv (i := a) hla.1
      rw [hlae] at hlab
      have hfb := getD_mem hok.fr (i := a) (by rw [← hok.len]; exact hla.1)
      rw [hf] at hfb
      have HTA : Hid (takeP c q (nl : Int) = (a : Int)) := Lib.hid (by rw [hnl]; exact hla.2.symm)
      have HTB := Lib.hid hbe
      have HSTEP : Hid (treeStep c d (k + 1) = if la < 3 ∧ xw = 0 then ⟨q + 2, d.ws.set t (enc la (1, (k : Int) + 1, 0)), d.lv ++ [la + 1], d.fr ++ [(k : Int) + 1]⟩ else ⟨q + 2, d.ws, d.lv, d.fr⟩) := Lib.hid (by
        unfold treeStep; rw [ha, hte, hlae, hxw, hq, show ((k + 1 : Nat) : Int) = (k : Int) + 1 by omega])
      have ea : (a : Int) < (nl : Int) := by omega
      have eaf : (a : Int) < (nf : Int) := by omega
      have et : (t : Int) < ((16 * (n + x) : Nat) : Int) := by omega
      have ef : IntKind.i64.wrap (f * 16) = f * 16 := by rw [IntKind.wrap_i64]; omega
      have ef2 : IntKind.i64.wrap (f * 16 + (b : Int)) = (t : Int) := by rw [IntKind.wrap_i64]; omega
      have el : IntKind.i64.wrap (la + 1) = la + 1 := by rw [IntKind.wrap_i64]; omega
      have HQ := Lib.hid hdp
      have HALL := Lib.hid (⟨hla.1, hnl, hnf, hlen, hwl, hcnt, hlae, hf, hxw, hat.1⟩ : a < d.lv.length ∧ nl = d.lv.length ∧ nf = d.fr.length ∧ d.lv.length = d.fr.length ∧ d.ws.length = 16 * (n + x) ∧ d.fr.length ≤ n ∧ d.lv.getD a 0 = la ∧ d.fr.getD a 0 = f ∧ d.ws.getD t 0 = xw ∧ t < d.ws.length)
      clear hla hat hbl hnl hnf hcnt hlen hwl hlab hfb hbe hf hlae hxw ha hte hok hd hdp HNL HNF
      go_upto_region 11 with (go_at_call 8; refine (take_any v c q (nl : Int) _ (R.out.below HT.out.st.b) HB.out hL (by have := HQ.out; omega) (by have := HALL.out; omega)).mono ?_; rw [HTA.out]; rintro e w6 ⟨rfl, hb6⟩; have HT6 := Lib.hid (HT.out.below hb6); clear hb6)
      go_upto_region 12 with (go_at_call 8; refine (take_any v c (q + 1) 16 _ (R.out.below HT6.out.st.b) HB.out hL (by have := HQ.out; omega) (by omega)).mono ?_; rw [HTB.out]; rintro e w7 ⟨rfl, hb7⟩; have HT7 := Lib.hid (HT6.out.below hb7); clear hb7)
      have hA := HALL.out
      obtain ⟨gl, rfl, cl0⟩ := ownI HT7.out.lv hA.1
      obtain ⟨gf, rfl, cf0⟩ := ownI (i := a) HT7.out.fr (by omega)
      obtain ⟨cw0, fw0⟩ := ownWd HT7.out.ws hA.2.2.2.2.2.2.2.2.2
      rw [hA.2.2.2.2.2.2.1] at cl0
      rw [hA.2.2.2.2.2.2.2.1] at cf0
      rw [hA.2.2.2.2.2.2.2.2.1] at cw0
      clear hA
      obtain ⟨b1, hb1⟩ : ∃ b, decide (la < 3) = b := ⟨_, rfl⟩
      obtain ⟨b2, hb2⟩ : ∃ b, (xw == 0) = b := ⟨_, rfl⟩
      have HB1 := Lib.hid hb1
      have HB2 := Lib.hid hb2
      by_cases hbb : b1 = true ∧ b2 = true
      · obtain ⟨rfl, rfl⟩ := hbb
        have hgo : la < 3 ∧ xw = 0 := ⟨of_decide_eq_true hb1, by simpa using hb2⟩
        have HGO := Lib.hid hgo
        clear hgo
        go_upto_region 15 with (go_at_call 14; refine (specEncode_any la 1 ((k : Int) + 1) 0 _).mono ?_; rintro e w8 ⟨rfl, hb8⟩; have HT8 := Lib.hid (HT7.out.below hb8); obtain ⟨cw8, fw8⟩ := ownWd HT8.out.ws HALL.out.2.2.2.2.2.2.2.2.2; clear hb8)
        refine tree_gen (HT8.out.setW t HALL.out.2.2.2.2.2.2.2.2.2 (enc la (1, (k : Int) + 1, 0))) (fun w9 T9 _ => ?_)
        have HT9 := Lib.hid T9
        clear T9 cw8 fw8 cw0 fw0 cl0 cf0
        obtain ⟨gl', hgl', cl9⟩ := ownI HT9.out.lv HALL.out.1
        simp only [Option.some.injEq, Addr.mk.injEq, and_true] at hgl'
        subst hgl'
        simp only [HALL.out.2.2.2.2.2.2.1] at cl9
        go_wp2_with (at_builtin; refine append1_at 3 1 8 123 (.int .i64 0) Try.underlying123 infoI rfl (by decide) iLen iOne rfl (.tmp 80) (.tmp 86) rfl w.heap.size (.slice (some ⟨gl, 0, none⟩) nl cl) d.lv (la + 1) _ rfl rfl rfl HT9.out.lv (by have := HALL.out;  omega) (by decide) HT9.out.st.b.size ?_)
        intro v10 w10 ho10 hg10 ha10
        have HT10 := Lib.hid (HT9.out.growL hg10 ho10 ha10)
        obtain ⟨A10, n10, c10, rfl⟩ : ∃ A n c, v10 = .slice A n c := by obtain ⟨A, c, h⟩ := ho10.shape; exact ⟨A, _, c, h⟩
        have HN10 : Hid (n10 = (d.lv ++ [la + 1]).length) := Lib.hid (by obtain ⟨A, c, h⟩ := ho10.shape; simp only [Value.slice.injEq] at h; exact h.2.1)
        clear ho10 hg10 ha10 cl9
        go_wp2_with (at_builtin; refine append1_at 3 1 8 123 (.int .i64 0) Try.underlying123 infoI rfl (by decide) iLen iOne rfl (.tmp 88) (.tmp 90) rfl w.heap.size (.slice (some ⟨gf, 0, none⟩) nf cf) d.fr ((k : Int) + 1) _ rfl rfl rfl HT10.out.fr (by have := HALL.out;  omega) (by decide) HT10.out.st.b.size ?_)
        intro v11 w11 ho11 hg11 ha11
        have HT11 := Lib.hid (HT10.out.growF hg11 ho11 ha11)
        obtain ⟨A11, n11, c11, rfl⟩ : ∃ A n c, v11 = .slice A n c := by obtain ⟨A, c, h⟩ := ho11.shape; exact ⟨A, _, c, h⟩
        have HN11 : Hid (n11 = (d.fr ++ [(k : Int) + 1]).length) := Lib.hid (by obtain ⟨A, c, h⟩ := ho11.shape; simp only [Value.slice.injEq] at h; exact h.2.1)
        clear ho11 hg11 ha11
        go_wp2
        go_roundw
        case rel =>
          have hn := HNX.out
          rw [HSTEP.out, if_pos HGO.out] at hn
          refine ⟨k + 1, n10, n11, _, _, _, _, hlt, ?_, rfl, rfl, by go_num, Lib.hid ?_, Lib.hid ?_, Lib.hid ?_⟩
          · rw [hn]; simp; omega
          · rw [hn]; exact HN10.out
          · rw [hn]; exact HN11.out
          · rw [hn]; exact HT11.out.setP (q + 2)
        case measure => simp [intOf]; omega
      · have hno : ¬ (la < 3 ∧ xw = 0) := fun h => hbb ⟨by rw [← hb1]; exact decide_eq_true h.1, by rw [← hb2]; simp [h.2]⟩
        have HNO := Lib.hid hno
        have hbo : (b1 && b2) = false := by cases b1 <;> cases b2 <;> simp_all
        clear hno hbb
        cases b1 <;> cases b2 <;> try (simp at hbo; done)
        all_goals
          go_wp2
          go_roundw
          case rel =>
            have hn := HNX.out
            rw [HSTEP.out, if_neg HNO.out] at hn
            refine ⟨k + 1, nl, nf, _, _, _, _, hlt, ?_, rfl, rfl, by go_num, Lib.hid ?_, Lib.hid ?_, Lib.hid ?_⟩
            · rw [hn]; simp; omega
            · rw [hn]; exact HALL.out.2.1
            · rw [hn]; exact HALL.out.2.2.1
            · rw [hn]; exact HT7.out.setP (q + 2)
          case measure => simp [intOf]; omega
    · have hkn : n - 1 = k := by omega
      have hlt' : ¬ ((k + 1 : Nat) : Int) < (n : Int) := by omega
      have HTD2 : Hid (treeD c p = treeTo c D0 k) := Lib.hid (by have := HTD.out; rwa [hkn] at this)
      obtain ⟨d, hd⟩ : ∃ d, treeTo c D0 k = d := ⟨_, rfl⟩
      have hok := HTT.out k hk
      have hdp := (HTP.out k).1
      rw [hd] at HTD2 HNL HNF HT hok hdp ⊢
      obtain ⟨⟨q0, hq0⟩⟩ : Nonempty {q : Nat // d.p = q} := ⟨⟨_, rfl⟩⟩
      rw [hq0] at hdp ⊢
      have HOK := Lib.hid hok
      have HKL := Lib.hid hk
      have HQ0 := Lib.hid hq0
      have HDP := Lib.hid hdp
      have hnl := HNL.out
      have hnf := HNF.out
      have hlen := hok.len
      have hcnt := hok.cnt
      have hnn : nl = nf ∧ nf ≤ 24 := by omega
      obtain ⟨hnn1, hnn2⟩ := hnn
      have HTW : Hid (treeW c p = leavesTo c d.lv d.fr (q0, d.ws) nf) := Lib.hid (by unfold treeW; rw [HTD2.out, hq0, hnf])
      have HW0 : Hid (OkW (n + x) d.ws) := Lib.hid ⟨hok.ws, hok.wf⟩
      clear hok hdp hq0 hd hlen hcnt hnl hkn HTD HTT HTP HSZ HX hlt hk
      go_wp2
      go_loopw [1, 15] (fun vp vi wi => ∃ i : Nat, i ≤ nf ∧ vp = .int .i64 (((leavesTo c d.lv d.fr (q0, d.ws) i).1 : Nat) : Int) ∧ vi = .int .i64 (i : Int) ∧ Hid (TreeW w b0 #[.slice none 0 0] (.slice (some ⟨gw, 0, none⟩) (16 * (n + x)) (16 * (n + x))) (.slice Al nl cl) (.slice Af nf cf) { d with ws := (leavesTo c d.lv d.fr (q0, d.ws) i).2 } wi)) (fun _ i _ => nf - (intOf i).toNat)
      case atStart => exact ⟨0, Nat.zero_le _, rfl, rfl, HT⟩
      case round =>
        obtain ⟨i, hin, rfl, rfl, HT2⟩ := hrel
        by_cases hlt : i < nf
        · have hlt' : (i : Int) < (nf : Int) := by omega
          obtain ⟨S, hS⟩ : ∃ S, leavesTo c d.lv d.fr (q0, d.ws) i = S := ⟨_, rfl⟩
          have hso := leavesTo_ok HB.out d.lv d.fr (s := (q0, d.ws)) HW0.out i
          rw [hS] at HT2 hso ⊢
          obtain ⟨l, hl⟩ : ∃ l, d.lv.getD i 0 = l := ⟨_, rfl⟩
          obtain ⟨f, hf⟩ : ∃ l, d.fr.getD i 0 = l := ⟨_, rfl⟩
          have HNXT : Hid (leavesTo c d.lv d.fr (q0, d.ws) (i + 1) = leafTo c l f S 5) := Lib.hid (by simp only [leavesTo]; rw [hS, hl, hf])
          have hlb := getD_mem HOK.out.lv (i := i) (by have := HNL.out; omega)
          have hfb := getD_mem HOK.out.fr (i := i) (by have := HNF.out; omega)
          rw [hl] at hlb
          rw [hf] at hfb
          have HLF : Hid (d.lv.getD i 0 = l ∧ d.fr.getD i 0 = f ∧ i < d.lv.length ∧ i < d.fr.length) := Lib.hid ⟨hl, hf, by have := HNL.out; omega, by have := HNF.out; omega⟩
          have HSO := Lib.hid hso
          clear hS hl hf hso
          go_wp2
          go_loopw [1, 16] (fun vp vk wj => ∃ j : Nat, j ≤ 5 ∧ vp = .int .i64 (((leafTo c l f S j).1 : Nat) : Int) ∧ vk = .int .i64 (j : Int) ∧ Hid (TreeW w b0 #[.slice none 0 0] (.slice (some ⟨gw, 0, none⟩) (16 * (n + x)) (16 * (n + x))) (.slice Al nl cl) (.slice Af nf cf) { d with ws := (leafTo c l f S j).2 } wj)) (fun _ k _ => 5 - (intOf k).toNat)
          case atStart => exact ⟨0, Nat.zero_le _, rfl, rfl, HT2⟩
          case round =>
            obtain ⟨j, hj5, rfl, rfl, HT3⟩ := hrel
            by_cases hlt2 : j < 5
            · have hlt2' : (j : Int) < 5 := by omega
              obtain ⟨⟨q, ws⟩, hs⟩ : ∃ s, leafTo c l f S j = s := ⟨_, rfl⟩
              have hso := leafTo_ok (l := l) (f := f) HB.out HSO.out.1 j
              have HNX : Hid (leafTo c l f S (j + 1) = leafStep c l f j (q, ws)) := Lib.hid (by simp only [leafTo]; rw [hs])
              rw [hs] at HT3 hso ⊢
              simp only at HT3 hso
              have hqb : q ≤ 2000 := by have h1 : q ≤ S.1 + 2 * j := hso.2; have h2 : S.1 ≤ q0 + 10 * i := HSO.out.2; have h3 := HDP.out; have h4 := HKL.out; omega
              have hwl := hso.1.len
              obtain ⟨a, ha⟩ : ∃ a : Nat, takeP c q 16 = (a : Int) := ⟨(takeP c q 16).toNat, by have := takeP_lt HB.out q 16 (by omega); omega⟩
              have hab := takeP_lt HB.out q 16 (by omega)
              have htb := leafAt_b (c := c) (f := f) (n := n) (N := n + x) HB.out hfb (by omega) q
              obtain ⟨t, ht⟩ : ∃ t, leafAt c f q = t := ⟨_, rfl⟩
              obtain ⟨b, hb⟩ : ∃ a : Nat, takeP c (q + 1) 4096 = (a : Int) := ⟨(takeP c (q + 1) 4096).toNat, by have := takeP_lt HB.out (q + 1) 4096 (by omega); omega⟩
              have hbb := takeP_lt HB.out (q + 1) 4096 (by omega)
              rw [ha] at hab
              rw [ht, ha] at htb
              rw [hb] at hbb
              obtain ⟨xw, hxw⟩ : ∃ y, ws.getD t 0 = y := ⟨_, rfl⟩
              have HTA := Lib.hid ha
              have HTB := Lib.hid hb
              have HTL := Lib.hid ht
              have HXW := Lib.hid hxw
              have HALL : Hid (t < ws.length) := Lib.hid (by omega)
              have ef : IntKind.i64.wrap (f * 16) = f * 16 := by rw [IntKind.wrap_i64]; omega
              have ef2 : IntKind.i64.wrap (f * 16 + (a : Int)) = (t : Int) := by rw [IntKind.wrap_i64]; omega
              have et : (t : Int) < ((16 * (n + x) : Nat) : Int) := by omega
              have ew16 : IntKind.i64.wrap ((b : Int) * 16) = (b : Int) * 16 := by rw [IntKind.wrap_i64]; omega
              have ew3 : IntKind.i64.wrap ((b : Int) * 3) = (b : Int) * 3 := by rw [IntKind.wrap_i64]; omega
              have ew7 : IntKind.i64.wrap ((b : Int) % 7 + 1) = (b : Int) % 7 + 1 := by rw [IntKind.wrap_i64]; omega
              have ecv : IntKind.u64.wrap (a : Int) = (a : Int) := by rw [BitsMath.u64_wrap]; omega
              have ecv4 : IntKind.u64.wrap ((a : Int) * 4) = (a : Int) * 4 := by rw [BitsMath.u64_wrap]; omega
              have hnil : (i : Int) < (nl : Int) := by omega
              clear ha hb ht hxw hso hs hab hbb htb hwl
              go_upto_region 24 with (go_at_call 8; refine (take_any v c q 16 _ (R.out.below HT3.out.st.b) HB.out hL (by omega) (by omega)).mono ?_; rw [HTA.out]; rintro e w6 ⟨rfl, hb6⟩; have HT6 := Lib.hid (HT3.out.below hb6); clear hb6)
              obtain ⟨gl, hAl, cl0⟩ := ownI (i := i) HT6.out.lv HLF.out.2.2.1
              obtain ⟨gf, hAf, cf0⟩ := ownI (i := i) HT6.out.fr HLF.out.2.2.2
              subst hAl hAf
              obtain ⟨cw0, fw0⟩ := ownWd (i := t) HT6.out.ws HALL.out
              simp only [HLF.out.1] at cl0
              simp only [HLF.out.2.1] at cf0
              simp only [HXW.out] at cw0
              obtain ⟨b1, hb1⟩ : ∃ b, decide (1 < l) = b := ⟨_, rfl⟩
              obtain ⟨b2, hb2⟩ : ∃ b, (xw == 0) = b := ⟨_, rfl⟩
              by_cases hbo : b1 = true ∧ b2 = true
              · obtain ⟨rfl, rfl⟩ := hbo
                have HGO1 : Hid (1 < l ∧ xw = 0) := Lib.hid ⟨of_decide_eq_true hb1, by simpa using hb2⟩
                go_upto_region 27 with (go_at_call 8; refine (take_any v c (q + 1) 4096 _ (R.out.below HT6.out.st.b) HB.out hL (by omega) (by omega)).mono ?_; rw [HTB.out]; rintro e w7 ⟨rfl, hb7⟩; have HT7 := Lib.hid (HT6.out.below hb7); have hb7' := hb7; clear hb7)
                replace cl0 := bC hb7' cl0
                clear hb7' cw0 fw0 cf0
                by_cases hl2 : l = 2
                · have hl2' : (l == 2) = true := by simpa using hl2
                  have HL2 := Lib.hid hl2
                  clear hl2
                  go_upto_region 30 with (go_at_call 14; refine (specEncode_any 2 2 ((b : Int) * 16) ((b : Int) % 7 + 1) _).mono ?_; rintro e w8 ⟨rfl, hb8⟩; have HT8 := Lib.hid (HT7.out.below hb8); obtain ⟨cw8, fw8⟩ := ownWd (i := t) HT8.out.ws HALL.out; clear hb8)
                  refine tree_gen (HT8.out.setW t HALL.out (enc 2 (2, (b : Int) * 16, (b : Int) % 7 + 1))) (fun w9 T9 _ => ?_)
                  have HT9 := Lib.hid T9
                  clear T9 cw8 fw8 cl0
                  obtain ⟨cz, fz⟩ := ownWd (i := t) HT9.out.ws (by have := HALL.out; simp only [List.length_set]; omega)
                  obtain ⟨xz, hxz⟩ : ∃ y, (ws.set t (enc 2 (2, (b : Int) * 16, (b : Int) % 7 + 1))).getD t 0 = y := ⟨_, rfl⟩
                  simp only [hxz] at cz
                  have HXZ := Lib.hid hxz
                  clear hxz
                  obtain ⟨b4, hb4⟩ : ∃ b, (j == 4) = b := ⟨_, rfl⟩
                  obtain ⟨b5, hb5⟩ : ∃ b, (xz == 0) = b := ⟨_, rfl⟩
                  obtain ⟨b6, hb6⟩ : ∃ b, (((a % 2 : Nat) : Int) == 0) = b := ⟨_, rfl⟩
                  have hj4 : ((j : Int) == 4) = b4 := by rw [← hb4, Bool.eq_iff_iff]; simp; omega
                  have ha2 : ((a : Int) % 2 == 0) = b6 := by rw [← hb6, Bool.eq_iff_iff]; simp
                  have ha3 : (a % 2 == 0) = b6 := by rw [← hb6, Bool.eq_iff_iff]; simp; omega
                  have HL1 : Hid (leaf1 c l f (q, ws) = (q + 2, ws.set t (enc 2 (2, (b : Int) * 16, (b : Int) % 7 + 1)))) := Lib.hid (by unfold leaf1; simp only [HTL.out, HXW.out]; rw [if_pos HGO1.out]; unfold leafW; simp only [HTB.out]; rw [if_pos HL2.out])
                  have HB4 := Lib.hid hb4
                  have HB5 := Lib.hid hb5
                  have HB6 := Lib.hid hb6
                  by_cases hall : b4 = true ∧ b5 = true ∧ b6 = true
                  · obtain ⟨rfl, rfl, rfl⟩ := hall
                    have HGO : Hid (j = 4 ∧ xz = 0 ∧ (a : Int) % 2 = 0) := Lib.hid ⟨by simpa using hb4, by simpa using hb5, by simpa using ha2⟩
                    go_wp2
                    go_roundw
                    case rel =>
                      have hn : leafTo c l f S (j + 1) = (q + 2, (ws.set t (enc 2 (2, (b : Int) * 16, (b : Int) % 7 + 1))).set t ((a : Int) * 4)) := by
                        rw [HNX.out]; unfold leafStep
                        simp only [HL1.out, HTL.out, HTA.out, HXZ.out]
                        rw [if_pos HGO.out]
                      refine ⟨j + 1, by omega, ?_, by go_num, Lib.hid ?_⟩
                      · rw [hn]; first | rfl | (simp; done) | (simp; omega)
                      · rw [hn]; exact HT9.out.setW t (by have := HALL.out; simp only [List.length_set]; omega) ((a : Int) * 4)
                    case measure => simp [intOf]; omega
                  · have HNO2 : Hid (¬ (j = 4 ∧ xz = 0 ∧ (a : Int) % 2 = 0)) := Lib.hid (fun h => hall ⟨by rw [← hb4]; simp [h.1], by rw [← hb5]; simp [h.2.1], by rw [← ha2]; simp [h.2.2]⟩)
                    have hno2 : (b4 && (b5 && b6)) = false := by cases b4 <;> cases b5 <;> cases b6 <;> simp_all
                    clear hall
                    (cases b4; rotate_left; (cases b5; rotate_left; (cases b6; rotate_left; (exact absurd hno2 (by decide)))))
                    all_goals
                      go_wp2
                      go_roundw
                      case rel =>
                        have hn : leafTo c l f S (j + 1) = (q + 2, ws.set t (enc 2 (2, (b : Int) * 16, (b : Int) % 7 + 1))) := by
                          rw [HNX.out]; unfold leafStep
                          simp only [HL1.out, HTL.out, HTA.out, HXZ.out]
                          rw [if_neg HNO2.out]
                        refine ⟨j + 1, by omega, ?_, by go_num, Lib.hid ?_⟩
                        · rw [hn]; first | rfl | (simp; done) | (simp; omega)
                        · rw [hn]; exact HT9.out
                      case measure => simp [intOf]; omega
                · have hl2' : (l == 2) = false := by simpa using hl2
                  have HL2 := Lib.hid hl2
                  clear hl2
                  go_upto_region 30 with (go_at_call 14; refine (specEncode_any 3 3 ((b : Int) * 3) ((b : Int) % 7 + 1) _).mono ?_; rintro e w8 ⟨rfl, hb8⟩; have HT8 := Lib.hid (HT7.out.below hb8); obtain ⟨cw8, fw8⟩ := ownWd (i := t) HT8.out.ws HALL.out; clear hb8)
                  refine tree_gen (HT8.out.setW t HALL.out (enc 3 (3, (b : Int) * 3, (b : Int) % 7 + 1))) (fun w9 T9 _ => ?_)
                  have HT9 := Lib.hid T9
                  clear T9 cw8 fw8 cl0
                  obtain ⟨cz, fz⟩ := ownWd (i := t) HT9.out.ws (by have := HALL.out; simp only [List.length_set]; omega)
                  obtain ⟨xz, hxz⟩ : ∃ y, (ws.set t (enc 3 (3, (b : Int) * 3, (b : Int) % 7 + 1))).getD t 0 = y := ⟨_, rfl⟩
                  simp only [hxz] at cz
                  have HXZ := Lib.hid hxz
                  clear hxz
                  obtain ⟨b4, hb4⟩ : ∃ b, (j == 4) = b := ⟨_, rfl⟩
                  obtain ⟨b5, hb5⟩ : ∃ b, (xz == 0) = b := ⟨_, rfl⟩
                  obtain ⟨b6, hb6⟩ : ∃ b, (((a % 2 : Nat) : Int) == 0) = b := ⟨_, rfl⟩
                  have hj4 : ((j : Int) == 4) = b4 := by rw [← hb4, Bool.eq_iff_iff]; simp; omega
                  have ha2 : ((a : Int) % 2 == 0) = b6 := by rw [← hb6, Bool.eq_iff_iff]; simp
                  have ha3 : (a % 2 == 0) = b6 := by rw [← hb6, Bool.eq_iff_iff]; simp; omega
                  have HL1 : Hid (leaf1 c l f (q, ws) = (q + 2, ws.set t (enc 3 (3, (b : Int) * 3, (b : Int) % 7 + 1)))) := Lib.hid (by unfold leaf1; simp only [HTL.out, HXW.out]; rw [if_pos HGO1.out]; unfold leafW; simp only [HTB.out]; rw [if_neg HL2.out])
                  have HB4 := Lib.hid hb4
                  have HB5 := Lib.hid hb5
                  have HB6 := Lib.hid hb6
                  by_cases hall : b4 = true ∧ b5 = true ∧ b6 = true
                  · obtain ⟨rfl, rfl, rfl⟩ := hall
                    have HGO : Hid (j = 4 ∧ xz = 0 ∧ (a : Int) % 2 = 0) := Lib.hid ⟨by simpa using hb4, by simpa using hb5, by simpa using ha2⟩
                    go_wp2
                    go_roundw
                    case rel =>
                      have hn : leafTo c l f S (j + 1) = (q + 2, (ws.set t (enc 3 (3, (b : Int) * 3, (b : Int) % 7 + 1))).set t ((a : Int) * 4)) := by
                        rw [HNX.out]; unfold leafStep
                        simp only [HL1.out, HTL.out, HTA.out, HXZ.out]
                        rw [if_pos HGO.out]
                      refine ⟨j + 1, by omega, ?_, by go_num, Lib.hid ?_⟩
                      · rw [hn]; first | rfl | (simp; done) | (simp; omega)
                      · rw [hn]; exact HT9.out.setW t (by have := HALL.out; simp only [List.length_set]; omega) ((a : Int) * 4)
                    case measure => simp [intOf]; omega
                  · have HNO2 : Hid (¬ (j = 4 ∧ xz = 0 ∧ (a : Int) % 2 = 0)) := Lib.hid (fun h => hall ⟨by rw [← hb4]; simp [h.1], by rw [← hb5]; simp [h.2.1], by rw [← ha2]; simp [h.2.2]⟩)
                    have hno2 : (b4 && (b5 && b6)) = false := by cases b4 <;> cases b5 <;> cases b6 <;> simp_all
                    clear hall
                    (cases b4; rotate_left; (cases b5; rotate_left; (cases b6; rotate_left; (exact absurd hno2 (by decide)))))
                    all_goals
                      go_wp2
                      go_roundw
                      case rel =>
                        have hn : leafTo c l f S (j + 1) = (q + 2, ws.set t (enc 3 (3, (b : Int) * 3, (b : Int) % 7 + 1))) := by
                          rw [HNX.out]; unfold leafStep
                          simp only [HL1.out, HTL.out, HTA.out, HXZ.out]
                          rw [if_neg HNO2.out]
                        refine ⟨j + 1, by omega, ?_, by go_num, Lib.hid ?_⟩
                        · rw [hn]; first | rfl | (simp; done) | (simp; omega)
                        · rw [hn]; exact HT9.out
                      case measure => simp [intOf]; omega
              · have HNO1 : Hid (¬ (1 < l ∧ xw = 0)) := Lib.hid (fun h => hbo ⟨by rw [← hb1]; exact decide_eq_true h.1, by rw [← hb2]; simp [h.2]⟩)
                have hno : (b1 && b2) = false := by cases b1 <;> cases b2 <;> simp_all
                clear hbo
                cases b1 <;> cases b2 <;> try (simp at hno; done)
                all_goals
                  go_upto_region 30 with fail
                  clear cw0 fw0 cl0 cf0 hb2
                  obtain ⟨cz, fz⟩ := ownWd (i := t) HT6.out.ws (by have := HALL.out; simp only; omega)
                  obtain ⟨xz, hxz⟩ : ∃ y, (ws).getD t 0 = y := ⟨_, rfl⟩
                  simp only [hxz] at cz
                  have HXZ := Lib.hid hxz
                  clear hxz
                  obtain ⟨b4, hb4⟩ : ∃ b, (j == 4) = b := ⟨_, rfl⟩
                  obtain ⟨b5, hb5⟩ : ∃ b, (xz == 0) = b := ⟨_, rfl⟩
                  obtain ⟨b6, hb6⟩ : ∃ b, (((a % 2 : Nat) : Int) == 0) = b := ⟨_, rfl⟩
                  have hj4 : ((j : Int) == 4) = b4 := by rw [← hb4, Bool.eq_iff_iff]; simp; omega
                  have ha2 : ((a : Int) % 2 == 0) = b6 := by rw [← hb6, Bool.eq_iff_iff]; simp
                  have ha3 : (a % 2 == 0) = b6 := by rw [← hb6, Bool.eq_iff_iff]; simp; omega
                  have HL1 : Hid (leaf1 c l f (q, ws) = (q + 1, ws)) := Lib.hid (by unfold leaf1; simp only [HTL.out, HXW.out]; rw [if_neg HNO1.out])
                  have HB4 := Lib.hid hb4
                  have HB5 := Lib.hid hb5
                  have HB6 := Lib.hid hb6
                  by_cases hall : b4 = true ∧ b5 = true ∧ b6 = true
                  · obtain ⟨rfl, rfl, rfl⟩ := hall
                    have HGO : Hid (j = 4 ∧ xz = 0 ∧ (a : Int) % 2 = 0) := Lib.hid ⟨by simpa using hb4, by simpa using hb5, by simpa using ha2⟩
                    go_wp2
                    go_roundw
                    case rel =>
                      have hn : leafTo c l f S (j + 1) = (q + 1, (ws).set t ((a : Int) * 4)) := by
                        rw [HNX.out]; unfold leafStep
                        simp only [HL1.out, HTL.out, HTA.out, HXZ.out]
                        rw [if_pos HGO.out]
                      refine ⟨j + 1, by omega, ?_, by go_num, Lib.hid ?_⟩
                      · rw [hn]; first | rfl | (simp; done) | (simp; omega)
                      · rw [hn]; exact HT6.out.setW t (by have := HALL.out; simp only; omega) ((a : Int) * 4)
                    case measure => simp [intOf]; omega
                  · have HNO2 : Hid (¬ (j = 4 ∧ xz = 0 ∧ (a : Int) % 2 = 0)) := Lib.hid (fun h => hall ⟨by rw [← hb4]; simp [h.1], by rw [← hb5]; simp [h.2.1], by rw [← ha2]; simp [h.2.2]⟩)
                    have hno2 : (b4 && (b5 && b6)) = false := by cases b4 <;> cases b5 <;> cases b6 <;> simp_all
                    clear hall
                    (cases b4; rotate_left; (cases b5; rotate_left; (cases b6; rotate_left; (exact absurd hno2 (by decide)))))
                    all_goals
                      go_wp2
                      go_roundw
                      case rel =>
                        have hn : leafTo c l f S (j + 1) = (q + 1, ws) := by
                          rw [HNX.out]; unfold leafStep
                          simp only [HL1.out, HTL.out, HTA.out, HXZ.out]
                          rw [if_neg HNO2.out]
                        refine ⟨j + 1, by omega, ?_, by go_num, Lib.hid ?_⟩
                        · rw [hn]; first | rfl | (simp; done) | (simp; omega)
                        · rw [hn]; exact HT6.out
                      case measure => simp [intOf]; omega
            · obtain rfl : j = 5 := by omega
              rw [← HNXT.out] at HT3 ⊢
              go_wp2
              go_roundw
              case rel => exact ⟨i + 1, by omega, rfl, by go_num, HT3⟩
              case measure => simp [intOf]; omega
        · obtain rfl : i = nf := by omega
          rw [← HTW.out] at HT2 ⊢
          have cb := HT2.out.st.c1
          have fb := HT2.out.st.f 0
          go_wp2
          have hoff := own_not_box HT2.out.ws HT2.out.st.head (by decide)
          have hS := St.set (l1 := []) HT2.out.st 0 (.slice (some ⟨gw, 0, none⟩) (16 * (n + x)) (16 * (n + x)))
          have hO := own_setOff HT2.out.ws (a := ⟨b0, 0, none⟩) hoff (.slice (some ⟨gw, 0, none⟩) (16 * (n + x)) (16 * (n + x)))
          exact bodyPost_ret (v := .tuple #[.agg #[.slice (some ⟨gw, 0, none⟩) (16 * (n + x)) (16 * (n + x))], .int .i64 (((treeW c p).1 : Nat) : Int)]) (by simp [results, Try.results47, go_sem, *]) rfl ⟨_, rfl, hO, hS.b⟩
end Go.Proofs.Ythphfcheencbgaa.Draw
