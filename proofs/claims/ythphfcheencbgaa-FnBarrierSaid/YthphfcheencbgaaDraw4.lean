/- Walks of the reference's l1SpoilMem, l1DrawMem and DrawPlaces. -/
import Derived.Test.YthphfcheencbgaaDraw3
namespace Go.Proofs.Ythphfcheencbgaa.Draw
open Go.RowKit Go.Proofs.Ythphfcheencbgaa.Base Go.Proofs.Ythphfcheencbgaa.Kinds Go.Proofs.Ythphfcheencbgaa.DecMath Go.Proofs.Ythphfcheencbgaa.L1 Go.Proofs.Ythphfcheencbgaa.Mmu
set_option linter.unusedVariables false
set_option linter.unusedSimpArgs false

/-- Which word is changed. -/
noncomputable def spoilAt (c : List Int) (p : Nat) (ws : List Int) : Int :=
  if 0 < (placesS ws).1.length then ((placesS ws).1.getD (takeP c (p + 2) 64 % (placesS ws).1.length).toNat ⟨0, 0, 0⟩).Frame * 16 + takeP c (p + 1) ws.length % 16 else takeP c (p + 1) ws.length
/-- One word changed, or the size. -/
noncomputable def spoilP (c : List Int) (p : Nat) (ws : List Int) : List Int :=
  if takeP c p 8 = 0 then ws ++ [0]
  else if takeP c p 8 = 1 then []
  else if takeP c p 8 < 5 then ws.set (spoilAt c p ws).toNat (enc 1 (1, (takeP c (p + 2) 64 + takeP c p 8) % (((ws.length / 16 : Nat) : Int) + 1), 0))
  else ws.set (takeP c (p + 1) ws.length).toNat (Go.bits .xor .u64 (ws.getD (takeP c (p + 1) ws.length).toNat 0) (1 + 2 * (takeP c (p + 2) 64 % 2) + 64 * (takeP c (p + 2) 64 % 3)))
noncomputable def memW (c : List Int) (p : Nat) : List Int := if 6 ≤ takeP c p 8 then spoilP c (treeW c (p + 1)).1 (treeW c (p + 1)).2 else (treeW c (p + 1)).2
noncomputable def memQ (c : List Int) (p : Nat) : Nat := if 6 ≤ takeP c p 8 then (treeW c (p + 1)).1 + 3 else (treeW c (p + 1)).1
/-- The words that are drawn for the laws on places. -/
noncomputable def placesW (c : List Int) : List Int := if takeP c 0 24 = 22 then List.replicate 8192 0 else if takeP c 0 24 = 23 then List.replicate 8208 0 else memW c 1

theorem placesS_fr {ws : List Int} {i : Nat} (hi : i < (placesS ws).1.length) : 0 ≤ ((placesS ws).1.getD i ⟨0, 0, 0⟩).Frame ∧ ((placesS ws).1.getD i ⟨0, 0, 0⟩).Frame < ((ws.length / 16 : Nat) : Int) := by
  have hm : (placesS ws).1.getD i ⟨0, 0, 0⟩ ∈ (placesS ws).1 := by
    rw [List.getD_eq_getElem?_getD, List.getElem?_eq_getElem hi]; exact List.getElem_mem hi
  unfold placesS at hm ⊢
  by_cases h : okLen ws
  · rw [if_pos h] at hm ⊢
    exact (placesP_in ws 2 _ (by simp) (root_in h).1 (root_in h).2 _ hm).2.1
  · rw [if_neg h] at hm; simp at hm

theorem st_own_kept {w0 w w1 : World} {l : List (Nat × Array Value × Nat)} {α : Type} {enc : α → List Value} {sz E base : Nat} {v : Value} {xs : List α} (S : St w0 l w) (o : Own enc sz E base w v xs) (hE : ∀ x ∈ l, E ≠ x.2.2) (hb : w0.heap.size ≤ base) (hg : w.grownBy w1 v.ownBlock) : St w0 l w1 :=
  St.kept S hg (fun k hk => Nat.le_trans hb (o.lt k hk).1) (fun x hx => own_not_box o (S.blk x hx) (hE x hx))

theorem setW2 {w0 w : World} {l : List (Nat × Array Value × Nat)} {E base g n c : Nat} {xs : List Int} (S : St w0 l w) (o : Own wEnc 1 E base w (.slice (some ⟨g, 0, none⟩) n c) xs) (hE : ∀ x ∈ l, E ≠ x.2.2) (hb : w0.heap.size ≤ base) (j : Nat) (hj : j < xs.length) (y : Int) :
    St w0 l (w.setCell ⟨g, j, none⟩ (.int .u64 y)) ∧ Own wEnc 1 E base (w.setCell ⟨g, j, none⟩ (.int .u64 y)) (.slice (some ⟨g, 0, none⟩) n c) (xs.set j y) := by
  refine ⟨St.setOther S (Nat.le_trans hb (o.lt g rfl).1) (fun x hx => ?_) _, own_set1 wLen o j hj y rfl⟩
  have := own_not_box o (S.blk x hx) (hE x hx)
  simpa [Value.ownBlock] using this

set_option maxRecDepth 100000 in
set_option maxHeartbeats 8000000 in
theorem spoil_any (v : Value) (c : List Int) (p : Nat) (v0 : Value) (ws : List Int) (w : World) (r : Rd bEnc 1 w v c) (hb : Bytes c) (hL : c.length ≤ 1048576) (hp : p ≤ 5000) (r0 : Rd wEnc 1 w v0 ws) (hw : ∀ x ∈ ws, 0 ≤ x ∧ x < 18446744073709551616) (hn0 : 16 ≤ ws.length) (hn1 : ws.length ≤ 8192) :
    Calls Try.prog 48 #[v, .int .i64 p, .agg #[v0]] w fun e w' => ∃ vw, e = .returned (.agg #[vw]) ∧ Own wEnc 1 31 w.heap.size w' vw (spoilP c p ws) ∧ Below w.heap.size w w' := by
  obtain ⟨A0, c0, rfl, hc01, hc02⟩ := r0.shape
  have R := Lib.hid r
  have R0 := Lib.hid r0
  have HB := Lib.hid hb
  have HW := Lib.hid hw
  have h8 := takeP_lt hb p 8 (by omega)
  have hlen := takeP_lt hb (p + 1) ws.length (by omega)
  have h64 := takeP_lt hb (p + 2) 64 (by omega)
  obtain ⟨a, ha⟩ : ∃ a, takeP c p 8 = a := ⟨_, rfl⟩
  obtain ⟨t, ht⟩ : ∃ a : Nat, takeP c (p + 1) ws.length = (a : Int) := ⟨(takeP c (p + 1) ws.length).toNat, by omega⟩
  obtain ⟨x, hx⟩ : ∃ a : Nat, takeP c (p + 2) 64 = (a : Int) := ⟨(takeP c (p + 2) 64).toNat, by omega⟩
  obtain ⟨L, hLe⟩ : ∃ L, ws.length = L := ⟨_, rfl⟩
  rw [ha] at h8
  rw [ht, hLe] at hlen
  rw [hx] at h64
  rw [hLe] at hn0 hn1 hc01
  have HA := Lib.hid ha
  have HT := Lib.hid ht
  have HX := Lib.hid hx
  have HLE := Lib.hid hLe
  clear r r0 hb hw ha ht hx hLe
  go_enter Try.func48, Try.ntmps48
  go_upto_region 1 with fail
  refine ((St.start w).push2 _ _ _ _).gen (fun w1 S1 _ => ?_)
  have HS1 := Lib.hid S1
  clear S1
  go_upto_region 3 with (go_at_call 8; refine (take_any v c p 8 _ (R.out.below HS1.out.b) HB.out hL (by omega) (by omega)).mono ?_; rw [HA.out]; rintro e w2 ⟨rfl, hb2⟩; have HS2 := Lib.hid (HS1.out.below hb2); clear hb2)
  have sT0 := HS2.out
  have z0_0 := sT0.c1
  have sT1 := sT0.tail
  have z1_0 := sT1.c1
  have sT2 := sT1.tail
  clear sT0 sT1 sT2
  go_upto_region 4 with (go_at_call 8; refine (take_any v c (p + 1) (ws.length : Int) _ (R.out.below HS2.out.b) HB.out hL (by omega) (by have := HLE.out; omega)).mono ?_; rw [HT.out]; rintro e w3 ⟨rfl, hb3⟩; have HS3 := Lib.hid (HS2.out.below hb3); clear hb3)
  clear z0_0 z1_0
  go_upto_region 5 with (go_at_call 8; refine (take_any v c (p + 2) 64 _ (R.out.below HS3.out.b) HB.out hL (by omega) (by omega)).mono ?_; rw [HX.out]; rintro e w4 ⟨rfl, hb4⟩; have HS4 := Lib.hid (HS3.out.below hb4); clear hb4)
  have hb0 : Own wEnc 1 31 w.heap.size (w4.alloc (.cells #[] 31)) (.slice (some ⟨w4.heap.size, 0, none⟩) 0 0) [] := Own.made wEnc 1 31 w4 HS4.out.b.size
  have hs5 := HS4.out.below (allocB (Below.refl _ _) (.cells #[] 31))
  go_wp2
  go_loopw [10, 11] (fun vv vi wr => ∃ (k : Nat) (A : Option Addr) (cc : Nat), k ≤ L ∧ vv = .slice A k cc ∧ vi = .int .i64 k ∧ Hid (Own wEnc 1 31 w.heap.size wr vv (ws.take k)) ∧ Hid (St w [(w.heap.size + 1, #[.slice none 0 0], 25), (w.heap.size, #[.slice A0 ws.length c0], 25)] wr)) (fun _ i _ => L - (intOf i).toNat)
  case atStart => exact ⟨0, _, _, Nat.zero_le _, rfl, rfl, Lib.hid (by simpa using hb0), Lib.hid hs5⟩
  case round =>
    obtain ⟨k, Av, cv, hk, rfl, rfl, HO, HS⟩ := hrel
    have sT0 := HS.out
    have z0_0 := sT0.c1
    have sT1 := sT0.tail
    have z1_0 := sT1.c1
    have sT2 := sT1.tail
    clear sT0 sT1 sT2
    by_cases hlt : k < L
    · have hlt' : (k : Int) < (ws.length : Int) := by have := HLE.out; omega
      obtain ⟨ad, xk, rfl, hxk, q0⟩ := word_at (R0.out.below HS.out.b) (by have := HLE.out; omega : k < ws.length)
      have HXK := Lib.hid hxk
      clear hxk
      go_wp2_with (at_builtin; refine append1 31 1 8 23 (.int .u64 0) Try.underlying23 infoW rfl (by decide) wLen wOne rfl (.tmp 44) (.tmp 50) rfl w.heap.size (.slice Av k cv) (ws.take k) (xk) _ rfl rfl rfl HO.out (by rw [take_len (by have := HLE.out; omega)]; omega) (by decide) HS.out.b.size ?_)
      intro v1 wq ho1 hg1
      have HSq := Lib.hid (st_own_kept HS.out HO.out (by simp) (Nat.le_refl _) hg1)
      rw [← take_snoc HXK.out] at ho1
      obtain ⟨Aq, cq, rfl⟩ : ∃ A c, v1 = .slice A (k + 1) c := by have := ho1.shape; rwa [take_len (by have := HLE.out; omega)] at this
      have HOq := Lib.hid ho1
      clear hg1 ho1 q0
      clear z0_0 z1_0
      go_wp2
      go_roundw
      case rel => exact ⟨k + 1, _, _, by omega, rfl, by go_num, HOq, HSq⟩
      case measure => simp [intOf]; omega
    · obtain rfl : L = k := by omega
      have hlt' : ¬ (L : Int) < (ws.length : Int) := by have := HLE.out; omega
      rw [List.take_of_length_le (by have := HLE.out; omega)] at HO
      have HL : Hid (L = ws.length) := Lib.hid HLE.out.symm
      have e16 : Int.tdiv (L : Int) 16 = ((L / 16 : Nat) : Int) := by rw [Int.tdiv_eq_ediv_of_nonneg (by omega)]; simp
      have e16' : (L : Int) / 16 = ((L / 16 : Nat) : Int) := by simp
      have e17 : IntKind.i64.wrap ((L / 16 : Nat) : Int) = ((L / 16 : Nat) : Int) := by rw [IntKind.wrap_i64]; omega
      obtain ⟨n, hn⟩ : ∃ n, L / 16 = n := ⟨_, rfl⟩
      rw [hn] at e16 e16' e17
      have hnb : n ≤ 512 := by omega
      have HN := Lib.hid hn
      clear hn hk hlt
      by_cases h0 : a = 0
      · subst h0
        go_upto_region 12 with fail
        clear z0_0 z1_0
        go_wp2_with (at_builtin; refine append1 31 1 8 23 (.int .u64 0) Try.underlying23 infoW rfl (by decide) wLen wOne rfl (.tmp 57) (.tmp 58) rfl w.heap.size (.slice Av L cv) (ws) (0) _ rfl rfl rfl HO.out (by have := HL.out; omega) (by decide) HS.out.b.size ?_)
        intro v1 wq ho1 hg1
        have HSq := Lib.hid (st_own_kept HS.out HO.out (by simp) (Nat.le_refl _) hg1)
        obtain ⟨Aq, cq, rfl⟩ : ∃ A c, v1 = .slice A (ws.length + 1) c := by have := ho1.shape; rwa [List.length_append, List.length_singleton] at this
        have HOq := Lib.hid ho1
        clear hg1 ho1
        have sT0 := HSq.out
        have y0_0 := sT0.c1
        have yF0_0 := sT0.f 0
        have sT1 := sT0.tail
        have y1_0 := sT1.c1
        have sT2 := sT1.tail
        clear sT0 sT1 sT2
        go_wp2
        have hoff := own_not_box HOq.out HSq.out.head (by decide)
        have hO := own_setOff HOq.out (a := ⟨w.heap.size + 1, 0, none⟩) hoff (.slice Aq (ws.length + 1) cq)
        have hS := St.set (l1 := []) HSq.out 0 (.slice Aq (ws.length + 1) cq)
        exact bodyPost_ret (v := .agg #[.slice Aq (ws.length + 1) cq]) (by simp [results, Try.results48, go_sem, *]) rfl ⟨_, rfl, by unfold spoilP; rw [HA.out, if_pos rfl]; exact hO, hS.b⟩
      by_cases h1 : a = 1
      · subst h1
        go_upto_region 14 with fail
        clear z0_0 z1_0
        go_upto_region 21 with fail
        have hO6 : Own wEnc 1 31 w.heap.size (wr.alloc (.cells #[] 31)) (.slice (some ⟨wr.heap.size, 0, none⟩) 0 0) [] := Own.made wEnc 1 31 wr HS.out.b.size
        have hS6 := HS.out.below (allocB (Below.refl _ _) (.cells #[] 31))
        refine world_gen (fun w' => St w [(w.heap.size + 1, #[.slice none 0 0], 25), (w.heap.size, #[.slice A0 ws.length c0], 25)] w' ∧ Own wEnc 1 31 w.heap.size w' (.slice (some ⟨wr.heap.size, 0, none⟩) 0 0) []) ⟨hS6, hO6⟩ (fun w7 h7 => ?_)
        have HSq := Lib.hid h7.1
        have HOq := Lib.hid h7.2
        clear h7 hO6 hS6
        have sT0 := HSq.out
        have y0_0 := sT0.c1
        have yF0_0 := sT0.f 0
        have sT1 := sT0.tail
        have y1_0 := sT1.c1
        have sT2 := sT1.tail
        clear sT0 sT1 sT2
        go_wp2
        have hoff := own_not_box HOq.out HSq.out.head (by decide)
        have hO := own_setOff HOq.out (a := ⟨w.heap.size + 1, 0, none⟩) hoff (.slice (some ⟨wr.heap.size, 0, none⟩) 0 0)
        have hS := St.set (l1 := []) HSq.out 0 (.slice (some ⟨wr.heap.size, 0, none⟩) 0 0)
        exact bodyPost_ret (v := .agg #[.slice (some ⟨wr.heap.size, 0, none⟩) 0 0]) (by simp [results, Try.results48, go_sem, *]) rfl ⟨_, rfl, by unfold spoilP; rw [HA.out, if_neg (by decide), if_pos rfl]; exact hO, hS.b⟩
      have h0' : (a == 0) = false := by simpa using h0
      have h1' : (a == 1) = false := by simpa using h1
      obtain ⟨gw, hAv, _⟩ := Own.block wLen HO.out (by have := HL.out; omega)
      subst hAv
      have ht : t < L := by omega
      by_cases h5 : a < 5
      · have h5' : decide (a < 5) = true := decide_eq_true h5
        have ex1 : IntKind.i64.wrap ((x : Int) + a) = (x : Int) + a := by rw [IntKind.wrap_i64]; omega
        have ex2 : IntKind.i64.wrap ((n : Int) + 1) = (n : Int) + 1 := by rw [IntKind.wrap_i64]; omega
        have ex3 : ¬ (n : Int) + 1 = 0 := by omega
        have ex4 : Int.tmod ((x : Int) + a) ((n : Int) + 1) = ((x : Int) + a) % ((n : Int) + 1) := Int.tmod_eq_emod_of_nonneg (by omega)
        obtain ⟨ps, hps⟩ : ∃ ps, (placesS ws).1 = ps := ⟨_, rfl⟩
        go_upto_region 17 with (go_at_call 39; refine (specPlaces_any (.slice A0 ws.length c0) ws _ (R0.out.below HS.out.b) HW.out).mono ?_; rintro e w6 ⟨vp, rfl, op, hb6⟩; rw [hps] at op; have HO6 := Lib.hid (HO.out.below hb6); have HS6 := Lib.hid (HS.out.below hb6); have HP6 := Lib.hid op; clear hb6 op)
        clear z0_0 z1_0
        obtain ⟨Ap, cpp, hvp⟩ := HP6.out.shape
        subst hvp
        by_cases hpl : 0 < ps.length
        · obtain ⟨m, hm⟩ : ∃ m, x % ps.length = m := ⟨_, rfl⟩
          have hml : m < ps.length := by rw [← hm]; exact Nat.mod_lt _ hpl
          obtain ⟨ad, pl, rfl, hplx, g0, g1, g2⟩ := SPlace.at (HP6.out.rd SPlace.len) hml
          have hfr : 0 ≤ pl.Frame ∧ pl.Frame < (n : Int) := by
            have h := placesS_fr (ws := ws) (i := m) (by rw [hps]; exact hml)
            rw [hps, List.getD_eq_getElem?_getD, hplx, ← HL.out, HN.out] at h
            exact h
          obtain ⟨tt, htt⟩ : ∃ tt : Nat, pl.Frame * 16 + (t : Int) % 16 = (tt : Int) := ⟨(pl.Frame * 16 + (t : Int) % 16).toNat, by omega⟩
          have HNn := HN.out
          have httb : tt < L := by omega
          have HAT : Hid (spoilAt c p ws = (tt : Int)) := Lib.hid (by
            unfold spoilAt; rw [hps, if_pos hpl, HX.out, HT.out]
            rw [show ((x : Int) % (ps.length : Int)).toNat = m by rw [← hm]; omega, List.getD_eq_getElem?_getD, hplx]
            exact htt)
          have em0 : (x : Int) % (ps.length : Int) = (m : Int) := by rw [← hm]; simp
          have em1 : Int.tmod (x : Int) (ps.length : Int) = (m : Int) := by rw [Int.tmod_eq_emod_of_nonneg (by omega)]; exact em0
          have em2 : (m : Int) < (ps.length : Int) := by omega
          have em3 : ¬ (ps.length : Int) = 0 := by omega
          have ef : IntKind.i64.wrap (pl.Frame * 16) = pl.Frame * 16 := by rw [IntKind.wrap_i64]; omega
          have et16 : Int.tmod (t : Int) 16 = (t : Int) % 16 := Int.tmod_eq_emod_of_nonneg (by omega)
          have ef2 : IntKind.i64.wrap (pl.Frame * 16 + (t : Int) % 16) = (tt : Int) := by rw [IntKind.wrap_i64]; omega
          have hplI : 0 < ps.length := hpl
          clear hm hps hplx
          go_upto_region 19 with fail
          obtain ⟨cw0, fw0⟩ := ownWd (i := tt) HO6.out (by have := HL.out; omega)
          go_upto_region 21 with (go_at_call 14; refine (specEncode_any 1 1 (((x : Int) + a) % ((n : Int) + 1)) 0 _).mono ?_; rintro e w8 ⟨rfl, hb8⟩; have HO8 := Lib.hid (HO6.out.below hb8); have HS8 := Lib.hid (HS6.out.below hb8); obtain ⟨cw, fw⟩ := ownWd (i := tt) HO8.out (by have := HL.out; omega); clear hb8)
          clear cw0 fw0
          have h2 := setW2 HS8.out HO8.out (by simp) (Nat.le_refl _) tt (by have := HL.out; omega) (enc 1 (1, ((x : Int) + a) % ((n : Int) + 1), 0))
          refine world_gen (fun w' => St w [(w.heap.size + 1, #[.slice none 0 0], 25), (w.heap.size, #[.slice A0 ws.length c0], 25)] w' ∧ Own wEnc 1 31 w.heap.size w' (.slice (some ⟨gw, 0, none⟩) L cv) (ws.set tt (enc 1 (1, ((x : Int) + a) % ((n : Int) + 1), 0)))) h2 (fun w9 h9 => ?_)
          have HSq := Lib.hid h9.1
          have HOq := Lib.hid h9.2
          clear h2 h9 cw fw
          have sT0 := HSq.out
          have y0_0 := sT0.c1
          have yF0_0 := sT0.f 0
          have sT1 := sT0.tail
          have y1_0 := sT1.c1
          have sT2 := sT1.tail
          clear sT0 sT1 sT2
          go_wp2
          have hoff := own_not_box HOq.out HSq.out.head (by decide)
          have hO := own_setOff HOq.out (a := ⟨w.heap.size + 1, 0, none⟩) hoff (.slice (some ⟨gw, 0, none⟩) L cv)
          have hS := St.set (l1 := []) HSq.out 0 (.slice (some ⟨gw, 0, none⟩) L cv)
          exact bodyPost_ret (v := .agg #[.slice (some ⟨gw, 0, none⟩) L cv]) (by simp [results, Try.results48, go_sem, *]) rfl ⟨_, rfl, by unfold spoilP; rw [HA.out, if_neg h0, if_neg h1, if_pos h5, HAT.out, HX.out, HL.out.symm, HN.out]; simp only [Int.toNat_natCast]; exact hO, hS.b⟩
        · have hAT : Hid (spoilAt c p ws = (t : Int)) := Lib.hid (by unfold spoilAt; rw [hps, if_neg hpl, HT.out])
          clear hps
          go_upto_region 19 with fail
          obtain ⟨cw0, fw0⟩ := ownWd (i := t) HO6.out (by have := HL.out; omega)
          go_upto_region 21 with (go_at_call 14; refine (specEncode_any 1 1 (((x : Int) + a) % ((n : Int) + 1)) 0 _).mono ?_; rintro e w8 ⟨rfl, hb8⟩; have HO8 := Lib.hid (HO6.out.below hb8); have HS8 := Lib.hid (HS6.out.below hb8); obtain ⟨cw, fw⟩ := ownWd (i := t) HO8.out (by have := HL.out; omega); clear hb8)
          clear cw0 fw0
          have h2 := setW2 HS8.out HO8.out (by simp) (Nat.le_refl _) t (by have := HL.out; omega) (enc 1 (1, ((x : Int) + a) % ((n : Int) + 1), 0))
          refine world_gen (fun w' => St w [(w.heap.size + 1, #[.slice none 0 0], 25), (w.heap.size, #[.slice A0 ws.length c0], 25)] w' ∧ Own wEnc 1 31 w.heap.size w' (.slice (some ⟨gw, 0, none⟩) L cv) (ws.set t (enc 1 (1, ((x : Int) + a) % ((n : Int) + 1), 0)))) h2 (fun w9 h9 => ?_)
          have HSq := Lib.hid h9.1
          have HOq := Lib.hid h9.2
          clear h2 h9 cw fw
          have sT0 := HSq.out
          have y0_0 := sT0.c1
          have yF0_0 := sT0.f 0
          have sT1 := sT0.tail
          have y1_0 := sT1.c1
          have sT2 := sT1.tail
          clear sT0 sT1 sT2
          go_wp2
          have hoff := own_not_box HOq.out HSq.out.head (by decide)
          have hO := own_setOff HOq.out (a := ⟨w.heap.size + 1, 0, none⟩) hoff (.slice (some ⟨gw, 0, none⟩) L cv)
          have hS := St.set (l1 := []) HSq.out 0 (.slice (some ⟨gw, 0, none⟩) L cv)
          exact bodyPost_ret (v := .agg #[.slice (some ⟨gw, 0, none⟩) L cv]) (by simp [results, Try.results48, go_sem, *]) rfl ⟨_, rfl, by unfold spoilP; rw [HA.out, if_neg h0, if_neg h1, if_pos h5, hAT.out, HX.out, HL.out.symm, HN.out]; simp only [Int.toNat_natCast]; exact hO, hS.b⟩
      · have h5' : decide (a < 5) = false := decide_eq_false h5
        obtain ⟨cw, fw⟩ := ownWd (i := t) HO.out (by have := HL.out; omega)
        obtain ⟨y, hy⟩ : ∃ y, ws.getD t 0 = y := ⟨_, rfl⟩
        rw [hy] at cw
        have ey2 : Int.tmod (x : Int) 2 = (x : Int) % 2 := Int.tmod_eq_emod_of_nonneg (by omega)
        have ey3 : Int.tmod (x : Int) 3 = (x : Int) % 3 := Int.tmod_eq_emod_of_nonneg (by omega)
        have ez1 : IntKind.i64.wrap (2 * ((x : Int) % 2)) = 2 * ((x : Int) % 2) := by rw [IntKind.wrap_i64]; omega
        have ez2 : IntKind.i64.wrap (1 + 2 * ((x : Int) % 2)) = 1 + 2 * ((x : Int) % 2) := by rw [IntKind.wrap_i64]; omega
        have ez3 : IntKind.i64.wrap (64 * ((x : Int) % 3)) = 64 * ((x : Int) % 3) := by rw [IntKind.wrap_i64]; omega
        have ez4 : IntKind.i64.wrap (1 + 2 * ((x : Int) % 2) + 64 * ((x : Int) % 3)) = 1 + 2 * ((x : Int) % 2) + 64 * ((x : Int) % 3) := by rw [IntKind.wrap_i64]; omega
        have ez5 : IntKind.u64.wrap (1 + 2 * ((x : Int) % 2) + 64 * ((x : Int) % 3)) = 1 + 2 * ((x : Int) % 2) + 64 * ((x : Int) % 3) := by rw [BitsMath.u64_wrap]; omega
        have HY := Lib.hid hy
        clear hy
        go_upto_region 21 with fail
        clear z0_0 z1_0
        have h2 := setW2 HS.out HO.out (by simp) (Nat.le_refl _) t (by have := HL.out; omega) (Go.bits .xor .u64 y (1 + 2 * ((x : Int) % 2) + 64 * ((x : Int) % 3)))
        refine world_gen (fun w' => St w [(w.heap.size + 1, #[.slice none 0 0], 25), (w.heap.size, #[.slice A0 ws.length c0], 25)] w' ∧ Own wEnc 1 31 w.heap.size w' (.slice (some ⟨gw, 0, none⟩) L cv) (ws.set t (Go.bits .xor .u64 y (1 + 2 * ((x : Int) % 2) + 64 * ((x : Int) % 3))))) h2 (fun w9 h9 => ?_)
        have HSq := Lib.hid h9.1
        have HOq := Lib.hid h9.2
        clear h2 h9 cw fw
        have sT0 := HSq.out
        have y0_0 := sT0.c1
        have yF0_0 := sT0.f 0
        have sT1 := sT0.tail
        have y1_0 := sT1.c1
        have sT2 := sT1.tail
        clear sT0 sT1 sT2
        go_wp2
        have hoff := own_not_box HOq.out HSq.out.head (by decide)
        have hO := own_setOff HOq.out (a := ⟨w.heap.size + 1, 0, none⟩) hoff (.slice (some ⟨gw, 0, none⟩) L cv)
        have hS := St.set (l1 := []) HSq.out 0 (.slice (some ⟨gw, 0, none⟩) L cv)
        exact bodyPost_ret (v := .agg #[.slice (some ⟨gw, 0, none⟩) L cv]) (by simp [results, Try.results48, go_sem, *]) rfl ⟨_, rfl, by unfold spoilP; rw [HA.out, if_neg h0, if_neg h1, if_neg (show ¬ a < 5 by omega), HT.out, HX.out]; simp only [Int.toNat_natCast, HY.out]; exact hO, hS.b⟩

theorem xor_u64_b (a b : Int) : 0 ≤ Go.bits .xor .u64 a b ∧ Go.bits .xor .u64 a b < 18446744073709551616 := by
  unfold Go.bits
  rw [BitsMath.u64_wrap]
  omega
theorem spoilP_range {c : List Int} {p : Nat} {ws : List Int} (h : ∀ x ∈ ws, 0 ≤ x ∧ x < 18446744073709551616) : ∀ x ∈ spoilP c p ws, 0 ≤ x ∧ x < 18446744073709551616 := by
  unfold spoilP
  split
  · intro x hx
    rcases List.mem_append.1 hx with hx | hx
    · exact h x hx
    · simp at hx; omega
  · split
    · intro x hx; simp at hx
    · split
      · exact set_range h (enc_range _ _)
      · exact set_range h (xor_u64_b _ _)
theorem memW_range {c : List Int} (hc : Bytes c) (p : Nat) : ∀ x ∈ memW c p, 0 ≤ x ∧ x < 18446744073709551616 := by
  have h := (treeW_ok hc (p + 1)).1.wf
  unfold memW
  split
  · exact spoilP_range h
  · exact h
theorem placesW_range {c : List Int} (hc : Bytes c) : ∀ x ∈ placesW c, 0 ≤ x ∧ x < 18446744073709551616 := by
  unfold placesW
  split
  · intro x hx; rw [List.eq_of_mem_replicate hx]; omega
  · split
    · intro x hx; rw [List.eq_of_mem_replicate hx]; omega
    · exact memW_range hc 1

set_option maxRecDepth 100000 in
set_option maxHeartbeats 8000000 in
theorem drawMem_any (v : Value) (c : List Int) (p : Nat) (w : World) (r : Rd bEnc 1 w v c) (hb : Bytes c) (hL : c.length ≤ 1048576) (hp : p ≤ 900) :
    Calls Try.prog 28 #[v, .int .i64 p] w fun e w' => ∃ vw, e = .returned (.tuple #[.agg #[vw], .int .i64 (memQ c p)]) ∧ Own wEnc 1 31 w.heap.size w' vw (memW c p) ∧ Below w.heap.size w w' := by
  have R := Lib.hid r
  have HB := Lib.hid hb
  have h8 := takeP_lt hb p 8 (by omega)
  obtain ⟨a, ha⟩ : ∃ a, takeP c p 8 = a := ⟨_, rfl⟩
  rw [ha] at h8
  have htw := treeW_ok hb (p + 1)
  have htn := treeN_b c
  have h3 := takeP_lt hb (p + 1) 3 (by omega)
  obtain ⟨⟨q, ws⟩, hq⟩ : ∃ s, treeW c (p + 1) = s := ⟨_, rfl⟩
  rw [hq] at htw
  have HA := Lib.hid ha
  have HQ := Lib.hid hq
  have hqb : q ≤ p + 1 + 300 := htw.2
  have hwl : ws.length = 16 * (treeN c + (takeP c (p + 1) 3).toNat) := htw.1.len
  have hwb : 16 ≤ ws.length ∧ ws.length ≤ 8192 := by omega
  have HWF : Hid (∀ x ∈ ws, 0 ≤ x ∧ x < 18446744073709551616) := Lib.hid htw.1.wf
  clear r hb ha hq htw htn h3 hwl
  obtain ⟨hw0, hw1⟩ := hwb
  go_enter Try.func28, Try.ntmps28
  go_upto_region 1 with fail
  refine ((St.start w).push _ _).gen (fun w1 S1 _ => ?_)
  have HS1 := Lib.hid S1
  clear S1
  go_upto_region 3 with (go_at_call 8; refine (take_any v c p 8 _ (R.out.below HS1.out.b) HB.out hL (by omega) (by omega)).mono ?_; rw [HA.out]; rintro e w2 ⟨rfl, hb2⟩; have HS2 := Lib.hid (HS1.out.below hb2); clear hb2)
  go_upto_region 4 with (go_at_call 47; refine (drawTree_any v c (p + 1) _ (R.out.below HS2.out.b) HB.out hL (by omega)).mono ?_; rw [HQ.out]; rintro e w3 ⟨vw, rfl, o3, hb3⟩; obtain ⟨A3, c3, hv3⟩ := o3.shape; subst hv3; have HS3 := Lib.hid (HS2.out.below hb3); have HO3 : Hid (Own wEnc 1 31 w.heap.size w3 (.slice A3 ws.length c3) ws) := Lib.hid (o3.lower HS2.out.b.size); clear hb3 o3)
  refine world_gen (fun w' => St w [(w3.heap.size, #[.slice A3 ws.length c3], 25), (w.heap.size, #[.slice none 0 0], 25)] w' ∧ Own wEnc 1 31 w.heap.size w' (.slice A3 ws.length c3) ws) ⟨HS3.out.push _ _, HO3.out.alloc _⟩ (fun w4 h4 => ?_)
  have HS4 := Lib.hid h4.1
  have HO4 := Lib.hid h4.2
  clear h4
  have sT0 := HS4.out
  have z0_0 := sT0.c1
  have sT1 := sT0.tail
  have z1_0 := sT1.c1
  have zF1_0 := sT1.f 0
  have sT2 := sT1.tail
  clear sT0 sT1 sT2
  by_cases h6 : 6 ≤ a
  · have h6' : decide (6 ≤ a) = true := decide_eq_true h6
    have eq3 : IntKind.i64.wrap ((q : Int) + 3) = ((q + 3 : Nat) : Int) := by rw [IntKind.wrap_i64]; omega
    go_wp2_with (go_at_call 48; refine (spoil_any v c q (.slice A3 ws.length c3) ws _ (R.out.below HS4.out.b) HB.out hL (by omega) (HO4.out.rd wLen) HWF.out hw0 hw1).mono ?_; rintro e w5 ⟨v5, rfl, o5, hb5⟩; obtain ⟨A5, c5, hv5⟩ := o5.shape; obtain ⟨n5, hn5⟩ : ∃ n5, (spoilP c q ws).length = n5 := ⟨_, rfl⟩; rw [hn5] at hv5; subst hv5; have HS5 := Lib.hid (HS4.out.below hb5); have HO5 : Hid (Own wEnc 1 31 w.heap.size w5 (.slice A5 n5 c5) (spoilP c q ws)) := Lib.hid (o5.lower HS4.out.b.size); clear hb5 o5; clear z0_0 z1_0 zF1_0; have y1 := HS5.out.tail.c1; have yf := HS5.out.tail.f 0)
    have hoff := own_not_box HO5.out HS5.out.tail.head (by decide)
    have hO := own_setOff HO5.out (a := ⟨w.heap.size, 0, none⟩) hoff (.slice A5 n5 c5)
    have hS := St.set (l1 := []) HS5.out.tail 0 (.slice A5 n5 c5)
    exact bodyPost_ret (v := .tuple #[.agg #[.slice A5 n5 c5], .int .i64 ((q + 3 : Nat) : Int)]) (by simp [results, Try.results28, go_sem, *]) rfl ⟨_, by unfold memQ; rw [HA.out, if_pos h6, HQ.out], by unfold memW; rw [HA.out, if_pos h6, HQ.out]; exact hO, hS.b⟩
  · have h6' : decide (6 ≤ a) = false := decide_eq_false h6
    go_wp2
    have hoff := own_not_box HO4.out HS4.out.tail.head (by decide)
    have hO := own_setOff HO4.out (a := ⟨w.heap.size, 0, none⟩) hoff (.slice A3 ws.length c3)
    have hS := St.set (l1 := []) HS4.out.tail 0 (.slice A3 ws.length c3)
    exact bodyPost_ret (v := .tuple #[.agg #[.slice A3 ws.length c3], .int .i64 (q : Int)]) (by simp [results, Try.results28, go_sem, *]) rfl ⟨_, by unfold memQ; rw [HA.out, if_neg (show ¬ 6 ≤ a by omega), HQ.out], by unfold memW; rw [HA.out, if_neg (show ¬ 6 ≤ a by omega), HQ.out]; exact hO, hS.b⟩

end Go.Proofs.Ythphfcheencbgaa.Draw
