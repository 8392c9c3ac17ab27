/- Walks of the reference's l4Big and l4At. -/
import Derived.Test.YtkdclihnmocepaaSpecSpan
namespace Go.Proofs.Ytkdclihnmocepaa.Mmu
open Go.RowKit Go.Proofs.Ytkdclihnmocepaa.Base Go.Proofs.Ytkdclihnmocepaa.Kinds
set_option linter.unusedVariables false
set_option linter.unusedSimpArgs false

set_option maxRecDepth 100000 in
set_option maxHeartbeats 4000000 in
theorem specBig_any (s : SSpan) (p : Int) (ho : okS s) (hp : 0 ≤ p ∧ p < 4096) (w : World) : Calls Try.prog 24 #[s.val, .int .i64 p] w fun e w' => e = .returned (.bool (bigS s p)) ∧ Below w.heap.size w w' := by
  obtain ⟨pg, c, o, m, h⟩ := s
  obtain ⟨g, hg⟩ : ∃ g, g = p - p % 16 := ⟨_, rfl⟩
  have hb : bigS ⟨pg, c, o, m, h⟩ p = (h && decide (pg ≤ g ∧ g + 16 ≤ pg + c ∧ (o + g - pg) % 16 = 0)) := by subst hg; rfl
  rw [hb]
  unfold okS at ho
  unfold SSpan.val
  dsimp only at *
  have g0 : 0 ≤ g ∧ g < 4096 := by omega
  have HO := Lib.hid ho
  have e1 : IntKind.i64.wrap (p - p % 16) = g := by rw [IntKind.wrap_i64]; omega
  have w1 : IntKind.i64.wrap (pg + c) = pg + c := by rw [IntKind.wrap_i64]; omega
  have w3 : IntKind.i64.wrap (o + g) = o + g := by rw [IntKind.wrap_i64]; omega
  have w4 : IntKind.i64.wrap (o + g - pg) = o + g - pg := by rw [IntKind.wrap_i64]; omega
  have HG := Lib.hid hg
  clear hg hb
  cases h
  · go_enter Try.func24, Try.ntmps24
    go_wp2
    go_ret
    exact ⟨rfl, allocB (Below.refl _ _) _⟩
  · obtain ⟨r, hr⟩ : ∃ r, r = (true && decide (pg ≤ g ∧ g + 16 ≤ pg + c ∧ (o + g - pg) % 16 = 0)) := ⟨_, rfl⟩
    rw [← hr]
    have HR := Lib.hid hr
    clear hr
    go_enter Try.func24, Try.ntmps24
    go_upto_region 1 with fail
    refine ((St.start w).push _ _).gen (fun w1 S1 _ => ?_)
    have sT0 := S1
    obtain ⟨q0_0, q0_1, q0_2, q0_3, q0_4⟩ := sT0.c5
    have sT1 := sT0.tail
    clear sT0 sT1
    have HB1 := Lib.hid S1.b
    clear S1
    go_wp2
    go_loopw [6] (fun i wr => ∃ k : Nat, k ≤ 16 ∧ i = .int .i64 k ∧ Hid (∀ j : Nat, j < k → pg ≤ g + j ∧ g + j < pg + c) ∧ wr = w1) (fun i _ => 16 - (intOf i).toNat)
    case atStart => exact ⟨0, by omega, rfl, Lib.hid (fun j hj => by omega), rfl⟩
    case round =>
      obtain ⟨k, hk, rfl, hall, rfl⟩ := hrel
      have e5 : IntKind.i64.wrap (g + (k : Int)) = g + k := by rw [IntKind.wrap_i64]; omega
      by_cases hlt : k < 16
      · have hlt' : (k : Int) < 16 := by omega
        go_wp2
        · go_ret
          refine ⟨ret_bool ?_, HB1.out⟩
          rw [HR.out, eq_comm, Bool.true_and, decide_eq_false_iff_not]
          intro hh
          omega
        · go_roundw
          case rel =>
            refine ⟨k + 1, by omega, by go_num, Lib.hid (fun j hj => ?_), by first | rfl | trivial⟩
            rcases Nat.lt_or_ge j k with hh | hh
            · exact hall.out j hh
            · obtain rfl : j = k := by omega
              omega
          case measure => simp [intOf]; omega
        · go_ret
          refine ⟨ret_bool ?_, HB1.out⟩
          rw [HR.out, eq_comm, Bool.true_and, decide_eq_false_iff_not]
          intro hh
          omega
      · obtain rfl : k = 16 := by omega
        have hpg : pg ≤ g := by have := (hall.out 0 (by omega)).1; omega
        have hpe : g + 16 ≤ pg + c := by have := (hall.out 15 (by omega)).2; omega
        go_wp2
        go_ret
        refine ⟨ret_bool ?_, HB1.out⟩
        rw [HR.out, Bool.true_and, Bool.eq_iff_iff]
        simp [hpg, hpe]
theorem specBig_b (s : SSpan) (p : Int) (ho : okS s) (hp : 0 ≤ p ∧ p < 4096) (b : Bool) (hb : bigS s p = b) (w : World) : Calls Try.prog 24 #[s.val, .int .i64 p] w fun e w' => e = .returned (.bool b) ∧ Below w.heap.size w w' := by
  rw [← hb]; exact specBig_any s p ho hp w

theorem St.set0 {w0 w : World} {b T : Nat} {cs : Array Value} {l : List (Nat × Array Value × Nat)} (h : St w0 ((b, cs, T) :: l) w) (o : Nat) (u : Value) : St w0 ((b, cs.setIfInBounds o u, T) :: l) (w.setCell ⟨b, o, none⟩ u) := St.set (l1 := []) h o u
theorem noneTo_step {l : List SSpan} {p : Int} {k : Nat} {a : SSpan} (h : ∀ (j : Nat) x, j < k → l[j]? = some x → ¬ hasS x p) (ha : l[k]? = some a) (hn : ¬ hasS a p) : ∀ (j : Nat) x, j < k + 1 → l[j]? = some x → ¬ hasS x p := by
  intro j x hj hx
  rcases Nat.lt_or_ge j k with g | g
  · exact h j x g hx
  · obtain rfl : j = k := by omega
    rw [ha] at hx; cases hx; exact hn

set_option maxRecDepth 100000 in
set_option maxHeartbeats 4000000 in
theorem specHit_any (v : Value) (l : List SSpan) (p : Int) (w : World) (r : Rd SSpan.enc 5 w v l) (hv : ValidS l) (hp : 0 ≤ p ∧ p < 4096) :
    Calls Try.prog 19 #[v, .int .i64 p] w fun e w' => e = .returned (atS l p).val ∧ Below w.heap.size w w' := by
  obtain ⟨A, c, rfl, hc, hk⟩ := r.shape
  have R := Lib.hid r
  have HV := Lib.hid hv
  have HP := Lib.hid hp
  clear r hv
  obtain ⟨hp0, hp1⟩ := hp
  go_enter Try.func19, Try.ntmps19
  go_upto_region 1 with fail
  refine ((St.start w).push _ _).gen (fun w1 S1 _ => ?_)
  have HS1 := Lib.hid S1
  clear S1
  go_wp2
  go_loopw [5] (fun i wr => ∃ k : Nat, k ≤ l.length ∧ i = .int .i64 k ∧ Hid (∀ (j : Nat) x, j < k → l[j]? = some x → ¬ hasS x p) ∧ Hid (St w [(w.heap.size, #[.int .i64 0, .int .i64 0, .int .i64 0, .int .i64 0], 39)] wr)) (fun i _ => l.length - (intOf i).toNat)
  case atStart => exact ⟨0, Nat.zero_le _, rfl, Lib.hid (fun j x hj => by omega), HS1⟩
  case round =>
    obtain ⟨k, hkl, rfl, hn, hs⟩ := hrel
    by_cases hlt : k < l.length
    · have hlt' : (k : Int) < (l.length : Int) := by omega
      obtain ⟨ad, x, rfl, hx, q0, q1, q2, q3, q4⟩ := SSpan.at (R.out.below hs.out.b) hlt
      have HX := Lib.hid hx
      have ho := HV.out.ok hx
      have HO := Lib.hid ho
      have e1 : IntKind.i64.wrap (x.Page + x.Count) = x.Page + x.Count := by rw [IntKind.wrap_i64]; unfold okS at ho; omega
      have qb0 := BW.cell q0
      have qb1 := BW.cell q1
      clear hx
      rcases Bool.eq_false_or_eq_true (decide (x.Page ≤ p)) with h1 | h1
      · rcases Bool.eq_false_or_eq_true (decide (p < x.Page + x.Count)) with h2 | h2
        · have hh : hasS x p := ⟨of_decide_eq_true h1, of_decide_eq_true h2⟩
          have hat : atS l p = hitS x p := atS_hit HV.out HX.out hh
          have e2 : IntKind.i64.wrap (x.Out + p) = x.Out + p := by rw [IntKind.wrap_i64]; unfold okS at ho; omega
          have e3 : IntKind.i64.wrap (x.Out + p - x.Page) = x.Out + p - x.Page := by rw [IntKind.wrap_i64]; unfold okS at ho; omega
          obtain ⟨bb, hbb⟩ : ∃ b, bigS x p = b := ⟨_, rfl⟩
          have HAT : Hid ((atS l p).val = .agg #[.int .i64 1, .int .i64 (x.Out + p - x.Page), .int .i64 x.Perm, .int .i64 (if bb = true then 16 else 1)]) := Lib.hid (by rw [hat, ← hbb]; rfl)
          have HBB := Lib.hid hbb
          clear hat hbb hh ho
          go_wp2
          (refine wp_region_below (by kernel_rfl) (by kernel_rfl) ?_; (repeat (first | (go_big_quiet_step (fail)) | ((with_reducible refine wpQuiet_step ?_); intro K hK; go_simp; first | ((with_reducible refine hK _ ?_); clear hK K) | (apply Exists.intro; refine ⟨fun _ => ?_, hK _ ?_⟩; (fail); clear hK K)))); (with_reducible refine wpQuiet_nil ?_); intro wq hw'; obtain ⟨⟨wy, hbq⟩, hw''⟩ := hw'; subst hw'')
          go_wp2
          have HS2 := Lib.hid (hs.out.below hbq)
          have u0 := bC hbq q0
          have u2 := bC hbq q2
          have u3 := bC hbq q3
          clear hs hbq q0 q1 q2 q3 q4 qb0 qb1
          go_region_held3 (fun w' => w'.cell? (ad.add (k * 5)) = some (.int .i64 x.Page) ∧ w'.cell? ⟨(ad.add (k * 5)).block, (ad.add (k * 5)).off + 2, none⟩ = some (.int .i64 x.Out) ∧ w'.cell? ⟨(ad.add (k * 5)).block, (ad.add (k * 5)).off + 3, none⟩ = some (.int .i64 x.Perm)) (go_keep) (fail)
          refine ((HS2.out.push _ _).drew).gen (fun w6 S6 _ => ?_)
          have HS6 := Lib.hid S6
          obtain ⟨ad', x', hae, hx', p0, p1, p2, p3, p4⟩ := SSpan.at (R.out.below S6.b) hlt
          cases hae
          obtain rfl : x' = x := Option.some.inj (hx'.symm.trans HX.out)
          clear HS2 u0 u2 u3 hx' S6
          cases bb
          · go_upto_region 8 with (first | (go_at_call 24; refine (specBig_b x' p HO.out HP.out false HBB.out _).mono ?_; rintro e w7 ⟨rfl, hb7⟩))
            have HS7 := Lib.hid (HS6.out.below hb7)
            clear HS6 hb7 p0 p1 p2 p3 p4
            have sT0 := HS7.out
            obtain ⟨z0_0, z0_1, z0_2, z0_3⟩ := sT0.c4
            have zF0_0 := sT0.f 0
            have zF0_1 := sT0.f 1
            have zF0_2 := sT0.f 2
            have zF0_3 := sT0.f 3
            have sT1 := sT0.tail
            obtain ⟨z1_0, z1_1, z1_2, z1_3⟩ := sT1.c4
            have zF1_0 := sT1.f 0
            have zF1_1 := sT1.f 1
            have zF1_2 := sT1.f 2
            have zF1_3 := sT1.f 3
            have sT2 := sT1.tail
            clear sT0 sT1 sT2
            go_wp2
            rw [HAT.out]
            exact bodyPost_ret (v := .agg #[.int .i64 1, .int .i64 (x'.Out + p - x'.Page), .int .i64 x'.Perm, .int .i64 1]) (by simp [results, Try.results19, go_sem, *]) rfl ⟨rfl, (HS7.out.s1 _ _ _ _).b⟩
          · go_upto_region 7 with (first | (go_at_call 24; refine (specBig_b x' p HO.out HP.out true HBB.out _).mono ?_; rintro e w7 ⟨rfl, hb7⟩))
            have HS7 := Lib.hid (HS6.out.below hb7)
            clear HS6 hb7 p0 p1 p2 p3 p4
            have sT0 := HS7.out
            obtain ⟨z0_0, z0_1, z0_2, z0_3⟩ := sT0.c4
            have zF0_0 := sT0.f 0
            have zF0_1 := sT0.f 1
            have zF0_2 := sT0.f 2
            have zF0_3 := sT0.f 3
            have sT1 := sT0.tail
            obtain ⟨z1_0, z1_1, z1_2, z1_3⟩ := sT1.c4
            have zF1_0 := sT1.f 0
            have zF1_1 := sT1.f 1
            have zF1_2 := sT1.f 2
            have zF1_3 := sT1.f 3
            have sT2 := sT1.tail
            clear sT0 sT1 sT2
            go_upto_region 8 with fail
            refine (St.set0 HS7.out 3 _).gen (fun w8 S8 _ => ?_)
            have HS8 := Lib.hid S8
            clear S8
            clear z0_0 z0_1 z0_2 z0_3 zF0_0 zF0_1 zF0_2 zF0_3 z1_0 z1_1 z1_2 z1_3 zF1_0 zF1_1 zF1_2 zF1_3
            have sT0 := HS8.out
            obtain ⟨z0_0, z0_1, z0_2, z0_3⟩ := sT0.c4
            have zF0_0 := sT0.f 0
            have zF0_1 := sT0.f 1
            have zF0_2 := sT0.f 2
            have zF0_3 := sT0.f 3
            have sT1 := sT0.tail
            obtain ⟨z1_0, z1_1, z1_2, z1_3⟩ := sT1.c4
            have zF1_0 := sT1.f 0
            have zF1_1 := sT1.f 1
            have zF1_2 := sT1.f 2
            have zF1_3 := sT1.f 3
            have sT2 := sT1.tail
            clear sT0 sT1 sT2
            go_wp2
            rw [HAT.out]
            exact bodyPost_ret (v := .agg #[.int .i64 1, .int .i64 (x'.Out + p - x'.Page), .int .i64 x'.Perm, .int .i64 16]) (by simp [results, Try.results19, go_sem, *]) rfl ⟨rfl, (HS8.out.s1 _ _ _ _).b⟩
        · go_wp2
          (refine wp_region_below (by kernel_rfl) (by kernel_rfl) ?_; (repeat (first | (go_big_quiet_step (fail)) | ((with_reducible refine wpQuiet_step ?_); intro K hK; go_simp; first | ((with_reducible refine hK _ ?_); clear hK K) | (apply Exists.intro; refine ⟨fun _ => ?_, hK _ ?_⟩; (fail); clear hK K)))); (with_reducible refine wpQuiet_nil ?_); intro wq hw'; obtain ⟨⟨wy, hbq⟩, hw''⟩ := hw'; subst hw'')
          go_wp2
          go_roundw
          case rel => exact ⟨k + 1, by omega, by go_num, Lib.hid (noneTo_step hn.out HX.out (fun h => by have := of_decide_eq_false h2; exact this h.2)), Lib.hid (hs.out.below hbq)⟩
          case measure => simp [intOf]; omega
      · go_wp2
        (refine wp_region_below (by kernel_rfl) (by kernel_rfl) ?_; (repeat (first | (go_big_quiet_step (fail)) | ((with_reducible refine wpQuiet_step ?_); intro K hK; go_simp; first | ((with_reducible refine hK _ ?_); clear hK K) | (apply Exists.intro; refine ⟨fun _ => ?_, hK _ ?_⟩; (fail); clear hK K)))); (with_reducible refine wpQuiet_nil ?_); intro wq hw'; obtain ⟨⟨wy, hbq⟩, hw''⟩ := hw'; subst hw'')
        go_wp2
        go_roundw
        case rel => exact ⟨k + 1, by omega, by go_num, Lib.hid (noneTo_step hn.out HX.out (fun h => by have := of_decide_eq_false h1; exact this h.1)), Lib.hid (hs.out.below hbq)⟩
        case measure => simp [intOf]; omega
    · obtain rfl : k = l.length := by omega
      have sT0 := hs.out
      obtain ⟨z0_0, z0_1, z0_2, z0_3⟩ := sT0.c4
      have zF0_0 := sT0.f 0
      have zF0_1 := sT0.f 1
      have zF0_2 := sT0.f 2
      have zF0_3 := sT0.f 3
      have sT1 := sT0.tail
      clear sT0 sT1
      go_wp2
      exact bodyPost_ret (v := .agg #[.int .i64 0, .int .i64 0, .int .i64 0, .int .i64 0]) (by simp [results, Try.results19, go_sem, *]) rfl ⟨by rw [atS_none (fun i a ha => hn.out i a (List.getElem?_eq_some_iff.1 ha).1 ha)]; rfl, (hs.out.s0 _ _ _ _).b⟩
end Go.Proofs.Ytkdclihnmocepaa.Mmu
