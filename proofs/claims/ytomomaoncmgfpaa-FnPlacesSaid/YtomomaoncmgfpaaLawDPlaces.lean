/- The law FnPlaces. -/
import Derived.Test.YtomomaoncmgfpaaDraw4
import Derived.Test.YtomomaoncmgfpaaImplPWalk
import Derived.Test.YtomomaoncmgfpaaPlacesLaw
import Derived.Test.YtomomaoncmgfpaaImplPlaces
import Derived.Test.YtomomaoncmgfpaaBig
namespace Go.Proofs.Ytomomaoncmgfpaa.Draw
open Go.RowKit Go.Proofs.Ytomomaoncmgfpaa.Base Go.Proofs.Ytomomaoncmgfpaa.Kinds Go.Proofs.Ytomomaoncmgfpaa.DecMath Go.Proofs.Ytomomaoncmgfpaa.L1 Go.Proofs.Ytomomaoncmgfpaa.Mmu
set_option linter.unusedVariables false
set_option linter.unusedSimpArgs false

set_option maxRecDepth 100000 in
set_option maxHeartbeats 8000000 in
theorem has_any (v : Value) (ps : List SPlace) (f l p : Int) (w : World) (r : Rd SPlace.enc 3 w v ps) :
    Calls Try.prog 8 #[v, .int .i64 f, .int .i64 l, .int .i64 p] w fun e w' => e = .returned (.bool (decide ((⟨f, l, p⟩ : SPlace) ∈ ps))) ∧ Below w.heap.size w w' := by
  obtain ⟨A, c, rfl, hc1, hc2⟩ := r.shape
  have R := Lib.hid r
  clear r
  go_enter Try.func8, Try.ntmps8
  go_wp2
  go_loopw [9] (fun i wr => ∃ k : Nat, k ≤ ps.length ∧ i = .int .i64 k ∧ Hid (∀ (j : Nat) q, j < k → ps[j]? = some q → q ≠ ⟨f, l, p⟩) ∧ wr = w) (fun i _ => ps.length - (intOf i).toNat)
  case atStart => exact ⟨0, Nat.zero_le _, rfl, Lib.hid (fun j q hj => by omega), rfl⟩
  case round =>
    obtain ⟨k, hk, rfl, hall, rfl⟩ := hrel
    by_cases hlt : k < ps.length
    · have hlt' : (k : Int) < (ps.length : Int) := by omega
      obtain ⟨ad, ⟨qf, ql, qp⟩, rfl, hx, q0, q1, q2⟩ := SPlace.at R.out hlt
      dsimp only at q0 q1 q2
      have HX := Lib.hid hx
      clear hx
      go_wp2
      all_goals
        first
          | (go_ret
             refine ⟨ret_bool ?_, Below.refl _ _⟩
             rw [eq_comm, decide_eq_true_iff]
             have hm := List.mem_of_getElem? HX.out
             simp_all; done)
          | (go_roundw
             case rel =>
               refine ⟨k + 1, by omega, by go_num, Lib.hid (fun j q hj hq => ?_), by first | rfl | trivial⟩
               rcases Nat.lt_or_ge j k with g | g
               · exact hall.out j q g hq
               · obtain rfl : j = k := by omega
                 obtain rfl := Option.some.inj (HX.out.symm.trans hq)
                 intro e
                 simp only [SPlace.mk.injEq] at e
                 simp_all
             case measure => simp [intOf]; omega)
    · obtain rfl : k = ps.length := by omega
      go_wp2
      go_ret
      refine ⟨ret_bool ?_, Below.refl _ _⟩
      rw [eq_comm, decide_eq_false_iff_not]
      intro hm
      obtain ⟨j, hj⟩ := List.getElem?_of_mem hm
      exact hall.out j _ (List.getElem?_eq_some_iff.1 hj).1 hj rfl
theorem has_t (v : Value) (ps : List SPlace) (f l p : Int) (hm : (⟨f, l, p⟩ : SPlace) ∈ ps) (w : World) (r : Rd SPlace.enc 3 w v ps) :
    Calls Try.prog 8 #[v, .int .i64 f, .int .i64 l, .int .i64 p] w fun e w' => e = .returned (.bool true) ∧ Below w.heap.size w w' := by
  have := has_any v ps f l p w r
  rw [decide_eq_true hm] at this; exact this
theorem specDec_d (l x a b c : Int) (hd : dec l x = (a, b, c)) (w : World) (hx : 0 ≤ x ∧ x < 18446744073709551616) :
    Calls Try.prog 10 #[.int .i64 l, .int .u64 x] w fun e w' => e = .returned (.agg #[.int .i64 a, .int .i64 b, .int .i64 c]) ∧ Below w.heap.size w w' := by
  have := specDecode_any l x w hx.1 hx.2
  rw [hd] at this; exact this
theorem box3_gen {wB w : World} (h : Below wB.heap.size wB w) (a b c : Value) (T : TypeId) {G : World → Prop} (k : ∀ w', Below wB.heap.size wB w' → w'.cell? ⟨w.heap.size, 0, none⟩ = some a → w'.cell? ⟨w.heap.size, 1, none⟩ = some b → G w') : G (w.alloc (.cells #[a, b, c] T)) := by
  have e := heap_alloc_new w (.cells #[a, b, c] T)
  exact k _ (allocB h _) (by simp only [World.cell?, e]; rfl) (by simp only [World.cell?, e]; rfl)
theorem field_val {P : Program} {ops : Array Oper} {rest : List Oper} {o : Oper} {a : Act} {w : World} {Q : Exit → Act → World → Prop} (hgd : o.guard = none) (t : TypeId) (x : Operand) (i : Nat) (ho : o.op = .field t x i) (u v : Value) (hu : a.eval x = u) (h : ∀ w, (Instr.field t u i).run P w = .ok v w)
    (k : wpList P ops Q rest (a.put o.dst v) w) : wpList P ops Q (o :: rest) a w := by
  refine wpList_val hgd v ?_ k
  unfold execOp
  simp only [ho, hu, Sem.run_bind, Sem.run_pure, h w, Result.andThen_ok]
theorem hitKind (a b c d : Int) (w : World) : (Instr.field 32 (.agg #[.int .i64 a, .int .i64 b, .int .i64 c, .int .i64 d]) 0).run Try.prog w = .ok (.int .i64 a) w := by kernel_rfl
noncomputable def clB (ws : List Int) (g : Nat) : Bool := @decide (cleanTo ws g) (Classical.propDecidable _)
theorem clB_bad {ws : List Int} {g : Nat} (h : (walkAt ws ((ws.length / 16 : Nat) : Int) (g : Int) 3 1 0).1 = 3) : clB ws (g + 1) = false := @decide_eq_false _ (Classical.propDecidable _) (fun hc => hc g (by omega) h)
theorem clB_ok {ws : List Int} {g : Nat} (h : (walkAt ws ((ws.length / 16 : Nat) : Int) (g : Int) 3 1 0).1 ≠ 3) : clB ws (g + 1) = clB ws g := by
  unfold clB
  rw [decide_eq_decide]
  constructor
  · intro hc p hp; exact hc p (by omega)
  · intro hc p hp
    by_cases e : p = g
    · subst e; exact h
    · exact hc p (by omega)
theorem clB_zero (ws : List Int) : clB ws 0 = true := @decide_eq_true _ (Classical.propDecidable _) (fun p hp => by omega)
noncomputable def frB (ws : List Int) (ps : List SPlace) (i : Nat) : Bool := @decide (cleanTo ws 4096 ∧ freshTo ps i) (Classical.propDecidable _)
theorem frB_zero (ws : List Int) (ps : List SPlace) : frB ws ps 0 = clB ws 4096 := by
  unfold frB clB
  rw [decide_eq_decide]
  exact ⟨fun h => h.1, fun h => ⟨h, fun a ha => by omega⟩⟩
noncomputable def frB3 (ws : List Int) (ps : List SPlace) (i j : Nat) (p : SPlace) : Bool := @decide (cleanTo ws 4096 ∧ freshTo ps i ∧ freshP ps i j p) (Classical.propDecidable _)
theorem frB3_zero (ws : List Int) (ps : List SPlace) (i : Nat) (p : SPlace) : frB3 ws ps i 0 p = frB ws ps i := by
  unfold frB3 frB
  rw [decide_eq_decide]
  exact ⟨fun h => ⟨h.1, h.2.1⟩, fun h => ⟨h.1, h.2, fun j hj => by omega⟩⟩
theorem frB3_end {ws : List Int} {ps : List SPlace} {i : Nat} {p : SPlace} (hp : ps[i]? = some p) : frB3 ws ps i i p = frB ws ps (i + 1) := by
  unfold frB3 frB
  rw [decide_eq_decide]
  constructor
  · rintro ⟨h1, h2, h3⟩
    refine ⟨h1, fun a ha q hq => ?_⟩
    by_cases e : a = i
    · subst e
      obtain rfl := Option.some.inj (hp.symm.trans hq)
      exact h3
    · exact h2 a (by omega) q hq
  · rintro ⟨h1, h2⟩
    exact ⟨h1, fun a ha q hq => h2 a (by omega) q hq, h2 i (by omega) p hp⟩
theorem frB3_bad {ws : List Int} {ps : List SPlace} {i j : Nat} {p q : SPlace} (hq : ps[j]? = some q) (h : p.Frame = q.Frame) : frB3 ws ps i (j + 1) p = false := @decide_eq_false _ (Classical.propDecidable _) (fun hc => hc.2.2 j (by omega) q hq h.symm)
theorem frB3_ok {ws : List Int} {ps : List SPlace} {i j : Nat} {p q : SPlace} (hq : ps[j]? = some q) (h : ¬ p.Frame = q.Frame) : frB3 ws ps i (j + 1) p = frB3 ws ps i j p := by
  unfold frB3
  rw [decide_eq_decide]
  constructor
  · rintro ⟨h1, h2, h3⟩; exact ⟨h1, h2, fun a ha => h3 a (by omega)⟩
  · rintro ⟨h1, h2, h3⟩
    refine ⟨h1, h2, fun a ha r hr => ?_⟩
    by_cases e : a = j
    · subst e
      obtain rfl := Option.some.inj (hq.symm.trans hr)
      exact fun e => h e.symm
    · exact h3 a (by omega) r hr
theorem tree_eq (ws : List Int) : treeP ws (rootP ws) = frB ws (rootP ws) (rootP ws).length := by
  unfold treeP frB
  rw [decide_eq_decide]
  exact tree_clean ws

set_option maxRecDepth 100000 in
set_option maxHeartbeats 16000000 in
theorem lawDPlaces (v : Value) (c : List Int) (w : World) (r : Rd bEnc 1 w v c) (hb : Bytes c) :
    Calls Try.prog 3 #[v] w fun e w' => e = .returned (.bool true) ∧ Below w.heap.size w w' := by
  obtain ⟨A, cp, rfl, hc1, hc2⟩ := r.shape
  have R := Lib.hid r
  have HB := Lib.hid hb
  clear r hb
  by_cases hL : 1048576 < c.length
  · have hL' : decide ((1048576 : Int) < (c.length : Int)) = true := by simp; omega
    have hL2 : (1048576 : Int) < (c.length : Int) := by omega
    go_enter Try.func3, Try.ntmps3
    go_wp2
    go_ret
    exact ⟨rfl, Below.refl _ _⟩
  have hL' : ¬ (1048576 : Int) < (c.length : Int) := by omega
  have hL2 : c.length ≤ 1048576 := by omega
  obtain ⟨ws, hws⟩ : ∃ ws, placesW c = ws := ⟨_, rfl⟩
  have hrange : ∀ x ∈ ws, 0 ≤ x ∧ x < 18446744073709551616 := by rw [← hws]; exact placesW_range HB.out
  have HR := Lib.hid hrange
  have HWS := Lib.hid hws
  obtain ⟨⟨ps, tb⟩, hps⟩ : ∃ q, placesS ws = q := ⟨_, rfl⟩
  have HPS := Lib.hid hps
  clear hws hrange hps hL
  go_enter Try.func3, Try.ntmps3
  go_upto_region 4 with (go_at_call 5; refine (drawPlaces_any _ c _ R.out HB.out hL2).mono ?_; rw [HWS.out]; rintro e w2 ⟨v2, rfl, o2, hb2⟩; obtain ⟨A2, c2, hv2⟩ := o2.shape; subst hv2; have HO2 := Lib.hid o2; have HB2 := Lib.hid hb2; clear hb2 o2)
  refine world_gen (fun w' => St w [(w2.heap.size, #[.slice A2 ws.length c2], 25)] w' ∧ Own wEnc 1 37 w.heap.size w' (.slice A2 ws.length c2) ws) ⟨((St.start w).below HB2.out).push _ _, HO2.out.alloc _⟩ (fun w3 h3 => ?_)
  have HS3 := Lib.hid h3.1
  have HO3 := Lib.hid h3.2
  have hz3 : w2.heap.size < w3.heap.size := h3.1.lt _ (List.mem_cons_self ..)
  clear h3 HB2 HO2
  go_upto_region 5 with (go_at_call 5; refine (drawPlaces_any _ c _ (R.out.below HS3.out.b) HB.out hL2).mono ?_; rw [HWS.out]; rintro e w4 ⟨v4, rfl, o4, hb4⟩; obtain ⟨A4, c4, hv4⟩ := o4.shape; subst hv4; have HO4 := Lib.hid (o4.lower HS3.out.b.size); have HS4 := Lib.hid (HS3.out.below hb4); have HO34 := Lib.hid (HO3.out.below hb4); clear hb4 o4)
  obtain ⟨b3, hb3⟩ : ∃ b, w2.heap.size = b := ⟨_, rfl⟩
  rw [hb3] at HS4 ⊢
  clear hb3 hz3 HS3 HO3
  refine world_gen (fun w' => St w [(w4.heap.size, #[.slice A4 ws.length c4], 25), (b3, #[.slice A2 ws.length c2], 25)] w' ∧ Own wEnc 1 37 w.heap.size w' (.slice A2 ws.length c2) ws ∧ Own wEnc 1 37 w.heap.size w' (.slice A4 ws.length c4) ws) ⟨HS4.out.push _ _, HO34.out.alloc _, HO4.out.alloc _⟩ (fun w5 h5 => ?_)
  have HS5 := Lib.hid h5.1
  have HO25 := Lib.hid h5.2.1
  have HO45 := Lib.hid h5.2.2
  obtain ⟨b4, hb4⟩ : ∃ b, w4.heap.size = b := ⟨_, rfl⟩
  rw [hb4] at HS5 ⊢
  clear h5 HS4 HO34 HO4 hb4
  have sT0 := HS5.out
  have z0_0 := sT0.c1
  have sT1 := sT0.tail
  have z1_0 := sT1.c1
  have sT2 := sT1.tail
  clear sT0 sT1 sT2
  go_upto_region 6 with (go_at_call 6; refine (specPlaces_any _ ws _ (HO45.out.rd wLen) HR.out).mono ?_; rw [HPS.out]; rintro e w6 ⟨v6, rfl, o6, hb6⟩; obtain ⟨A6, c6, hv6⟩ := o6.shape; subst hv6; have HS6 := Lib.hid (HS5.out.below hb6); have HO26 := Lib.hid (HO25.out.below hb6); have HO46 := Lib.hid (HO45.out.below hb6); clear hb6 o6)
  clear z0_0 z1_0
  have sT0 := HS6.out
  have z0_0 := sT0.c1
  have sT1 := sT0.tail
  have z1_0 := sT1.c1
  have sT2 := sT1.tail
  clear sT0 sT1 sT2
  go_upto_region 7 with (go_at_call 7; refine (implPlacesF_any _ ws _ (HO26.out.rd wLen) HR.out).mono ?_; rw [HPS.out]; rintro e w7 ⟨v7, rfl, o7, hb7⟩; obtain ⟨A7, c7, hv7⟩ := o7.shape; subst hv7; have HS7 := Lib.hid (HS6.out.below hb7); have HO27 := Lib.hid (HO26.out.below hb7); have HO47 := Lib.hid (HO46.out.below hb7); have HP7 : Hid (Rd SPlace.enc 3 w7 (.slice A7 ps.length c7) ps) := Lib.hid (o7.rd SPlace.len); clear hb7 o7)
  clear z0_0 z1_0
  clear HS5 HO25 HO45 HS6 HO26 HO46
  by_cases hok : okLen ws
  rotate_left
  · have hq := HPS.out
    unfold placesS at hq
    rw [if_neg hok] at hq
    simp only [Prod.mk.injEq] at hq
    obtain ⟨rfl, rfl⟩ := hq
    go_wp2
    go_ret
    exact ⟨rfl, HS7.out.b⟩
  have hq := HPS.out
  unfold placesS at hq
  rw [if_pos hok] at hq
  simp only [Prod.mk.injEq] at hq
  obtain ⟨hq1, hq2⟩ := hq
  have hq1' : rootP ws = ps := hq1
  have HTB : Hid (tb = frB ws ps ps.length) := Lib.hid (by rw [← hq2, ← hq1']; exact tree_eq ws)
  have HRT := Lib.hid hq1'
  have hpl : 0 < ps.length := by rw [← hq1']; simp [rootP, placesP]
  have hpl3 : ps.length ≤ 1000 := by rw [← hq1']; exact Nat.le_trans (placesP_len ws 2 _) (Nat.le_trans (maxP_le (by omega)) (by omega))
  have HW : Hid (WfW ws) := Lib.hid ⟨HR.out, hok⟩
  have HCE : Hid ((ps.length : Int) = 1 + ((sumTo (cAt ws) 4096 : Nat) : Int)) := Lib.hid (by rw [← hq1', count_eq]; omega)
  have hpl0 : ((ps.length : Int) == 0) = false := by simp; intro h; rw [h] at hpl; simp at hpl
  have hpl1 : ¬ (ps.length : Int) = 0 := by omega
  obtain ⟨n, hn⟩ : ∃ n, ws.length / 16 = n := ⟨_, rfl⟩
  obtain ⟨L, hLe⟩ : ∃ L, ws.length = L := ⟨_, rfl⟩
  have hL16 : L = 16 * n ∧ 1 ≤ n ∧ n ≤ 512 := by unfold okLen at hok; omega
  obtain ⟨g4, hA4, _⟩ := Own.block wLen HO47.out (by omega)
  subst hA4
  have en1 : Int.tdiv (ws.length : Int) 16 = (n : Int) := by rw [Int.tdiv_eq_ediv_of_nonneg (by omega)]; omega
  have en2 : (ws.length : Int) / 16 = (n : Int) := by omega
  have en3 : IntKind.i64.wrap (n : Int) = (n : Int) := by rw [IntKind.wrap_i64]; omega
  have HN : Hid (ws.length / 16 = n) := Lib.hid hn
  have HLE := Lib.hid hLe
  have HL16 := Lib.hid hL16
  clear hq1 hq2 hq1' hn hLe hL16 hok
  have sT0 := HS7.out
  have z0_0 := sT0.c1
  have sT1 := sT0.tail
  have z1_0 := sT1.c1
  have sT2 := sT1.tail
  clear sT0 sT1 sT2
  go_upto_region 14 with (go_at_call 8; refine (has_t _ ps 0 1 0 (by rw [← HRT.out]; exact root_mem ws) _ HP7.out).mono ?_; rintro e w8 ⟨rfl, hb8⟩; have HS8 := Lib.hid (HS7.out.below hb8); have HO28 := Lib.hid (HO27.out.below hb8); have HO48 := Lib.hid (HO47.out.below hb8); have HP8 := Lib.hid (HP7.out.below hb8); clear hb8)
  clear z0_0 z1_0
  clear HS7 HO27 HO47 HP7
  go_wp2
  go_loopw [10, 11, 12] (fun vc vn vg wr => ∃ (g : Nat) (cb : Bool) (k : Nat), g ≤ 4096 ∧ vc = .bool cb ∧ vn = .int .i64 (k : Int) ∧ vg = .int .i64 (g : Int) ∧ Hid (cb = clB ws g) ∧ Hid (k = 1 + sumTo (cAt ws) g) ∧ k ≤ 1 + 2 * g ∧ Hid (Below w8.heap.size w8 wr)) (fun _ _ g _ => 4096 - (intOf g).toNat)
  case atStart => exact ⟨0, true, 1, Nat.zero_le _, rfl, rfl, rfl, Lib.hid (clB_zero ws).symm, Lib.hid rfl, by omega, Lib.hid (Below.refl _ _)⟩
  case round =>
    obtain ⟨g, cb, k, hg, rfl, rfl, rfl, HCB, HK, hkb, HBr⟩ := hrel
    by_cases hlt : g < 4096
    · have hlt' : (g : Int) < 4096 := by omega
      have HSr := Lib.hid (HS8.out.below HBr.out)
      obtain ⟨q1, q2, q3, q4, hq⟩ : ∃ a b c d, walkAt ws ((ws.length / 16 : Nat) : Int) (g : Int) 3 1 0 = (a, b, c, d) := ⟨_, _, _, _, rfl⟩
      have HQ := Lib.hid hq
      have e16 : Int.tmod (g : Int) 16 = ((g % 16 : Nat) : Int) := by rw [Int.tmod_eq_emod_of_nonneg (by omega)]; simp
      have e256 : Int.tmod (g : Int) 256 = ((g % 256 : Nat) : Int) := by rw [Int.tmod_eq_emod_of_nonneg (by omega)]; simp
      have d256 : IntKind.i64.wrap (Int.tdiv (g : Int) 256) = ((g / 256 : Nat) : Int) := by rw [IntKind.wrap_i64, Int.tdiv_eq_ediv_of_nonneg (by omega)]; omega
      have d16 : IntKind.i64.wrap (Int.tdiv (g : Int) 16) = ((g / 16 : Nat) : Int) := by rw [IntKind.wrap_i64, Int.tdiv_eq_ediv_of_nonneg (by omega)]; omega
      have d16m : Int.tmod ((g / 16 : Nat) : Int) 16 = ((g / 16 % 16 : Nat) : Int) := by rw [Int.tmod_eq_emod_of_nonneg (by omega)]; simp
      have ek : IntKind.i64.wrap ((k : Int) + 1) = ((k + 1 : Nat) : Int) := by rw [IntKind.wrap_i64]; omega
      have ek2 : IntKind.i64.wrap ((k : Int) + 1 + 1) = ((k + 1 + 1 : Nat) : Int) := by rw [IntKind.wrap_i64]; omega
      clear hq
      have sT0 := HSr.out
      have z0_0 := sT0.c1
      have sT1 := sT0.tail
      have z1_0 := sT1.c1
      have sT2 := sT1.tail
      clear sT0 sT1 sT2
      by_cases hbad : q1 = 3
      · have hb1 : (q1 == 3) = true := by simpa using hbad
        have HC1 : Hid (false = clB ws (g + 1)) := Lib.hid (by have h := (clB_bad (by rw [HQ.out]; exact hbad) : clB ws (g + 1) = _); rw [h])
        clear hbad
        go_upto_region 19 with (first | (refine field_val rfl 32 _ 0 rfl (.agg #[.int .i64 q1, .int .i64 q2, .int .i64 q3, .int .i64 q4]) (.int .i64 q1) (by simp [Act.eval]) (hitKind q1 q2 q3 q4) ?_; (try simp only [Act.put, List.setIfInBounds_toArray, List.set_cons_zero, List.set_cons_succ])) | (go_at_call 9; refine (implWalk1_any (.slice A2 ws.length c2) ws (g : Int) _ ((HO28.out.below HBr.out).rd wLen) HW.out ⟨by omega, by omega⟩).mono ?_; rw [HQ.out]; unfold hitV; rintro e w9 ⟨rfl, hb9⟩; have HB9 := Lib.hid (thenB HBr.out hb9); clear hb9))
        clear z0_0 z1_0
        have HS9 := Lib.hid (HS8.out.below HB9.out)
        have sT0 := HS9.out
        have z0_0 := sT0.c1
        have sT1 := sT0.tail
        have z1_0 := sT1.c1
        have sT2 := sT1.tail
        clear sT0 sT1 sT2
        by_cases hg16 : g % 16 = 0
        rotate_left
        · have hg16' : (((g % 16 : Nat) : Int) == 0) = false := by simp; omega
          have hg16'' : (g % 16 == 0) = false := by simpa using hg16
          have hg16d : ¬ (g : Int) % 16 = 0 := by omega
          have HCA : Hid (cAt ws g = 0) := Lib.hid (by unfold cAt; rw [if_neg (fun h => hg16 h.1)])
          go_wp2
          go_roundw
          case rel => exact ⟨g + 1, false, k, by omega, rfl, rfl, by go_num, HC1, Lib.hid (by simp only [sumTo]; rw [HCA.out]; exact HK.out), by omega, HB9⟩
          case measure => simp [intOf]; omega
        have hg16' : (((g % 16 : Nat) : Int) == 0) = true := by simp; omega
        have hg16'' : (g % 16 == 0) = true := by simpa using hg16
        have hi1b : g / 256 < ws.length := by have := HL16.out; have := HLE.out; omega
        have hi1c : ((g / 256 : Nat) : Int) < (ws.length : Int) := by omega
        have hi1d : (g : Int) / 256 < (ws.length : Int) := by omega
        obtain ⟨cw1, _⟩ := ownWd (HO48.out.below HB9.out) hi1b
        obtain ⟨y1, hy1⟩ : ∃ y, ws.getD (g / 256) 0 = y := ⟨_, rfl⟩
        have hyb1 := getD_mem HR.out hi1b
        rw [hy1] at cw1 hyb1
        have HX1 : Hid (x1 ws g = y1) := Lib.hid (by unfold x1 wordP; rw [show (0 * 16 + ((g / 256 : Nat) : Int)).toNat = g / 256 by omega]; exact hy1)
        obtain ⟨k1, o1v, p1, hd1⟩ : ∃ a b c, dec 1 y1 = (a, b, c) := ⟨_, _, _, rfl⟩
        have ho1b := dec_out 1 y1
        rw [hd1] at ho1b
        simp only at ho1b
        have HD1 := Lib.hid hd1
        have HO1 : Hid (o1 ws g = o1v) := Lib.hid (by unfold o1; rw [HX1.out, hd1])
        have HT1 : Hid (t1 ws g ↔ k1 = 1 ∧ o1v < (n : Int)) := Lib.hid (by unfold t1 tabP; rw [HX1.out, hd1, HN.out])
        clear hy1 hd1
        go_upto_region 21 with (go_at_call 10; refine (specDec_d 1 y1 k1 o1v p1 HD1.out _ hyb1).mono ?_; rintro e w10 ⟨rfl, hb10⟩; have HB10 := Lib.hid (thenB HB9.out hb10); clear hb10)
        clear z0_0 z1_0
        refine box3_gen HB10.out _ _ _ _ (fun w11 h11a c11a c11b => ?_)
        have HB11 := Lib.hid h11a
        clear h11a cw1
        obtain ⟨b13, hb13⟩ : ∃ b, w10.heap.size = b := ⟨_, rfl⟩
        rw [hb13] at c11a c11b ⊢
        clear hb13
        by_cases ht1 : k1 = 1 ∧ o1v < (n : Int)
        rotate_left
        · have HCA : Hid (cAt ws g = 0) := Lib.hid (by unfold cAt; rw [if_neg (fun h => ht1 (HT1.out.1 h.2))])
          obtain ⟨ba, hba⟩ : ∃ b, (k1 == 1) = b := ⟨_, rfl⟩
          obtain ⟨bb, hbb⟩ : ∃ b, decide (o1v < (n : Int)) = b := ⟨_, rfl⟩
          have hno : (ba && bb) = false := by rw [Bool.and_eq_false_iff]; exact (Classical.em (k1 = 1)).elim (fun e1 => Or.inr (by rw [← hbb]; exact decide_eq_false (fun h => ht1 ⟨e1, h⟩))) (fun e1 => Or.inl (by rw [← hba]; simpa using e1))
          clear ht1
          cases ba <;> cases bb <;> try (simp at hno; done)
          all_goals
            go_wp2
            go_roundw
            case rel => exact ⟨g + 1, false, k, by omega, rfl, rfl, by go_num, HC1, Lib.hid (by simp only [sumTo]; rw [HCA.out]; exact HK.out), by omega, HB11⟩
            case measure => simp [intOf]; omega
        obtain ⟨hk1, ho1n⟩ := ht1
        subst hk1
        have HT1' : Hid (t1 ws g) := Lib.hid (HT1.out.2 ⟨rfl, ho1n⟩)
        have ho1d : decide (o1v < (n : Int)) = true := decide_eq_true ho1n
        obtain ⟨i2, hi2⟩ : ∃ i : Nat, o1v * 16 + ((g / 16 % 16 : Nat) : Int) = (i : Int) := ⟨(o1v * 16 + ((g / 16 % 16 : Nat) : Int)).toNat, by omega⟩
        have hi2b : i2 < ws.length := by have := HL16.out; have := HLE.out; omega
        have hi2c : (i2 : Int) < (ws.length : Int) := by omega
        have ew1 : IntKind.i64.wrap (o1v * 16) = o1v * 16 := by rw [IntKind.wrap_i64]; omega
        have ew2 : IntKind.i64.wrap (o1v * 16 + ((g / 16 % 16 : Nat) : Int)) = (i2 : Int) := by rw [IntKind.wrap_i64]; omega
        have ew3 : IntKind.i64.wrap (o1v * 16 + (g : Int) / 16 % 16) = (i2 : Int) := by rw [IntKind.wrap_i64]; omega
        obtain ⟨y2, hy2⟩ : ∃ y, ws.getD i2 0 = y := ⟨_, rfl⟩
        have hyb2 := getD_mem HR.out hi2b
        rw [hy2] at hyb2
        have HX2 : Hid (x2 ws g = y2) := Lib.hid (by unfold x2 wordP; rw [HO1.out, hi2, Int.toNat_natCast]; exact hy2)
        obtain ⟨k2, o2v, p2, hd2⟩ : ∃ a b c, dec 2 y2 = (a, b, c) := ⟨_, _, _, rfl⟩
        have HD2 := Lib.hid hd2
        have HO2' : Hid (o2 ws g = o2v) := Lib.hid (by unfold o2; rw [HX2.out, hd2])
        have HT2 : Hid (t2 ws g ↔ k2 = 1 ∧ o2v < (n : Int)) := Lib.hid (by unfold t2 tabP; rw [HX2.out, hd2, HN.out])
        have HY2 := Lib.hid hy2
        clear hi2 hy2 hd2 ho1b
        by_cases hg256 : g % 256 = 0
        · have hg256' : (((g % 256 : Nat) : Int) == 0) = true := by simp; omega
          have hg256'' : (g % 256 == 0) = true := by simpa using hg256
          have HG256 : Hid (g % 256 = 0) := Lib.hid hg256
          go_upto_region 26 with (go_at_call 8; refine (has_t _ ps o1v 2 (g : Int) (by rw [← HRT.out, ← HO1.out]; exact has2 ws g hlt HG256.out HT1'.out) _ (HP8.out.below HB11.out)).mono ?_; rintro e w12 ⟨rfl, hb12⟩; have HB12 := Lib.hid (thenB HB11.out hb12); have cb2 := bC hb12 c11b; clear hb12)
          clear c11a c11b hg256
          have HS12 := Lib.hid (HS8.out.below HB12.out)
          have sT0 := HS12.out
          have z0_0 := sT0.c1
          have sT1 := sT0.tail
          have z1_0 := sT1.c1
          have sT2 := sT1.tail
          clear sT0 sT1 sT2
          obtain ⟨cw2, _⟩ := ownWd (HO48.out.below HB12.out) hi2b
          rw [HY2.out] at cw2
          go_upto_region 27 with (go_at_call 10; refine (specDec_d 2 y2 k2 o2v p2 HD2.out _ hyb2).mono ?_; rintro e w13 ⟨rfl, hb13⟩; have HB13 := Lib.hid (thenB HB12.out hb13); clear hb13)
          clear z0_0 z1_0
          refine box3_gen HB13.out _ _ _ _ (fun w14 h14a c14a c14b => ?_)
          have HB14 := Lib.hid h14a
          clear h14a cw2 cb2
          obtain ⟨b14, hb14⟩ : ∃ b, w13.heap.size = b := ⟨_, rfl⟩
          rw [hb14] at c14a c14b ⊢
          clear hb14
          by_cases ht2 : k2 = 1 ∧ o2v < (n : Int)
          · obtain ⟨hk2, ho2n⟩ := ht2
            subst hk2
            have HT2' : Hid (t2 ws g) := Lib.hid (HT2.out.2 ⟨rfl, ho2n⟩)
            have ho2d : decide (o2v < (n : Int)) = true := decide_eq_true ho2n
            have HCA : Hid (cAt ws g = 2) := Lib.hid (by unfold cAt; rw [if_pos ⟨hg16, HT1'.out⟩, if_pos HG256.out, if_pos HT2'.out])
            go_wp2_with (go_at_call 8; refine (has_t _ ps o2v 3 (g : Int) (by rw [← HRT.out, ← HO2'.out]; exact has3 ws g hlt hg16 HT1'.out HT2'.out) _ (HP8.out.below HB14.out)).mono ?_; rintro e w15 ⟨rfl, hb15⟩; have HB15 := Lib.hid (thenB HB14.out hb15); clear hb15)
            go_roundw
            case rel => exact ⟨g + 1, false, k + 1 + 1, by omega, rfl, by first | rfl | (simp; done) | (simp; omega), by go_num, HC1, Lib.hid (by simp only [sumTo]; rw [HCA.out]; have := HK.out; omega), by omega, HB15⟩
            case measure => simp [intOf]; omega
          · have HCA : Hid (cAt ws g = 1) := Lib.hid (by unfold cAt; rw [if_pos ⟨hg16, HT1'.out⟩, if_pos HG256.out, if_neg (fun h => ht2 (HT2.out.1 h))])
            obtain ⟨ba, hba⟩ : ∃ b, (k2 == 1) = b := ⟨_, rfl⟩
            obtain ⟨bb, hbb⟩ : ∃ b, decide (o2v < (n : Int)) = b := ⟨_, rfl⟩
            have hno : (ba && bb) = false := by rw [Bool.and_eq_false_iff]; exact (Classical.em (k2 = 1)).elim (fun e1 => Or.inr (by rw [← hbb]; exact decide_eq_false (fun h => ht2 ⟨e1, h⟩))) (fun e1 => Or.inl (by rw [← hba]; simpa using e1))
            clear ht2
            cases ba <;> cases bb <;> try (simp at hno; done)
            all_goals
              go_wp2
              go_roundw
              case rel => exact ⟨g + 1, false, k + 1, by omega, rfl, by first | rfl | (simp; done) | (simp; omega), by go_num, HC1, Lib.hid (by simp only [sumTo]; rw [HCA.out]; have := HK.out; omega), by omega, HB14⟩
              case measure => simp [intOf]; omega
        · have hg256' : (((g % 256 : Nat) : Int) == 0) = false := by simp; omega
          have hg256'' : (g % 256 == 0) = false := by simpa using hg256
          have HG256 : Hid (¬ g % 256 = 0) := Lib.hid hg256
          have hg256d : ¬ (g : Int) % 256 = 0 := by omega
          go_upto_region 26 with fail
          have HB12 := HB11
          have cb2 := c11b
          clear c11a c11b hg256
          have HS12 := Lib.hid (HS8.out.below HB12.out)
          have sT0 := HS12.out
          have z0_0 := sT0.c1
          have sT1 := sT0.tail
          have z1_0 := sT1.c1
          have sT2 := sT1.tail
          clear sT0 sT1 sT2
          obtain ⟨cw2, _⟩ := ownWd (HO48.out.below HB12.out) hi2b
          rw [HY2.out] at cw2
          go_upto_region 27 with (go_at_call 10; refine (specDec_d 2 y2 k2 o2v p2 HD2.out _ hyb2).mono ?_; rintro e w13 ⟨rfl, hb13⟩; have HB13 := Lib.hid (thenB HB12.out hb13); clear hb13)
          clear z0_0 z1_0
          refine box3_gen HB13.out _ _ _ _ (fun w14 h14a c14a c14b => ?_)
          have HB14 := Lib.hid h14a
          clear h14a cw2 cb2
          obtain ⟨b14, hb14⟩ : ∃ b, w13.heap.size = b := ⟨_, rfl⟩
          rw [hb14] at c14a c14b ⊢
          clear hb14
          by_cases ht2 : k2 = 1 ∧ o2v < (n : Int)
          · obtain ⟨hk2, ho2n⟩ := ht2
            subst hk2
            have HT2' : Hid (t2 ws g) := Lib.hid (HT2.out.2 ⟨rfl, ho2n⟩)
            have ho2d : decide (o2v < (n : Int)) = true := decide_eq_true ho2n
            have HCA : Hid (cAt ws g = 1) := Lib.hid (by unfold cAt; rw [if_pos ⟨hg16, HT1'.out⟩, if_neg HG256.out, if_pos HT2'.out])
            go_wp2_with (go_at_call 8; refine (has_t _ ps o2v 3 (g : Int) (by rw [← HRT.out, ← HO2'.out]; exact has3 ws g hlt hg16 HT1'.out HT2'.out) _ (HP8.out.below HB14.out)).mono ?_; rintro e w15 ⟨rfl, hb15⟩; have HB15 := Lib.hid (thenB HB14.out hb15); clear hb15)
            go_roundw
            case rel => exact ⟨g + 1, false, k + 1, by omega, rfl, by first | rfl | (simp; done) | (simp; omega), by go_num, HC1, Lib.hid (by simp only [sumTo]; rw [HCA.out]; have := HK.out; omega), by omega, HB15⟩
            case measure => simp [intOf]; omega
          · have HCA : Hid (cAt ws g = 0) := Lib.hid (by unfold cAt; rw [if_pos ⟨hg16, HT1'.out⟩, if_neg HG256.out, if_neg (fun h => ht2 (HT2.out.1 h))])
            obtain ⟨ba, hba⟩ : ∃ b, (k2 == 1) = b := ⟨_, rfl⟩
            obtain ⟨bb, hbb⟩ : ∃ b, decide (o2v < (n : Int)) = b := ⟨_, rfl⟩
            have hno : (ba && bb) = false := by rw [Bool.and_eq_false_iff]; exact (Classical.em (k2 = 1)).elim (fun e1 => Or.inr (by rw [← hbb]; exact decide_eq_false (fun h => ht2 ⟨e1, h⟩))) (fun e1 => Or.inl (by rw [← hba]; simpa using e1))
            clear ht2
            cases ba <;> cases bb <;> try (simp at hno; done)
            all_goals
              go_wp2
              go_roundw
              case rel => exact ⟨g + 1, false, k, by omega, rfl, by first | rfl | (simp; done) | (simp; omega), by go_num, HC1, Lib.hid (by simp only [sumTo]; rw [HCA.out]; have := HK.out; omega), by omega, HB14⟩
              case measure => simp [intOf]; omega
      · have hb1 : (q1 == 3) = false := by simpa using hbad
        have HC1 : Hid (cb = clB ws (g + 1)) := Lib.hid (by have h := (clB_ok (by rw [HQ.out]; exact hbad) : clB ws (g + 1) = _); rw [h]; exact HCB.out)
        clear hbad
        go_upto_region 19 with (first | (refine field_val rfl 32 _ 0 rfl (.agg #[.int .i64 q1, .int .i64 q2, .int .i64 q3, .int .i64 q4]) (.int .i64 q1) (by simp [Act.eval]) (hitKind q1 q2 q3 q4) ?_; (try simp only [Act.put, List.setIfInBounds_toArray, List.set_cons_zero, List.set_cons_succ])) | (go_at_call 9; refine (implWalk1_any (.slice A2 ws.length c2) ws (g : Int) _ ((HO28.out.below HBr.out).rd wLen) HW.out ⟨by omega, by omega⟩).mono ?_; rw [HQ.out]; unfold hitV; rintro e w9 ⟨rfl, hb9⟩; have HB9 := Lib.hid (thenB HBr.out hb9); clear hb9))
        clear z0_0 z1_0
        have HS9 := Lib.hid (HS8.out.below HB9.out)
        have sT0 := HS9.out
        have z0_0 := sT0.c1
        have sT1 := sT0.tail
        have z1_0 := sT1.c1
        have sT2 := sT1.tail
        clear sT0 sT1 sT2
        by_cases hg16 : g % 16 = 0
        rotate_left
        · have hg16' : (((g % 16 : Nat) : Int) == 0) = false := by simp; omega
          have hg16'' : (g % 16 == 0) = false := by simpa using hg16
          have hg16d : ¬ (g : Int) % 16 = 0 := by omega
          have HCA : Hid (cAt ws g = 0) := Lib.hid (by unfold cAt; rw [if_neg (fun h => hg16 h.1)])
          go_wp2
          go_roundw
          case rel => exact ⟨g + 1, cb, k, by omega, rfl, rfl, by go_num, HC1, Lib.hid (by simp only [sumTo]; rw [HCA.out]; exact HK.out), by omega, HB9⟩
          case measure => simp [intOf]; omega
        have hg16' : (((g % 16 : Nat) : Int) == 0) = true := by simp; omega
        have hg16'' : (g % 16 == 0) = true := by simpa using hg16
        have hi1b : g / 256 < ws.length := by have := HL16.out; have := HLE.out; omega
        have hi1c : ((g / 256 : Nat) : Int) < (ws.length : Int) := by omega
        have hi1d : (g : Int) / 256 < (ws.length : Int) := by omega
        obtain ⟨cw1, _⟩ := ownWd (HO48.out.below HB9.out) hi1b
        obtain ⟨y1, hy1⟩ : ∃ y, ws.getD (g / 256) 0 = y := ⟨_, rfl⟩
        have hyb1 := getD_mem HR.out hi1b
        rw [hy1] at cw1 hyb1
        have HX1 : Hid (x1 ws g = y1) := Lib.hid (by unfold x1 wordP; rw [show (0 * 16 + ((g / 256 : Nat) : Int)).toNat = g / 256 by omega]; exact hy1)
        obtain ⟨k1, o1v, p1, hd1⟩ : ∃ a b c, dec 1 y1 = (a, b, c) := ⟨_, _, _, rfl⟩
        have ho1b := dec_out 1 y1
        rw [hd1] at ho1b
        simp only at ho1b
        have HD1 := Lib.hid hd1
        have HO1 : Hid (o1 ws g = o1v) := Lib.hid (by unfold o1; rw [HX1.out, hd1])
        have HT1 : Hid (t1 ws g ↔ k1 = 1 ∧ o1v < (n : Int)) := Lib.hid (by unfold t1 tabP; rw [HX1.out, hd1, HN.out])
        clear hy1 hd1
        go_upto_region 21 with (go_at_call 10; refine (specDec_d 1 y1 k1 o1v p1 HD1.out _ hyb1).mono ?_; rintro e w10 ⟨rfl, hb10⟩; have HB10 := Lib.hid (thenB HB9.out hb10); clear hb10)
        clear z0_0 z1_0
        refine box3_gen HB10.out _ _ _ _ (fun w11 h11a c11a c11b => ?_)
        have HB11 := Lib.hid h11a
        clear h11a cw1
        obtain ⟨b13, hb13⟩ : ∃ b, w10.heap.size = b := ⟨_, rfl⟩
        rw [hb13] at c11a c11b ⊢
        clear hb13
        by_cases ht1 : k1 = 1 ∧ o1v < (n : Int)
        rotate_left
        · have HCA : Hid (cAt ws g = 0) := Lib.hid (by unfold cAt; rw [if_neg (fun h => ht1 (HT1.out.1 h.2))])
          obtain ⟨ba, hba⟩ : ∃ b, (k1 == 1) = b := ⟨_, rfl⟩
          obtain ⟨bb, hbb⟩ : ∃ b, decide (o1v < (n : Int)) = b := ⟨_, rfl⟩
          have hno : (ba && bb) = false := by rw [Bool.and_eq_false_iff]; exact (Classical.em (k1 = 1)).elim (fun e1 => Or.inr (by rw [← hbb]; exact decide_eq_false (fun h => ht1 ⟨e1, h⟩))) (fun e1 => Or.inl (by rw [← hba]; simpa using e1))
          clear ht1
          cases ba <;> cases bb <;> try (simp at hno; done)
          all_goals
            go_wp2
            go_roundw
            case rel => exact ⟨g + 1, cb, k, by omega, rfl, rfl, by go_num, HC1, Lib.hid (by simp only [sumTo]; rw [HCA.out]; exact HK.out), by omega, HB11⟩
            case measure => simp [intOf]; omega
        obtain ⟨hk1, ho1n⟩ := ht1
        subst hk1
        have HT1' : Hid (t1 ws g) := Lib.hid (HT1.out.2 ⟨rfl, ho1n⟩)
        have ho1d : decide (o1v < (n : Int)) = true := decide_eq_true ho1n
        obtain ⟨i2, hi2⟩ : ∃ i : Nat, o1v * 16 + ((g / 16 % 16 : Nat) : Int) = (i : Int) := ⟨(o1v * 16 + ((g / 16 % 16 : Nat) : Int)).toNat, by omega⟩
        have hi2b : i2 < ws.length := by have := HL16.out; have := HLE.out; omega
        have hi2c : (i2 : Int) < (ws.length : Int) := by omega
        have ew1 : IntKind.i64.wrap (o1v * 16) = o1v * 16 := by rw [IntKind.wrap_i64]; omega
        have ew2 : IntKind.i64.wrap (o1v * 16 + ((g / 16 % 16 : Nat) : Int)) = (i2 : Int) := by rw [IntKind.wrap_i64]; omega
        have ew3 : IntKind.i64.wrap (o1v * 16 + (g : Int) / 16 % 16) = (i2 : Int) := by rw [IntKind.wrap_i64]; omega
        obtain ⟨y2, hy2⟩ : ∃ y, ws.getD i2 0 = y := ⟨_, rfl⟩
        have hyb2 := getD_mem HR.out hi2b
        rw [hy2] at hyb2
        have HX2 : Hid (x2 ws g = y2) := Lib.hid (by unfold x2 wordP; rw [HO1.out, hi2, Int.toNat_natCast]; exact hy2)
        obtain ⟨k2, o2v, p2, hd2⟩ : ∃ a b c, dec 2 y2 = (a, b, c) := ⟨_, _, _, rfl⟩
        have HD2 := Lib.hid hd2
        have HO2' : Hid (o2 ws g = o2v) := Lib.hid (by unfold o2; rw [HX2.out, hd2])
        have HT2 : Hid (t2 ws g ↔ k2 = 1 ∧ o2v < (n : Int)) := Lib.hid (by unfold t2 tabP; rw [HX2.out, hd2, HN.out])
        have HY2 := Lib.hid hy2
        clear hi2 hy2 hd2 ho1b
        by_cases hg256 : g % 256 = 0
        · have hg256' : (((g % 256 : Nat) : Int) == 0) = true := by simp; omega
          have hg256'' : (g % 256 == 0) = true := by simpa using hg256
          have HG256 : Hid (g % 256 = 0) := Lib.hid hg256
          go_upto_region 26 with (go_at_call 8; refine (has_t _ ps o1v 2 (g : Int) (by rw [← HRT.out, ← HO1.out]; exact has2 ws g hlt HG256.out HT1'.out) _ (HP8.out.below HB11.out)).mono ?_; rintro e w12 ⟨rfl, hb12⟩; have HB12 := Lib.hid (thenB HB11.out hb12); have cb2 := bC hb12 c11b; clear hb12)
          clear c11a c11b hg256
          have HS12 := Lib.hid (HS8.out.below HB12.out)
          have sT0 := HS12.out
          have z0_0 := sT0.c1
          have sT1 := sT0.tail
          have z1_0 := sT1.c1
          have sT2 := sT1.tail
          clear sT0 sT1 sT2
          obtain ⟨cw2, _⟩ := ownWd (HO48.out.below HB12.out) hi2b
          rw [HY2.out] at cw2
          go_upto_region 27 with (go_at_call 10; refine (specDec_d 2 y2 k2 o2v p2 HD2.out _ hyb2).mono ?_; rintro e w13 ⟨rfl, hb13⟩; have HB13 := Lib.hid (thenB HB12.out hb13); clear hb13)
          clear z0_0 z1_0
          refine box3_gen HB13.out _ _ _ _ (fun w14 h14a c14a c14b => ?_)
          have HB14 := Lib.hid h14a
          clear h14a cw2 cb2
          obtain ⟨b14, hb14⟩ : ∃ b, w13.heap.size = b := ⟨_, rfl⟩
          rw [hb14] at c14a c14b ⊢
          clear hb14
          by_cases ht2 : k2 = 1 ∧ o2v < (n : Int)
          · obtain ⟨hk2, ho2n⟩ := ht2
            subst hk2
            have HT2' : Hid (t2 ws g) := Lib.hid (HT2.out.2 ⟨rfl, ho2n⟩)
            have ho2d : decide (o2v < (n : Int)) = true := decide_eq_true ho2n
            have HCA : Hid (cAt ws g = 2) := Lib.hid (by unfold cAt; rw [if_pos ⟨hg16, HT1'.out⟩, if_pos HG256.out, if_pos HT2'.out])
            go_wp2_with (go_at_call 8; refine (has_t _ ps o2v 3 (g : Int) (by rw [← HRT.out, ← HO2'.out]; exact has3 ws g hlt hg16 HT1'.out HT2'.out) _ (HP8.out.below HB14.out)).mono ?_; rintro e w15 ⟨rfl, hb15⟩; have HB15 := Lib.hid (thenB HB14.out hb15); clear hb15)
            go_roundw
            case rel => exact ⟨g + 1, cb, k + 1 + 1, by omega, rfl, by first | rfl | (simp; done) | (simp; omega), by go_num, HC1, Lib.hid (by simp only [sumTo]; rw [HCA.out]; have := HK.out; omega), by omega, HB15⟩
            case measure => simp [intOf]; omega
          · have HCA : Hid (cAt ws g = 1) := Lib.hid (by unfold cAt; rw [if_pos ⟨hg16, HT1'.out⟩, if_pos HG256.out, if_neg (fun h => ht2 (HT2.out.1 h))])
            obtain ⟨ba, hba⟩ : ∃ b, (k2 == 1) = b := ⟨_, rfl⟩
            obtain ⟨bb, hbb⟩ : ∃ b, decide (o2v < (n : Int)) = b := ⟨_, rfl⟩
            have hno : (ba && bb) = false := by rw [Bool.and_eq_false_iff]; exact (Classical.em (k2 = 1)).elim (fun e1 => Or.inr (by rw [← hbb]; exact decide_eq_false (fun h => ht2 ⟨e1, h⟩))) (fun e1 => Or.inl (by rw [← hba]; simpa using e1))
            clear ht2
            cases ba <;> cases bb <;> try (simp at hno; done)
            all_goals
              go_wp2
              go_roundw
              case rel => exact ⟨g + 1, cb, k + 1, by omega, rfl, by first | rfl | (simp; done) | (simp; omega), by go_num, HC1, Lib.hid (by simp only [sumTo]; rw [HCA.out]; have := HK.out; omega), by omega, HB14⟩
              case measure => simp [intOf]; omega
        · have hg256' : (((g % 256 : Nat) : Int) == 0) = false := by simp; omega
          have hg256'' : (g % 256 == 0) = false := by simpa using hg256
          have HG256 : Hid (¬ g % 256 = 0) := Lib.hid hg256
          have hg256d : ¬ (g : Int) % 256 = 0 := by omega
          go_upto_region 26 with fail
          have HB12 := HB11
          have cb2 := c11b
          clear c11a c11b hg256
          have HS12 := Lib.hid (HS8.out.below HB12.out)
          have sT0 := HS12.out
          have z0_0 := sT0.c1
          have sT1 := sT0.tail
          have z1_0 := sT1.c1
          have sT2 := sT1.tail
          clear sT0 sT1 sT2
          obtain ⟨cw2, _⟩ := ownWd (HO48.out.below HB12.out) hi2b
          rw [HY2.out] at cw2
          go_upto_region 27 with (go_at_call 10; refine (specDec_d 2 y2 k2 o2v p2 HD2.out _ hyb2).mono ?_; rintro e w13 ⟨rfl, hb13⟩; have HB13 := Lib.hid (thenB HB12.out hb13); clear hb13)
          clear z0_0 z1_0
          refine box3_gen HB13.out _ _ _ _ (fun w14 h14a c14a c14b => ?_)
          have HB14 := Lib.hid h14a
          clear h14a cw2 cb2
          obtain ⟨b14, hb14⟩ : ∃ b, w13.heap.size = b := ⟨_, rfl⟩
          rw [hb14] at c14a c14b ⊢
          clear hb14
          by_cases ht2 : k2 = 1 ∧ o2v < (n : Int)
          · obtain ⟨hk2, ho2n⟩ := ht2
            subst hk2
            have HT2' : Hid (t2 ws g) := Lib.hid (HT2.out.2 ⟨rfl, ho2n⟩)
            have ho2d : decide (o2v < (n : Int)) = true := decide_eq_true ho2n
            have HCA : Hid (cAt ws g = 1) := Lib.hid (by unfold cAt; rw [if_pos ⟨hg16, HT1'.out⟩, if_neg HG256.out, if_pos HT2'.out])
            go_wp2_with (go_at_call 8; refine (has_t _ ps o2v 3 (g : Int) (by rw [← HRT.out, ← HO2'.out]; exact has3 ws g hlt hg16 HT1'.out HT2'.out) _ (HP8.out.below HB14.out)).mono ?_; rintro e w15 ⟨rfl, hb15⟩; have HB15 := Lib.hid (thenB HB14.out hb15); clear hb15)
            go_roundw
            case rel => exact ⟨g + 1, cb, k + 1, by omega, rfl, by first | rfl | (simp; done) | (simp; omega), by go_num, HC1, Lib.hid (by simp only [sumTo]; rw [HCA.out]; have := HK.out; omega), by omega, HB15⟩
            case measure => simp [intOf]; omega
          · have HCA : Hid (cAt ws g = 0) := Lib.hid (by unfold cAt; rw [if_pos ⟨hg16, HT1'.out⟩, if_neg HG256.out, if_neg (fun h => ht2 (HT2.out.1 h))])
            obtain ⟨ba, hba⟩ : ∃ b, (k2 == 1) = b := ⟨_, rfl⟩
            obtain ⟨bb, hbb⟩ : ∃ b, decide (o2v < (n : Int)) = b := ⟨_, rfl⟩
            have hno : (ba && bb) = false := by rw [Bool.and_eq_false_iff]; exact (Classical.em (k2 = 1)).elim (fun e1 => Or.inr (by rw [← hbb]; exact decide_eq_false (fun h => ht2 ⟨e1, h⟩))) (fun e1 => Or.inl (by rw [← hba]; simpa using e1))
            clear ht2
            cases ba <;> cases bb <;> try (simp at hno; done)
            all_goals
              go_wp2
              go_roundw
              case rel => exact ⟨g + 1, cb, k, by omega, rfl, by first | rfl | (simp; done) | (simp; omega), by go_num, HC1, Lib.hid (by simp only [sumTo]; rw [HCA.out]; have := HK.out; omega), by omega, HB14⟩
              case measure => simp [intOf]; omega
    · obtain rfl : g = 4096 := by omega
      have hlt' : ¬ ((4096 : Nat) : Int) < 4096 := by omega
      have hcnt : (k : Int) = (ps.length : Int) := by have := HCE.out; have := HK.out; omega
      have hne : ((ps.length : Int) != (k : Int)) = false := by simp; omega
      have hne2 : (ps.length != k) = false := by simp; omega
      have HF0 : Hid (cb = frB ws ps 0) := Lib.hid (by rw [frB_zero]; exact HCB.out)
      clear hcnt HCB HK hkb hg
      go_wp2
      go_loopw [10, 15] (fun vc vi wi => ∃ (i : Nat) (cb2 : Bool), i ≤ ps.length ∧ vc = .bool cb2 ∧ vi = .int .i64 (i : Int) ∧ Hid (cb2 = frB ws ps i) ∧ Hid (Below w8.heap.size w8 wi)) (fun _ i _ => ps.length - (intOf i).toNat)
      case atStart => exact ⟨0, cb, Nat.zero_le _, rfl, rfl, HF0, HBr⟩
      case round =>
        obtain ⟨i, cb2, hi, rfl, rfl, HF, HBi⟩ := hrel
        by_cases hil : i < ps.length
        · have hil' : (i : Int) < (ps.length : Int) := by omega
          obtain ⟨pi, hpi⟩ : ∃ p, ps[i]? = some p := ⟨_, List.getElem?_eq_getElem hil⟩
          have HPI := Lib.hid hpi
          have HF3 : Hid (cb2 = frB3 ws ps i 0 pi) := Lib.hid (by rw [frB3_zero]; exact HF.out)
          clear hpi
          go_wp2
          go_loopw [10, 16] (fun vc vj wj => ∃ (j : Nat) (cb3 : Bool), j ≤ i ∧ vc = .bool cb3 ∧ vj = .int .i64 (j : Int) ∧ Hid (cb3 = frB3 ws ps i j pi) ∧ Hid (Below w8.heap.size w8 wj)) (fun _ j _ => i - (intOf j).toNat)
          case atStart => exact ⟨0, cb2, Nat.zero_le _, rfl, rfl, HF3, HBi⟩
          case round =>
            obtain ⟨j, cb3, hj, rfl, rfl, HF4, HBj⟩ := hrel
            by_cases hji : j < i
            · have hji' : (j : Int) < (i : Int) := by omega
              have hjl' : (j : Int) < (ps.length : Int) := by omega
              obtain ⟨ad, p', hA, hp', u0, u1, u2⟩ := SPlace.at (HP8.out.below HBj.out) hil
              obtain rfl : p' = pi := Option.some.inj (hp'.symm.trans HPI.out)
              obtain ⟨ad', qj, hA2, hqj, s0, s1, s2⟩ := SPlace.at (k := j) (HP8.out.below HBj.out) (by omega)
              rw [hA] at hA2
              cases hA2
              subst hA
              have HQJ := Lib.hid hqj
              have ub := BW.cell u0
              have sb := BW.cell s0
              clear u0 u1 u2 s0 s1 s2 hp' hqj
              by_cases he : p'.Frame = qj.Frame
              · have he' : (p'.Frame == qj.Frame) = true := by simpa using he
                have HE := Lib.hid he
                clear he
                go_wp2
                (refine wp_region_below (by kernel_rfl) (by kernel_rfl) ?_; (repeat (first | (go_big_quiet_step (fail)) | ((with_reducible refine wpQuiet_step ?_); intro K hK; go_simp; first | ((with_reducible refine hK _ ?_); clear hK K) | (apply Exists.intro; refine ⟨fun _ => ?_, hK _ ?_⟩; (fail); clear hK K)))); (with_reducible refine wpQuiet_nil ?_); intro wq hw'; obtain ⟨⟨wy, hbq⟩, hw''⟩ := hw'; subst hw'')
                go_wp2
                go_roundw
                case rel => exact ⟨j + 1, false, by omega, rfl, by go_num, Lib.hid (frB3_bad HQJ.out HE.out).symm, Lib.hid (thenB HBj.out hbq)⟩
                case measure => simp [intOf]; omega
              · have he' : (p'.Frame == qj.Frame) = false := by simpa using he
                have HE := Lib.hid he
                clear he
                go_wp2
                (refine wp_region_below (by kernel_rfl) (by kernel_rfl) ?_; (repeat (first | (go_big_quiet_step (fail)) | ((with_reducible refine wpQuiet_step ?_); intro K hK; go_simp; first | ((with_reducible refine hK _ ?_); clear hK K) | (apply Exists.intro; refine ⟨fun _ => ?_, hK _ ?_⟩; (fail); clear hK K)))); (with_reducible refine wpQuiet_nil ?_); intro wq hw'; obtain ⟨⟨wy, hbq⟩, hw''⟩ := hw'; subst hw'')
                go_wp2
                go_roundw
                case rel => exact ⟨j + 1, cb3, by omega, rfl, by go_num, Lib.hid (by rw [frB3_ok HQJ.out HE.out]; exact HF4.out), Lib.hid (thenB HBj.out hbq)⟩
                case measure => simp [intOf]; omega
            · obtain rfl : j = i := by omega
              have hji' : ¬ (j : Int) < (j : Int) := by omega
              go_wp2
              go_roundw
              case rel => exact ⟨j + 1, cb3, by omega, rfl, by go_num, Lib.hid (by rw [← frB3_end HPI.out]; exact HF4.out), HBj⟩
              case measure => simp [intOf]; omega
        · obtain rfl : i = ps.length := by omega
          have hil' : ¬ (ps.length : Int) < (ps.length : Int) := by omega
          obtain rfl : cb2 = tb := by rw [HF.out, HTB.out]
          have hbb : (cb2 == cb2) = true := by simp
          go_wp2
          go_ret
          first
            | exact ⟨rfl, thenB HS8.out.b HBi.out⟩
            | exact ⟨by simp, thenB HS8.out.b HBi.out⟩
            | exact ⟨by cases cb2 <;> rfl, thenB HS8.out.b HBi.out⟩
end Go.Proofs.Ytomomaoncmgfpaa.Draw
