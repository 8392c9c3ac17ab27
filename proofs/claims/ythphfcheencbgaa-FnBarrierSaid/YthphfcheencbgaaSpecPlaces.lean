/- Walks of the reference's l1Below and Places. Walk of the reference's Places. -/
import Derived.Test.YthphfcheencbgaaMachG
import Derived.Test.YthphfcheencbgaaGround
import Derived.Test.YthphfcheencbgaaL1
import Derived.Deep.RegionHeld3
import Derived.Deep.Cut
namespace Go.Proofs.Ythphfcheencbgaa.Mmu
open Go.RowKit Go.Proofs.Ythphfcheencbgaa.Base Go.Proofs.Ythphfcheencbgaa.Kinds Go.Proofs.Ythphfcheencbgaa.DecMath Go.Proofs.Ythphfcheencbgaa.L1
set_option linter.unusedVariables false
set_option linter.unusedSimpArgs false
theorem infoPlS : (Try.prog.info? 89).map (fun i => (i.zero, i.size, i.bytes)) = some (some (.agg #[.int .i64 0, .int .i64 0, .int .i64 0]), 3, 24) := by kernel_rfl
/-- One element, laid in a block of its own, is the call's own. -/
theorem own_laid {α : Type} {enc : α → List Value} {sz : Nat} (hlen : ∀ x, (enc x).length = sz) (w : World) (E : Nat) (y : α) {cs : Array Value} (hcs : cs = (enc y).toArray) (base : Nat) (hb : base ≤ w.heap.size) :
    Own enc sz E base (w.alloc (.cells cs E)) (.slice (some ⟨w.heap.size, 0, none⟩) 1 1) [y] := by
  subst hcs
  refine ⟨by simp [hlen], Or.inr ⟨w.heap.size, 1, _, rfl, hb, heap_alloc_new w _, Nat.le_refl _, by unfold maxLen; omega, by simp [hlen], ?_⟩⟩
  simp only [Nat.one_mul, List.flatMap_cons, List.flatMap_nil, List.append_nil]
  rw [List.take_of_length_le (by rw [hlen]; simp)]
theorem st_set3 {w0 w : World} {l : List (Nat × Array Value × Nat)} {b T : Nat} {x0 x1 x2 : Value} (h : St w0 ((b, #[x0, x1, x2], T) :: l) w) (u0 u1 u2 : Value) : St w0 ((b, #[u0, u1, u2], T) :: l) (((w.setCell ⟨b, 0, none⟩ u0).setCell ⟨b, 1, none⟩ u1).setCell ⟨b, 2, none⟩ u2) :=
  (((h.set (l1 := []) 0 u0).set (l1 := []) 1 u1).set (l1 := []) 2 u2 :)
theorem st_genB {w0 w W : World} {B : Nat} {l : List (Nat × Array Value × Nat)} (S : St w0 l W) (b : Below B w W) {G : World → Prop} (k : ∀ w', St w0 l w' → Below B w w' → G w') : G W := k W S b
/-- 'out = append(out, x)': one element behind a call's own, and where the row lies now. -/
theorem append1_at {P : Program} {W : World} {ops : Array Oper} {rest : List Oper} {o : Oper} {a : Act} {Q : Exit → Act → World → Prop} {α : Type} {enc : α → List Value}
    (E sz bytes t : Nat) (z : Value) (ht : P.underlying t = some (.slice E)) (hinfo : (P.info? E).map (fun i => (i.zero, i.size, i.bytes)) = some (some z, sz, bytes)) (hz : z.cells.size = sz) (hs0 : 0 < sz)
    (hlen : ∀ x, (enc x).length = sz) (hone : ∀ x, ∀ u ∈ enc x, u.oneCell' = true)
    (hgd : o.guard = none) (s x : Operand) (ho : o.op = .call { callee := .builtin .append, args := #[s, x], argTypes := #[t, t] })
    (base : Nat) (v : Value) (l : List α) (y : α) (cs : Array Value) (hcs : cs = (enc y).toArray) (hs : a.eval s = v) (hx : a.eval x = .slice (some ⟨W.heap.size, 0, none⟩) 1 1)
    (hown : Own enc sz E base W v l) (hbytes : (l.length + 1) * bytes ≤ 140737488355328) (hb0 : 0 < bytes) (hbase : base ≤ W.heap.size)
    (h : ∀ v' w', Own enc sz E base w' v' (l ++ [y]) → W.grownBy w' v.ownBlock → (v'.ownBlock = v.ownBlock ∨ v'.ownBlock = some (W.heap.size + 1)) → wpList P ops Q rest (a.put o.dst v') w') :
    wpList P ops Q (o :: rest) a (W.alloc (.cells cs E)) := by
  obtain ⟨i0, hi, hz0, hz1, hz2⟩ := info_parts hinfo
  have hl : l.length + 1 ≤ 140737488355328 := Nat.le_trans (Nat.le_mul_of_pos_right _ hb0) hbytes
  subst hcs
  refine wpList_append_own_at _ hgd s x t ho base E i0 z sz bytes ht hi hz0 hz1 hz2 hz hs0 v l.length (l.flatMap enc) hs (World.ownsRow.alloc hown _) ⟨W.heap.size, 0, none⟩ 1 1 (enc y) hx (by rw [hlen]; omega)
    (by simpa using World.news_of_block (cs := (enc y).toArray) (t := E) (fr := (0, 0)) (heap_alloc_new W (.cells (enc y).toArray E))) (hone y) (by unfold maxLen; omega) hbytes (by simp; omega) ?_
  intro v' w' hown' hg _ hat
  refine h v' w' ?_ (World.grownBy.trans (World.grownBy_alloc W _ _) hg) (by simpa using hat)
  unfold Own
  simpa using hown'
def WfW (ws : List Int) : Prop := (∀ x ∈ ws, 0 ≤ x ∧ x < 18446744073709551616) ∧ ws.length % 16 = 0 ∧ 16 ≤ ws.length ∧ ws.length ≤ 8192
/-- The answer is a list of places, the call's own. -/
def PPost (w : World) (l : List SPlace) (e : Ending) (w' : World) : Prop := ∃ v, e = .returned v ∧ Own SPlace.enc 3 89 w.heap.size w' v l ∧ Below w.heap.size w w'
theorem framesP_b (A : Option Addr) (n c : Nat) (x : Int) (w : World) (hn : n ≤ c) (hc : c ≤ 9223372036854775807) (h : framesOf n = x) : Calls Try.prog 11 #[.agg #[.slice A n c]] w fun e w' => e = .returned (.int .i64 x) ∧ Below w.heap.size w w' := by
  rw [← h]; exact l1Frames_any A n c w hn hc
theorem coversP_b (l c : Int) (h : cov l = c) (w : World) : Calls Try.prog 22 #[.int .i64 l] w fun e w' => e = .returned (.int .i64 c) ∧ w' = w :=
  (l1Covers_any l w).mono (by rintro e w' ⟨rfl, rfl⟩; exact ⟨by rw [h], rfl⟩)
theorem wordP_at {w : World} {v : Value} {ws : List Int} (r : Rd wEnc 1 w v ws) (hw : WfW ws) (f k : Int) (hf : 0 ≤ f ∧ f < ((ws.length / 16 : Nat) : Int)) (hk : 0 ≤ k ∧ k < 16) :
    ∃ ad c, v = .slice (some ad) ws.length c ∧ ws.length ≤ c ∧ c ≤ 9223372036854775807 ∧ w.cell? (ad.add (f * 16 + k).toNat) = some (.int .u64 (wordP ws f k)) ∧ 0 ≤ wordP ws f k ∧ wordP ws f k < 18446744073709551616 ∧ f * 16 + k < ws.length := by
  obtain ⟨A, c, e, h1, h2⟩ := r.shape
  rw [e] at r
  have hlt : (f * 16 + k).toNat < ws.length := by omega
  obtain ⟨ad, x, ea, hx, hc⟩ := word_at r hlt
  have hwd : wordP ws f k = x := by unfold wordP; rw [List.getD_eq_getElem?_getD, hx]; rfl
  have hr := hw.1 x (List.mem_of_getElem? hx)
  exact ⟨ad, c, by rw [e, ea], h1, h2, by rw [hwd]; exact hc, by rw [hwd]; exact hr.1, by rw [hwd]; exact hr.2, by omega⟩

set_option maxRecDepth 100000 in
set_option maxHeartbeats 8000000 in
theorem below_step (d : Nat) (ih : ∀ (v0 : Value) (ws : List Int) (p : SPlace) (w : World), Rd wEnc 1 w v0 ws → WfW ws → (d : Int) = 4 - p.Level → 0 < d → inP ws p → alignP p → Calls Try.prog 55 #[.agg #[v0], p.val] w (PPost w (placesP ws (d - 1) p)))
    (v0 : Value) (ws : List Int) (p : SPlace) (w : World) (r : Rd wEnc 1 w v0 ws) (hw : WfW ws) (hd : ((d + 1 : Nat) : Int) = 4 - p.Level) (hp : inP ws p) (ha : alignP p) :
    Calls Try.prog 55 #[.agg #[v0], p.val] w (PPost w (placesP ws d p)) := by
  obtain ⟨fr, lv, pg⟩ := p
  have HP := Lib.hid hp
  have HA := Lib.hid ha
  have HW := Lib.hid hw
  have R := Lib.hid r
  have IH := Lib.hid ih
  have HD := Lib.hid hd
  obtain ⟨⟨hl1, hl2⟩, ⟨hf0, hf1⟩, hg0, hg1⟩ := hp
  simp only at hl1 hl2 hf0 hf1 hg0 hg1 hd
  obtain ⟨A0, c0, e0, hc1, hc2⟩ := r.shape
  have hlen : ws.length ≤ 8192 := hw.2.2.2
  subst e0
  simp only [SPlace.val]
  clear r hw ih ha
  cases d with
  | zero =>
    obtain rfl : lv = 3 := by omega
    clear hd
    go_enter Try.func55, Try.ntmps55
    go_upto_region 1 with fail
    refine ((St.start w).push2 _ _ _ _).gen (fun w1 S1' _ => ?_)
    have S1 := Lib.hid S1'
    have z1 : w.heap.size + 1 < w1.heap.size := S1'.lt _ (List.mem_cons_self ..)
    clear S1'
    have sT0 := S1.out
    obtain ⟨p0_0, p0_1, p0_2⟩ := sT0.c3
    have sT1 := sT0.tail
    have p1_0 := sT1.c1
    have sT2 := sT1.tail
    clear sT0 sT1 sT2
    go_wp2
    go_ret
    exact ⟨_, rfl, own_laid SPlace.len w1 _ ⟨fr, 3, pg⟩ rfl _ S1.out.b.size, allocB S1.out.b _⟩
  | succ d =>
    have hl3 : lv ≤ 2 := by omega
    have hl3' : ¬ 3 ≤ lv := by omega
    have HPL : Hid (placesP ws (d + 1) ⟨fr, lv, pg⟩ = ⟨fr, lv, pg⟩ :: (List.range 16).flatMap (belowP ws (placesP ws d) ⟨fr, lv, pg⟩)) := Lib.hid rfl
    have hmx : ∀ k : Nat, ((List.range k).flatMap (belowP ws (placesP ws d) ⟨fr, lv, pg⟩)).length ≤ k * 273 := flat_le _ _ (fun k => by
      unfold belowP; split
      · exact Nat.le_trans (placesP_len _ _ _) (maxP_le (by omega))
      · simp)
    have HMX := Lib.hid hmx
    clear hmx hd
    go_enter Try.func55, Try.ntmps55
    go_upto_region 1 with fail
    refine ((St.start w).push2 _ _ _ _).gen (fun w1 S1' _ => ?_)
    have S1 := Lib.hid S1'
    have z1 : w.heap.size + 1 < w1.heap.size := S1'.lt _ (List.mem_cons_self ..)
    clear S1'
    have sT0 := S1.out
    obtain ⟨p0_0, p0_1, p0_2⟩ := sT0.c3
    have sT1 := sT0.tail
    have p1_0 := sT1.c1
    have sT2 := sT1.tail
    clear sT0 sT1 sT2
    go_wp2
    clear p0_0 p0_1 p0_2 p1_0
    go_loopw [5, 6] (fun v i wr => ∃ (k n : Nat) (A : Option Addr) (c : Nat), k ≤ 16 ∧ n = (⟨fr, lv, pg⟩ :: (List.range k).flatMap (belowP ws (placesP ws d) ⟨fr, lv, pg⟩)).length ∧ v = .slice A n c ∧ i = .int .i64 k ∧ Own SPlace.enc 3 89 w1.heap.size wr v (⟨fr, lv, pg⟩ :: (List.range k).flatMap (belowP ws (placesP ws d) ⟨fr, lv, pg⟩)) ∧ Below w1.heap.size w1 wr) (fun _ i _ => 16 - (intOf i).toNat)
    case atStart =>
      exact ⟨0, 1, _, _, by omega, rfl, rfl, rfl, own_laid SPlace.len w1 _ ⟨fr, lv, pg⟩ rfl _ (Nat.le_refl _), allocB (Below.refl _ _) _⟩
    case round =>
      obtain ⟨k, n, Av, cv, hk, hn, rfl, rfl, ho, hb⟩ := hrel
      have HO := Lib.hid ho
      have HB := Lib.hid hb
      have HNN := Lib.hid hn
      have S2 := Lib.hid (S1.out.below hb)
      clear ho hb hn
      by_cases hlt : k < 16
      rotate_left
      · have hlt' : ¬ (k : Int) < 16 := by omega
        obtain rfl : k = 16 := by omega
        go_wp2
        go_ret
        exact ⟨_, rfl, by rw [HPL.out]; exact HO.out.lower S1.out.b.size, S2.out.b⟩
      have hlt' : (k : Int) < 16 := by omega
      obtain ⟨ad, cw, hv, hcw1, hcw2, hcell, hx0, hx1, hax⟩ := wordP_at R.out HW.out fr k ⟨hf0, hf1⟩ (by omega)
      simp only [Value.slice.injEq] at hv
      obtain ⟨rfl, _, rfl⟩ := hv
      obtain ⟨x, hx⟩ : ∃ x, wordP ws fr k = x := ⟨_, rfl⟩
      rw [hx] at hcell hx0 hx1
      have HX := Lib.hid hx
      obtain ⟨dk, dout, dpm, hdd⟩ : ∃ a b c, dec lv x = (a, b, c) := ⟨_, _, _, rfl⟩
      have HD2 := Lib.hid hdd
      have ho5 := dec_out lv x
      rw [hdd] at ho5
      simp only at ho5
      obtain ⟨ho0, ho1, ho2, ho3⟩ := ho5
      have hw1 : IntKind.i64.wrap (fr * 16) = fr * 16 := by rw [IntKind.wrap_i64]; omega
      have hw2 : IntKind.i64.wrap (fr * 16 + k) = fr * 16 + k := by rw [IntKind.wrap_i64]; omega
      have ha0 : 0 ≤ fr * 16 + (k : Int) := by omega
      have hac : (((fr * 16 + (k : Int)).toNat : Nat) : Int) = fr * 16 + k := by omega
      have hat : (fr * 16 + (k : Int)).toNat < ws.length := by omega
      have hcell2 := bC S2.out.b hcell
      have hab := World.block_lt_of_cell? _ _ hcell
      have hz2 : w.heap.size + 1 < wr.heap.size := S2.out.lt _ (List.mem_cons_self ..)
      have n1 : ¬ (wr.heap.size = w.heap.size) := by omega
      have n2 : ¬ (wr.heap.size = w.heap.size + 1) := by omega
      have n3 : ¬ (wr.heap.size = (ad.add (fr * 16 + (k : Int)).toNat).block) := by omega
      clear hx hdd
      have sT0 := S2.out
      obtain ⟨p0_0, p0_1, p0_2⟩ := sT0.c3
      have sT1 := sT0.tail
      have p1_0 := sT1.c1
      have sT2 := sT1.tail
      clear sT0 sT1 sT2
      go_wp2
      go_region_held3 (fun w' => w'.cell? ⟨w.heap.size + 1, 0, none⟩ = some (.int .i64 fr) ∧ w'.cell? ⟨w.heap.size + 1, 1, none⟩ = some (.int .i64 lv) ∧ w'.cell? ⟨w.heap.size, 0, none⟩ = some (.slice (some ad) ws.length c0) ∧ w'.cell? (ad.add (fr * 16 + (k : Int)).toNat) = some (.int .u64 x))
        (first | go_keep | (with_reducible exact ⟨z0, z1', z2, z3⟩))
        ((go_at_call 32; refine (specDecode_any lv x _ hx0 hx1).mono ?_; rw [HD2.out]; rintro e w4 ⟨rfl, hb4⟩; first
          | (have S4 := Lib.hid ((S2.out.push _ _).drew.below hb4); have HB4 : Hid (Below wr.heap.size wr w4) := Lib.hid (thenB (allocB (Below.refl _ _) _).drew hb4); clear hb4; have sT0 := S4.out; obtain ⟨y0_0, y0_1, y0_2⟩ := sT0.c3; have yF0_0 := sT0.f 0; have yF0_1 := sT0.f 1; have yF0_2 := sT0.f 2; have sT1 := sT0.tail; obtain ⟨y1_0, y1_1, y1_2⟩ := sT1.c3; have sT2 := sT1.tail; have y2_0 := sT2.c1; have sT3 := sT2.tail; clear sT0 sT1 sT2 sT3; have z0 := y1_0; have z1' := y1_1; have z2 := y2_0; have z3 := bC S4.out.b hcell)
          | (have S4 := Lib.hid (S2.out.drew.below hb4); have HB4 : Hid (Below wr.heap.size wr w4) := Lib.hid (thenB (below_drewN (Below.refl _ _) 1) hb4); clear hb4; have sT0 := S4.out; obtain ⟨y0_0, y0_1, y0_2⟩ := sT0.c3; have sT1 := sT0.tail; have y1_0 := sT1.c1; have sT2 := sT1.tail; clear sT0 sT1 sT2; have z0 := y0_0; have z1' := y0_1; have z2 := y1_0; have z3 := bC S4.out.b hcell)))
      clear p0_0 p0_1 p0_2 p1_0
      refine st_genB (S4.out.push _ _) (allocB HB4.out _) (fun w5 S5' b5' => ?_)
      obtain ⟨bd, hbd⟩ : ∃ b, w4.heap.size = b := ⟨_, rfl⟩
      rw [hbd] at S5' ⊢
      rotate_left
      clear p0_0 p0_1 p0_2 p1_0
      refine st_genB (st_set3 S4.out _ _ _) (((HB4.out.setCell (p := ⟨wr.heap.size, 0, none⟩) (Nat.le_refl _) _).setCell (p := ⟨wr.heap.size, 1, none⟩) (Nat.le_refl _) _).setCell (p := ⟨wr.heap.size, 2, none⟩) (Nat.le_refl _) _) (fun w5 S5' b5' => ?_)
      obtain ⟨bd, hbd⟩ : ∃ b, wr.heap.size = b := ⟨_, rfl⟩
      rw [hbd] at S5' ⊢
      all_goals
        have S5 := Lib.hid S5'
        have HB5 := Lib.hid b5'
        clear S5' b5' S4 HB4 hbd z0 z1' z2 z3 n1 n2 n3
        have HF : Hid (framesOf ws.length = ((ws.length / 16 : Nat) : Int)) := Lib.hid (by unfold framesOf; rw [if_pos ⟨HW.out.2.1, HW.out.2.2.1, HW.out.2.2.2⟩])
        obtain ⟨nf, hnf⟩ : ∃ x : Int, ((ws.length / 16 : Nat) : Int) = x := ⟨_, rfl⟩
        have HNF := Lib.hid hnf
        rw [hnf] at HF
        clear hnf
        by_cases hk1 : dk = 1
        rotate_left
        · have hdb : (dk == 1) = false := by simpa using hk1
          have HE : Hid (belowP ws (placesP ws d) ⟨fr, lv, pg⟩ k = []) := Lib.hid (by unfold belowP; simp only [HX.out]; rw [if_neg (by unfold tabP; rw [HD2.out]; exact fun h => hk1 h.1)])
          clear hk1
          go_wp2
          have sT0 := S5.out
          obtain ⟨p0_0, p0_1, p0_2⟩ := sT0.c3
          have sT1 := sT0.tail
          have pB0_0 := BW.cell p0_0
          have pB0_1 := BW.cell p0_1
          have pB0_2 := BW.cell p0_2
          clear p0_0 p0_1 p0_2
          obtain ⟨p1_0, p1_1, p1_2⟩ := sT1.c3
          have sT2 := sT1.tail
          have pB1_0 := BW.cell p1_0
          have pB1_1 := BW.cell p1_1
          have pB1_2 := BW.cell p1_2
          clear p1_0 p1_1 p1_2
          have p2_0 := sT2.c1
          have sT3 := sT2.tail
          have pB2_0 := BW.cell p2_0
          clear p2_0
          clear sT0 sT1 sT2 sT3
          (refine wp_region_below (by kernel_rfl) (by kernel_rfl) ?_; (repeat (first | (go_big_quiet_step (fail)) | ((with_reducible refine wpQuiet_step ?_); intro K hK; go_simp; first | ((with_reducible refine hK _ ?_); clear hK K) | (apply Exists.intro; refine ⟨fun _ => ?_, hK _ ?_⟩; (fail); clear hK K)))); (with_reducible refine wpQuiet_nil ?_); intro wq hw'; obtain ⟨⟨wy, hbq⟩, hw''⟩ := hw'; subst hw'')
          clear pB0_0 pB0_1 pB0_2 pB1_0 pB1_1 pB1_2 pB2_0
          have HB6 := Lib.hid (thenB HB5.out hbq)
          clear hbq
          go_wp2
          go_roundw
          case rel =>
            refine ⟨k + 1, n, Av, cv, by omega, ?_, rfl, by go_num, ?_, thenB HB.out HB6.out⟩
            · rw [range_snoc, HE.out, List.append_nil]; exact HNN.out
            · rw [range_snoc, HE.out, List.append_nil]; exact HO.out.below HB6.out
          case measure => simp [intOf]; omega
        subst hk1
        by_cases hlt2 : dout < nf
        rotate_left
        · have hdb : decide (dout < nf) = false := by simpa using hlt2
          have HE : Hid (belowP ws (placesP ws d) ⟨fr, lv, pg⟩ k = []) := Lib.hid (by unfold belowP; simp only [HX.out]; rw [if_neg (by unfold tabP; rw [HD2.out, HNF.out]; exact fun h => hlt2 h.2)])
          clear hlt2
          go_wp2
          have sT0 := S5.out
          obtain ⟨p0_0, p0_1, p0_2⟩ := sT0.c3
          have sT1 := sT0.tail
          have pB0_0 := BW.cell p0_0
          have pB0_1 := BW.cell p0_1
          have pB0_2 := BW.cell p0_2
          clear p0_0 p0_1 p0_2
          obtain ⟨p1_0, p1_1, p1_2⟩ := sT1.c3
          have sT2 := sT1.tail
          have pB1_0 := BW.cell p1_0
          have pB1_1 := BW.cell p1_1
          have pB1_2 := BW.cell p1_2
          clear p1_0 p1_1 p1_2
          have p2_0 := sT2.c1
          have sT3 := sT2.tail
          have pB2_0 := BW.cell p2_0
          clear p2_0
          clear sT0 sT1 sT2 sT3
          (refine wp_region_below (by kernel_rfl) (by kernel_rfl) ?_; (repeat (first | (go_big_quiet_step (first | (go_at_call 11; refine BW.calls (framesP_b (some ad) ws.length c0 nf _ hc1 hc2 HF.out)))) | ((with_reducible refine wpQuiet_step ?_); intro K hK; go_simp; first | ((with_reducible refine hK _ ?_); clear hK K) | (apply Exists.intro; refine ⟨fun _ => ?_, hK _ ?_⟩; (first | (go_at_call 11; refine BW.calls (framesP_b (some ad) ws.length c0 nf _ hc1 hc2 HF.out))); clear hK K)))); (with_reducible refine wpQuiet_nil ?_); intro wq hw'; obtain ⟨⟨wy, hbq⟩, hw''⟩ := hw'; subst hw'')
          clear pB0_0 pB0_1 pB0_2 pB1_0 pB1_1 pB1_2 pB2_0
          have HB6 := Lib.hid (thenB HB5.out hbq)
          clear hbq
          go_wp2
          go_roundw
          case rel =>
            refine ⟨k + 1, n, Av, cv, by omega, ?_, rfl, by go_num, ?_, thenB HB.out HB6.out⟩
            · rw [range_snoc, HE.out, List.append_nil]; exact HNN.out
            · rw [range_snoc, HE.out, List.append_nil]; exact HO.out.below HB6.out
          case measure => simp [intOf]; omega
        have hdb : decide (dout < nf) = true := by simpa using hlt2
        have HT : Hid (tabP ws lv x) := Lib.hid (by unfold tabP; rw [HD2.out, HNF.out]; exact ⟨rfl, hlt2⟩)
        clear hlt2
        go_wp2
        have sT0 := S5.out
        obtain ⟨p0_0, p0_1, p0_2⟩ := sT0.c3
        have sT1 := sT0.tail
        have pB0_0 := BW.cell p0_0
        have pB0_1 := BW.cell p0_1
        have pB0_2 := BW.cell p0_2
        clear p0_0 p0_1 p0_2
        obtain ⟨p1_0, p1_1, p1_2⟩ := sT1.c3
        have sT2 := sT1.tail
        have pB1_0 := BW.cell p1_0
        have pB1_1 := BW.cell p1_1
        have pB1_2 := BW.cell p1_2
        clear p1_0 p1_1 p1_2
        have p2_0 := sT2.c1
        have sT3 := sT2.tail
        have pB2_0 := BW.cell p2_0
        clear p2_0
        clear sT0 sT1 sT2 sT3
        (refine wp_region_below (by kernel_rfl) (by kernel_rfl) ?_; (repeat (first | (go_big_quiet_step (first | (go_at_call 11; refine BW.calls (framesP_b (some ad) ws.length c0 nf _ hc1 hc2 HF.out)))) | ((with_reducible refine wpQuiet_step ?_); intro K hK; go_simp; first | ((with_reducible refine hK _ ?_); clear hK K) | (apply Exists.intro; refine ⟨fun _ => ?_, hK _ ?_⟩; (first | (go_at_call 11; refine BW.calls (framesP_b (some ad) ws.length c0 nf _ hc1 hc2 HF.out))); clear hK K)))); (with_reducible refine wpQuiet_nil ?_); intro wq hw'; obtain ⟨⟨wy, hbq⟩, hw''⟩ := hw'; subst hw'')
        clear pB0_0 pB0_1 pB0_2 pB1_0 pB1_1 pB1_2 pB2_0
        have S6 := Lib.hid (S5.out.below hbq)
        have HB6 := Lib.hid (thenB HB5.out hbq)
        clear hbq S5 HB5
        obtain ⟨cvr, hcvr⟩ : ∃ x, cov lv = x := ⟨_, rfl⟩
        have HCV := Lib.hid hcvr
        have hcb : cvr = 256 ∨ cvr = 16 := by rw [← hcvr]; have : lv = 1 ∨ lv = 2 := (by omega); rcases this with e | e <;> rw [e] <;> simp [cov]
        have hcb0 : 0 ≤ (k : Int) * cvr ∧ (k : Int) * cvr ≤ 4096 := by rcases hcb with e | e <;> rw [e] <;> omega
        obtain ⟨hcb1, hcb2⟩ := hcb0
        have hw3 : IntKind.i64.wrap ((k : Int) * cvr) = (k : Int) * cvr := by rw [IntKind.wrap_i64]; omega
        have hw4 : IntKind.i64.wrap (pg + (k : Int) * cvr) = pg + (k : Int) * cvr := by rw [IntKind.wrap_i64]; omega
        have hw5 : IntKind.i64.wrap (lv + 1) = lv + 1 := by rw [IntKind.wrap_i64]; omega
        clear hcvr hcb
        have sT0 := S6.out
        obtain ⟨p0_0, p0_1, p0_2⟩ := sT0.c3
        have sT1 := sT0.tail
        obtain ⟨p1_0, p1_1, p1_2⟩ := sT1.c3
        have sT2 := sT1.tail
        have p2_0 := sT2.c1
        have sT3 := sT2.tail
        clear sT0 sT1 sT2 sT3
        go_wp2
        go_region_held3 (fun w' => w'.cell? ⟨bd, 1, none⟩ = some (.int .i64 dout) ∧ w'.cell? ⟨w.heap.size + 1, 1, none⟩ = some (.int .i64 lv) ∧ w'.cell? ⟨w.heap.size + 1, 2, none⟩ = some (.int .i64 pg)) (go_keep) (first | (go_at_call 22; refine (coversP_b lv cvr HCV.out _).mono ?_; rintro e w' ⟨rfl, rfl⟩))
        all_goals
          refine st_genB ((S6.out.push _ _).drew) ((allocB HB6.out _).drew) (fun w7 S7' b7' => ?_)
          have S7 := Lib.hid S7'
          have HB7 := Lib.hid b7'
          have hci := child_in HP.out HA.out hlt hl3 (by simp only [HX.out]; exact HT.out)
          simp only [HX.out, HD2.out, HCV.out] at hci
          have HCI := Lib.hid hci
          obtain ⟨bl, hbl⟩ : ∃ l, placesP ws d ⟨dout, lv + 1, pg + (k : Int) * cvr⟩ = l := ⟨_, rfl⟩
          have HE : Hid (belowP ws (placesP ws d) ⟨fr, lv, pg⟩ k = bl) := Lib.hid (by unfold belowP; simp only [HX.out]; rw [if_pos HT.out, HD2.out]; simp only [HCV.out]; exact hbl)
          have hbl1 : bl.length ≤ 273 := by rw [← hbl]; exact Nat.le_trans (placesP_len _ _ _) (maxP_le (by have := HD.out; omega))
          have hbl0 : 0 < bl.length := by rw [← hbl]; cases d <;> simp [placesP]
          have HBL := Lib.hid hbl
          clear S7' b7' hci hbl S6 HB6
          clear p0_0 p0_1 p0_2 p1_0 p1_1 p1_2 p2_0
          have sT0 := S7.out
          obtain ⟨p0_0, p0_1, p0_2⟩ := sT0.c3
          have sT1 := sT0.tail
          have sT2 := sT1.tail
          have sT3 := sT2.tail
          have p3_0 := sT3.c1
          have sT4 := sT3.tail
          clear sT0 sT1 sT2 sT3 sT4
          go_wp2_with fail
          refine (IH.out _ ws ⟨dout, lv + 1, pg + (k : Int) * cvr⟩ _ (R.out.below S7.out.b) HW.out (by have := HD.out; simp only; omega) (by omega) HCI.out.1 HCI.out.2).mono ?_
          rw [Nat.add_sub_cancel, HBL.out]
          rintro e w8 ⟨vb, rfl, ob, hb8⟩
          obtain ⟨Ab, cb, hvb⟩ := ob.shape
          subst hvb
          have OB := Lib.hid ob
          have S8 := Lib.hid (S7.out.below hb8)
          have HB8 := Lib.hid (thenB HB7.out hb8)
          have HO8 := Lib.hid (HO.out.below HB8.out)
          have hcl : (⟨fr, lv, pg⟩ :: (List.range k).flatMap (belowP ws (placesP ws d) ⟨fr, lv, pg⟩) : List SPlace).length ≤ 1 + k * 273 := by have := HMX.out k; simp only [List.length_cons]; omega
          obtain ⟨cur, hcur⟩ : ∃ l, (⟨fr, lv, pg⟩ :: (List.range k).flatMap (belowP ws (placesP ws d) ⟨fr, lv, pg⟩) : List SPlace) = l := ⟨_, rfl⟩
          rw [hcur] at HO8 HNN hcl
          have HCUR := Lib.hid hcur
          have HNE : Hid (∀ g, (Value.slice Av n cv).ownBlock = some g → (Value.slice Ab bl.length cb).ownBlock ≠ some g) := Lib.hid (fun g h1 h2 => by
            have h3 := (HO.out.lt g h1).2
            have h4 := (OB.out.lt g h2).1
            have h5 := HB7.out.size
            omega)
          clear ob hb8 hcur HO
          clear p0_0 p0_1 p0_2 p3_0
          go_wp2
          generalize wr = w9 at *
          go_loopw [5, 10] (fun v i wr => ∃ (j n2 : Nat) (A2 : Option Addr) (c2 : Nat), j ≤ bl.length ∧ n2 = (cur ++ bl.take j).length ∧ v = .slice A2 n2 c2 ∧ i = .int .i64 j ∧ Own SPlace.enc 3 89 w1.heap.size wr v (cur ++ bl.take j) ∧ Own SPlace.enc 3 89 w7.heap.size wr (.slice Ab bl.length cb) bl ∧ (∀ g, v.ownBlock = some g → (Value.slice Ab bl.length cb).ownBlock ≠ some g) ∧ Below w1.heap.size w1 wr) (fun _ i _ => bl.length - (intOf i).toNat)
          case atStart => exact ⟨0, n, Av, cv, Nat.zero_le _, by simpa using HNN.out, rfl, rfl, by simpa using HO8.out, OB.out, HNE.out, thenB HB.out HB8.out⟩
          case round =>
            obtain ⟨j, n2, A2, c2, hj, hn2, rfl, rfl, ho, ob, hne, hb⟩ := hrel
            have HO2 := Lib.hid ho
            have OB2 := Lib.hid ob
            have HN2 := Lib.hid hn2
            have HNE2 := Lib.hid hne
            have HB2 := Lib.hid hb
            have hzz := hb.size
            have hnb : n2 ≤ 1 + k * 273 + 273 := by rw [hn2, List.length_append]; have := List.length_take_le j bl; omega
            clear ho ob hn2 hne hb
            by_cases hjt : j < bl.length
            · have hjt' : (j : Int) < (bl.length : Int) := by omega
              obtain ⟨a1, e1, ea, g1, u0, u1, u2⟩ := SPlace.at (OB2.out.rd SPlace.len) hjt
              cases ea
              have G1 := Lib.hid g1
              clear g1
              go_wp2_with (at_builtin; refine append1_at 89 3 24 85 (.agg #[.int .i64 0, .int .i64 0, .int .i64 0]) Try.underlying85 infoPlS rfl (by decide) SPlace.len SPlace.one rfl (.tmp 66) (.tmp 71) rfl w1.heap.size (.slice A2 n2 c2) (cur ++ bl.take j) e1 _ rfl rfl rfl HO2.out (by rw [← HN2.out]; omega) (by decide) hzz ?_)
              intro v1 wq2 ho1 hg1 hat
              have ob1 := OB2.out.kept hg1 (by
                by_cases h : (Value.slice (some a1) bl.length cb).ownBlock = none
                · exact Or.inl h
                · refine Or.inr fun e => ?_
                  obtain ⟨g, hg⟩ := Option.ne_none_iff_exists'.1 h
                  exact HNE2.out g (e ▸ hg) hg)
              have hb1 : Below w1.heap.size w1 wq2 := Own.grown HO2.out HB2.out HB2.out.size hg1
              have hne1 : ∀ g, v1.ownBlock = some g → (Value.slice (some a1) bl.length cb).ownBlock ≠ some g := fun g h1 h2 => by
                rcases hat with h | h
                · exact HNE2.out g (h ▸ h1) h2
                · have h3 := (OB2.out.lt g h2).2
                  rw [h] at h1
                  simp only [Option.some.injEq] at h1
                  omega
              (try rw [List.append_assoc] at ho1)
              rw [← take_snoc G1.out] at ho1
              obtain ⟨Aq, cq, hv1⟩ := ho1.shape
              subst hv1
              clear hg1 hat u0 u1 u2
              go_wp2
              go_roundw
              case rel => exact ⟨j + 1, _, _, _, by omega, rfl, rfl, by go_num, ho1, ob1, hne1, hb1⟩
              case measure => simp [intOf]; omega
            · have hjt' : ¬ (j : Int) < (bl.length : Int) := by omega
              obtain rfl : j = bl.length := by omega
              rw [List.take_length] at HN2 HO2
              have HL : Hid (cur ++ bl = (⟨fr, lv, pg⟩ :: (List.range (k + 1)).flatMap (belowP ws (placesP ws d) ⟨fr, lv, pg⟩) : List SPlace)) := Lib.hid (by rw [range_snoc, HE.out, ← HCUR.out]; rfl)
              go_wp2
              go_roundw
              case rel => exact ⟨k + 1, n2, A2, c2, by omega, by rw [← HL.out]; exact HN2.out, rfl, by go_num, by rw [← HL.out]; exact HO2.out, HB2.out⟩
              case measure => simp [intOf]; omega
theorem below_all (d : Nat) : ∀ (v0 : Value) (ws : List Int) (p : SPlace) (w : World), Rd wEnc 1 w v0 ws → WfW ws → (d : Int) = 4 - p.Level → 0 < d → inP ws p → alignP p → Calls Try.prog 55 #[.agg #[v0], p.val] w (PPost w (placesP ws (d - 1) p)) := by
  induction d with
  | zero => intro v0 ws p w _ _ _ h; omega
  | succ d ih =>
    intro v0 ws p w r hw hd _ hp ha
    exact below_step d ih v0 ws p w r hw hd hp ha
end Go.Proofs.Ythphfcheencbgaa.Mmu

namespace Go.Proofs.Ythphfcheencbgaa.Mmu
open Go.RowKit Go.Proofs.Ythphfcheencbgaa.Base Go.Proofs.Ythphfcheencbgaa.Kinds Go.Proofs.Ythphfcheencbgaa.DecMath Go.Proofs.Ythphfcheencbgaa.L1
set_option linter.unusedVariables false
set_option linter.unusedSimpArgs false
/-- A memory's size is a valid one. -/
def okLen (ws : List Int) : Prop := ws.length % 16 = 0 ∧ 16 ≤ ws.length ∧ ws.length ≤ 8192
instance (ws : List Int) : Decidable (okLen ws) := by unfold okLen; infer_instance
/-- The tables of a memory, and whether it is a tree. -/
noncomputable def placesS (ws : List Int) : List SPlace × Bool := if okLen ws then (placesP ws 2 ⟨0, 1, 0⟩, treeP ws (placesP ws 2 ⟨0, 1, 0⟩)) else ([], false)
/-- The answer is a list of places, the call's own, and a bool. -/
def P2Post (w : World) (r : List SPlace × Bool) (e : Ending) (w' : World) : Prop := ∃ v, e = .returned (.tuple #[v, .bool r.2]) ∧ Own SPlace.enc 3 89 w.heap.size w' v r.1 ∧ Below w.heap.size w w'
theorem root_in {ws : List Int} (h : okLen ws) : inP ws ⟨0, 1, 0⟩ ∧ alignP ⟨0, 1, 0⟩ := by
  obtain ⟨h1, h2, h3⟩ := h
  refine ⟨⟨⟨by simp, by simp⟩, ⟨by simp, ?_⟩, by simp, by simp⟩, by simp [alignP]⟩
  simp only
  omega

set_option maxRecDepth 100000 in
set_option maxHeartbeats 8000000 in
theorem specPlaces_any (v0 : Value) (ws : List Int) (w : World) (r : Rd wEnc 1 w v0 ws) (hr : ∀ x ∈ ws, 0 ≤ x ∧ x < 18446744073709551616) :
    Calls Try.prog 39 #[.agg #[v0]] w (P2Post w (placesS ws)) := by
  obtain ⟨A0, c0, e0, hc1, hc2⟩ := r.shape
  subst e0
  have R := Lib.hid r
  clear r
  by_cases hok : okLen ws
  rotate_left
  · have HF : Hid (framesOf ws.length = 0) := Lib.hid (by unfold framesOf; exact if_neg hok)
    have HS : Hid (placesS ws = ([], false)) := Lib.hid (if_neg hok)
    clear hok hr
    go_enter Try.func39, Try.ntmps39
    go_upto_region 1 with fail
    refine ((St.start w).push _ _).gen (fun w1 S1' _ => ?_)
    have S1 := Lib.hid S1'
    clear S1'
    have sT0 := S1.out
    have p0_0 := sT0.c1
    have sT1 := sT0.tail
    clear sT0 sT1
    go_wp2_with (go_at_call 11; refine (framesP_b A0 ws.length c0 0 _ hc1 hc2 HF.out).mono ?_; rintro e w2 ⟨rfl, hb2⟩; have S2 := Lib.hid (S1.out.below hb2); clear hb2)
    go_ret2
    rw [HS.out]
    exact ⟨_, rfl, (Own.made SPlace.enc 3 89 w2 S2.out.b.size), allocB S2.out.b _⟩
  have hlen : ws.length ≤ 8192 := hok.2.2
  have HWF : Hid (WfW ws) := Lib.hid ⟨hr, hok.1, hok.2.1, hok.2.2⟩
  obtain ⟨nf, hnf⟩ : ∃ x : Int, ((ws.length / 16 : Nat) : Int) = x := ⟨_, rfl⟩
  have HNF := Lib.hid hnf
  have HF : Hid (framesOf ws.length = nf) := Lib.hid (by rw [← hnf]; unfold framesOf; exact if_pos hok)
  have hnf0 : (nf == 0) = false := by have := hok.2.1; rw [beq_eq_false_iff_ne]; omega
  obtain ⟨ps, hps⟩ : ∃ l, placesP ws 2 ⟨0, 1, 0⟩ = l := ⟨_, rfl⟩
  have HS : Hid (placesS ws = (ps, treeP ws ps)) := Lib.hid (by unfold placesS; rw [if_pos hok, hps])
  have hpl : ps.length ≤ 273 := by rw [← hps]; exact Nat.le_trans (placesP_len _ _ _) (maxP_le (by omega))
  have HIN : Hid (∀ q ∈ ps, inP ws q) := Lib.hid (by rw [← hps]; exact placesP_in ws 2 _ (by simp) (root_in hok).1 (root_in hok).2)
  have HRT := Lib.hid (root_in hok)
  have HPS := Lib.hid hps
  clear hnf hps hok hr
  go_enter Try.func39, Try.ntmps39
  go_upto_region 1 with fail
  refine ((St.start w).push _ _).gen (fun w1 S1' _ => ?_)
  have S1 := Lib.hid S1'
  clear S1'
  have sT0 := S1.out
  have p0_0 := sT0.c1
  have sT1 := sT0.tail
  clear sT0 sT1
  go_upto_region 4 with (go_at_call 11; refine (framesP_b A0 ws.length c0 nf _ hc1 hc2 HF.out).mono ?_; rintro e w2 ⟨rfl, hb2⟩; have S2 := Lib.hid (S1.out.below hb2); clear hb2)
  clear p0_0
  have sT0 := S2.out
  have p0_0 := sT0.c1
  have sT1 := sT0.tail
  clear sT0 sT1
  go_wp2_with fail
  refine (below_all 3 _ ws ⟨0, 1, 0⟩ _ (R.out.below S2.out.b) HWF.out (by simp) (by omega) HRT.out.1 HRT.out.2).mono ?_
  rw [show 3 - 1 = 2 from rfl, HPS.out]
  rintro e w3 ⟨vp, rfl, op, hb3⟩
  obtain ⟨Ap, cp, hvp⟩ := op.shape
  subst hvp
  have OP := Lib.hid (op.lower S2.out.b.size)
  have RP := Lib.hid (op.rd SPlace.len)
  have S3 := Lib.hid (S2.out.below hb3)
  clear op hb3 S2
  clear p0_0
  go_wp2
  go_loopw [6] (fun i wr => ∃ k : Nat, k ≤ ps.length ∧ i = .int .i64 k ∧ treeTo ws ps k ∧ Below w3.heap.size w3 wr) (fun i _ => ps.length - (intOf i).toNat)
  case atStart => exact ⟨0, Nat.zero_le _, rfl, fun i hi => by omega, Below.refl _ _⟩
  case round =>
    obtain ⟨i, hi, rfl, hto, hb⟩ := hrel
    have HTO := Lib.hid hto
    have HB := Lib.hid hb
    clear hto hb
    by_cases hlt : i < ps.length
    rotate_left
    · have hlt' : ¬ (i : Int) < (ps.length : Int) := by omega
      obtain rfl : i = ps.length := by omega
      go_wp2
      go_ret2
      rw [HS.out, tree_true HTO.out]
      exact ⟨_, rfl, OP.out.below HB.out, thenB S3.out.b HB.out⟩
    have hlt' : (i : Int) < (ps.length : Int) := by omega
    obtain ⟨pi, hpi⟩ : ∃ p, ps[i]? = some p := ⟨_, List.getElem?_eq_getElem hlt⟩
    have HPI := Lib.hid hpi
    have hin := HIN.out pi (List.mem_of_getElem? hpi)
    have HINI := Lib.hid hin
    clear hin hpi
    go_wp2
    generalize wr = w4 at *
    go_loopw [7] (fun x wr => ∃ k : Nat, k ≤ i ∧ x = .int .i64 k ∧ freshP ps i k pi ∧ Below w3.heap.size w3 wr) (fun x _ => i - (intOf x).toNat)
    case atStart => exact ⟨0, Nat.zero_le _, rfl, fun j hj => by omega, HB.out⟩
    case round =>
      obtain ⟨j, hj, rfl, hfr, hb⟩ := hrel
      have HFR := Lib.hid hfr
      have HB2 := Lib.hid hb
      clear hfr hb
      by_cases hjt : j < i
      · have hjt' : (j : Int) < (i : Int) := by omega
        have hjl : j < ps.length := by omega
        have hjl' : (j : Int) < (ps.length : Int) := by omega
        obtain ⟨a0, e0, ea, g0, u0, u1, u2⟩ := SPlace.at (RP.out.below HB2.out) hlt
        obtain ⟨a1, e1, ea1, g1, t0, t1, t2⟩ := SPlace.at (RP.out.below HB2.out) hjl
        subst ea
        obtain rfl : a0 = a1 := by simpa using ea1
        obtain rfl : pi = e0 := Option.some.inj (HPI.out.symm.trans g0)
        have G1 := Lib.hid g1
        clear g0 g1 ea1
        obtain ⟨sb, hsb⟩ : ∃ b, (pi.Frame == e1.Frame) = b := ⟨_, rfl⟩
        have HSB := Lib.hid hsb
        go_wp2
        have b0 := BW.cell u0
        have b1 := BW.cell t0
        (refine wp_region_below (by kernel_rfl) (by kernel_rfl) ?_; (repeat (first | (go_big_quiet_step (fail)) | ((with_reducible refine wpQuiet_step ?_); intro K hK; go_simp; first | ((with_reducible refine hK _ ?_); clear hK K) | (apply Exists.intro; refine ⟨fun _ => ?_, hK _ ?_⟩; (fail); clear hK K)))); (with_reducible refine wpQuiet_nil ?_); intro wq hw'; obtain ⟨⟨wy, hbq⟩, hw''⟩ := hw'; subst hw'')
        clear b0 b1
        cases sb
        · go_wp2
          go_roundw
          case rel =>
            refine ⟨j + 1, by omega, by go_num, fun j' hj' q hq => ?_, thenB HB2.out hbq⟩
            by_cases e : j' = j
            · subst e; obtain rfl := Option.some.inj (G1.out.symm.trans hq); have := HSB.out; rw [beq_eq_false_iff_ne] at this; exact fun h => this h.symm
            · exact HFR.out j' (by omega) q hq
          case measure => simp [intOf]; omega
        · go_wp2
          go_ret2
          rw [HS.out, tree_not_fresh HPI.out hjt G1.out (by have := HSB.out; rw [beq_iff_eq] at this; exact this.symm)]
          exact ⟨_, rfl, (OP.out.below HB2.out).below hbq, thenB S3.out.b (thenB HB2.out hbq)⟩
      · have hjt' : ¬ (j : Int) < (i : Int) := by omega
        obtain rfl : j = i := by omega
        go_wp2
        generalize wr = w5 at *
        go_loopw [8] (fun x wr => ∃ k : Nat, k ≤ 16 ∧ x = .int .i64 k ∧ wordsOk ws pi k ∧ Below w3.heap.size w3 wr) (fun x _ => 16 - (intOf x).toNat)
        case atStart => exact ⟨0, Nat.zero_le _, rfl, fun j hj => by omega, HB2.out⟩
        case round =>
          obtain ⟨k, hk, rfl, hws, hb⟩ := hrel
          have HWS := Lib.hid hws
          have HB3 := Lib.hid hb
          have S4 := Lib.hid (S3.out.below hb)
          clear hws hb
          by_cases hkt : k < 16
          rotate_left
          · have hkt' : ¬ (k : Int) < 16 := by omega
            obtain rfl : k = 16 := by omega
            go_wp2
            go_roundw
            case rel => exact ⟨j + 1, by omega, by go_num, tree_step HTO.out HPI.out HFR.out HWS.out, HB3.out⟩
            case measure => simp [intOf]; omega
          have hkt' : (k : Int) < 16 := by omega
          obtain ⟨⟨hl1, hl2⟩, ⟨hf0, hf1⟩, _, _⟩ := id HINI.out
          obtain ⟨ad, cw, hv, hcw1, hcw2, hcell, hx0, hx1, hax⟩ := wordP_at R.out HWF.out pi.Frame k ⟨hf0, hf1⟩ (by omega)
          simp only [Value.slice.injEq] at hv
          obtain ⟨rfl, _, rfl⟩ := hv
          obtain ⟨x, hx⟩ : ∃ x, wordP ws pi.Frame k = x := ⟨_, rfl⟩
          rw [hx] at hcell hx0 hx1
          have HX := Lib.hid hx
          obtain ⟨dk, dout, dpm, hdd⟩ : ∃ a b c, dec pi.Level x = (a, b, c) := ⟨_, _, _, rfl⟩
          have HD2 := Lib.hid hdd
          have hw1 : IntKind.i64.wrap (pi.Frame * 16) = pi.Frame * 16 := by rw [IntKind.wrap_i64]; omega
          have hw2 : IntKind.i64.wrap (pi.Frame * 16 + k) = pi.Frame * 16 + k := by rw [IntKind.wrap_i64]; omega
          have ha0 : 0 ≤ pi.Frame * 16 + (k : Int) := by omega
          have hac : (((pi.Frame * 16 + (k : Int)).toNat : Nat) : Int) = pi.Frame * 16 + k := by omega
          have hat : (pi.Frame * 16 + (k : Int)).toNat < ws.length := by omega
          obtain ⟨a0, e0, ea, g0, u0, u1, u2⟩ := SPlace.at (RP.out.below HB3.out) hlt
          subst ea
          obtain rfl : pi = e0 := Option.some.inj (HPI.out.symm.trans g0)
          have hcell2 := bC S4.out.b hcell
          have hz1 := World.block_lt_of_cell? _ _ hcell2
          have hz2 := World.block_lt_of_cell? _ _ u0
          have hz3 : w.heap.size < wr.heap.size := S4.out.lt _ (List.mem_cons_self ..)
          have n1 : ¬ (wr.heap.size = w.heap.size) := by omega
          have n2 : ¬ (wr.heap.size = (a0.add (j * 3)).block) := by omega
          have n3 : ¬ (wr.heap.size = (ad.add (pi.Frame * 16 + (k : Int)).toNat).block) := by omega
          clear hx hdd g0 u2 hz1 hz2 hz3
          have sT0 := S4.out
          have p0_0 := sT0.c1
          have sT1 := sT0.tail
          clear sT0 sT1
          go_wp2
          go_region_held3 (fun w' => w'.cell? (a0.add (j * 3)) = some (.int .i64 pi.Frame) ∧ w'.cell? ⟨(a0.add (j * 3)).block, (a0.add (j * 3)).off + 1, none⟩ = some (.int .i64 pi.Level) ∧ w'.cell? ⟨w.heap.size, 0, none⟩ = some (.slice (some ad) ws.length c0) ∧ w'.cell? (ad.add (pi.Frame * 16 + (k : Int)).toNat) = some (.int .u64 x))
            (first | go_keep | (with_reducible exact ⟨z0, z1, z2, z3⟩))
            ((go_at_call 32; refine (specDecode_any pi.Level x _ hx0 hx1).mono ?_; rw [HD2.out]; rintro e w6 ⟨rfl, hb6⟩; first
              | (have S6 := Lib.hid ((S4.out.push _ _).drew.below hb6); have HB6 : Hid (Below wr.heap.size wr w6) := Lib.hid (thenB (allocB (Below.refl _ _) _).drew hb6); clear hb6; have sT0 := S6.out; obtain ⟨y0_0, y0_1, y0_2⟩ := sT0.c3; have yF0_0 := sT0.f 0; have yF0_1 := sT0.f 1; have yF0_2 := sT0.f 2; have sT1 := sT0.tail; have y1_0 := sT1.c1; have sT2 := sT1.tail; clear sT0 sT1 sT2; have z0 := bC HB6.out u0; have z1 := bC HB6.out u1; have z2 := y1_0; have z3 := bC HB6.out hcell2)
              | (have S6 := Lib.hid (S4.out.drew.below hb6); have HB6 : Hid (Below wr.heap.size wr w6) := Lib.hid (thenB (below_drewN (Below.refl _ _) 1) hb6); clear hb6; have sT0 := S6.out; have y0_0 := sT0.c1; have sT1 := sT0.tail; clear sT0 sT1; have z0 := bC HB6.out u0; have z1 := bC HB6.out u1; have z2 := y0_0; have z3 := bC HB6.out hcell2)))
          refine st_genB (S6.out.push _ _) (allocB HB6.out _) (fun w7 S7' b7' => ?_)
          obtain ⟨bd, hbd⟩ : ∃ b, w6.heap.size = b := ⟨_, rfl⟩
          rw [hbd] at S7' ⊢
          rotate_left
          refine st_genB (st_set3 S6.out _ _ _) (((HB6.out.setCell (p := ⟨wr.heap.size, 0, none⟩) (Nat.le_refl _) _).setCell (p := ⟨wr.heap.size, 1, none⟩) (Nat.le_refl _) _).setCell (p := ⟨wr.heap.size, 2, none⟩) (Nat.le_refl _) _) (fun w7 S7' b7' => ?_)
          obtain ⟨bd, hbd⟩ : ∃ b, wr.heap.size = b := ⟨_, rfl⟩
          rw [hbd] at S7' ⊢
          all_goals
            have S7 := Lib.hid S7'
            have HB7 := Lib.hid (thenB HB3.out b7')
            clear S7' b7' S6 HB6 hbd z0 z1 z2 z3 n1 n2 n3 hcell hcell2 u0 u1
            by_cases h4 : dk = 4
            · have hb4 : (dk == 4) = true := by simpa using h4
              have HBAD : Hid (¬ wordOk ws pi.Level (wordP ws pi.Frame k)) := Lib.hid (by rw [HX.out]; unfold wordOk; rw [HD2.out]; exact fun h => h.1 h4)
              clear h4
              have sT0 := S7.out
              obtain ⟨p0_0, p0_1, p0_2⟩ := sT0.c3
              have sT1 := sT0.tail
              clear sT0 sT1
              go_wp2
              go_ret2
              rw [HS.out, tree_not_word HPI.out hkt HBAD.out]
              exact ⟨_, rfl, OP.out.below HB7.out, S7.out.b⟩
            have hb4 : (dk == 4) = false := by simpa using h4
            by_cases h1 : dk = 1
            rotate_left
            · have hb1 : (dk == 1) = false := by simpa using h1
              have HOK : Hid (wordOk ws pi.Level (wordP ws pi.Frame k)) := Lib.hid (by rw [HX.out]; unfold wordOk; rw [HD2.out]; exact ⟨h4, fun h => absurd h h1⟩)
              clear h4 h1
              have sT0 := S7.out
              obtain ⟨p0_0, p0_1, p0_2⟩ := sT0.c3
              have sT1 := sT0.tail
              clear sT0 sT1
              go_wp2
              go_roundw
              case rel => exact ⟨k + 1, by omega, by go_num, words_step HWS.out HOK.out, HB7.out⟩
              case measure => simp [intOf]; omega
            subst h1
            by_cases hlt2 : dout < nf
            · have hb5 : ¬ nf ≤ dout := by omega
              have HOK : Hid (wordOk ws pi.Level (wordP ws pi.Frame k)) := Lib.hid (by rw [HX.out]; unfold wordOk; rw [HD2.out, HNF.out]; exact ⟨h4, fun _ => hlt2⟩)
              clear h4 hlt2
              have sT0 := S7.out
              obtain ⟨p0_0, p0_1, p0_2⟩ := sT0.c3
              have sT1 := sT0.tail
              clear sT0 sT1
              go_wp2
              go_roundw
              case rel => exact ⟨k + 1, by omega, by go_num, words_step HWS.out HOK.out, HB7.out⟩
              case measure => simp [intOf]; omega
            · have hb5 : nf ≤ dout := by omega
              have HBAD : Hid (¬ wordOk ws pi.Level (wordP ws pi.Frame k)) := Lib.hid (by rw [HX.out]; unfold wordOk; rw [HD2.out, HNF.out]; exact fun h => hlt2 (h.2 rfl))
              clear h4 hlt2
              have sT0 := S7.out
              obtain ⟨p0_0, p0_1, p0_2⟩ := sT0.c3
              have sT1 := sT0.tail
              clear sT0 sT1
              go_wp2
              go_ret2
              rw [HS.out, tree_not_word HPI.out hkt HBAD.out]
              exact ⟨_, rfl, OP.out.below HB7.out, S7.out.b⟩
def hitV (r : Int × Int × Int × Int) : Value := .agg #[.int .i64 r.1, .int .i64 r.2.1, .int .i64 r.2.2.1, .int .i64 r.2.2.2]
end Go.Proofs.Ythphfcheencbgaa.Mmu
