/- Walks of the program's places: the closure that calls itself. Walk of the program's places. The call's own map[int]bool: what it holds, the look-up, the store. Walk of the program's tree. Walk of the program's Places. -/
import Derived.Test.YthphfcheencbgaaImplTable
import Derived.Shelf.Abstract
import Derived.Test.YthphfcheencbgaaSpecPlaces
import Derived.Maps.OwnOps
import Derived.Maps.Views
namespace Go.Proofs.Ythphfcheencbgaa.Mmu
open Go.RowKit Go.Proofs.Ythphfcheencbgaa.Base Go.Proofs.Ythphfcheencbgaa.Kinds Go.Proofs.Ythphfcheencbgaa.DecMath Go.Proofs.Ythphfcheencbgaa.L1
set_option linter.unusedVariables false
set_option linter.unusedSimpArgs false
/-- All that was there is as it was, but for the box bo and the row of v; the row of v' is v's or new. -/
structure KeepP (bo : Nat) (v v' : Value) (w w' : World) : Prop where
  b : Below 0 w w'
  block : ∀ k, k < w.heap.size → k ≠ bo → v.ownBlock ≠ some k → w'.heap[k]? = w.heap[k]?
  row : v'.ownBlock = v.ownBlock ∨ ∃ k, v'.ownBlock = some k ∧ w.heap.size ≤ k
theorem KeepP.refl (bo : Nat) (v : Value) (w : World) : KeepP bo v v w w := ⟨Below.refl _ _, fun _ _ _ _ => rfl, .inl rfl⟩
theorem KeepP.trans {bo : Nat} {v1 v2 v3 : Value} {w1 w2 w3 : World} (h : KeepP bo v1 v2 w1 w2) (k : KeepP bo v2 v3 w2 w3) : KeepP bo v1 v3 w1 w3 := by
  refine ⟨h.b.trans k.b, fun i hi hb hr => ?_, ?_⟩
  · rw [← h.block i hi hb hr]
    refine k.block i (Nat.lt_of_lt_of_le hi h.b.size) hb ?_
    rcases h.row with e | ⟨j, e, hj⟩
    · rw [e]; exact hr
    · rw [e]; intro e2; simp only [Option.some.injEq] at e2; omega
  · rcases k.row with e | ⟨j, e, hj⟩
    · rcases h.row with e2 | ⟨j2, e2, hj2⟩
      · exact .inl (e.trans e2)
      · exact .inr ⟨j2, e.trans e2, hj2⟩
    · exact .inr ⟨j, e, Nat.le_trans h.b.size hj⟩
theorem KeepP.of_below {bo : Nat} (v : Value) {w w' : World} (h : Below w.heap.size w w') : KeepP bo v v w w' := ⟨h.mono (Nat.zero_le _), fun k hk _ _ => h.block k hk, .inl rfl⟩
theorem KeepP.of_grown {bo : Nat} {v v' : Value} {w w' : World} (h : w.grownBy w' v.ownBlock) (hr : v'.ownBlock = v.ownBlock ∨ ∃ k, v'.ownBlock = some k ∧ w.heap.size ≤ k) : KeepP bo v v' w w' :=
  ⟨⟨h.os, h.tape, h.output, h.size, fun _ hk => absurd hk (Nat.not_lt_zero _)⟩, fun k hk _ hn => h.block k hk (fun e => hn e.symm), hr⟩
theorem KeepP.set {bo : Nat} (v : Value) (w : World) (i : Nat) (u : Value) : KeepP bo v v w (w.setCell ⟨bo, i, none⟩ u) :=
  ⟨⟨rfl, rfl, rfl, by simp [World.setCell], fun _ hk => absurd hk (Nat.not_lt_zero _)⟩, fun k _ hb _ => Below.heap_setCell _ _ _ _ hb, .inl rfl⟩
/-- What lay in other blocks lies there still. -/
theorem KeepP.at {bo : Nat} {v v' : Value} {w w' : World} (h : KeepP bo v v' w w') {k : Nat} {cs : Array Value} {T : Nat} (hk : w.heap[k]? = some (.cells cs T)) (hb : k ≠ bo) (hr : v.ownBlock ≠ some k) : w'.heap[k]? = some (.cells cs T) :=
  (h.block k (Array.getElem?_eq_some_iff.1 hk).1 hb hr).trans hk
/-- The boxes that the closure has captured, and the list that it fills. -/
structure PlB (w0 : World) (bm bo bw : Nat) (v0 v : Value) (l : List SPlace) (w : World) : Prop where
  ord : w0.heap.size ≤ bm ∧ bm < bo ∧ bo < bw
  b : Below w0.heap.size w0 w
  m : w.heap[bm]? = some (.cells #[v0] 25)
  o : w.heap[bo]? = some (.cells #[v] 85)
  f : w.heap[bw]? = some (.cells #[.func (.func 81) #[] #[.pointer (some ⟨bo, 0, none⟩), .pointer (some ⟨bm, 0, none⟩), .pointer (some ⟨bw, 0, none⟩)]] 148)
  own : Own SPlace.enc 3 89 (bm + 1) w v l
  off : v.ownBlock ≠ some bo ∧ v.ownBlock ≠ some bw
theorem PlB.below {w0 w w1 : World} {bm bo bw : Nat} {v0 v : Value} {l : List SPlace} (h : PlB w0 bm bo bw v0 v l w) (hb : Below w.heap.size w w1) : PlB w0 bm bo bw v0 v l w1 :=
  ⟨h.ord, thenB h.b hb, (hb.block _ (Array.getElem?_eq_some_iff.1 h.m).1).trans h.m, (hb.block _ (Array.getElem?_eq_some_iff.1 h.o).1).trans h.o, (hb.block _ (Array.getElem?_eq_some_iff.1 h.f).1).trans h.f, h.own.below hb, h.off⟩
theorem PlB.ne {w0 w : World} {bm bo bw : Nat} {v0 v : Value} {l : List SPlace} (h : PlB w0 bm bo bw v0 v l w) {k : Nat} (hk : k ≤ bm ∨ k = bo ∨ k = bw) : v.ownBlock ≠ some k := fun e => by
  rcases hk with hk | rfl | rfl
  · have := (h.own.lt k e).1
    omega
  · exact h.off.1 e
  · exact h.off.2 e
/-- The row has grown. -/
theorem PlB.grown {w0 w w1 : World} {bm bo bw : Nat} {v0 v v' : Value} {l l' : List SPlace} (h : PlB w0 bm bo bw v0 v l w) (hg : w.grownBy w1 v.ownBlock) (o : Own SPlace.enc 3 89 (bm + 1) w1 v' l') (hr : v'.ownBlock = v.ownBlock ∨ v'.ownBlock = some (w.heap.size + 1)) : w1.heap[bo]? = some (.cells #[v] 85) ∧ PlB w0 bm bo bw v0 v' l' (w1.setCell ⟨bo, 0, none⟩ v') := by
  have hd := h.ord
  have hat : ∀ (k : Nat) (cs : Array Value) (T : Nat), (k ≤ bm ∨ k = bo ∨ k = bw) → w.heap[k]? = some (.cells cs T) → w1.heap[k]? = some (.cells cs T) := fun k cs T hk e => (hg.block k (Array.getElem?_eq_some_iff.1 e).1 (fun e2 => h.ne hk e2.symm)).trans e
  have ho := hat bo _ _ (by omega) h.o
  have ho' : v'.ownBlock ≠ some bo ∧ v'.ownBlock ≠ some bw := by
    have hb1 := (Array.getElem?_eq_some_iff.1 h.o).1
    have hb2 := (Array.getElem?_eq_some_iff.1 h.f).1
    rcases hr with e | e
    · rw [e]; exact h.off
    · rw [e]; simp only [ne_eq, Option.some.injEq]; omega
  have hgs : w1.grownBy (w1.setCell ⟨bo, 0, none⟩ v') (some bo) := ⟨rfl, rfl, rfl, by simp [World.setCell], fun k _ hne => Below.heap_setCell _ _ _ _ (by show k ≠ bo; intro e; exact hne (by rw [e]))⟩
  refine ⟨ho, hd, ?_, ?_, ?_, ?_, o.kept hgs (.inr ho'.1), ho'⟩
  · have hb : Below w0.heap.size w0 w1 := h.b.trans ⟨hg.os, hg.tape, hg.output, hg.size, fun k hk => hg.block k (Nat.lt_of_lt_of_le hk h.b.size) (fun e2 => h.ne (by omega) e2.symm)⟩
    exact hb.setCell (p := ⟨bo, 0, none⟩) (by show w0.heap.size ≤ bo; omega) _
  · rw [Below.heap_setCell _ _ _ _ (by show bm ≠ bo; omega)]; exact hat bm _ _ (by omega) h.m
  · exact st_set ho 0 v'
  · rw [Below.heap_setCell _ _ _ _ (by show bw ≠ bo; omega)]; exact hat bw _ _ (by omega) h.f
/-- The list grows by the places l'. -/
def PcPost (w0 : World) (bm bo bw : Nat) (v0 v : Value) (l' : List SPlace) (w : World) (e : Ending) (w' : World) : Prop := ∃ v', e = .returned (.tuple #[]) ∧ PlB w0 bm bo bw v0 v' l' w' ∧ KeepP bo v v' w w'
theorem coverQ_b (l c : Int) (h : cov l = c) (w : World) : Calls Try.prog 43 #[.int .i64 l] w fun e w' => e = .returned (.int .i64 c) ∧ w' = w :=
  (cover_any l w).mono (by rintro e w' ⟨rfl, rfl⟩; exact ⟨by rw [h], rfl⟩)
set_option maxRecDepth 100000 in
/-- A word of a table, by value. -/
theorem index_tab {ws : List Int} {f x : Int} {k : Nat} (hk : k < 16) (hx : wordP ws f k = x) (W : World) : (Instr.index 150 (.agg (tableV ws f).toArray) (.int .i64 k)).run Try.prog W = .ok (.int .u64 x) W := by
  have hix : (tableV ws f)[k]? = some (.int .u64 x) := by
    unfold tableV
    rw [List.getElem?_map, List.getElem?_range hk, ← hx]
    rfl
  have hu : Try.prog.underlying 150 = some (.array 16 31) := by rfl
  have hu2 : Try.prog.underlying 31 = some (.int .u64) := by rfl
  have hi : (Try.prog.info? 31).map (·.size) = some 1 := by rfl
  have hin : (0 : Int) ≤ (k : Int) ∧ (k : Int) < ((16 : Nat) : Int) := by omega
  cases hq : Try.prog.info? 31 with
  | none => simp [hq] at hi
  | some i =>
    have hs : i.size = 1 := by simpa [hq] using hi
    have hpart : (part 31 (tableV ws f).toArray k).run Try.prog W = .ok (.int .u64 x) W := by
      unfold part
      rw [Sem.run_bind, run_isAgg_plain hu2 rfl]
      simp [hix, go_sem]
    unfold Instr.index
    simp [run_underlying hu, asIntOf, hin, go_sem, sizeOf, typeInfo, hq, hs, hpart, Sem.run_bind]
    try (rw [if_pos hk, hix]; rfl)
set_option maxRecDepth 100000 in
set_option maxHeartbeats 8000000 in
theorem pc_step (d : Nat) (ih : ∀ (w0 : World) (bm bo bw : Nat) (v0 v : Value) (ws : List Int) (l : List SPlace) (p : SPlace) (w : World), Rd wEnc 1 w0 v0 ws → PlB w0 bm bo bw v0 v l w → WfW ws → (d : Int) = 4 - p.Level → 0 < d → inP ws p → alignP p → l.length + maxP (d - 1) ≤ 100000 →
      Calls Try.prog 81 #[p.val, .pointer (some ⟨bo, 0, none⟩), .pointer (some ⟨bm, 0, none⟩), .pointer (some ⟨bw, 0, none⟩)] w (PcPost w0 bm bo bw v0 v (l ++ placesP ws (d - 1) p) w))
    (w0 : World) (bm bo bw : Nat) (v0 v : Value) (ws : List Int) (l : List SPlace) (p : SPlace) (w : World) (r : Rd wEnc 1 w0 v0 ws) (B : PlB w0 bm bo bw v0 v l w) (hw : WfW ws) (hd : ((d + 1 : Nat) : Int) = 4 - p.Level) (hp : inP ws p) (ha : alignP p) (hl : l.length + maxP d ≤ 100000) :
    Calls Try.prog 81 #[p.val, .pointer (some ⟨bo, 0, none⟩), .pointer (some ⟨bm, 0, none⟩), .pointer (some ⟨bw, 0, none⟩)] w (PcPost w0 bm bo bw v0 v (l ++ placesP ws d p) w) := by
  obtain ⟨fr, lv, pg⟩ := p
  have HP := Lib.hid hp
  have HA := Lib.hid ha
  have HW := Lib.hid hw
  have R := Lib.hid r
  have IH := Lib.hid ih
  have HD := Lib.hid hd
  have B0 := Lib.hid B
  have HL := Lib.hid hl
  obtain ⟨⟨hl1, hl2⟩, ⟨hf0, hf1⟩, hg0, hg1⟩ := hp
  simp only at hl1 hl2 hf0 hf1 hg0 hg1 hd
  have hlen : ws.length ≤ 8192 := hw.2.2.2
  have ho1 := B.ord
  have hob := (Array.getElem?_eq_some_iff.1 B.o).1
  have hlm : l.length ≤ 100000 := by omega
  obtain ⟨A, cp, hv⟩ := B.own.shape
  subst hv
  simp only [SPlace.val]
  clear r hw ih ha B hl
  go_enter Try.func81, Try.ntmps81
  go_upto_region 1 with fail
  have B1 := Lib.hid (B0.out.below (allocB (Below.refl _ _) (.cells #[.int .i64 fr, .int .i64 lv, .int .i64 pg] 89)))
  have x1 : (w.alloc (.cells #[.int .i64 fr, .int .i64 lv, .int .i64 pg] 89)).heap[w.heap.size]? = some (.cells #[.int .i64 fr, .int .i64 lv, .int .i64 pg] 89) := heap_alloc_new w _
  have KP1 : Hid (KeepP bo (.slice A l.length cp) (.slice A l.length cp) w (w.alloc (.cells #[.int .i64 fr, .int .i64 lv, .int .i64 pg] 89))) := Lib.hid (KeepP.of_below _ (allocB (Below.refl _ _) _))
  have hz1 : (w.alloc (.cells #[.int .i64 fr, .int .i64 lv, .int .i64 pg] 89)).heap.size = w.heap.size + 1 := by simp
  obtain ⟨bp, hbp⟩ : ∃ b, w.heap.size = b := ⟨_, rfl⟩
  rw [hbp] at x1 hob hz1 ⊢
  generalize w.alloc (.cells #[.int .i64 fr, .int .i64 lv, .int .i64 pg] 89) = w1 at *
  have X1 := Lib.hid x1
  have c0 : w1.cell? ⟨bo, 0, none⟩ = some (.slice A l.length cp) := by simp [World.cell?, B1.out.o]
  have p0 : w1.cell? ⟨bp, 0, none⟩ = some (.int .i64 fr) := by simp [World.cell?, x1]
  have p1 : w1.cell? ⟨bp, 1, none⟩ = some (.int .i64 lv) := by simp [World.cell?, x1]
  have p2 : w1.cell? ⟨bp, 2, none⟩ = some (.int .i64 pg) := by simp [World.cell?, x1]
  have HZ1 := Lib.hid hz1
  have HBP := Lib.hid hbp
  clear x1 hz1 hbp
  go_wp2_with (at_builtin; refine append1_at 89 3 24 85 (.agg #[.int .i64 0, .int .i64 0, .int .i64 0]) Try.underlying85 infoPlS rfl (by decide) SPlace.len SPlace.one rfl (.tmp 8) (.tmp 10) rfl (bm + 1) (.slice A l.length cp) l ⟨fr, lv, pg⟩ _ rfl rfl rfl B1.out.own (by omega) (by decide) (Array.getElem?_eq_some_iff.1 B1.out.m).1 ?_)
  intro v1 wq hov hgv hrow
  obtain ⟨A1, cq, hv1⟩ := hov.shape
  obtain ⟨n1, hn1⟩ : ∃ n, (l ++ [(⟨fr, lv, pg⟩ : SPlace)]).length = n := ⟨_, rfl⟩
  rw [hn1] at hv1
  have HN1 := Lib.hid hn1
  subst hv1
  clear hn1
  obtain ⟨hbo, B2'⟩ := B1.out.grown hgv hov hrow
  have hx2 := hgv.block bp (Array.getElem?_eq_some_iff.1 X1.out).1 (fun e => by have := (B0.out.own.lt bp e.symm).2; have := HBP.out; omega)
  rw [X1.out] at hx2
  have x2 : (wq.setCell ⟨bo, 0, none⟩ (.slice A1 n1 cq)).heap[bp]? = some (.cells #[.int .i64 fr, .int .i64 lv, .int .i64 pg] 89) := by rw [Below.heap_setCell _ _ _ _ (by show bp ≠ bo; omega)]; exact hx2
  have KP2 : Hid (KeepP bo (.slice A l.length cp) (.slice A1 n1 cq) w (wq.setCell ⟨bo, 0, none⟩ (.slice A1 n1 cq))) := Lib.hid ((KP1.out.trans (KeepP.of_grown hgv (by rcases hrow with e | e; exact .inl e; exact .inr ⟨_, e, by omega⟩))).trans (KeepP.set (.slice A1 n1 cq) wq 0 (.slice A1 n1 cq)))
  have NB2 : Hid ((Value.slice A1 n1 cq).ownBlock ≠ some bp) := Lib.hid (fun e => by
    rcases hrow with e2 | e2
    · have := (B0.out.own.lt bp (e2 ▸ e)).2; have := HBP.out; omega
    · rw [e2] at e; simp only [Option.some.injEq] at e; have := HZ1.out; omega)
  have B2 := Lib.hid B2'
  have X2 := Lib.hid x2
  have hb0 : wq.cell? ⟨bo, 0, none⟩ = some (.slice A l.length cp) := by simp [World.cell?, hbo]
  have hb1 : wq.frozen? ⟨bo, 0, none⟩ = false := by simp [World.frozen?, hbo]
  clear B2' x2 hx2 hbo hov hgv hrow c0 p0 p1 p2 B1 X1 KP1 HZ1
  go_upto_region 2 with fail
  generalize wq.setCell ⟨bo, 0, none⟩ (.slice A1 n1 cq) = w2 at *
  have p0 : w2.cell? ⟨bp, 0, none⟩ = some (.int .i64 fr) := by simp [World.cell?, X2.out]
  have p1 : w2.cell? ⟨bp, 1, none⟩ = some (.int .i64 lv) := by simp [World.cell?, X2.out]
  have p2 : w2.cell? ⟨bp, 2, none⟩ = some (.int .i64 pg) := by simp [World.cell?, X2.out]
  have q0 : w2.cell? ⟨bm, 0, none⟩ = some v0 := by simp [World.cell?, B2.out.m]
  cases d with
  | zero =>
    obtain rfl : lv = 3 := by omega
    clear hd
    go_wp2
    refine bodyPost_ret (v := .tuple #[]) (by simp [results, Try.results81, go_sem]) rfl ⟨_, rfl, B2.out, KP2.out⟩
  | succ d =>
    have hl3 : ¬ lv = 3 := by omega
    have hlb : (lv == 3) = false := by simpa using hl3
    have hl4 : lv ≤ 2 := by omega
    clear hd
    have HPL : Hid (placesP ws (d + 1) ⟨fr, lv, pg⟩ = ⟨fr, lv, pg⟩ :: (List.range 16).flatMap (belowP ws (placesP ws d) ⟨fr, lv, pg⟩)) := Lib.hid rfl
    have hmx : ∀ k : Nat, ((List.range k).flatMap (belowP ws (placesP ws d) ⟨fr, lv, pg⟩)).length ≤ k * maxP d := flat_le _ _ (fun k => by
      unfold belowP; split
      · exact placesP_len _ _ _
      · simp)
    have HMX := Lib.hid hmx
    clear hmx
    go_wp2_with (go_at_call 82; refine (table_any v0 ws fr _ (R.out.below B2.out.b) HW.out ⟨hf0, hf1⟩).mono ?_; rintro e w3 ⟨rfl, hb3⟩)
    have B3 := Lib.hid (B2.out.below hb3)
    have KP3 := Lib.hid (KP2.out.trans (KeepP.of_below _ hb3))
    have X3 : Hid (w3.heap[bp]? = some (.cells #[.int .i64 fr, .int .i64 lv, .int .i64 pg] 89)) := Lib.hid ((hb3.block _ (Array.getElem?_eq_some_iff.1 X2.out).1).trans X2.out)
    clear hb3 p0 p1 p2 q0 B2 KP2 X2 hb0 hb1
    go_loopw [19] (fun i wr => ∃ (k : Nat) (v' : Value), k ≤ 16 ∧ i = .int .i64 k ∧ PlB w0 bm bo bw v0 v' (l ++ ⟨fr, lv, pg⟩ :: (List.range k).flatMap (belowP ws (placesP ws d) ⟨fr, lv, pg⟩)) wr ∧ KeepP bo (.slice A l.length cp) v' w wr ∧ wr.heap[bp]? = some (.cells #[.int .i64 fr, .int .i64 lv, .int .i64 pg] 89) ∧ v'.ownBlock ≠ some bp) (fun i _ => 16 - (intOf i).toNat)
    case atStart => exact ⟨0, _, by omega, rfl, B3.out, KP3.out, X3.out, NB2.out⟩
    case round =>
      obtain ⟨k, v', hk, rfl, b, kp, x, nb⟩ := hrel
      have NB := Lib.hid nb
      have B4 := Lib.hid b
      have KP4 := Lib.hid kp
      have X4 := Lib.hid x
      clear b kp x nb
      by_cases hlt : k < 16
      rotate_left
      · have hlt' : ¬ (k : Int) < 16 := by omega
        obtain rfl : k = 16 := by omega
        go_wp2
        refine bodyPost_ret (v := .tuple #[]) (by simp [results, Try.results81, go_sem]) rfl ⟨_, rfl, by rw [HPL.out]; exact B4.out, KP4.out⟩
      have hlt' : (k : Int) < 16 := by omega
      have hk0 : (0 : Int) ≤ (k : Int) := by omega
      obtain ⟨ad, cw, hv, hcw1, hcw2, hcell, hx0, hx1, hax⟩ := wordP_at R.out HW.out fr k ⟨hf0, hf1⟩ (by omega)
      subst hv
      obtain ⟨x, hx⟩ : ∃ x, wordP ws fr k = x := ⟨_, rfl⟩
      have hidx := index_tab hlt hx
      have HIX := Lib.hid hidx
      clear hidx
      rw [hx] at hcell hx0 hx1
      have HX := Lib.hid hx
      have p0 : wr.cell? ⟨bp, 0, none⟩ = some (.int .i64 fr) := by simp [World.cell?, X4.out]
      have p1 : wr.cell? ⟨bp, 1, none⟩ = some (.int .i64 lv) := by simp [World.cell?, X4.out]
      have p2 : wr.cell? ⟨bp, 2, none⟩ = some (.int .i64 pg) := by simp [World.cell?, X4.out]
      have q0 : wr.cell? ⟨bm, 0, none⟩ = some (.slice (some ad) ws.length cw) := by simp [World.cell?, B4.out.m]
      obtain ⟨ch, hch⟩ : ∃ c, childP ws.length lv x = c := ⟨_, rfl⟩
      have HCH := Lib.hid hch
      clear hx hch hcell
      by_cases ht : tabP ws lv x
      rotate_left
      · have hcm : ch = -1 := by rw [← HCH.out]; exact if_neg ht
        have HE : Hid (belowP ws (placesP ws d) ⟨fr, lv, pg⟩ k = []) := Lib.hid (by unfold belowP; simp only [HX.out]; rw [if_neg ht])
        have hdc : decide (0 ≤ ch) = false := by rw [hcm]; rfl
        clear ht hcm
        go_wp2
        rw [HIX.out]
        go_wp2_with (go_at_call 83; refine (child_any (some ad) ws.length cw lv x _ hcw1 hcw2 hx0 hx1).mono ?_; rw [HCH.out]; rintro e w4 ⟨rfl, hb4⟩)
        have B5 := Lib.hid ((B4.out.below hb4).below (w1 := w4.drew) ((Below.refl _ _).drew))
        have B5' := Lib.hid (B4.out.below hb4)
        have KP5 := Lib.hid (KP4.out.trans (KeepP.of_below _ hb4))
        have KP5' := Lib.hid ((KP4.out.trans (KeepP.of_below _ hb4)).trans (KeepP.of_below _ (Below.refl w4.heap.size w4).drew))
        have X5 : Hid (w4.heap[bp]? = some (.cells #[.int .i64 fr, .int .i64 lv, .int .i64 pg] 89)) := Lib.hid ((hb4.block _ (Array.getElem?_eq_some_iff.1 X4.out).1).trans X4.out)
        clear hb4 p0 p1 p2 q0 B4 KP4 X4 HIX
        go_roundw
        case rel =>
          refine ⟨k + 1, v', by omega, by go_num, ?_, KP5.out, X5.out, NB.out⟩
          rw [range_snoc, HE.out, List.append_nil]; exact B5'.out
        case measure => simp [intOf]; omega
      have hcd : (dec lv x).2.1 = ch := by rw [← HCH.out]; exact (if_pos ht).symm
      have hc0 : 0 ≤ ch := by rw [← hcd]; exact (dec_out lv x).1
      have hdc : decide (0 ≤ ch) = true := by simpa using hc0
      have HT := Lib.hid ht
      have HCD := Lib.hid hcd
      clear ht hcd
      go_wp2
      rw [HIX.out]
      go_wp2_with (go_at_call 83; refine (child_any (some ad) ws.length cw lv x _ hcw1 hcw2 hx0 hx1).mono ?_; rw [HCH.out]; rintro e w4 ⟨rfl, hb4⟩)
      have B5 := Lib.hid ((B4.out.below hb4).below (w1 := w4.drew) ((Below.refl _ _).drew))
      have B5' := Lib.hid (B4.out.below hb4)
      have KP5 := Lib.hid (KP4.out.trans (KeepP.of_below _ hb4))
      have KP5' := Lib.hid ((KP4.out.trans (KeepP.of_below _ hb4)).trans (KeepP.of_below _ (Below.refl w4.heap.size w4).drew))
      have X5 : Hid (w4.heap[bp]? = some (.cells #[.int .i64 fr, .int .i64 lv, .int .i64 pg] 89)) := Lib.hid ((hb4.block _ (Array.getElem?_eq_some_iff.1 X4.out).1).trans X4.out)
      clear hb4 p0 p1 p2 q0 B4 KP4 X4 HIX
      have hcd := HCD.out
      have ht := HT.out
      have hcb9 : ch < 65536 := by rw [← hcd]; exact (dec_out lv x).2.1
      obtain ⟨cvr, hcvr⟩ : ∃ x, cov lv = x := ⟨_, rfl⟩
      have HCV := Lib.hid hcvr
      have hcb : cvr = 256 ∨ cvr = 16 := by rw [← hcvr]; have : lv = 1 ∨ lv = 2 := (by omega); rcases this with e | e <;> rw [e] <;> simp [cov]
      have hcb0 : 0 ≤ (k : Int) * cvr ∧ (k : Int) * cvr ≤ 4096 := by rcases hcb with e | e <;> rw [e] <;> omega
      obtain ⟨hcb1, hcb2⟩ := hcb0
      have hw3 : IntKind.i64.wrap ((k : Int) * cvr) = (k : Int) * cvr := by rw [IntKind.wrap_i64]; omega
      have hw4 : IntKind.i64.wrap (pg + (k : Int) * cvr) = pg + (k : Int) * cvr := by rw [IntKind.wrap_i64]; omega
      have hw5 : IntKind.i64.wrap (lv + 1) = lv + 1 := by rw [IntKind.wrap_i64]; omega
      have hci := child_in HP.out HA.out hlt hl4 (by simp only [HX.out]; exact ht)
      simp only [HX.out, hcd, hcvr] at hci
      have HCI := Lib.hid hci
      have HE : Hid (belowP ws (placesP ws d) ⟨fr, lv, pg⟩ k = placesP ws d ⟨ch, lv + 1, pg + (k : Int) * cvr⟩) := Lib.hid (by unfold belowP; simp only [HX.out]; rw [if_pos ht, hcd]; simp only [hcvr])
      have hlq : (l ++ ⟨fr, lv, pg⟩ :: (List.range k).flatMap (belowP ws (placesP ws d) ⟨fr, lv, pg⟩) : List SPlace).length + maxP d ≤ 100000 := by
        have h1 := HMX.out k
        have h2 : l.length + (1 + 16 * maxP d) ≤ 100000 := HL.out
        have h3 : (k + 1) * maxP d ≤ 16 * maxP d := Nat.mul_le_mul_right _ (by omega)
        rw [Nat.add_mul] at h3
        simp only [List.length_append, List.length_cons]
        omega
      have HLQ := Lib.hid hlq
      clear hcvr hcb hci hlq ht hcd
      have z0 : w4.cell? ⟨bw, 0, none⟩ = some (.func (.func 81) #[] #[.pointer (some ⟨bo, 0, none⟩), .pointer (some ⟨bm, 0, none⟩), .pointer (some ⟨bw, 0, none⟩)]) := by simp [World.cell?, B5'.out.f]
      have z1 : w4.cell? ⟨bp, 1, none⟩ = some (.int .i64 lv) := by simp [World.cell?, X5.out]
      have z2 : w4.cell? ⟨bp, 2, none⟩ = some (.int .i64 pg) := by simp [World.cell?, X5.out]
      go_region_held3 (fun w' => w'.cell? ⟨bw, 0, none⟩ = some (.func (.func 81) #[] #[.pointer (some ⟨bo, 0, none⟩), .pointer (some ⟨bm, 0, none⟩), .pointer (some ⟨bw, 0, none⟩)]) ∧ w'.cell? ⟨bp, 1, none⟩ = some (.int .i64 lv) ∧ w'.cell? ⟨bp, 2, none⟩ = some (.int .i64 pg)) (first | go_keep | (with_reducible exact ⟨y0, y1, y2⟩))
        (first
          | (go_at_call 43; refine (coverQ_b lv cvr HCV.out _).mono ?_; rintro e w' ⟨rfl, rfl⟩)
          | (go_at_call 81; refine (IH.out w0 bm bo bw _ v' ws _ ⟨ch, lv + 1, pg + (k : Int) * cvr⟩ _ R.out B5.out HW.out (by have := HD.out; simp only; omega) (by omega) HCI.out.1 HCI.out.2 HLQ.out).mono ?_; rintro e w5 ⟨v5, rfl, b5, kp5⟩; have x6 := kp5.at X5.out (by have := hob; omega) NB.out; have B6 := Lib.hid b5; have KP6 := Lib.hid (KP5'.out.trans kp5); have X6 := Lib.hid x6; have NB6 : Hid (v5.ownBlock ≠ some bp) := Lib.hid (fun e => by
              rcases kp5.row with e2 | ⟨j, e2, hj⟩
              · exact NB.out (e2 ▸ e)
              · rw [e2] at e
                simp only [Option.some.injEq] at e
                have h1 : bp < w4.heap.size := (Array.getElem?_eq_some_iff.1 X5.out).1
                have h2 : w4.drew.heap.size = w4.heap.size := rfl
                omega); have y0 : w5.cell? ⟨bw, 0, none⟩ = some (.func (.func 81) #[] #[.pointer (some ⟨bo, 0, none⟩), .pointer (some ⟨bm, 0, none⟩), .pointer (some ⟨bw, 0, none⟩)]) := by simp [World.cell?, B6.out.f]
             have y1 : w5.cell? ⟨bp, 1, none⟩ = some (.int .i64 lv) := by simp [World.cell?, X6.out]
             have y2 : w5.cell? ⟨bp, 2, none⟩ = some (.int .i64 pg) := by simp [World.cell?, X6.out]
             clear b5 kp5 x6))
      go_wp2
      go_roundw
      case rel =>
        refine ⟨k + 1, v5, by omega, by go_num, ?_, KP6.out, X6.out, NB6.out⟩
        have b6 := B6.out
        rw [Nat.add_sub_cancel] at b6
        rw [range_snoc, HE.out]
        simpa using b6
      case measure => simp [intOf]; omega
theorem pc_all (d : Nat) : ∀ (w0 : World) (bm bo bw : Nat) (v0 v : Value) (ws : List Int) (l : List SPlace) (p : SPlace) (w : World), Rd wEnc 1 w0 v0 ws → PlB w0 bm bo bw v0 v l w → WfW ws → (d : Int) = 4 - p.Level → 0 < d → inP ws p → alignP p → l.length + maxP (d - 1) ≤ 100000 →
      Calls Try.prog 81 #[p.val, .pointer (some ⟨bo, 0, none⟩), .pointer (some ⟨bm, 0, none⟩), .pointer (some ⟨bw, 0, none⟩)] w (PcPost w0 bm bo bw v0 v (l ++ placesP ws (d - 1) p) w) := by
  induction d with
  | zero => intro w0 bm bo bw v0 v ws l p w _ _ _ _ h; omega
  | succ d ih =>
    intro w0 bm bo bw v0 v ws l p w r B hw hd _ hp ha hl
    exact pc_step d ih w0 bm bo bw v0 v ws l p w r B hw hd hp ha hl
end Go.Proofs.Ythphfcheencbgaa.Mmu

namespace Go.Proofs.Ythphfcheencbgaa.Mmu
open Go.RowKit Go.Proofs.Ythphfcheencbgaa.Base Go.Proofs.Ythphfcheencbgaa.Kinds Go.Proofs.Ythphfcheencbgaa.DecMath Go.Proofs.Ythphfcheencbgaa.L1
set_option linter.unusedVariables false
set_option linter.unusedSimpArgs false
set_option maxRecDepth 100000 in
set_option maxHeartbeats 4000000 in
theorem implPlaces_any (v0 : Value) (ws : List Int) (w : World) (r : Rd wEnc 1 w v0 ws) (hw : WfW ws) :
    Calls Try.prog 80 #[.agg #[v0]] w (PPost w (placesP ws 2 ⟨0, 1, 0⟩)) := by
  have hmf : ∀ (fn : Fn) (first cap : Array Value) (w : World), (Instr.makeFunc fn first cap).run Try.prog w = .ok (.func fn first cap) w := fun _ _ _ _ => rfl
  go_enter Try.func80, Try.ntmps80
  go_upto_region 3 with fail
  refine ((St.start w).push4 _ _ _ _ _ _ _ _).gen (fun w1 S1 _ => ?_)
  have x3 : w1.heap[w.heap.size + 1 + 1 + 1]? = some (.cells #[.nilFunc] 148) := S1.head
  have x2 : w1.heap[w.heap.size + 1 + 1]? = some (.cells #[.slice (some ⟨w.heap.size + 1, 0, none⟩) 0 0] 85) := S1.tail.head
  have x1 : w1.heap[w.heap.size + 1]? = some (.cells #[] 89) := S1.tail.tail.head
  have x0 : w1.heap[w.heap.size]? = some (.cells #[v0] 25) := S1.tail.tail.tail.head
  have hb1 := S1.b
  obtain ⟨bm, hbm⟩ : ∃ b, w.heap.size = b := ⟨_, rfl⟩
  obtain ⟨bo, hbo⟩ : ∃ b, bm + 1 + 1 = b := ⟨_, rfl⟩
  obtain ⟨bw, hbw⟩ : ∃ b, bm + 1 + 1 + 1 = b := ⟨_, rfl⟩
  rw [hbm] at x0 x1 x2 x3 ⊢
  rw [hbo] at x2
  rw [hbw] at x3
  rw [hbw, hbo]
  have hb2 : w1.cell? ⟨bw, 0, none⟩ = some .nilFunc := by simp [World.cell?, x3]
  have hb3 : w1.frozen? ⟨bw, 0, none⟩ = false := by simp [World.frozen?, x3]
  have HBM := Lib.hid hbm
  have HBO := Lib.hid hbo
  have HBW := Lib.hid hbw
  have B1' : PlB w bm bo bw v0 (.slice (some ⟨bm + 1, 0, none⟩) 0 0) [] (w1.setCell ⟨bw, 0, none⟩ (.func (.func 81) #[] #[.pointer (some ⟨bo, 0, none⟩), .pointer (some ⟨bm, 0, none⟩), .pointer (some ⟨bw, 0, none⟩)])) := by
    refine ⟨by omega, hb1.setCell (p := ⟨bw, 0, none⟩) (by show w.heap.size ≤ bw; omega) _, ?_, ?_, st_set x3 0 _, ?_, ?_⟩
    · rw [Below.heap_setCell _ _ _ _ (by show bm ≠ bw; omega)]; exact x0
    · rw [Below.heap_setCell _ _ _ _ (by show bo ≠ bw; omega)]; exact x2
    · refine ⟨rfl, Or.inr ⟨bm + 1, 0, #[], rfl, Nat.le_refl _, ?_, Nat.le_refl _, by unfold maxLen; omega, rfl, rfl⟩⟩
      rw [Below.heap_setCell _ _ _ _ (by show bm + 1 ≠ bw; omega)]; exact x1
    · constructor
      · show some (bm + 1) ≠ some bo
        simp only [ne_eq, Option.some.injEq]; omega
      · show some (bm + 1) ≠ some bw
        simp only [ne_eq, Option.some.injEq]; omega
  have B1 := Lib.hid B1'
  clear B1' x0 x1 x2 x3 S1 hb1 hbm hbo hbw
  have hst : ∀ u : Value, u.oneCell' = true → (store ⟨bw, 0, none⟩ u).run Try.prog w1 = .ok () (w1.setCell ⟨bw, 0, none⟩ u) := fun u hu => by
    rw [run_store _ _ _ _ _ hu]
    simp [hb2, hb3]
  go_wp2
  rw [hst _ rfl]
  clear hst
  go_upto_region 4 with fail
  generalize w1.setCell ⟨bw, 0, none⟩ (.func (.func 81) #[] #[.pointer (some ⟨bo, 0, none⟩), .pointer (some ⟨bm, 0, none⟩), .pointer (some ⟨bw, 0, none⟩)]) = w2 at *
  have c0 : w2.cell? ⟨bw, 0, none⟩ = some (.func (.func 81) #[] #[.pointer (some ⟨bo, 0, none⟩), .pointer (some ⟨bm, 0, none⟩), .pointer (some ⟨bw, 0, none⟩)]) := by simp [World.cell?, B1.out.f]
  clear hb2 hb3
  have HW := Lib.hid hw
  have R := Lib.hid r
  have HRT := Lib.hid (root_in hw.2)
  clear hw r
  go_wp2_with (go_at_call 81; refine (pc_all 3 w bm bo bw v0 (.slice (some ⟨bm + 1, 0, none⟩) 0 0) ws [] ⟨0, 1, 0⟩ _ R.out B1.out HW.out (by simp) (by decide) HRT.out.1 HRT.out.2 (by decide)).mono ?_; rintro e w3 ⟨v3, rfl, b3, _⟩; obtain ⟨A3, c3, hv3⟩ := b3.own.shape; subst hv3; have B3 := Lib.hid b3; have d0 : w3.cell? ⟨bo, 0, none⟩ = some (.slice A3 ([] ++ placesP ws (3 - 1) ⟨0, 1, 0⟩ : List SPlace).length c3) := (by simp [World.cell?, B3.out.o]); clear b3)
  go_ret
  refine ⟨_, rfl, ?_, B3.out.b⟩
  have o := B3.out.own.lower (base' := w.heap.size) (by have := HBM.out; omega)
  simpa using o
end Go.Proofs.Ythphfcheencbgaa.Mmu

