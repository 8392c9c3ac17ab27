/- Walks of the program's places: the closure that calls itself. Walk of the program's places. The call's own map[int]bool: what it holds, the look-up, the store. Walk of the program's tree. Walk of the program's Places. -/
import Derived.Test.YtomomaoncmgfpaaImplTable
import Derived.Shelf.Abstract
import Derived.Test.YtomomaoncmgfpaaSpecPlaces
import Derived.Maps.OwnOps
import Derived.Maps.Views
namespace Go.Proofs.Ytomomaoncmgfpaa.Mmu
open Go.RowKit Go.Proofs.Ytomomaoncmgfpaa.Base Go.Proofs.Ytomomaoncmgfpaa.Kinds Go.Proofs.Ytomomaoncmgfpaa.DecMath Go.Proofs.Ytomomaoncmgfpaa.L1
set_option linter.unusedVariables false
set_option linter.unusedSimpArgs false
/-- All that was there is as it was, but for the box bo and the row of v; the row of v' is v's or new. -/
structure KeepP (bo : Nat) (v v' : Value) (w w' : World) : Prop where
  b : Below 0 w w'
  block : ∀ k, k < w.heap.size → k ≠ bo → v.ownBlock ≠ some k → w'.heap[k]? = w.heap[k]?
  row : v'.ownBlock = v.ownBlock ∨ ∃ k, v'.ownBlock = some k ∧ w.heap.size ≤ k
theorem KeepP.refl (bo : Nat) (v : Value) (w : World) : KeepP bo v v w w := ⟨Below.refl _ _, fun _ _ _ _ => rfl, .inl rfl⟩
theorem KeepP.trans {bo : Nat} {v1 v2 v3 : Value} {w1 w2 w3 : World} (h : KeepP bo v1 v2 w1 w2) (k : KeepP bo v2 v3 w2 w3) : KeepP bo v1 v3 w1 w3 := by
  refine ⟨h.b.trans k.b, fun i hi hb hr => ?_, ?_⟩
  · rw [← h.block i hi hb hr]
    refine k.block i (Nat.lt_of_lt_of_le hi h.b.size) hb ?_
    rcases h.row with e | ⟨j, e, hj⟩
    · rw [e]; exact hr
    · rw [e]; intro e2; simp only [Option.some.injEq] at e2; omega
  · rcases k.row with e | ⟨j, e, hj⟩
    · rcases h.row with e2 | ⟨j2, e2, hj2⟩
      · exact .inl (e.trans e2)
      · exact .inr ⟨j2, e.trans e2, hj2⟩
    · exact .inr ⟨j, e, Nat.le_trans h.b.size hj⟩
theorem KeepP.of_below {bo : Nat} (v : Value) {w w' : World} (h : Below w.heap.size w w') : KeepP bo v v w w' := ⟨h.mono (Nat.zero_le _), fun k hk _ _ => h.block k hk, .inl rfl⟩
theorem KeepP.of_grown {bo : Nat} {v v' : Value} {w w' : World} (h : w.grownBy w' v.ownBlock) (hr : v'.ownBlock = v.ownBlock ∨ ∃ k, v'.ownBlock = some k ∧ w.heap.size ≤ k) : KeepP bo v v' w w' :=
  ⟨⟨h.os, h.tape, h.output, h.size, fun _ hk => absurd hk (Nat.not_lt_zero _)⟩, fun k hk _ hn => h.block k hk (fun e => hn e.symm), hr⟩
theorem KeepP.set {bo : Nat} (v : Value) (w : World) (i : Nat) (u : Value) : KeepP bo v v w (w.setCell ⟨bo, i, none⟩ u) :=
  ⟨⟨rfl, rfl, rfl, by simp [World.setCell], fun _ hk => absurd hk (Nat.not_lt_zero _)⟩, fun k _ hb _ => Below.heap_setCell _ _ _ _ hb, .inl rfl⟩
/-- What lay in other blocks lies there still. -/
theorem KeepP.at {bo : Nat} {v v' : Value} {w w' : World} (h : KeepP bo v v' w w') {k : Nat} {cs : Array Value} {T : Nat} (hk : w.heap[k]? = some (.cells cs T)) (hb : k ≠ bo) (hr : v.ownBlock ≠ some k) : w'.heap[k]? = some (.cells cs T) :=
  (h.block k (Array.getElem?_eq_some_iff.1 hk).1 hb hr).trans hk
/-- The boxes that the closure has captured, and the list that it fills. -/
structure PlB (w0 : World) (bm bo bw : Nat) (v0 v : Value) (l : List SPlace) (w : World) : Prop where
  ord : w0.heap.size ≤ bm ∧ bm < bo ∧ bo < bw
  b : Below w0.heap.size w0 w
  m : w.heap[bm]? = some (.cells #[v0] 25)
  o : w.heap[bo]? = some (.cells #[v] 27)
  f : w.heap[bw]? = some (.cells #[.func (.func 41) #[] #[.pointer (some ⟨bo, 0, none⟩), .pointer (some ⟨bm, 0, none⟩), .pointer (some ⟨bw, 0, none⟩)]] 78)
  own : Own SPlace.enc 3 39 (bm + 1) w v l
  off : v.ownBlock ≠ some bo ∧ v.ownBlock ≠ some bw
theorem PlB.below {w0 w w1 : World} {bm bo bw : Nat} {v0 v : Value} {l : List SPlace} (h : PlB w0 bm bo bw v0 v l w) (hb : Below w.heap.size w w1) : PlB w0 bm bo bw v0 v l w1 :=
  ⟨h.ord, thenB h.b hb, (hb.block _ (Array.getElem?_eq_some_iff.1 h.m).1).trans h.m, (hb.block _ (Array.getElem?_eq_some_iff.1 h.o).1).trans h.o, (hb.block _ (Array.getElem?_eq_some_iff.1 h.f).1).trans h.f, h.own.below hb, h.off⟩
theorem PlB.ne {w0 w : World} {bm bo bw : Nat} {v0 v : Value} {l : List SPlace} (h : PlB w0 bm bo bw v0 v l w) {k : Nat} (hk : k ≤ bm ∨ k = bo ∨ k = bw) : v.ownBlock ≠ some k := fun e => by
  rcases hk with hk | rfl | rfl
  · have := (h.own.lt k e).1
    omega
  · exact h.off.1 e
  · exact h.off.2 e
/-- The row has grown. -/
theorem PlB.grown {w0 w w1 : World} {bm bo bw : Nat} {v0 v v' : Value} {l l' : List SPlace} (h : PlB w0 bm bo bw v0 v l w) (hg : w.grownBy w1 v.ownBlock) (o : Own SPlace.enc 3 39 (bm + 1) w1 v' l') (hr : v'.ownBlock = v.ownBlock ∨ v'.ownBlock = some (w.heap.size + 1)) : w1.heap[bo]? = some (.cells #[v] 27) ∧ PlB w0 bm bo bw v0 v' l' (w1.setCell ⟨bo, 0, none⟩ v') := by
  have hd := h.ord
  have hat : ∀ (k : Nat) (cs : Array Value) (T : Nat), (k ≤ bm ∨ k = bo ∨ k = bw) → w.heap[k]? = some (.cells cs T) → w1.heap[k]? = some (.cells cs T) := fun k cs T hk e => (hg.block k (Array.getElem?_eq_some_iff.1 e).1 (fun e2 => h.ne hk e2.symm)).trans e
  have ho := hat bo _ _ (by omega) h.o
  have ho' : v'.ownBlock ≠ some bo ∧ v'.ownBlock ≠ some bw := by
    have hb1 := (Array.getElem?_eq_some_iff.1 h.o).1
    have hb2 := (Array.getElem?_eq_some_iff.1 h.f).1
    rcases hr with e | e
    · rw [e]; exact h.off
    · rw [e]; simp only [ne_eq, Option.some.injEq]; omega
  have hgs : w1.grownBy (w1.setCell ⟨bo, 0, none⟩ v') (some bo) := ⟨rfl, rfl, rfl, by simp [World.setCell], fun k _ hne => Below.heap_setCell _ _ _ _ (by show k ≠ bo; intro e; exact hne (by rw [e]))⟩
  refine ⟨ho, hd, ?_, ?_, ?_, ?_, o.kept hgs (.inr ho'.1), ho'⟩
  · have hb : Below w0.heap.size w0 w1 := h.b.trans ⟨hg.os, hg.tape, hg.output, hg.size, fun k hk => hg.block k (Nat.lt_of_lt_of_le hk h.b.size) (fun e2 => h.ne (by omega) e2.symm)⟩
    exact hb.setCell (p := ⟨bo, 0, none⟩) (by show w0.heap.size ≤ bo; omega) _
  · rw [Below.heap_setCell _ _ _ _ (by show bm ≠ bo; omega)]; exact hat bm _ _ (by omega) h.m
  · exact st_set ho 0 v'
  · rw [Below.heap_setCell _ _ _ _ (by show bw ≠ bo; omega)]; exact hat bw _ _ (by omega) h.f
/-- The list grows by the places l'. -/
def PcPost (w0 : World) (bm bo bw : Nat) (v0 v : Value) (l' : List SPlace) (w : World) (e : Ending) (w' : World) : Prop := ∃ v', e = .returned (.tuple #[]) ∧ PlB w0 bm bo bw v0 v' l' w' ∧ KeepP bo v v' w w'
theorem coverQ_b (l c : Int) (h : cov l = c) (w : World) : Calls Try.prog 44 #[.int .i64 l] w fun e w' => e = .returned (.int .i64 c) ∧ w' = w :=
  (cover_any l w).mono (by rintro e w' ⟨rfl, rfl⟩; exact ⟨by rw [h], rfl⟩)
set_option maxRecDepth 100000 in
/-- A word of a table, by value. -/
theorem index_tab {ws : List Int} {f x : Int} {k : Nat} (hk : k < 16) (hx : wordP ws f k = x) (W : World) : (Instr.index 80 (.agg (tableV ws f).toArray) (.int .i64 k)).run Try.prog W = .ok (.int .u64 x) W := by
  have hix : (tableV ws f)[k]? = some (.int .u64 x) := by
    unfold tableV
    rw [List.getElem?_map, List.getElem?_range hk, ← hx]
    rfl
  have hu : Try.prog.underlying 80 = some (.array 16 37) := by rfl
  have hu2 : Try.prog.underlying 37 = some (.int .u64) := by rfl
  have hi : (Try.prog.info? 37).map (·.size) = some 1 := by rfl
  have hin : (0 : Int) ≤ (k : Int) ∧ (k : Int) < ((16 : Nat) : Int) := by omega
  cases hq : Try.prog.info? 37 with
  | none => simp [hq] at hi
  | some i =>
    have hs : i.size = 1 := by simpa [hq] using hi
    have hpart : (part 37 (tableV ws f).toArray k).run Try.prog W = .ok (.int .u64 x) W := by
      unfold part
      rw [Sem.run_bind, run_isAgg_plain hu2 rfl]
      simp [hix, go_sem]
    unfold Instr.index
    simp [run_underlying hu, asIntOf, hin, go_sem, sizeOf, typeInfo, hq, hs, hpart, Sem.run_bind]
    try (rw [if_pos hk, hix]; rfl)
set_option maxRecDepth 100000 in
set_option maxHeartbeats 8000000 in
theorem pc_step (d : Nat) (ih : ∀ (w0 : World) (bm bo bw : Nat) (v0 v : Value) (ws : List Int) (l : List SPlace) (p : SPlace) (w : World), Rd wEnc 1 w0 v0 ws → PlB w0 bm bo bw v0 v l w → WfW ws → (d : Int) = 4 - p.Level → 0 < d → inP ws p → alignP p → l.length + maxP (d - 1) ≤ 100000 →
      Calls Try.prog 41 #[p.val, .pointer (some ⟨bo, 0, none⟩), .pointer (some ⟨bm, 0, none⟩), .pointer (some ⟨bw, 0, none⟩)] w (PcPost w0 bm bo bw v0 v (l ++ placesP ws (d - 1) p) w))
    (w0 : World) (bm bo bw : Nat) (v0 v : Value) (ws : List Int) (l : List SPlace) (p : SPlace) (w : World) (r : Rd wEnc 1 w0 v0 ws) (B : PlB w0 bm bo bw v0 v l w) (hw : WfW ws) (hd : ((d + 1 : Nat) : Int) = 4 - p.Level) (hp : inP ws p) (ha : alignP p) (hl : l.length + maxP d ≤ 100000) :
    Calls Try.prog 41 #[p.val, .pointer (some ⟨bo, 0, none⟩), .pointer (some ⟨bm, 0, none⟩), .pointer (some ⟨bw, 0, none⟩)] w (PcPost w0 bm bo bw v0 v (l ++ placesP ws d p) w) := by
  obtain ⟨fr, lv, pg⟩ := p
  have HP := Lib.hid hp
  have HA := Lib.hid ha
  have HW := Lib.hid hw
  have R := Lib.hid r
  have IH := Lib.hid ih
  have HD := Lib.hid hd
  have B0 := Lib.hid B
  have HL := Lib.hid hl
  obtain ⟨⟨hl1, hl2⟩, ⟨hf0, hf1⟩, hg0, hg1⟩ := hp
  simp only at hl1 hl2 hf0 hf1 hg0 hg1 hd
  have hlen : ws.length ≤ 8192 := hw.2.2.2
  have ho1 := B.ord
  have hob := (Array.getElem?_eq_some_iff.1 B.o).1
  have hlm : l.length ≤ 100000 := by omega
  obtain ⟨A, cp, hv⟩ := B.own.shape
  subst hv
  simp only [SPlace.val]
  clear r hw ih ha B hl
  go_enter Try.func41, Try.ntmps41
  go_upto_region 1 with fail
  have B1 := Lib.hid (B0.out.below (allocB (Below.refl _ _) (.cells #[.int .i64 fr, .int .i64 lv, .int .i64 pg] 39)))
  have x1 : (w.alloc (.cells #[.int .i64 fr, .int .i64 lv, .int .i64 pg] 39)).heap[w.heap.size]? = some (.cells #[.int .i64 fr, .int .i64 lv, .int .i64 pg] 39) := heap_alloc_new w _
  have KP1 : Hid (KeepP bo (.slice A l.length cp) (.slice A l.length cp) w (w.alloc (.cells #[.int .i64 fr, .int .i64 lv, .int .i64 pg] 39))) := Lib.hid (KeepP.of_below _ (allocB (Below.refl _ _) _))
  have hz1 : (w.alloc (.cells #[.int .i64 fr, .int .i64 lv, .int .i64 pg] 39)).heap.size = w.heap.size + 1 := by simp
  obtain ⟨bp, hbp⟩ : ∃ b, w.heap.size = b := ⟨_, rfl⟩
  rw [hbp] at x1 hob hz1 ⊢
  generalize w.alloc (.cells #[.int .i64 fr, .int .i64 lv, .int .i64 pg] 39) = w1 at *
  have X1 := Lib.hid x1
  have c0 : w1.cell? ⟨bo, 0, none⟩ = some (.slice A l.length cp) := by simp [World.cell?, B1.out.o]
  have p0 : w1.cell? ⟨bp, 0, none⟩ = some (.int .i64 fr) := by simp [World.cell?, x1]
  have p1 : w1.cell? ⟨bp, 1, none⟩ = some (.int .i64 lv) := by simp [World.cell?, x1]
  have p2 : w1.cell? ⟨bp, 2, none⟩ = some (.int .i64 pg) := by simp [World.cell?, x1]
  have HZ1 := Lib.hid hz1
  have HBP := Lib.hid hbp
  clear x1 hz1 hbp
  go_wp2_with (at_builtin; refine append1_at 39 3 24 27 (.agg #[.int .i64 0, .int .i64 0, .int .i64 0]) Try.underlying27 infoPlS rfl (by decide) SPlace.len SPlace.one rfl (.tmp 8) (.tmp 10) rfl (bm + 1) (.slice A l.length cp) l ⟨fr, lv, pg⟩ _ rfl rfl rfl B1.out.own (by omega) (by decide) (Array.getElem?_eq_some_iff.1 B1.out.m).1 ?_)
  intro v1 wq hov hgv hrow
  obtain ⟨A1, cq, hv1⟩ := hov.shape
  obtain ⟨n1, hn1⟩ : ∃ n, (l ++ [(⟨fr, lv, pg⟩ : SPlace)]).length = n := ⟨_, rfl⟩
  rw [hn1] at hv1
  have HN1 := Lib.hid hn1
  subst hv1
  clear hn1
  obtain ⟨hbo, B2'⟩ := B1.out.grown hgv hov hrow
  have hx2 := hgv.block bp (Array.getElem?_eq_some_iff.1 X1.out).1 (fun e => by have := (B0.out.own.lt bp e.symm).2; have := HBP.out; omega)
  rw [X1.out] at hx2
  have x2 : (wq.setCell ⟨bo, 0, none⟩ (.slice A1 n1 cq)).heap[bp]? = some (.cells #[.int .i64 fr, .int .i64 lv, .int .i64 pg] 39) := by rw [Below.heap_setCell _ _ _ _ (by show bp ≠ bo; omega)]; exact hx2
  have KP2 : Hid (KeepP bo (.slice A l.length cp) (.slice A1 n1 cq) w (wq.setCell ⟨bo, 0, none⟩ (.slice A1 n1 cq))) := Lib.hid ((KP1.out.trans (KeepP.of_grown hgv (by rcases hrow with e | e; exact .inl e; exact .inr ⟨_, e, by omega⟩))).trans (KeepP.set (.slice A1 n1 cq) wq 0 (.slice A1 n1 cq)))
  have NB2 : Hid ((Value.slice A1 n1 cq).ownBlock ≠ some bp) := Lib.hid (fun e => by
    rcases hrow with e2 | e2
    · have := (B0.out.own.lt bp (e2 ▸ e)).2; have := HBP.out; omega
    · rw [e2] at e; simp only [Option.some.injEq] at e; have := HZ1.out; omega)
  have B2 := Lib.hid B2'
  have X2 := Lib.hid x2
  have hb0 : wq.cell? ⟨bo, 0, none⟩ = some (.slice A l.length cp) := by simp [World.cell?, hbo]
  have hb1 : wq.frozen? ⟨bo, 0, none⟩ = false := by simp [World.frozen?, hbo]
  clear B2' x2 hx2 hbo hov hgv hrow c0 p0 p1 p2 B1 X1 KP1 HZ1
  go_upto_region 2 with fail
  generalize wq.setCell ⟨bo, 0, none⟩ (.slice A1 n1 cq) = w2 at *
  have p0 : w2.cell? ⟨bp, 0, none⟩ = some (.int .i64 fr) := by simp [World.cell?, X2.out]
  have p1 : w2.cell? ⟨bp, 1, none⟩ = some (.int .i64 lv) := by simp [World.cell?, X2.out]
  have p2 : w2.cell? ⟨bp, 2, none⟩ = some (.int .i64 pg) := by simp [World.cell?, X2.out]
  have q0 : w2.cell? ⟨bm, 0, none⟩ = some v0 := by simp [World.cell?, B2.out.m]
  cases d with
  | zero =>
    obtain rfl : lv = 3 := by omega
    clear hd
    go_wp2
    refine bodyPost_ret (v := .tuple #[]) (by simp [results, Try.results41, go_sem]) rfl ⟨_, rfl, B2.out, KP2.out⟩
  | succ d =>
    have hl3 : ¬ lv = 3 := by omega
    have hlb : (lv == 3) = false := by simpa using hl3
    have hl4 : lv ≤ 2 := by omega
    clear hd
    have HPL : Hid (placesP ws (d + 1) ⟨fr, lv, pg⟩ = ⟨fr, lv, pg⟩ :: (List.range 16).flatMap (belowP ws (placesP ws d) ⟨fr, lv, pg⟩)) := Lib.hid rfl
    have hmx : ∀ k : Nat, ((List.range k).flatMap (belowP ws (placesP ws d) ⟨fr, lv, pg⟩)).length ≤ k * maxP d := flat_le _ _ (fun k => by
      unfold belowP; split
      · exact placesP_len _ _ _
      · simp)
    have HMX := Lib.hid hmx
    clear hmx
    go_wp2_with (go_at_call 42; refine (table_any v0 ws fr _ (R.out.below B2.out.b) HW.out ⟨hf0, hf1⟩).mono ?_; rintro e w3 ⟨rfl, hb3⟩)
    have B3 := Lib.hid (B2.out.below hb3)
    have KP3 := Lib.hid (KP2.out.trans (KeepP.of_below _ hb3))
    have X3 : Hid (w3.heap[bp]? = some (.cells #[.int .i64 fr, .int .i64 lv, .int .i64 pg] 39)) := Lib.hid ((hb3.block _ (Array.getElem?_eq_some_iff.1 X2.out).1).trans X2.out)
    clear hb3 p0 p1 p2 q0 B2 KP2 X2 hb0 hb1
    go_loopw [19] (fun i wr => ∃ (k : Nat) (v' : Value), k ≤ 16 ∧ i = .int .i64 k ∧ PlB w0 bm bo bw v0 v' (l ++ ⟨fr, lv, pg⟩ :: (List.range k).flatMap (belowP ws (placesP ws d) ⟨fr, lv, pg⟩)) wr ∧ KeepP bo (.slice A l.length cp) v' w wr ∧ wr.heap[bp]? = some (.cells #[.int .i64 fr, .int .i64 lv, .int .i64 pg] 39) ∧ v'.ownBlock ≠ some bp) (fun i _ => 16 - (intOf i).toNat)
    case atStart => exact ⟨0, _, by omega, rfl, B3.out, KP3.out, X3.out, NB2.out⟩
    case round =>
      obtain ⟨k, v', hk, rfl, b, kp, x, nb⟩ := hrel
      have NB := Lib.hid nb
      have B4 := Lib.hid b
      have KP4 := Lib.hid kp
      have X4 := Lib.hid x
      clear b kp x nb
      by_cases hlt : k < 16
      rotate_left
      · have hlt' : ¬ (k : Int) < 16 := by omega
        obtain rfl : k = 16 := by omega
        go_wp2
        refine bodyPost_ret (v := .tuple #[]) (by simp [results, Try.results41, go_sem]) rfl ⟨_, rfl, by rw [HPL.out]; exact B4.out, KP4.out⟩
      have hlt' : (k : Int) < 16 := by omega
      have hk0 : (0 : Int) ≤ (k : Int) := by omega
      obtain ⟨ad, cw, hv, hcw1, hcw2, hcell, hx0, hx1, hax⟩ := wordP_at R.out HW.out fr k ⟨hf0, hf1⟩ (by omega)
      subst hv
      obtain ⟨x, hx⟩ : ∃ x, wordP ws fr k = x := ⟨_, rfl⟩
      have hidx := index_tab hlt hx
      have HIX := Lib.hid hidx
      clear hidx
      rw [hx] at hcell hx0 hx1
      have HX := Lib.hid hx
      have p0 : wr.cell? ⟨bp, 0, none⟩ = some (.int .i64 fr) := by simp [World.cell?, X4.out]
      have p1 : wr.cell? ⟨bp, 1, none⟩ = some (.int .i64 lv) := by simp [World.cell?, X4.out]
      have p2 : wr.cell? ⟨bp, 2, none⟩ = some (.int .i64 pg) := by simp [World.cell?, X4.out]
      have q0 : wr.cell? ⟨bm, 0, none⟩ = some (.slice (some ad) ws.length cw) := by simp [World.cell?, B4.out.m]
      obtain ⟨ch, hch⟩ : ∃ c, childP ws.length lv x = c := ⟨_, rfl⟩
      have HCH := Lib.hid hch
      clear hx hch hcell
      by_cases ht : tabP ws lv x
      rotate_left
      · have hcm : ch = -1 := by rw [← HCH.out]; exact if_neg ht
        have HE : Hid (belowP ws (placesP ws d) ⟨fr, lv, pg⟩ k = []) := Lib.hid (by unfold belowP; simp only [HX.out]; rw [if_neg ht])
        have hdc : decide (0 ≤ ch) = false := by rw [hcm]; rfl
        clear ht hcm
        go_wp2
        rw [HIX.out]
        go_wp2_with (go_at_call 43; refine (child_any (some ad) ws.length cw lv x _ hcw1 hcw2 hx0 hx1).mono ?_; rw [HCH.out]; rintro e w4 ⟨rfl, hb4⟩)
        have B5 := Lib.hid ((B4.out.below hb4).below (w1 := w4.drew) ((Below.refl _ _).drew))
        have B5' := Lib.hid (B4.out.below hb4)
        have KP5 := Lib.hid (KP4.out.trans (KeepP.of_below _ hb4))
        have KP5' := Lib.hid ((KP4.out.trans (KeepP.of_below _ hb4)).trans (KeepP.of_below _ (Below.refl w4.heap.size w4).drew))
        have X5 : Hid (w4.heap[bp]? = some (.cells #[.int .i64 fr, .int .i64 lv, .int .i64 pg] 39)) := Lib.hid ((hb4.block _ (Array.getElem?_eq_some_iff.1 X4.out).1).trans X4.out)
        clear hb4 p0 p1 p2 q0 B4 KP4 X4 HIX
        go_roundw
        case rel =>
          refine ⟨k + 1, v', by omega, by go_num, ?_, KP5.out, X5.out, NB.out⟩
          rw [range_snoc, HE.out, List.append_nil]; exact B5'.out
        case measure => simp [intOf]; omega
      have hcd : (dec lv x).2.1 = ch := by rw [← HCH.out]; exact (if_pos ht).symm
      have hc0 : 0 ≤ ch := by rw [← hcd]; exact (dec_out lv x).1
      have hdc : decide (0 ≤ ch) = true := by simpa using hc0
      have HT := Lib.hid ht
      have HCD := Lib.hid hcd
      clear ht hcd
      go_wp2
      rw [HIX.out]
      go_wp2_with (go_at_call 43; refine (child_any (some ad) ws.length cw lv x _ hcw1 hcw2 hx0 hx1).mono ?_; rw [HCH.out]; rintro e w4 ⟨rfl, hb4⟩)
      have B5 := Lib.hid ((B4.out.below hb4).below (w1 := w4.drew) ((Below.refl _ _).drew))
      have B5' := Lib.hid (B4.out.below hb4)
      have KP5 := Lib.hid (KP4.out.trans (KeepP.of_below _ hb4))
      have KP5' := Lib.hid ((KP4.out.trans (KeepP.of_below _ hb4)).trans (KeepP.of_below _ (Below.refl w4.heap.size w4).drew))
      have X5 : Hid (w4.heap[bp]? = some (.cells #[.int .i64 fr, .int .i64 lv, .int .i64 pg] 39)) := Lib.hid ((hb4.block _ (Array.getElem?_eq_some_iff.1 X4.out).1).trans X4.out)
      clear hb4 p0 p1 p2 q0 B4 KP4 X4 HIX
      have hcd := HCD.out
      have ht := HT.out
      have hcb9 : ch < 65536 := by rw [← hcd]; exact (dec_out lv x).2.1
      obtain ⟨cvr, hcvr⟩ : ∃ x, cov lv = x := ⟨_, rfl⟩
      have HCV := Lib.hid hcvr
      have hcb : cvr = 256 ∨ cvr = 16 := by rw [← hcvr]; have : lv = 1 ∨ lv = 2 := (by omega); rcases this with e | e <;> rw [e] <;> simp [cov]
      have hcb0 : 0 ≤ (k : Int) * cvr ∧ (k : Int) * cvr ≤ 4096 := by rcases hcb with e | e <;> rw [e] <;> omega
      obtain ⟨hcb1, hcb2⟩ := hcb0
      have hw3 : IntKind.i64.wrap ((k : Int) * cvr) = (k : Int) * cvr := by rw [IntKind.wrap_i64]; omega
      have hw4 : IntKind.i64.wrap (pg + (k : Int) * cvr) = pg + (k : Int) * cvr := by rw [IntKind.wrap_i64]; omega
      have hw5 : IntKind.i64.wrap (lv + 1) = lv + 1 := by rw [IntKind.wrap_i64]; omega
      have hci := child_in HP.out HA.out hlt hl4 (by simp only [HX.out]; exact ht)
      simp only [HX.out, hcd, hcvr] at hci
      have HCI := Lib.hid hci
      have HE : Hid (belowP ws (placesP ws d) ⟨fr, lv, pg⟩ k = placesP ws d ⟨ch, lv + 1, pg + (k : Int) * cvr⟩) := Lib.hid (by unfold belowP; simp only [HX.out]; rw [if_pos ht, hcd]; simp only [hcvr])
      have hlq : (l ++ ⟨fr, lv, pg⟩ :: (List.range k).flatMap (belowP ws (placesP ws d) ⟨fr, lv, pg⟩) : List SPlace).length + maxP d ≤ 100000 := by
        have h1 := HMX.out k
        have h2 : l.length + (1 + 16 * maxP d) ≤ 100000 := HL.out
        have h3 : (k + 1) * maxP d ≤ 16 * maxP d := Nat.mul_le_mul_right _ (by omega)
        rw [Nat.add_mul] at h3
        simp only [List.length_append, List.length_cons]
        omega
      have HLQ := Lib.hid hlq
      clear hcvr hcb hci hlq ht hcd
      have z0 : w4.cell? ⟨bw, 0, none⟩ = some (.func (.func 41) #[] #[.pointer (some ⟨bo, 0, none⟩), .pointer (some ⟨bm, 0, none⟩), .pointer (some ⟨bw, 0, none⟩)]) := by simp [World.cell?, B5'.out.f]
      have z1 : w4.cell? ⟨bp, 1, none⟩ = some (.int .i64 lv) := by simp [World.cell?, X5.out]
      have z2 : w4.cell? ⟨bp, 2, none⟩ = some (.int .i64 pg) := by simp [World.cell?, X5.out]
      go_region_held3 (fun w' => w'.cell? ⟨bw, 0, none⟩ = some (.func (.func 41) #[] #[.pointer (some ⟨bo, 0, none⟩), .pointer (some ⟨bm, 0, none⟩), .pointer (some ⟨bw, 0, none⟩)]) ∧ w'.cell? ⟨bp, 1, none⟩ = some (.int .i64 lv) ∧ w'.cell? ⟨bp, 2, none⟩ = some (.int .i64 pg)) (first | go_keep | (with_reducible exact ⟨y0, y1, y2⟩))
        (first
          | (go_at_call 44; refine (coverQ_b lv cvr HCV.out _).mono ?_; rintro e w' ⟨rfl, rfl⟩)
          | (go_at_call 41; refine (IH.out w0 bm bo bw _ v' ws _ ⟨ch, lv + 1, pg + (k : Int) * cvr⟩ _ R.out B5.out HW.out (by have := HD.out; simp only; omega) (by omega) HCI.out.1 HCI.out.2 HLQ.out).mono ?_; rintro e w5 ⟨v5, rfl, b5, kp5⟩; have x6 := kp5.at X5.out (by have := hob; omega) NB.out; have B6 := Lib.hid b5; have KP6 := Lib.hid (KP5'.out.trans kp5); have X6 := Lib.hid x6; have NB6 : Hid (v5.ownBlock ≠ some bp) := Lib.hid (fun e => by
              rcases kp5.row with e2 | ⟨j, e2, hj⟩
              · exact NB.out (e2 ▸ e)
              · rw [e2] at e
                simp only [Option.some.injEq] at e
                have h1 : bp < w4.heap.size := (Array.getElem?_eq_some_iff.1 X5.out).1
                have h2 : w4.drew.heap.size = w4.heap.size := rfl
                omega); have y0 : w5.cell? ⟨bw, 0, none⟩ = some (.func (.func 41) #[] #[.pointer (some ⟨bo, 0, none⟩), .pointer (some ⟨bm, 0, none⟩), .pointer (some ⟨bw, 0, none⟩)]) := by simp [World.cell?, B6.out.f]
             have y1 : w5.cell? ⟨bp, 1, none⟩ = some (.int .i64 lv) := by simp [World.cell?, X6.out]
             have y2 : w5.cell? ⟨bp, 2, none⟩ = some (.int .i64 pg) := by simp [World.cell?, X6.out]
             clear b5 kp5 x6))
      go_wp2
      go_roundw
      case rel =>
        refine ⟨k + 1, v5, by omega, by go_num, ?_, KP6.out, X6.out, NB6.out⟩
        have b6 := B6.out
        rw [Nat.add_sub_cancel] at b6
        rw [range_snoc, HE.out]
        simpa using b6
      case measure => simp [intOf]; omega
theorem pc_all (d : Nat) : ∀ (w0 : World) (bm bo bw : Nat) (v0 v : Value) (ws : List Int) (l : List SPlace) (p : SPlace) (w : World), Rd wEnc 1 w0 v0 ws → PlB w0 bm bo bw v0 v l w → WfW ws → (d : Int) = 4 - p.Level → 0 < d → inP ws p → alignP p → l.length + maxP (d - 1) ≤ 100000 →
      Calls Try.prog 41 #[p.val, .pointer (some ⟨bo, 0, none⟩), .pointer (some ⟨bm, 0, none⟩), .pointer (some ⟨bw, 0, none⟩)] w (PcPost w0 bm bo bw v0 v (l ++ placesP ws (d - 1) p) w) := by
  induction d with
  | zero => intro w0 bm bo bw v0 v ws l p w _ _ _ _ h; omega
  | succ d ih =>
    intro w0 bm bo bw v0 v ws l p w r B hw hd _ hp ha hl
    exact pc_step d ih w0 bm bo bw v0 v ws l p w r B hw hd hp ha hl
end Go.Proofs.Ytomomaoncmgfpaa.Mmu

namespace Go.Proofs.Ytomomaoncmgfpaa.Mmu
open Go.RowKit Go.Proofs.Ytomomaoncmgfpaa.Base Go.Proofs.Ytomomaoncmgfpaa.Kinds Go.Proofs.Ytomomaoncmgfpaa.DecMath Go.Proofs.Ytomomaoncmgfpaa.L1
set_option linter.unusedVariables false
set_option linter.unusedSimpArgs false
set_option maxRecDepth 100000 in
set_option maxHeartbeats 4000000 in
theorem implPlaces_any (v0 : Value) (ws : List Int) (w : World) (r : Rd wEnc 1 w v0 ws) (hw : WfW ws) :
    Calls Try.prog 21 #[.agg #[v0]] w (PPost w (placesP ws 2 ⟨0, 1, 0⟩)) := by
  have hmf : ∀ (fn : Fn) (first cap : Array Value) (w : World), (Instr.makeFunc fn first cap).run Try.prog w = .ok (.func fn first cap) w := fun _ _ _ _ => rfl
  go_enter Try.func21, Try.ntmps21
  go_upto_region 3 with fail
  refine ((St.start w).push4 _ _ _ _ _ _ _ _).gen (fun w1 S1 _ => ?_)
  have x3 : w1.heap[w.heap.size + 1 + 1 + 1]? = some (.cells #[.nilFunc] 78) := S1.head
  have x2 : w1.heap[w.heap.size + 1 + 1]? = some (.cells #[.slice (some ⟨w.heap.size + 1, 0, none⟩) 0 0] 27) := S1.tail.head
  have x1 : w1.heap[w.heap.size + 1]? = some (.cells #[] 39) := S1.tail.tail.head
  have x0 : w1.heap[w.heap.size]? = some (.cells #[v0] 25) := S1.tail.tail.tail.head
  have hb1 := S1.b
  obtain ⟨bm, hbm⟩ : ∃ b, w.heap.size = b := ⟨_, rfl⟩
  obtain ⟨bo, hbo⟩ : ∃ b, bm + 1 + 1 = b := ⟨_, rfl⟩
  obtain ⟨bw, hbw⟩ : ∃ b, bm + 1 + 1 + 1 = b := ⟨_, rfl⟩
  rw [hbm] at x0 x1 x2 x3 ⊢
  rw [hbo] at x2
  rw [hbw] at x3
  rw [hbw, hbo]
  have hb2 : w1.cell? ⟨bw, 0, none⟩ = some .nilFunc := by simp [World.cell?, x3]
  have hb3 : w1.frozen? ⟨bw, 0, none⟩ = false := by simp [World.frozen?, x3]
  have HBM := Lib.hid hbm
  have HBO := Lib.hid hbo
  have HBW := Lib.hid hbw
  have B1' : PlB w bm bo bw v0 (.slice (some ⟨bm + 1, 0, none⟩) 0 0) [] (w1.setCell ⟨bw, 0, none⟩ (.func (.func 41) #[] #[.pointer (some ⟨bo, 0, none⟩), .pointer (some ⟨bm, 0, none⟩), .pointer (some ⟨bw, 0, none⟩)])) := by
    refine ⟨by omega, hb1.setCell (p := ⟨bw, 0, none⟩) (by show w.heap.size ≤ bw; omega) _, ?_, ?_, st_set x3 0 _, ?_, ?_⟩
    · rw [Below.heap_setCell _ _ _ _ (by show bm ≠ bw; omega)]; exact x0
    · rw [Below.heap_setCell _ _ _ _ (by show bo ≠ bw; omega)]; exact x2
    · refine ⟨rfl, Or.inr ⟨bm + 1, 0, #[], rfl, Nat.le_refl _, ?_, Nat.le_refl _, by unfold maxLen; omega, rfl, rfl⟩⟩
      rw [Below.heap_setCell _ _ _ _ (by show bm + 1 ≠ bw; omega)]; exact x1
    · constructor
      · show some (bm + 1) ≠ some bo
        simp only [ne_eq, Option.some.injEq]; omega
      · show some (bm + 1) ≠ some bw
        simp only [ne_eq, Option.some.injEq]; omega
  have B1 := Lib.hid B1'
  clear B1' x0 x1 x2 x3 S1 hb1 hbm hbo hbw
  have hst : ∀ u : Value, u.oneCell' = true → (store ⟨bw, 0, none⟩ u).run Try.prog w1 = .ok () (w1.setCell ⟨bw, 0, none⟩ u) := fun u hu => by
    rw [run_store _ _ _ _ _ hu]
    simp [hb2, hb3]
  go_wp2
  rw [hst _ rfl]
  clear hst
  go_upto_region 4 with fail
  generalize w1.setCell ⟨bw, 0, none⟩ (.func (.func 41) #[] #[.pointer (some ⟨bo, 0, none⟩), .pointer (some ⟨bm, 0, none⟩), .pointer (some ⟨bw, 0, none⟩)]) = w2 at *
  have c0 : w2.cell? ⟨bw, 0, none⟩ = some (.func (.func 41) #[] #[.pointer (some ⟨bo, 0, none⟩), .pointer (some ⟨bm, 0, none⟩), .pointer (some ⟨bw, 0, none⟩)]) := by simp [World.cell?, B1.out.f]
  clear hb2 hb3
  have HW := Lib.hid hw
  have R := Lib.hid r
  have HRT := Lib.hid (root_in hw.2)
  clear hw r
  go_wp2_with (go_at_call 41; refine (pc_all 3 w bm bo bw v0 (.slice (some ⟨bm + 1, 0, none⟩) 0 0) ws [] ⟨0, 1, 0⟩ _ R.out B1.out HW.out (by simp) (by decide) HRT.out.1 HRT.out.2 (by decide)).mono ?_; rintro e w3 ⟨v3, rfl, b3, _⟩; obtain ⟨A3, c3, hv3⟩ := b3.own.shape; subst hv3; have B3 := Lib.hid b3; have d0 : w3.cell? ⟨bo, 0, none⟩ = some (.slice A3 ([] ++ placesP ws (3 - 1) ⟨0, 1, 0⟩ : List SPlace).length c3) := (by simp [World.cell?, B3.out.o]); clear b3)
  go_ret
  refine ⟨_, rfl, ?_, B3.out.b⟩
  have o := B3.out.own.lower (base' := w.heap.size) (by have := HBM.out; omega)
  simpa using o
end Go.Proofs.Ytomomaoncmgfpaa.Mmu

namespace Go.Proofs.Ytomomaoncmgfpaa.Mmu
open Go.RowKit Go.Maps Go.Proofs.Ytomomaoncmgfpaa.Base Go.Proofs.Ytomomaoncmgfpaa.Kinds
set_option linter.unusedVariables false
set_option linter.unusedSimpArgs false
theorem lawI : Keyed Try.prog 3 := int_keyed Try.underlying3
theorem zeroB (w : World) : (zeroValue 4).run Try.prog w = .ok (.bool false) w := by kernel_rfl
/-- A bool that reads as a lit. -/
theorem elem_bool_inv {v : Value} {b : Bool} {ps : List MemPlace} (h : plainElem (H := Unit) Try.prog 4 v = some (.lit (.bool b), ps)) : v = .bool b := by
  unfold plainElem at h
  simp only [Try.underlying4] at h
  cases v <;> simp_all
/-- The block b is the call's own map, and holds the numbers of which fs says so. -/
def Seen (w : World) (b n : Nat) (fs : Int → Bool) : Prop :=
  ∃ D : DataW Unit, w.ownsMap Try.prog 3 (plainElem (H := Unit) Try.prog 4) b n D ∧ IsMap D ∧ ∀ x : Int, D.atKey (.int .i64 x) (.lit (.bool false)) = .lit (.bool (fs x))
theorem seen_made (w : World) : Seen (w.alloc (.map #[] 0)) w.heap.size 0 (fun _ => false) := ⟨.map [], World.ownsMap_made w _ _ _, isMap_empty, fun x => rfl⟩
theorem Seen.kept {w w' : World} {b n : Nat} {fs : Int → Bool} {row : Option Nat} (h : Seen w b n fs) (hg : w.grownBy w' row) (hne : some b ≠ row) : Seen w' b n fs := by
  obtain ⟨D, h1, h2, h3⟩ := h
  exact ⟨D, h1.kept hg hne, h2, h3⟩
theorem Seen.below {w w' : World} {b n : Nat} {fs : Int → Bool} (h : Seen w b n fs) (hb : Below w.heap.size w w') : Seen w' b n fs := h.kept (row := none) ⟨hb.os, hb.tape, hb.output, hb.size, fun k hk _ => hb.block k hk⟩ (by simp)
theorem key_wf {x : Int} (h0 : 0 ≤ x) (h1 : x < 65536) : (Lit.int .i64 x).wf = true := by
  have h2 : IntKind.i64.min = -9223372036854775808 := by decide
  simp [Lit.wf, h2]
  omega
/-- The look-up. -/
theorem Seen.look {w : World} {b n : Nat} {fs : Int → Bool} (h : Seen w b n fs) {x : Int} (hx : (Lit.int .i64 x).wf = true) : (Instr.lookup 83 (.map (some b)) (.int .i64 x) false).run Try.prog w = .ok (.bool (fs x)) w := by
  obtain ⟨D, h1, h2, h3⟩ := h
  obtain ⟨v, ps, hr, hv⟩ := h1.lookup lawI Try.underlying83 (zeroB w) (plainElem_bool Try.underlying4 false) (keyOf_int_mk Try.underlying3 hx)
  rw [h3 x] at hv
  rw [hr, elem_bool_inv hv]
/-- The store. -/
theorem Seen.put {w : World} {b n : Nat} {fs : Int → Bool} (h : Seen w b n fs) {x : Int} (hx : (Lit.int .i64 x).wf = true) (hn : n < maxLen) : ∃ w', (Instr.mapUpdate 83 (.map (some b)) (.int .i64 x) (.bool true)).run Try.prog w = .ok () w' ∧ Seen w' b (n + 1) (fun y => decide (y = x) || fs y) ∧ w.grownBy w' (some b) := by
  obtain ⟨D, h1, h2, h3⟩ := h
  obtain ⟨w', hr, ho, hg⟩ := h1.update lawI Try.underlying83 hn (keyOf_int_mk Try.underlying3 hx) (plainElem_bool Try.underlying4 true)
  refine ⟨w', hr, ⟨_, ho, h2.put _ _, fun y => ?_⟩, hg⟩
  by_cases e : y = x
  · subst e
    rw [atKey_put_same (k := .int .i64 y) h2 (by simp [WideAt.IsKeyLit])]
    simp
  · rw [atKey_put_other (by simp [e])]
    rw [h3 y]
    simp [e]
end Go.Proofs.Ytomomaoncmgfpaa.Mmu

namespace Go.Proofs.Ytomomaoncmgfpaa.Mmu
open Go.RowKit Go.Maps Go.Proofs.Ytomomaoncmgfpaa.Base Go.Proofs.Ytomomaoncmgfpaa.Kinds Go.Proofs.Ytomomaoncmgfpaa.DecMath Go.Proofs.Ytomomaoncmgfpaa.L1
set_option linter.unusedVariables false
set_option linter.unusedSimpArgs false
/-- Some earlier place has the frame. -/
def seenP (ps : List SPlace) (n : Nat) (x : Int) : Bool := (ps.take n).any (fun q => decide (q.Frame = x))
theorem seen_succ {ps : List SPlace} {n : Nat} {p : SPlace} (h : ps[n]? = some p) (x : Int) : seenP ps (n + 1) x = (decide (x = p.Frame) || seenP ps n x) := by
  unfold seenP
  rw [List.take_add_one, h]
  simp only [Option.toList_some, List.any_append, List.any_cons, List.any_nil, Bool.or_false]
  rw [Bool.or_comm]
  congr 1
  simp [eq_comm]
theorem seen_fresh {ps : List SPlace} {n : Nat} {p : SPlace} (hn : n ≤ ps.length) (h : seenP ps n p.Frame = false) : freshP ps n n p := by
  intro j hj q hq e
  have hm : q ∈ ps.take n := List.mem_iff_getElem?.2 ⟨j, by rw [List.getElem?_take_of_lt hj]; exact hq⟩
  unfold seenP at h
  rw [List.any_eq_false] at h
  exact absurd (h q hm) (by simp [e])
theorem seen_not {ps : List SPlace} {n : Nat} {p : SPlace} (h : seenP ps n p.Frame = true) : ∃ j q, j < n ∧ ps[j]? = some q ∧ q.Frame = p.Frame := by
  unfold seenP at h
  rw [List.any_eq_true] at h
  obtain ⟨q, hm, he⟩ := h
  obtain ⟨j, hj⟩ := List.mem_iff_getElem?.1 hm
  have hjn : j < n := by
    have h2 := (List.getElem?_eq_some_iff.1 hj).1
    rw [List.length_take] at h2
    omega
  rw [List.getElem?_take_of_lt hjn] at hj
  exact ⟨j, q, hjn, hj, by simpa using he⟩
/-- The box of the memory and the map of what was seen. -/
structure TrB (w0 : World) (bm : Nat) (v0 : Value) (n : Nat) (fs : Int → Bool) (w : World) : Prop where
  le : w0.heap.size = bm
  b : Below w0.heap.size w0 w
  m : w.heap[bm]? = some (.cells #[v0] 25)
  s : Seen w (bm + 1) n fs
theorem TrB.below {w0 w w1 : World} {bm n : Nat} {v0 : Value} {fs : Int → Bool} (h : TrB w0 bm v0 n fs w) (hb : Below w.heap.size w w1) : TrB w0 bm v0 n fs w1 :=
  ⟨h.le, thenB h.b hb, (hb.block _ (Array.getElem?_eq_some_iff.1 h.m).1).trans h.m, h.s.below hb⟩
/-- The map has grown. -/
theorem TrB.put {w0 w w1 : World} {bm n n' : Nat} {v0 : Value} {fs fs' : Int → Bool} (h : TrB w0 bm v0 n fs w) (hs : Seen w1 (bm + 1) n' fs') (hg : w.grownBy w1 (some (bm + 1))) : TrB w0 bm v0 n' fs' w1 := by
  have hle := h.le
  refine ⟨h.le, h.b.trans ⟨hg.os, hg.tape, hg.output, hg.size, fun k hk => hg.block k (Nat.lt_of_lt_of_le hk h.b.size) (by simp only [ne_eq, Option.some.injEq]; omega)⟩, ?_, hs⟩
  exact (hg.block _ (Array.getElem?_eq_some_iff.1 h.m).1 (by simp only [ne_eq, Option.some.injEq]; omega)).trans h.m
set_option maxRecDepth 100000 in
set_option maxHeartbeats 8000000 in
theorem tree_any (v0 vp : Value) (ws : List Int) (ps : List SPlace) (w : World) (r : Rd wEnc 1 w v0 ws) (hw : WfW ws) (rp : Rd SPlace.enc 3 w vp ps) (hin : ∀ q ∈ ps, inP ws q) (hl : ps.length ≤ 1000) :
    Calls Try.prog 22 #[.agg #[v0], vp] w fun e w' => e = .returned (.bool (treeP ws ps)) ∧ Below w.heap.size w w' := by
  have hmm := @run_makeMap Try.prog
  have R := Lib.hid r
  have HW := Lib.hid hw
  have RP := Lib.hid rp
  have HIN := Lib.hid hin
  obtain ⟨A0, c0, e0, hc1, hc2⟩ := r.shape
  obtain ⟨A1, c1, e1, hd1, hd2⟩ := rp.shape
  subst e0 e1
  clear r hw rp hin
  go_enter Try.func22, Try.ntmps22
  go_upto_region 2 with fail
  have T1' : TrB w w.heap.size (.slice A0 ws.length c0) 0 (fun _ => false) ((w.alloc (.cells #[.slice A0 ws.length c0] 25)).alloc (.map #[] 0)) := by
    have h1 : Below w.heap.size w (w.alloc (.cells #[.slice A0 ws.length c0] 25)) := allocB (Below.refl _ _) _
    have h2 := seen_made (w.alloc (.cells #[.slice A0 ws.length c0] 25))
    have hz : (w.alloc (.cells #[.slice A0 ws.length c0] 25)).heap.size = w.heap.size + 1 := by simp
    rw [hz] at h2
    have h3 : Below (w.alloc (.cells #[.slice A0 ws.length c0] 25)).heap.size (w.alloc (.cells #[.slice A0 ws.length c0] 25)) ((w.alloc (.cells #[.slice A0 ws.length c0] 25)).alloc (.map #[] 0)) := allocB (Below.refl _ _) _
    exact ⟨rfl, thenB h1 h3, (h3.block _ (by rw [hz]; omega)).trans (heap_alloc_new w _), h2⟩
  have T1 := Lib.hid T1'
  clear T1'
  generalize (w.alloc (.cells #[.slice A0 ws.length c0] 25)).alloc (.map #[] 0) = w1 at *
  obtain ⟨bm, hbm⟩ : ∃ b, w.heap.size = b := ⟨_, rfl⟩
  rw [hbm] at T1 ⊢
  have HBM := Lib.hid hbm
  clear hbm
  go_wp2
  go_loopw [14] (fun v wr => ∃ i : Nat, i ≤ ps.length ∧ v = .int .i64 i ∧ treeTo ws ps i ∧ TrB w bm (.slice A0 ws.length c0) i (seenP ps i) wr) (fun v _ => ps.length - (intOf v).toNat)
  case atStart => exact ⟨0, by omega, rfl, fun i hi => by omega, T1.out⟩
  case round =>
    obtain ⟨i, hi, rfl, hto, t⟩ := hrel
    have HTO := Lib.hid hto
    have T2 := Lib.hid t
    clear hto t
    by_cases hlt : i < ps.length
    rotate_left
    · have hlt' : ¬ (i : Int) < (ps.length : Int) := by omega
      obtain rfl : i = ps.length := by omega
      have HTT := Lib.hid (tree_true HTO.out)
      go_wp2
      go_ret
      exact ⟨by rw [HTT.out]; rfl, T2.out.b⟩
    have hlt' : (i : Int) < (ps.length : Int) := by omega
    obtain ⟨ad, ⟨fr, lv, pg⟩, ea, g1, u0, u1, u2⟩ := SPlace.at (RP.out.below T2.out.b) hlt
    cases ea
    have G1 := Lib.hid g1
    have HPI := Lib.hid (HIN.out _ (List.mem_of_getElem? g1))
    clear g1
    go_upto_region 5 with fail
    have T3 := Lib.hid (T2.out.below (allocB (Below.refl _ _) (.cells #[.int .i64 fr, .int .i64 lv, .int .i64 pg] 39)))
    have x3 : (wr.alloc (.cells #[.int .i64 fr, .int .i64 lv, .int .i64 pg] 39)).heap[wr.heap.size]? = some (.cells #[.int .i64 fr, .int .i64 lv, .int .i64 pg] 39) := heap_alloc_new wr _
    have hsz := T2.out.s
    obtain ⟨D2, hD2, _⟩ := hsz
    have hlt2 := hD2.lt
    clear hD2 u0 u1 u2
    generalize wr.alloc (.cells #[.int .i64 fr, .int .i64 lv, .int .i64 pg] 39) = w3 at *
    obtain ⟨bp, hbp⟩ : ∃ b, wr.heap.size = b := ⟨_, rfl⟩
    rw [hbp] at x3 hlt2 ⊢
    have X3 := Lib.hid x3
    have hfr : 0 ≤ fr ∧ fr < 65536 := by
      have h1 := HPI.out.2.1
      have h2 := HW.out.2.2.2
      simp only at h1
      omega
    have hkw := key_wf hfr.1 hfr.2
    have p0 : w3.cell? ⟨bp, 0, none⟩ = some (.int .i64 fr) := by simp [World.cell?, x3]
    have HLK := Lib.hid (T3.out.s.look hkw)
    clear x3 hbp
    cases hsn : seenP ps i fr with
    | true =>
      obtain ⟨j, q, hj, hq, he⟩ := seen_not (p := ⟨fr, lv, pg⟩) hsn
      have HTF := Lib.hid (tree_not_fresh (ws := ws) G1.out hj hq he)
      rw [hsn] at HLK
      have hlk := HLK.out
      clear hsn hkw hq he
      go_wp2
      go_ret
      exact ⟨by rw [HTF.out]; rfl, T3.out.b⟩
    | false =>
      have HFR := Lib.hid (seen_fresh (p := ⟨fr, lv, pg⟩) hi hsn)
      rw [hsn] at HLK
      have hlk := HLK.out
      obtain ⟨w4, hup, hs4, hg4⟩ := T3.out.s.put hkw (by unfold maxLen; omega)
      have T4 := Lib.hid (T3.out.put hs4 hg4)
      have X4 : Hid (w4.heap[bp]? = some (.cells #[.int .i64 fr, .int .i64 lv, .int .i64 pg] 39)) := Lib.hid ((hg4.block _ (Array.getElem?_eq_some_iff.1 X3.out).1 (by simp only [ne_eq, Option.some.injEq]; omega)).trans X3.out)
      clear hsn hkw hs4 hg4
      go_upto_region 8 with fail
      have p1 : w4.cell? ⟨bp, 0, none⟩ = some (.int .i64 fr) := by simp [World.cell?, X4.out]
      have q1 : w4.cell? ⟨bm, 0, none⟩ = some (.slice A0 ws.length c0) := by simp [World.cell?, T4.out.m]
      have hf1 := HPI.out.2.1
      simp only at hf1
      clear hlk hup p0
      go_wp2_with (go_at_call 42; refine (table_any _ ws fr _ (R.out.below T4.out.b) HW.out hf1).mono ?_; rintro e w5 ⟨rfl, hb5⟩)
      have T5 := Lib.hid (T4.out.below hb5)
      have X5 : Hid (w5.heap[bp]? = some (.cells #[.int .i64 fr, .int .i64 lv, .int .i64 pg] 39)) := Lib.hid ((hb5.block _ (Array.getElem?_eq_some_iff.1 X4.out).1).trans X4.out)
      clear hb5 p1 q1
      go_loopw [29] (fun v wr => ∃ k : Nat, k ≤ 16 ∧ v = .int .i64 k ∧ wordsOk ws ⟨fr, lv, pg⟩ k ∧ Below w5.heap.size w5 wr) (fun v _ => 16 - (intOf v).toNat)
      case atStart => exact ⟨0, by omega, rfl, fun i hi => by omega, Below.refl _ _⟩
      case round =>
        obtain ⟨k, hk, rfl, hwo, hb⟩ := hrel
        have T6 := Lib.hid (T5.out.below hb)
        have HB6 := Lib.hid hb
        have HWO := Lib.hid hwo
        clear hwo hb
        by_cases hkt : k < 16
        rotate_left
        · have hkt' : ¬ (k : Int) < 16 := by omega
          obtain rfl : k = 16 := by omega
          go_wp2
          go_roundw
          case rel =>
            refine ⟨i + 1, by omega, by go_num, tree_step HTO.out G1.out HFR.out HWO.out, ?_⟩
            have hse : seenP ps (i + 1) = fun y => decide (y = fr) || seenP ps i y := funext fun y => seen_succ G1.out y
            rw [hse]
            exact T6.out
          case measure => simp [intOf]; omega
        have hkt' : (k : Int) < 16 := by omega
        obtain ⟨aw, cw, hv, hcw1, hcw2, hcell, hx0, hx1, hax⟩ := wordP_at R.out HW.out fr k hf1 (by omega)
        simp only [Value.slice.injEq] at hv
        obtain ⟨rfl, _, rfl⟩ := hv
        obtain ⟨x, hx⟩ : ∃ x, wordP ws fr k = x := ⟨_, rfl⟩
        have HIX := Lib.hid (index_tab hkt hx)
        rw [hx] at hcell hx0 hx1
        have HX := Lib.hid hx
        have x6 := Lib.hid ((T6.out.b).size)
        have hb6 : Hid (wr.heap[bp]? = some (.cells #[.int .i64 fr, .int .i64 lv, .int .i64 pg] 39)) := Lib.hid ((HB6.out.block _ (Array.getElem?_eq_some_iff.1 X5.out).1).trans X5.out)
        have p1 : wr.cell? ⟨bp, 1, none⟩ = some (.int .i64 lv) := by simp [World.cell?, hb6.out]
        have q1 : wr.cell? ⟨bm, 0, none⟩ = some (.slice (some aw) ws.length c0) := by simp [World.cell?, T6.out.m]
        obtain ⟨kd, hkd⟩ : ∃ c, (dec lv x).1 = c := ⟨_, rfl⟩
        have HKD := Lib.hid hkd
        clear hx hkd hcell
        by_cases h4 : kd = 4
        · have HTF := Lib.hid (tree_not_word (ws := ws) G1.out hkt (by simp only [HX.out]; unfold wordOk; rw [HKD.out]; exact fun h => h.1 h4))
          subst h4
          go_wp2
          rw [HIX.out]
          go_wp2_with (go_at_call 45; refine (kindOf_any _ _ _ hx0 hx1).mono ?_; rw [HKD.out]; rintro e w' ⟨rfl, rfl⟩)
          go_ret
          exact ⟨by rw [HTF.out]; rfl, T6.out.b⟩
        have hd4 : (kd == 4) = false := by simpa using h4
        by_cases h1 : kd = 1
        rotate_left
        · have hd1 : (kd == 1) = false := by simpa using h1
          have HWN := Lib.hid (words_step HWO.out (by simp only [HX.out]; unfold wordOk; rw [HKD.out]; exact ⟨h4, fun h => absurd h h1⟩))
          clear h1 h4
          go_wp2
          rw [HIX.out]
          go_wp2_with (go_at_call 45; refine (kindOf_any _ _ _ hx0 hx1).mono ?_; rw [HKD.out]; rintro e w' ⟨rfl, rfl⟩)
          go_roundw
          case rel => exact ⟨k + 1, by omega, by go_num, HWN.out, HB6.out⟩
          case measure => simp [intOf]; omega
        clear h4 hd4
        subst h1
        obtain ⟨ch, hch⟩ : ∃ c, childP ws.length lv x = c := ⟨_, rfl⟩
        have HCH := Lib.hid hch
        clear hch
        by_cases ht : (dec lv x).2.1 < ((ws.length / 16 : Nat) : Int)
        · have hch0 : ch = (dec lv x).2.1 := by rw [← HCH.out]; exact if_pos ⟨HKD.out, ht⟩
          have hdc : decide (ch < 0) = false := by have := (dec_out lv x).1; simp; omega
          have HWN := Lib.hid (words_step HWO.out (by simp only [HX.out]; unfold wordOk; rw [HKD.out]; exact ⟨by decide, fun _ => ht⟩))
          clear ht hch0
          go_wp2
          rw [HIX.out]
          go_wp2_with (first | (go_at_call 45; refine (kindOf_any _ _ _ hx0 hx1).mono ?_; rw [HKD.out]; rintro e w' ⟨rfl, rfl⟩) | (go_at_call 43; refine (child_any (some aw) ws.length c0 lv x _ hc1 hc2 hx0 hx1).mono ?_; rw [HCH.out]; rintro e w7 ⟨rfl, hb7⟩))
          go_roundw
          case rel => exact ⟨k + 1, by omega, by go_num, HWN.out, thenB HB6.out hb7⟩
          case measure => simp [intOf]; omega
        · have hch0 : ch = -1 := by rw [← HCH.out]; exact if_neg fun h => ht h.2
          have HTF := Lib.hid (tree_not_word (ws := ws) G1.out hkt (by simp only [HX.out]; unfold wordOk; rw [HKD.out]; exact fun h => ht (h.2 rfl)))
          have hdc : decide (ch < 0) = true := by rw [hch0]; rfl
          clear ht hch0
          go_wp2
          rw [HIX.out]
          go_wp2_with (first | (go_at_call 45; refine (kindOf_any _ _ _ hx0 hx1).mono ?_; rw [HKD.out]; rintro e w' ⟨rfl, rfl⟩) | (go_at_call 43; refine (child_any (some aw) ws.length c0 lv x _ hc1 hc2 hx0 hx1).mono ?_; rw [HCH.out]; rintro e w7 ⟨rfl, hb7⟩))
          go_ret
          exact ⟨by rw [HTF.out]; rfl, thenB T6.out.b hb7⟩
end Go.Proofs.Ytomomaoncmgfpaa.Mmu

namespace Go.Proofs.Ytomomaoncmgfpaa.Mmu
open Go.RowKit Go.Maps Go.Proofs.Ytomomaoncmgfpaa.Base Go.Proofs.Ytomomaoncmgfpaa.Kinds Go.Proofs.Ytomomaoncmgfpaa.DecMath Go.Proofs.Ytomomaoncmgfpaa.L1
set_option linter.unusedVariables false
set_option linter.unusedSimpArgs false
set_option maxRecDepth 100000 in
set_option maxHeartbeats 8000000 in
theorem implPlacesF_any (v0 : Value) (ws : List Int) (w : World) (r : Rd wEnc 1 w v0 ws) (hr : ∀ x ∈ ws, 0 ≤ x ∧ x < 18446744073709551616) :
    Calls Try.prog 7 #[.agg #[v0]] w (P2Post w (placesS ws)) := by
  obtain ⟨A0, c0, e0, hc1, hc2⟩ := r.shape
  subst e0
  have R := Lib.hid r
  clear r
  by_cases hok : okLen ws
  rotate_left
  · have HM : Hid (decide (ws.length % 16 = 0 ∧ 16 ≤ ws.length ∧ ws.length ≤ 8192) = false) := Lib.hid (decide_eq_false hok)
    have HS : Hid (placesS ws = ([], false)) := Lib.hid (if_neg hok)
    clear hok hr
    go_enter Try.func7, Try.ntmps7
    go_upto_region 1 with fail
    refine ((St.start w).push _ _).gen (fun w1 S1' _ => ?_)
    have S1 := Lib.hid S1'
    clear S1'
    have sT0 := S1.out
    have p0_0 := sT0.c1
    have sT1 := sT0.tail
    clear sT0 sT1
    go_wp2_with (go_at_call 20; refine (memOK_any A0 ws.length c0 _ hc1 hc2).mono ?_; rw [HM.out]; rintro e w2 ⟨rfl, hb2⟩; have S2 := Lib.hid (S1.out.below hb2); clear hb2)
    go_ret2
    rw [HS.out]
    exact ⟨_, rfl, Own.nil _ _ _ _ _, S2.out.b⟩
  have HM : Hid (decide (ws.length % 16 = 0 ∧ 16 ≤ ws.length ∧ ws.length ≤ 8192) = true) := Lib.hid (decide_eq_true hok)
  have HWF : Hid (WfW ws) := Lib.hid ⟨hr, hok.1, hok.2.1, hok.2.2⟩
  obtain ⟨ps, hps⟩ : ∃ l, placesP ws 2 ⟨0, 1, 0⟩ = l := ⟨_, rfl⟩
  have HPS := Lib.hid hps
  have HS : Hid (placesS ws = (ps, treeP ws ps)) := Lib.hid (by unfold placesS; rw [if_pos hok, hps])
  have HIN : Hid (∀ q ∈ ps, inP ws q) := Lib.hid (by rw [← hps]; exact placesP_in ws 2 _ (by simp) (root_in hok).1 (root_in hok).2)
  have HLN : Hid (ps.length ≤ 1000) := Lib.hid (by rw [← hps]; exact Nat.le_trans (placesP_len ws 2 _) (Nat.le_trans (maxP_le (by omega)) (by omega)))
  clear hps hok hr
  go_enter Try.func7, Try.ntmps7
  go_upto_region 1 with fail
  refine ((St.start w).push _ _).gen (fun w1 S1' _ => ?_)
  have S1 := Lib.hid S1'
  clear S1'
  have sT0 := S1.out
  have p0_0 := sT0.c1
  have sT1 := sT0.tail
  clear sT0 sT1
  go_upto_region 3 with (go_at_call 20; refine (memOK_any A0 ws.length c0 _ hc1 hc2).mono ?_; rw [HM.out]; rintro e w2 ⟨rfl, hb2⟩; have S2 := Lib.hid (S1.out.below hb2); clear hb2)
  clear p0_0
  have sT0 := S2.out
  have p0_0 := sT0.c1
  have sT1 := sT0.tail
  clear sT0 sT1
  go_upto_region 4 with (go_at_call 21; refine (implPlaces_any _ ws _ (R.out.below S2.out.b) HWF.out).mono ?_; rw [HPS.out]; rintro e w3 ⟨v3, rfl, o3, hb3⟩; obtain ⟨A3, c3, hv3⟩ := o3.shape; subst hv3; have S3 := Lib.hid (S2.out.below hb3); have O3 := Lib.hid (o3.lower S2.out.b.size); clear hb3 o3)
  clear p0_0
  have sT0 := S3.out
  have p0_0 := sT0.c1
  have sT1 := sT0.tail
  clear sT0 sT1
  go_wp2_with (go_at_call 22; refine (tree_any _ _ ws ps _ (R.out.below S3.out.b) HWF.out (O3.out.rd SPlace.len) HIN.out HLN.out).mono ?_; rintro e w4 ⟨rfl, hb4⟩; have S4 := Lib.hid (S3.out.below hb4); have O4 := Lib.hid (O3.out.below hb4); clear hb4)
  go_ret2
  rw [HS.out]
  exact ⟨_, rfl, O4.out, S4.out.b⟩
end Go.Proofs.Ytomomaoncmgfpaa.Mmu
