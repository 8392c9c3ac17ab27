/- Walk of the reference's l2DrawMachine. -/
import Derived.Test.YthphfcheencbgaaDraw6
import Derived.Test.YthphfcheencbgaaSpecWalk
namespace Go.Proofs.Ythphfcheencbgaa.Draw
open Go.RowKit Go.Proofs.Ythphfcheencbgaa.Base Go.Proofs.Ythphfcheencbgaa.Kinds Go.Proofs.Ythphfcheencbgaa.DecMath Go.Proofs.Ythphfcheencbgaa.L1 Go.Proofs.Ythphfcheencbgaa.Mmu
set_option linter.unusedVariables false
set_option linter.unusedSimpArgs false

section
variable {α : Type} {enc : α → List Value} {sz E base z T : Nat} {w : World} {v : Value} {l : List α} {cs : Array Value}
theorem own_box (h : Own enc sz E base w v l) (hz : w.heap[z]? = some (.cells cs T)) (hE : E ≠ T) (i : Nat) (u : Value) : Own enc sz E base (w.setCell ⟨z, i, none⟩ u) v l := own_setOff h (a := ⟨z, i, none⟩) (off_box h hz hE) u
theorem own_box4 (h : Own enc sz E base w v l) (hz : w.heap[z]? = some (.cells cs T)) (hE : E ≠ T) (u0 u1 u2 u3 : Value) : Own enc sz E base ((((w.setCell ⟨z, 0, none⟩ u0).setCell ⟨z, 1, none⟩ u1).setCell ⟨z, 2, none⟩ u2).setCell ⟨z, 3, none⟩ u3) v l :=
  own_box (own_box (own_box (own_box h hz hE 0 u0) (st_set hz 0 u0) hE 1 u1) (st_set (st_set hz 0 u0) 1 u1) hE 2 u2) (st_set (st_set (st_set hz 0 u0) 1 u1) 2 u2) hE 3 u3
end
section
variable {base g n c : Nat} {w w0 : World} {v0 v1 v2 v3 : Value} {m : SM}
theorem apart_blk {α β : Type} {enc : α → List Value} {enc' : β → List Value} {sz sz' E E' b b' : Nat} {v : Value} {l : List α} {l' : List β} (h : Own enc sz E b w v l) (h' : Own enc' sz' E' b' w (.slice (some ⟨g, 0, none⟩) n c) l') (hE : E ≠ E') : some g ≠ v.ownBlock := by
  rcases own_apart hE h h' with e | e
  · rw [e]; simp
  · exact fun q => e (by rw [← q]; rfl)
theorem OwnM.setT (h : OwnM base w v0 v1 (.slice (some ⟨g, 0, none⟩) n c) v3 m) (j : Nat) (hj : j < m.tlb.length) (y : STlb) :
    OwnM base (((((w.setCell ⟨g, j * 5, none⟩ (.int .i64 y.Page)).setCell ⟨g, j * 5 + 1, none⟩ (.int .i64 y.Size)).setCell ⟨g, j * 5 + 2, none⟩ (.int .i64 y.Out)).setCell ⟨g, j * 5 + 3, none⟩ (.int .i64 y.Perm)).setCell ⟨g, j * 5 + 4, none⟩ (.bool y.Doomed)) v0 v1 (.slice (some ⟨g, 0, none⟩) n c) v3 { m with tlb := m.tlb.set j y } := by
  have k0 := apart_blk h.ws h.tlb (by decide)
  have k1 := apart_blk h.pend h.tlb (by decide)
  have k3 := apart_blk h.wc h.tlb (by decide)
  refine ⟨?_, ?_, own_set5 STlb.len h.tlb j hj y rfl, ?_⟩
  · exact own_setOff (own_setOff (own_setOff (own_setOff (own_setOff h.ws (a := ⟨g, j * 5, none⟩) k0 _) (a := ⟨g, j * 5 + 1, none⟩) k0 _) (a := ⟨g, j * 5 + 2, none⟩) k0 _) (a := ⟨g, j * 5 + 3, none⟩) k0 _) (a := ⟨g, j * 5 + 4, none⟩) k0 _
  · exact own_setOff (own_setOff (own_setOff (own_setOff (own_setOff h.pend (a := ⟨g, j * 5, none⟩) k1 _) (a := ⟨g, j * 5 + 1, none⟩) k1 _) (a := ⟨g, j * 5 + 2, none⟩) k1 _) (a := ⟨g, j * 5 + 3, none⟩) k1 _) (a := ⟨g, j * 5 + 4, none⟩) k1 _
  · exact own_setOff (own_setOff (own_setOff (own_setOff (own_setOff h.wc (a := ⟨g, j * 5, none⟩) k3 _) (a := ⟨g, j * 5 + 1, none⟩) k3 _) (a := ⟨g, j * 5 + 2, none⟩) k3 _) (a := ⟨g, j * 5 + 3, none⟩) k3 _) (a := ⟨g, j * 5 + 4, none⟩) k3 _
theorem OwnM.setC (h : OwnM base w v0 v1 v2 (.slice (some ⟨g, 0, none⟩) n c) m) (j : Nat) (hj : j < m.wc.length) (y : SWc) :
    OwnM base ((((w.setCell ⟨g, j * 4, none⟩ (.int .i64 y.Level)).setCell ⟨g, j * 4 + 1, none⟩ (.int .i64 y.Page)).setCell ⟨g, j * 4 + 2, none⟩ (.int .i64 y.Table)).setCell ⟨g, j * 4 + 3, none⟩ (.bool y.Doomed)) v0 v1 v2 (.slice (some ⟨g, 0, none⟩) n c) { m with wc := m.wc.set j y } := by
  have k0 := apart_blk h.ws h.wc (by decide)
  have k1 := apart_blk h.pend h.wc (by decide)
  have k3 := apart_blk h.tlb h.wc (by decide)
  refine ⟨?_, ?_, ?_, own_set4 SWc.len h.wc j hj y rfl⟩
  · exact own_setOff (own_setOff (own_setOff (own_setOff h.ws (a := ⟨g, j * 4, none⟩) k0 _) (a := ⟨g, j * 4 + 1, none⟩) k0 _) (a := ⟨g, j * 4 + 2, none⟩) k0 _) (a := ⟨g, j * 4 + 3, none⟩) k0 _
  · exact own_setOff (own_setOff (own_setOff (own_setOff h.pend (a := ⟨g, j * 4, none⟩) k1 _) (a := ⟨g, j * 4 + 1, none⟩) k1 _) (a := ⟨g, j * 4 + 2, none⟩) k1 _) (a := ⟨g, j * 4 + 3, none⟩) k1 _
  · exact own_setOff (own_setOff (own_setOff (own_setOff h.tlb (a := ⟨g, j * 4, none⟩) k3 _) (a := ⟨g, j * 4 + 1, none⟩) k3 _) (a := ⟨g, j * 4 + 2, none⟩) k3 _) (a := ⟨g, j * 4 + 3, none⟩) k3 _
end
/-- A row of another element type is written: the boxes stay. -/
theorem st_row {w0 w : World} {l : List (Nat × Array Value × Nat)} {α : Type} {enc : α → List Value} {sz E g n c : Nat} {xs : List α} (S : St w0 l w) (o : Own enc sz E w0.heap.size w (.slice (some ⟨g, 0, none⟩) n c) xs) (hE : ∀ x ∈ l, E ≠ x.2.2) (i : Nat) (u : Value) : St w0 l (w.setCell ⟨g, i, none⟩ u) :=
  St.setOther S (o.lt g rfl).1 (fun x hx => by have := own_not_box o (S.blk x hx) (hE x hx); simpa [Value.ownBlock] using this) _
theorem st_rows {w0 w : World} {l : List (Nat × Array Value × Nat)} {g : Nat} (S : St w0 l w) (h0 : w0.heap.size ≤ g) (hne : ∀ x ∈ l, x.1 ≠ g) (i : Nat) (u : Value) : St w0 l (w.setCell ⟨g, i, none⟩ u) := St.setOther S h0 (fun x hx => hne x hx) _
theorem row_ne {w0 w : World} {l : List (Nat × Array Value × Nat)} {α : Type} {enc : α → List Value} {sz E g n c : Nat} {xs : List α} (S : St w0 l w) (o : Own enc sz E w0.heap.size w (.slice (some ⟨g, 0, none⟩) n c) xs) (hE : ∀ x ∈ l, E ≠ x.2.2) : w0.heap.size ≤ g ∧ ∀ x ∈ l, x.1 ≠ g :=
  ⟨(o.lt g rfl).1, fun x hx => by have := own_not_box o (S.blk x hx) (hE x hx); simpa [Value.ownBlock] using this⟩
/-- The answer: a machine and the place behind it. -/
def DMPost (w : World) (s : SM × Nat) (e : Ending) (w' : World) : Prop := ∃ u0 u1 u2 u3, e = .returned (.tuple #[.agg #[u0, u1, u2, u3], .int .i64 ((s.2 : Nat) : Int)]) ∧ OwnM w.heap.size w' u0 u1 u2 u3 s.1 ∧ Below w.heap.size w w'
theorem frames0 {ws : List Int} (h : ¬ okLen ws) : framesOf ws.length = 0 := by unfold framesOf; exact if_neg h
theorem frames1 {ws : List Int} (h : okLen ws) : framesOf ws.length = ((ws.length / 16 : Nat) : Int) := by unfold framesOf; exact if_pos h
theorem frames_b (A : Option Addr) (n c : Nat) (f : Int) (h : framesOf n = f) (w : World) (hn : n ≤ c) (hc : c ≤ 9223372036854775807) :
    Calls Try.prog 11 #[.agg #[.slice A n c]] w fun e w' => e = .returned (.int .i64 f) ∧ Below w.heap.size w w' := by
  rw [← h]; exact l1Frames_any A n c w hn hc

theorem rd_eq {w : World} {v : Value} {l l' : List Int} (h : Rd wEnc 1 w v l) (e : l = l') : Rd wEnc 1 w v l' := e ▸ h

set_option maxRecDepth 100000 in
set_option maxHeartbeats 16000000 in
theorem drawMachine_any (v : Value) (c : List Int) (p : Nat) (w : World) (r : Rd bEnc 1 w v c) (hb : Bytes c) (hL : c.length ≤ 1048576) (hp : p ≤ 800) :
    Calls Try.prog 9 #[v, .int .i64 p] w (DMPost w (machD c p)) := by
  have R := Lib.hid r
  have HB := Lib.hid hb
  have hqb : memQ c p ≤ p + 400 := by have := treeW_ok hb (p + 1); unfold memQ; split <;> omega
  obtain ⟨q, hq⟩ : ∃ q, memQ c p = q := ⟨_, rfl⟩
  obtain ⟨ws, hws⟩ : ∃ ws, memW c p = ws := ⟨_, rfl⟩
  have hrg : ∀ x ∈ ws, 0 ≤ x ∧ x < 18446744073709551616 := by rw [← hws]; exact memW_range hb p
  have HRG := Lib.hid hrg
  rw [hq] at hqb
  obtain ⟨X, hX⟩ : ∃ X, machD c p = X := ⟨_, rfl⟩
  have HX : Hid (X = if okLen ws then drawIt c (⟨ws, [], [], []⟩, q) (sizeP c 8 3 12) else (⟨ws, [], [], []⟩, q)) := Lib.hid (by rw [← hX]; unfold machD; rw [hq, hws])
  rw [hX]
  have HQ := Lib.hid hq
  have HWS := Lib.hid hws
  clear r hb hq hws hrg hX
  go_enter Try.func9, Try.ntmps9
  go_upto_region 1 with fail
  refine ((St.start w).push _ _).gen (fun w1 S1 _ => ?_)
  have HS1 := Lib.hid S1
  clear S1
  obtain ⟨rb, hrb⟩ : ∃ b, w.heap.size = b := ⟨_, rfl⟩
  have HRB := Lib.hid hrb
  rw [hrb] at HS1 ⊢
  clear hrb
  go_upto_region 3 with (go_at_call 28; refine (drawMem_any v c p _ (R.out.below HS1.out.b) HB.out hL (by omega)).mono ?_; rw [HQ.out, HWS.out]; rintro e w2 ⟨vw, rfl, o2, hb2⟩; obtain ⟨A3, c3, hv2⟩ := o2.shape; subst hv2; have HS2 := Lib.hid (HS1.out.below hb2); have HO2 := Lib.hid (o2.lower HS1.out.b.size); clear hb2 o2)
  have hcc : ws.length ≤ c3 ∧ c3 ≤ 9223372036854775807 := by
    obtain ⟨Ax, cx, hcx, h1, h2⟩ := (HO2.out.rd wLen).shape
    simp only [Value.slice.injEq] at hcx
    obtain ⟨_, _, e⟩ := hcx
    rw [e]; exact ⟨h1, h2⟩
  obtain ⟨hc31, hc32⟩ := hcc
  refine world_gen (fun w' => St w [(w2.heap.size, #[.slice A3 ws.length c3], 25), (rb, #[.slice none 0 0, .slice none 0 0, .slice none 0 0, .slice none 0 0], 30)] w' ∧ Own wEnc 1 31 w.heap.size w' (.slice A3 ws.length c3) ws) ⟨HS2.out.push _ _, HO2.out.alloc _⟩ (fun w3 h3 => ?_)
  obtain ⟨xb, hxb⟩ : ∃ b, w2.heap.size = b := ⟨_, rfl⟩
  rw [hxb] at h3 ⊢
  have HS3 := Lib.hid h3.1
  have HO3 := Lib.hid h3.2
  clear h3 hxb HS1 HS2 HO2
  have sT0 := HS3.out
  have z0_0 := sT0.c1
  have sT1 := sT0.tail
  clear sT0 sT1
  go_upto_region 5 with fail
  clear z0_0
  obtain ⟨L, hLe⟩ : ∃ L, ws.length = L := ⟨_, rfl⟩
  have HLE := Lib.hid hLe
  have hM0 : OwnM w.heap.size w3 (.slice A3 ws.length c3) (.slice none 0 0) (.slice none 0 0) (.slice none 0 0) ⟨ws, [], [], []⟩ := ⟨HO3.out, Own.nil _ _ _ _ _, Own.nil _ _ _ _ _, Own.nil _ _ _ _ _⟩
  rw [hLe] at HS3 HO3 hM0 hc31 ⊢
  clear hLe
  refine world_gen (fun w' => St w [(w3.heap.size, #[.slice A3 L c3, .slice none 0 0, .slice none 0 0, .slice none 0 0], 30), (xb, #[.slice A3 L c3], 25), (rb, #[.slice none 0 0, .slice none 0 0, .slice none 0 0, .slice none 0 0], 30)] w' ∧ Own wEnc 1 31 w.heap.size w' (.slice A3 L c3) ws ∧ OwnM w.heap.size w' (.slice A3 L c3) (.slice none 0 0) (.slice none 0 0) (.slice none 0 0) ⟨ws, [], [], []⟩) ⟨HS3.out.push _ _, HO3.out.alloc _, hM0.below (allocB (Below.refl _ _) _)⟩ (fun w4 h4 => ?_)
  obtain ⟨mb, hmb⟩ : ∃ b, w3.heap.size = b := ⟨_, rfl⟩
  rw [hmb] at h4 ⊢
  have HS4 := Lib.hid h4.1
  have HO4 := Lib.hid h4.2.1
  have HM4 := Lib.hid h4.2.2
  clear h4 hmb hM0 HS3 HO3
  have sT0 := HS4.out
  have sT1 := sT0.tail
  have z1_0 := sT1.c1
  have sT2 := sT1.tail
  clear sT0 sT1 sT2
  by_cases hok : okLen ws
  rotate_left
  · have HF : Hid (framesOf L = 0) := Lib.hid (by rw [← HLE.out]; exact frames0 hok)
    have HE : Hid (X = (⟨ws, [], [], []⟩, q)) := Lib.hid (by rw [HX.out, if_neg hok])
    go_upto_region 6 with (go_at_call 11; refine (frames_b A3 L c3 0 HF.out _ hc31 hc32).mono ?_; rintro e w5 ⟨rfl, hb5⟩; have HS5 := Lib.hid (HS4.out.below hb5); have HM5 := Lib.hid (HM4.out.below hb5); clear hb5)
    clear z1_0
    have sT0 := HS5.out
    obtain ⟨z0_0, z0_1, z0_2, z0_3⟩ := sT0.c4
    have sT1 := sT0.tail
    have z1_0 := sT1.c1
    have sT2 := sT1.tail
    obtain ⟨z2_0, z2_1, z2_2, z2_3⟩ := sT2.c4
    have zF2_0 := sT2.f 0
    have zF2_1 := sT2.f 1
    have zF2_2 := sT2.f 2
    have zF2_3 := sT2.f 3
    have sT3 := sT2.tail
    clear sT0 sT1 sT2 sT3
    go_wp2
    refine bodyPost_ret (v := .tuple #[.agg #[.slice A3 L c3, .slice none 0 0, .slice none 0 0, .slice none 0 0], .int .i64 (q : Int)]) (by simp [results, Try.results9, go_sem, *]) rfl ?_
    rw [HE.out]
    exact ⟨_, _, _, _, rfl, HM5.out.set4 HS5.out.tail.tail.head (by decide) _ _ _ _, (HS5.out.s2 _ _ _ _).b⟩
  have hfz : ((((ws.length / 16 : Nat) : Int)) == 0) = false := by have := hok.2.1; simp; omega
  have HF : Hid (framesOf L = ((ws.length / 16 : Nat) : Int)) := Lib.hid (by rw [← HLE.out]; exact frames1 hok)
  obtain ⟨f, hf⟩ : ∃ f, ((ws.length / 16 : Nat) : Int) = f := ⟨_, rfl⟩
  rw [hf] at hfz HF
  clear hf
  obtain ⟨n, hn⟩ : ∃ n, sizeP c 8 3 12 = n := ⟨_, rfl⟩
  have hnb : n ≤ 12 := by rw [← hn]; unfold sizeP; split <;> omega
  have HN := Lib.hid hn
  have HE : Hid (X = drawIt c (⟨ws, [], [], []⟩, q) n) := Lib.hid (by rw [HX.out, if_pos hok, hn])
  have HWW : Hid (WfW ws) := Lib.hid ⟨HRG.out, hok⟩
  obtain ⟨s0, hs0⟩ : ∃ s0 : SM × Nat, ((⟨ws, [], [], []⟩, q) : SM × Nat) = s0 := ⟨_, rfl⟩
  have HU0 : Hid (UsedM ws q 0 s0) := Lib.hid (by rw [← hs0]; exact used0 HRG.out hok q)
  have HU : Hid (∀ k, k ≤ 100 → UsedM ws q k (drawIt c s0 k)) := Lib.hid (fun k hk => drawIt_used HB.out HU0.out k hk)
  rw [hs0] at HE
  have hs01 : s0.1 = ⟨ws, [], [], []⟩ ∧ s0.2 = q := by rw [← hs0]; exact ⟨rfl, rfl⟩
  have HS01 := Lib.hid hs01
  clear hok hn hs0 hs01 HX HU0
  go_upto_region 8 with (first
    | (go_at_call 11; refine (frames_b A3 L c3 f HF.out _ hc31 hc32).mono ?_; rintro e w5 ⟨rfl, hb5⟩; have HS5 := Lib.hid (HS4.out.below hb5); have HO5 := Lib.hid (HO4.out.below hb5); have HM5 := Lib.hid (HM4.out.below hb5); clear hb5)
    | (go_at_call 29; refine (size_any v c 8 3 12 _ (R.out.below HS5.out.b) hL (by decide) (by decide) (by decide) (by decide)).mono ?_; rw [HN.out]; rintro e w6 ⟨rfl, hb6⟩; have HS6 := Lib.hid (HS5.out.below hb6); have HO6 := Lib.hid (HO5.out.below hb6); have HM6 := Lib.hid (HM5.out.below hb6); clear hb6))
  clear z1_0
  clear HS4 HO4 HM4 HS5 HO5 HM5
  go_wp2
  go_loopw [1, 13] (fun vp vi wr => ∃ (k : Nat) (u0 u1 u2 u3 : Value), k ≤ n ∧ vi = .int .i64 (k : Int) ∧ vp = .int .i64 (((drawIt c s0 k).2 : Nat) : Int) ∧ Hid (OwnM w.heap.size wr u0 u1 u2 u3 (drawIt c s0 k).1) ∧ Hid (Own wEnc 1 31 w.heap.size wr (.slice A3 L c3) ws) ∧ Hid (St w [(mb, #[u0, u1, u2, u3], 30), (xb, #[.slice A3 L c3], 25), (rb, #[.slice none 0 0, .slice none 0 0, .slice none 0 0, .slice none 0 0], 30)] wr)) (fun _ i _ => n - (intOf i).toNat)
  case atStart => exact ⟨0, _, _, _, _, by omega, rfl, by show Value.int .i64 (q : Int) = .int .i64 ((s0.2 : Nat) : Int); rw [HS01.out.2], Lib.hid (by show OwnM _ _ _ _ _ _ s0.1; rw [HS01.out.1]; exact HM6.out), HO6, HS6⟩
  case round =>
    obtain ⟨k, u0, u1, u2, u3, hk, rfl, rfl, HM, HO, HS⟩ := hrel
    by_cases hlt : k < n
    rotate_left
    · obtain rfl : k = n := by omega
      obtain ⟨B0, d0, B1, d1, B2, d2, B3, d3, rfl, rfl, rfl, rfl⟩ := HM.out.shape
      have sT0 := HS.out
      obtain ⟨z0_0, z0_1, z0_2, z0_3⟩ := sT0.c4
      have sT1 := sT0.tail
      have z1_0 := sT1.c1
      have sT2 := sT1.tail
      obtain ⟨z2_0, z2_1, z2_2, z2_3⟩ := sT2.c4
      have zF2_0 := sT2.f 0
      have zF2_1 := sT2.f 1
      have zF2_2 := sT2.f 2
      have zF2_3 := sT2.f 3
      have sT3 := sT2.tail
      clear sT0 sT1 sT2 sT3
      go_wp2
      refine bodyPost_ret (v := .tuple #[.agg #[.slice B0 (drawIt c s0 k).1.ws.length d0, .slice B1 (drawIt c s0 k).1.pend.length d1, .slice B2 (drawIt c s0 k).1.tlb.length d2, .slice B3 (drawIt c s0 k).1.wc.length d3], .int .i64 (((drawIt c s0 k).2 : Nat) : Int)]) (by simp [results, Try.results9, go_sem, *]) rfl ?_
      rw [HE.out]
      exact ⟨_, _, _, _, rfl, HM.out.set4 HS.out.tail.tail.head (by decide) _ _ _ _, (HS.out.s2 _ _ _ _).b⟩
    have hlt' : (k : Int) < (n : Int) := by omega
    have hu := HU.out k (by omega)
    have hu1 := HU.out (k + 1) (by omega)
    obtain ⟨s, hs⟩ : ∃ s, drawIt c s0 k = s := ⟨_, rfl⟩
    have HNX : Hid (drawIt c s0 (k + 1) = drawStep c s) := Lib.hid (by rw [← hs]; rfl)
    rw [hs] at hu HM ⊢
    obtain ⟨mm, P⟩ := s
    have hPq : P = q + 4 * k := hu.at_
    have hMW : mm.ws = ws := hu.mem
    have HVM : Hid (Valid mm) := Lib.hid hu.ok
    have HWM : Hid (WfM mm) := Lib.hid hu.wf
    have hfew : mm.pend.length ≤ 100 := by have := hu.few; simp only at this; omega
    have hntl : mm.tlb.length ≤ 256 := hu.ok.ntlb
    have hnwc : mm.wc.length ≤ 256 := hu.ok.nwc
    have hPb : P ≤ 2000 := by omega
    clear hPq
    simp only at HM ⊢
    have hp8 := takeP_lt HB.out P 8 (by omega)
    have hp256 := takeP_lt HB.out (P + 3) 256 (by omega)
    obtain ⟨a, ha⟩ : ∃ a, takeP c P 8 = a := ⟨_, rfl⟩
    obtain ⟨pg, hpg⟩ : ∃ x, pageP c (P + 1) ws = x := ⟨_, rfl⟩
    obtain ⟨ch, hch⟩ : ∃ x, takeP c (P + 3) 256 = x := ⟨_, rfl⟩
    have hpgr := pageP_range HB.out (P + 1) ws
    rw [ha] at hp8
    rw [hch] at hp256
    rw [hpg] at hpgr
    obtain ⟨hp81, hp82⟩ := hp8
    obtain ⟨hc0, hc1⟩ := hp256
    obtain ⟨hpg0, hpg1⟩ := hpgr
    have HSTEP : Hid (drawStep c (mm, P) = (if a < 5 then (walkP mm pg (orC ch)).1 else if a = 5 then { mm with pend := mm.pend ++ [⟨addrP ws pg, wordD ws (addrP ws pg) ch⟩] } else { mm with tlb := doomTo dmT 3 a mm.tlb mm.tlb.length, wc := doomTo dmW 2 a mm.wc mm.wc.length }, P + 4)) := Lib.hid (by
      unfold drawStep; simp only; rw [ha, hMW, hpg, hch])
    have HA := Lib.hid ha
    have HPG := Lib.hid hpg
    have HCH := Lib.hid hch
    have HMW := Lib.hid hMW
    have HS' := Lib.hid hs
    clear ha hpg hch hu hu1 hMW hs
    obtain ⟨B0, d0, B1, d1, B2, d2, B3, d3, rfl, rfl, rfl, rfl⟩ := HM.out.shape
    go_upto_region 12 with (go_at_call 8; refine (take_any v c P 8 _ (R.out.below HS.out.b) HB.out hL (by omega) (by omega)).mono ?_; rw [HA.out]; rintro e w7 ⟨rfl, hb7⟩; have HS7 := Lib.hid (HS.out.below hb7); have HO7 := Lib.hid (HO.out.below hb7); have HM7 := Lib.hid (HM.out.below hb7); clear hb7)
    have sT0 := HS7.out
    have sT1 := sT0.tail
    have z1_0 := sT1.c1
    have sT2 := sT1.tail
    clear sT0 sT1 sT2
    go_upto_region 13 with (go_at_call 30; refine (drawPage_any v c (P + 1) (.slice A3 L c3) ws _ (R.out.below HS7.out.b) HB.out hL (by omega) (HO7.out.rd wLen) HWW.out).mono ?_; rw [HPG.out]; rintro e w8 ⟨rfl, hb8⟩; have HS8 := Lib.hid (HS7.out.below hb8); have HO8 := Lib.hid (HO7.out.below hb8); have HM8 := Lib.hid (HM7.out.below hb8); clear hb8)
    clear z1_0
    go_upto_region 14 with (go_at_call 8; refine (take_any v c (P + 3) 256 _ (R.out.below HS8.out.b) HB.out hL (by omega) (by omega)).mono ?_; rw [HCH.out]; rintro e w9 ⟨rfl, hb9⟩; have HS9 := Lib.hid (HS8.out.below hb9); have HO9 := Lib.hid (HO8.out.below hb9); have HM9 := Lib.hid (HM8.out.below hb9); clear hb9)
    clear HS HO HM HS7 HO7 HM7 HS8 HO8 HM8
    by_cases h5 : a < 5
    · have h5' : decide (a < 5) = true := decide_eq_true h5
      obtain ⟨oc, hoc⟩ : ∃ x, orC ch = x := ⟨_, rfl⟩
      have hor := orC_range hc0 hc1
      rw [hoc] at hor
      have eor : Go.bits .or .i64 (Go.bits .or .i64 ch 64) 16 = oc := hoc
      obtain ⟨g, hg⟩ : ∃ g, walkP mm pg oc = g := ⟨_, rfl⟩
      have HG := Lib.hid hg
      have HNEW : Hid (drawIt c s0 (k + 1) = (g.1, P + 4)) := Lib.hid (by rw [HNX.out, HSTEP.out, if_pos h5, hoc, hg])
      clear hoc hg
      have sT0 := HS9.out
      obtain ⟨z0_0, z0_1, z0_2, z0_3⟩ := sT0.c4
      have zF0_0 := sT0.f 0
      have zF0_1 := sT0.f 1
      have zF0_2 := sT0.f 2
      have zF0_3 := sT0.f 3
      have sT1 := sT0.tail
      clear sT0 sT1
      go_wp2_with (go_at_call 31; refine (specWalk_any pg oc ⟨hpg0, hpg1⟩ hor w.heap.size _ _ _ _ mm _ HM9.out HS9.out.b.size (Valid.walkable HVM.out HWM.out) g HG.out).mono ?_; rintro e w10 ⟨x0, x1, x2, x3, rfl, o10, hb10⟩; obtain ⟨E0, f0, E1, f1, E2, f2, E3, f3, rfl, rfl, rfl, rfl⟩ := o10.shape; have HS10 := Lib.hid (HS9.out.below hb10); have HO10 := Lib.hid (HO9.out.below hb10); have HM10 := Lib.hid o10; clear o10 hb10; have sT0 := HS10.out; obtain ⟨y0_0, y0_1, y0_2, y0_3⟩ := sT0.c4; have yF0_0 := sT0.f 0; have yF0_1 := sT0.f 1; have yF0_2 := sT0.f 2; have yF0_3 := sT0.f 3; have sT1 := sT0.tail; clear sT0 sT1)
      go_roundw
      case rel => exact ⟨k + 1, _, _, _, _, by omega, by first | rfl | go_num, by rw [HNEW.out]; first | rfl | go_num, Lib.hid (by rw [HNEW.out]; exact HM10.out.set4 HS10.out.head (by decide) _ _ _ _), Lib.hid (own_box4 HO10.out HS10.out.head (by decide) _ _ _ _), Lib.hid (HS10.out.s0 _ _ _ _)⟩
      case measure => simp [intOf]; omega
    have h5' : decide (a < 5) = false := decide_eq_false h5
    by_cases h6 : a = 5
    · subst h6
      obtain ⟨t, ht⟩ : ∃ t, addrP ws pg = t := ⟨_, rfl⟩
      have htr := addrP_range HWW.out.2 pg hpg0
      rw [ht, HLE.out] at htr
      obtain ⟨ht0, ht1⟩ := htr
      have hLb : L ≤ 8192 := by have := HWW.out.2.2.2; rw [HLE.out] at this; exact this
      have hML : Hid (mm.ws.length = L) := Lib.hid (by rw [HMW.out, HLE.out])
      have HT := Lib.hid ht
      obtain ⟨wd, hwd⟩ : ∃ x, wordD ws t ch = x := ⟨_, rfl⟩
      have HWD := Lib.hid hwd
      have HNEW : Hid (drawIt c s0 (k + 1) = ({ mm with pend := mm.pend ++ [⟨t, wd⟩] }, P + 4)) := Lib.hid (by rw [HNX.out, HSTEP.out, if_neg (by omega), if_pos rfl, ht, hwd])
      clear ht hwd
      have eml : Int.tmod ch 2 = ch % 2 := Int.tmod_eq_emod_of_nonneg hc0
      have sT0 := HS9.out
      obtain ⟨z0_0, z0_1, z0_2, z0_3⟩ := sT0.c4
      have zF0_0 := sT0.f 0
      have zF0_1 := sT0.f 1
      have zF0_2 := sT0.f 2
      have zF0_3 := sT0.f 3
      have sT1 := sT0.tail
      clear sT0 sT1
      go_upto_region 18 with (go_at_call 13; refine (addr_any _ ws pg _ (rd_eq (HM9.out.ws.rd wLen) HMW.out) HWW.out ⟨hpg0, hpg1⟩ t HT.out).mono ?_; rintro e w10 ⟨rfl, hb10⟩; have HS10 := Lib.hid (HS9.out.below hb10); have HO10 := Lib.hid (HO9.out.below hb10); have HM10 := Lib.hid (HM9.out.below hb10); clear hb10)
      clear z0_0 z0_1 z0_2 z0_3 zF0_0 zF0_1 zF0_2 zF0_3
      obtain ⟨bp, hbp⟩ : ∃ b, (ch % 2 == 0) = b := ⟨_, rfl⟩
      cases bp
      · have HW0 : Hid (wd = 0) := Lib.hid (by rw [← HWD.out]; unfold wordD; rw [if_neg (by simpa using hbp)])
        have hb10 : w.heap.size ≤ w10.heap.size := HS10.out.b.size
        have sT0 := HS10.out
        obtain ⟨z0_0, z0_1, z0_2, z0_3⟩ := sT0.c4
        have zF0_0 := sT0.f 0
        have zF0_1 := sT0.f 1
        have zF0_2 := sT0.f 2
        have zF0_3 := sT0.f 3
        have sT1 := sT0.tail
        clear sT0 sT1
        go_wp2_with (at_builtin; refine append1 60 2 16 26 (.agg #[.int .i64 0, .int .u64 0]) Try.underlying26 infoWrS rfl (by decide) SWrite.len SWrite.one rfl (.tmp 94) (.tmp 98) rfl w.heap.size (.slice B1 mm.pend.length d1) mm.pend ⟨t, 0⟩ _ rfl rfl rfl HM10.out.pend (by omega) (by decide) hb10 ?_)
        intro v' wz hoq hg
        have SQ := Lib.hid (st_grown HS10.out HM10.out.pend hg (by simp only [List.mem_cons, List.not_mem_nil, or_false, forall_eq_or_imp, forall_eq]; decide))
        have PQ := Lib.hid (OwnM.growP HM10.out hg hoq)
        have OQ := Lib.hid (HO10.out.kept hg (own_apart (by decide) HO10.out HM10.out.pend))
        obtain ⟨Aq, cq, e'⟩ := hoq.shape
        rw [show (mm.pend ++ [(⟨t, 0⟩ : SWrite)]).length = mm.pend.length + 1 by simp] at e'
        subst e'
        clear hoq hg
        clear z0_0 z0_1 z0_2 z0_3 zF0_0 zF0_1 zF0_2 zF0_3
        have sT0 := SQ.out
        obtain ⟨z0_0, z0_1, z0_2, z0_3⟩ := sT0.c4
        have zF0_0 := sT0.f 0
        have zF0_1 := sT0.f 1
        have zF0_2 := sT0.f 2
        have zF0_3 := sT0.f 3
        have sT1 := sT0.tail
        clear sT0 sT1
        go_wp2
        go_roundw
        case rel => exact ⟨k + 1, _, _, _, _, by omega, by first | rfl | go_num, by rw [HNEW.out]; first | rfl | go_num, Lib.hid (by rw [HNEW.out, HW0.out]; exact PQ.out.set1 SQ.out.head (by decide) 1 _), Lib.hid (own_box OQ.out SQ.out.head (by decide) 1 _), Lib.hid (by have h := SQ.out.set (l1 := []) 1 (.slice Aq (mm.pend.length + 1) cq); simp only [List.nil_append, List.setIfInBounds_toArray, List.set_cons_zero, List.set_cons_succ] at h; exact h)⟩
        case measure => simp [intOf]; omega
      · obtain ⟨tt, htt⟩ : ∃ x : Nat, (t + ch) % (L : Int) = (x : Int) := ⟨((t + ch) % (L : Int)).toNat, by have := Int.emod_nonneg (t + ch) (show (L : Int) ≠ 0 by omega); omega⟩
        have httL : tt < L := by have := Int.emod_lt_of_pos (t + ch) (show (0 : Int) < (L : Int) by omega); omega
        have e1 : IntKind.i64.wrap (t + ch) = t + ch := by rw [IntKind.wrap_i64]; omega
        have em : Int.tmod (t + ch) ((mm.ws.length : Nat) : Int) = (tt : Int) := by rw [hML.out, Int.tmod_eq_emod_of_nonneg (by omega)]; exact htt
        have hil : (tt : Int) < ((mm.ws.length : Nat) : Int) := by rw [hML.out]; omega
        have hd1 : ¬ ((mm.ws.length : Nat) : Int) = 0 := by rw [hML.out]; omega
        have hd4 : ¬ mm.ws = [] := fun h => hd1 (by rw [h]; rfl)
        have hd2 : (((mm.ws.length : Nat) : Int) == 0) = false := by rw [beq_eq_false_iff_ne]; exact hd1
        have hd3 : (mm.ws.length == 0) = false := by rw [beq_eq_false_iff_ne]; omega
        obtain ⟨ad, hae, hcl⟩ := wordD_at (HM10.out.ws.rd wLen) (k := tt) (by rw [hML.out]; exact httL)
        subst hae
        obtain ⟨y, hy⟩ : ∃ y, mm.ws.getD tt 0 = y := ⟨_, rfl⟩
        rw [hy] at hcl
        have HW0 : Hid (wd = y) := Lib.hid (by rw [← HWD.out]; unfold wordD; rw [if_pos (by simpa using hbp), HLE.out, htt, Int.toNat_natCast, ← hy, HMW.out])
        have hcB := BW.cell hcl
        clear htt hy hcl
        go_upto_region 20 with fail
        have sT0 := HS10.out
        obtain ⟨z0_0, z0_1, z0_2, z0_3⟩ := sT0.c4
        have sT1 := sT0.tail
        have zB0_0 := BW.cell z0_0
        have zB0_1 := BW.cell z0_1
        have zB0_2 := BW.cell z0_2
        have zB0_3 := BW.cell z0_3
        clear z0_0 z0_1 z0_2 z0_3
        clear sT0 sT1
        (refine wp_region_below (by kernel_rfl) (by kernel_rfl) ?_; (repeat (first | (go_big_quiet_step (fail)) | ((with_reducible refine wpQuiet_step ?_); intro K hK; go_simp; first | ((with_reducible refine hK _ ?_); clear hK K) | (apply Exists.intro; refine ⟨fun _ => ?_, hK _ ?_⟩; (fail); clear hK K)))); (with_reducible refine wpQuiet_nil ?_); intro wq hw'; obtain ⟨⟨wy, hbq⟩, hw''⟩ := hw'; subst hw'')
        have HS11 := Lib.hid (HS10.out.below hbq)
        have HM11 := Lib.hid (HM10.out.below hbq)
        have HO11 := Lib.hid (HO10.out.below hbq)
        have hb10 : w.heap.size ≤ wq.heap.size := HS11.out.b.size
        clear zB0_0 zB0_1 zB0_2 zB0_3
        clear hbq hcB
        have sT0 := HS11.out
        obtain ⟨z0_0, z0_1, z0_2, z0_3⟩ := sT0.c4
        have zF0_0 := sT0.f 0
        have zF0_1 := sT0.f 1
        have zF0_2 := sT0.f 2
        have zF0_3 := sT0.f 3
        have sT1 := sT0.tail
        clear sT0 sT1
        go_wp2_with (at_builtin; refine append1 60 2 16 26 (.agg #[.int .i64 0, .int .u64 0]) Try.underlying26 infoWrS rfl (by decide) SWrite.len SWrite.one rfl (.tmp 94) (.tmp 98) rfl w.heap.size (.slice B1 mm.pend.length d1) mm.pend ⟨t, y⟩ _ rfl rfl rfl HM11.out.pend (by omega) (by decide) hb10 ?_)
        intro v' wz hoq hg
        have SQ := Lib.hid (st_grown HS11.out HM11.out.pend hg (by simp only [List.mem_cons, List.not_mem_nil, or_false, forall_eq_or_imp, forall_eq]; decide))
        have PQ := Lib.hid (OwnM.growP HM11.out hg hoq)
        have OQ := Lib.hid (HO11.out.kept hg (own_apart (by decide) HO11.out HM11.out.pend))
        obtain ⟨Aq, cq, e'⟩ := hoq.shape
        rw [show (mm.pend ++ [(⟨t, y⟩ : SWrite)]).length = mm.pend.length + 1 by simp] at e'
        subst e'
        clear hoq hg
        clear z0_0 z0_1 z0_2 z0_3 zF0_0 zF0_1 zF0_2 zF0_3
        have sT0 := SQ.out
        obtain ⟨z0_0, z0_1, z0_2, z0_3⟩ := sT0.c4
        have zF0_0 := sT0.f 0
        have zF0_1 := sT0.f 1
        have zF0_2 := sT0.f 2
        have zF0_3 := sT0.f 3
        have sT1 := sT0.tail
        clear sT0 sT1
        go_wp2
        go_roundw
        case rel => exact ⟨k + 1, _, _, _, _, by omega, by first | rfl | go_num, by rw [HNEW.out]; first | rfl | go_num, Lib.hid (by rw [HNEW.out, HW0.out]; exact PQ.out.set1 SQ.out.head (by decide) 1 _), Lib.hid (own_box OQ.out SQ.out.head (by decide) 1 _), Lib.hid (by have h := SQ.out.set (l1 := []) 1 (.slice Aq (mm.pend.length + 1) cq); simp only [List.nil_append, List.setIfInBounds_toArray, List.set_cons_zero, List.set_cons_succ] at h; exact h)⟩
        case measure => simp [intOf]; omega
    have h6' : (a == 5) = false := by simpa using h6
    have HNEW : Hid (drawIt c s0 (k + 1) = ({ mm with tlb := doomTo dmT 3 a mm.tlb mm.tlb.length, wc := doomTo dmW 2 a mm.wc mm.wc.length }, P + 4)) := Lib.hid (by rw [HNX.out, HSTEP.out, if_neg h5, if_neg h6])
    have emT : Int.tmod a 3 = a % 3 := Int.tmod_eq_emod_of_nonneg hp81
    go_wp2
    go_loopw [16] (fun vj wr => ∃ j : Nat, j ≤ mm.tlb.length ∧ vj = .int .i64 (j : Int) ∧ Hid (OwnM w.heap.size wr (.slice B0 mm.ws.length d0) (.slice B1 mm.pend.length d1) (.slice B2 mm.tlb.length d2) (.slice B3 mm.wc.length d3) { mm with tlb := doomTo dmT 3 a mm.tlb j }) ∧ Hid (Own wEnc 1 31 w.heap.size wr (.slice A3 L c3) ws) ∧ Hid (St w [(mb, #[.slice B0 mm.ws.length d0, .slice B1 mm.pend.length d1, .slice B2 mm.tlb.length d2, .slice B3 mm.wc.length d3], 30), (xb, #[.slice A3 L c3], 25), (rb, #[.slice none 0 0, .slice none 0 0, .slice none 0 0, .slice none 0 0], 30)] wr)) (fun j _ => mm.tlb.length - (intOf j).toNat)
    case atStart => exact ⟨0, Nat.zero_le _, rfl, Lib.hid (by rw [doomTo_zero]; exact HM9.out), HO9, HS9⟩
    case round =>
      obtain ⟨j, hjT, rfl, HMt, HOt, HSt⟩ := hrel
      by_cases hltT : j < mm.tlb.length
      rotate_left
      · obtain rfl : j = mm.tlb.length := by omega
        have sT0 := HSt.out
        obtain ⟨z0_0, z0_1, z0_2, z0_3⟩ := sT0.c4
        have sT1 := sT0.tail
        clear sT0 sT1
        have emC : Int.tmod a 2 = a % 2 := Int.tmod_eq_emod_of_nonneg hp81
        go_wp2
        go_loopw [18] (fun vj wr => ∃ i : Nat, i ≤ mm.wc.length ∧ vj = .int .i64 (i : Int) ∧ Hid (OwnM w.heap.size wr (.slice B0 mm.ws.length d0) (.slice B1 mm.pend.length d1) (.slice B2 mm.tlb.length d2) (.slice B3 mm.wc.length d3) { mm with tlb := doomTo dmT 3 a mm.tlb mm.tlb.length, wc := doomTo dmW 2 a mm.wc i }) ∧ Hid (Own wEnc 1 31 w.heap.size wr (.slice A3 L c3) ws) ∧ Hid (St w [(mb, #[.slice B0 mm.ws.length d0, .slice B1 mm.pend.length d1, .slice B2 mm.tlb.length d2, .slice B3 mm.wc.length d3], 30), (xb, #[.slice A3 L c3], 25), (rb, #[.slice none 0 0, .slice none 0 0, .slice none 0 0, .slice none 0 0], 30)] wr)) (fun j _ => mm.wc.length - (intOf j).toNat)
        case atStart => exact ⟨0, Nat.zero_le _, rfl, Lib.hid (by rw [doomTo_zero]; exact HMt.out), HOt, HSt⟩
        case round =>
          obtain ⟨i, hjC, rfl, HMu, HOu, HSu⟩ := hrel
          by_cases hltC : i < mm.wc.length
          rotate_left
          · obtain rfl : i = mm.wc.length := by omega
            have sT0 := HSu.out
            obtain ⟨z0_0, z0_1, z0_2, z0_3⟩ := sT0.c4
            have sT1 := sT0.tail
            clear sT0 sT1
            go_wp2
            go_roundw
            case rel => exact ⟨k + 1, _, _, _, _, by omega, by first | rfl | go_num, by rw [HNEW.out]; first | rfl | go_num, Lib.hid (by rw [HNEW.out]; exact HMu.out), HOu, HSu⟩
            case measure => simp [intOf]; omega
          have hltC' : (i : Int) < (mm.wc.length : Int) := by omega
          obtain ⟨x, hx⟩ : ∃ x, mm.wc[i]? = some x := ⟨_, List.getElem?_eq_getElem hltC⟩
          have ejC : Int.tmod (i : Int) 2 = (i : Int) % 2 := Int.tmod_eq_emod_of_nonneg (by omega)
          obtain ⟨pb, hpb⟩ : ∃ b, ((i : Int) % 2 == a % 2) = b := ⟨_, rfl⟩
          have hlenC : (doomTo dmW 2 a mm.wc i).length = mm.wc.length := doomTo_len _ _ _ _ _
          have HLNC := Lib.hid hlenC
          obtain ⟨g, hg, hg0, hgw, fr, cs⟩ := Own.block SWc.len HMu.out.wc (by simp only; omega)
          subst hg
          have cs := cs i x (by simp only; rw [doomTo_get]; exact hx)
          have ce0 : wr.cell? ⟨g, i * 4, none⟩ = _ := cs 0 _ rfl
          have ce1 : wr.cell? ⟨g, i * 4 + 1, none⟩ = _ := cs 1 _ rfl
          have ce2 : wr.cell? ⟨g, i * 4 + 2, none⟩ = _ := cs 2 _ rfl
          have ce3 : wr.cell? ⟨g, i * 4 + 3, none⟩ = _ := cs 3 _ rfl
          clear cs hlenC
          cases pb
          · have HNO : Hid (doomTo dmW 2 a mm.wc (i + 1) = doomTo dmW 2 a mm.wc i) := Lib.hid (doomTo_no (by simpa using hpb))
            have sT0 := HSu.out
            obtain ⟨z0_0, z0_1, z0_2, z0_3⟩ := sT0.c4
            have sT1 := sT0.tail
            clear sT0 sT1
            go_wp2
            go_roundw
            case rel => exact ⟨i + 1, by omega, by first | rfl | go_num, Lib.hid (by rw [HNO.out]; exact HMu.out), HOu, HSu⟩
            case measure => simp [intOf]; omega
          · have HYES : Hid (doomTo dmW 2 a mm.wc (i + 1) = (doomTo dmW 2 a mm.wc i).set i (dmW x)) := Lib.hid (doomTo_yes hx (by simpa using hpb))
            have HX := Lib.hid hx
            clear hx
            have sT0 := HSu.out
            obtain ⟨z0_0, z0_1, z0_2, z0_3⟩ := sT0.c4
            have sT1 := sT0.tail
            clear sT0 sT1
            go_upto_region 35 with fail
            refine world_gen (fun w' => St w ((wr.heap.size, #[.int .i64 x.Level, .int .i64 x.Page, .int .i64 x.Table, .bool true], 42) :: [(mb, #[.slice B0 mm.ws.length d0, .slice B1 mm.pend.length d1, .slice B2 mm.tlb.length d2, .slice (some ⟨g, 0, none⟩) mm.wc.length d3], 30), (xb, #[.slice A3 L c3], 25), (rb, #[.slice none 0 0, .slice none 0 0, .slice none 0 0, .slice none 0 0], 30)]) w' ∧ OwnM w.heap.size w' (.slice B0 mm.ws.length d0) (.slice B1 mm.pend.length d1) (.slice B2 mm.tlb.length d2) (.slice (some ⟨g, 0, none⟩) mm.wc.length d3) { mm with tlb := doomTo dmT 3 a mm.tlb mm.tlb.length, wc := doomTo dmW 2 a mm.wc i } ∧ Own wEnc 1 31 w.heap.size w' (.slice A3 L c3) ws) ⟨HSu.out.push _ _, HMu.out.below (allocB (Below.refl _ _) _), HOu.out.below (allocB (Below.refl _ _) _)⟩ (fun we he => ?_)
            have HSe := Lib.hid he.1
            have HMe := Lib.hid he.2.1
            have HOe := Lib.hid he.2.2
            obtain ⟨eb, heb⟩ : ∃ b, wr.heap.size = b := ⟨_, rfl⟩
            rw [heb] at HSe ⊢
            clear he heb ce0 ce1 ce2 ce3 fr hgw hg0
            clear z0_0 z0_1 z0_2 z0_3
            obtain ⟨g', hg, hg0, hgw, fr, cs⟩ := Own.block SWc.len HMe.out.wc (by simp only; rw [HLNC.out]; omega)
            simp only [Option.some.injEq, Addr.mk.injEq, and_true] at hg
            subst hg
            have cs := cs i x (by simp only; rw [doomTo_get]; exact HX.out)
            have ce0 : we.cell? ⟨g, i * 4, none⟩ = _ := cs 0 _ rfl
            have ce1 : we.cell? ⟨g, i * 4 + 1, none⟩ = _ := cs 1 _ rfl
            have ce2 : we.cell? ⟨g, i * 4 + 2, none⟩ = _ := cs 2 _ rfl
            have ce3 : we.cell? ⟨g, i * 4 + 3, none⟩ = _ := cs 3 _ rfl
            have f0 := fr (i * 4)
            have f1 := fr (i * 4 + 1)
            have f2 := fr (i * 4 + 2)
            have f3 := fr (i * 4 + 3)
            clear cs fr
            have sT0 := HSe.out
            obtain ⟨z0_0, z0_1, z0_2, z0_3⟩ := sT0.c4
            have sT1 := sT0.tail
            obtain ⟨z1_0, z1_1, z1_2, z1_3⟩ := sT1.c4
            have sT2 := sT1.tail
            clear sT0 sT1 sT2
            go_wp2
            go_roundw
            case rel =>
              have hn := row_ne HSe.out.tail HMe.out.wc (by simp only [List.mem_cons, List.not_mem_nil, or_false, forall_eq_or_imp, forall_eq]; decide)
              have ha := apart_blk HOe.out HMe.out.wc (by decide)
              refine ⟨i + 1, by omega, by first | rfl | go_num, Lib.hid (by rw [HYES.out]; exact OwnM.setC HMe.out i (by simp only; rw [HLNC.out]; exact hltC) (dmW x)), Lib.hid ?_, Lib.hid ?_⟩
              · exact own_setOff (own_setOff (own_setOff (own_setOff HOe.out (a := ⟨g, i * 4, none⟩) ha _) (a := ⟨g, i * 4 + 1, none⟩) ha _) (a := ⟨g, i * 4 + 2, none⟩) ha _) (a := ⟨g, i * 4 + 3, none⟩) ha _
              · exact st_rows (st_rows (st_rows (st_rows HSe.out.tail hn.1 hn.2 _ _) hn.1 hn.2 _ _) hn.1 hn.2 _ _) hn.1 hn.2 _ _
            case measure => simp [intOf]; omega
      have hltT' : (j : Int) < (mm.tlb.length : Int) := by omega
      obtain ⟨x, hx⟩ : ∃ x, mm.tlb[j]? = some x := ⟨_, List.getElem?_eq_getElem hltT⟩
      have ejT : Int.tmod (j : Int) 3 = (j : Int) % 3 := Int.tmod_eq_emod_of_nonneg (by omega)
      obtain ⟨pb, hpb⟩ : ∃ b, ((j : Int) % 3 == a % 3) = b := ⟨_, rfl⟩
      have hlenT : (doomTo dmT 3 a mm.tlb j).length = mm.tlb.length := doomTo_len _ _ _ _ _
      have HLNT := Lib.hid hlenT
      obtain ⟨g, hg, hg0, hgw, fr, cs⟩ := Own.block STlb.len HMt.out.tlb (by simp only; omega)
      subst hg
      have cs := cs j x (by simp only; rw [doomTo_get]; exact hx)
      have ce0 : wr.cell? ⟨g, j * 5, none⟩ = _ := cs 0 _ rfl
      have ce1 : wr.cell? ⟨g, j * 5 + 1, none⟩ = _ := cs 1 _ rfl
      have ce2 : wr.cell? ⟨g, j * 5 + 2, none⟩ = _ := cs 2 _ rfl
      have ce3 : wr.cell? ⟨g, j * 5 + 3, none⟩ = _ := cs 3 _ rfl
      have ce4 : wr.cell? ⟨g, j * 5 + 4, none⟩ = _ := cs 4 _ rfl
      clear cs hlenT
      cases pb
      · have HNO : Hid (doomTo dmT 3 a mm.tlb (j + 1) = doomTo dmT 3 a mm.tlb j) := Lib.hid (doomTo_no (by simpa using hpb))
        have sT0 := HSt.out
        obtain ⟨z0_0, z0_1, z0_2, z0_3⟩ := sT0.c4
        have sT1 := sT0.tail
        clear sT0 sT1
        go_wp2
        go_roundw
        case rel => exact ⟨j + 1, by omega, by first | rfl | go_num, Lib.hid (by rw [HNO.out]; exact HMt.out), HOt, HSt⟩
        case measure => simp [intOf]; omega
      · have HYES : Hid (doomTo dmT 3 a mm.tlb (j + 1) = (doomTo dmT 3 a mm.tlb j).set j (dmT x)) := Lib.hid (doomTo_yes hx (by simpa using hpb))
        have HX := Lib.hid hx
        clear hx
        have sT0 := HSt.out
        obtain ⟨z0_0, z0_1, z0_2, z0_3⟩ := sT0.c4
        have sT1 := sT0.tail
        clear sT0 sT1
        go_upto_region 28 with fail
        refine world_gen (fun w' => St w ((wr.heap.size, #[.int .i64 x.Page, .int .i64 x.Size, .int .i64 x.Out, .int .i64 x.Perm, .bool true], 40) :: [(mb, #[.slice B0 mm.ws.length d0, .slice B1 mm.pend.length d1, .slice (some ⟨g, 0, none⟩) mm.tlb.length d2, .slice B3 mm.wc.length d3], 30), (xb, #[.slice A3 L c3], 25), (rb, #[.slice none 0 0, .slice none 0 0, .slice none 0 0, .slice none 0 0], 30)]) w' ∧ OwnM w.heap.size w' (.slice B0 mm.ws.length d0) (.slice B1 mm.pend.length d1) (.slice (some ⟨g, 0, none⟩) mm.tlb.length d2) (.slice B3 mm.wc.length d3) { mm with tlb := doomTo dmT 3 a mm.tlb j } ∧ Own wEnc 1 31 w.heap.size w' (.slice A3 L c3) ws) ⟨HSt.out.push _ _, HMt.out.below (allocB (Below.refl _ _) _), HOt.out.below (allocB (Below.refl _ _) _)⟩ (fun we he => ?_)
        have HSe := Lib.hid he.1
        have HMe := Lib.hid he.2.1
        have HOe := Lib.hid he.2.2
        obtain ⟨eb, heb⟩ : ∃ b, wr.heap.size = b := ⟨_, rfl⟩
        rw [heb] at HSe ⊢
        clear he heb ce0 ce1 ce2 ce3 ce4 fr hgw hg0
        clear z0_0 z0_1 z0_2 z0_3
        obtain ⟨g', hg, hg0, hgw, fr, cs⟩ := Own.block STlb.len HMe.out.tlb (by simp only; rw [HLNT.out]; omega)
        simp only [Option.some.injEq, Addr.mk.injEq, and_true] at hg
        subst hg
        have cs := cs j x (by simp only; rw [doomTo_get]; exact HX.out)
        have ce0 : we.cell? ⟨g, j * 5, none⟩ = _ := cs 0 _ rfl
        have ce1 : we.cell? ⟨g, j * 5 + 1, none⟩ = _ := cs 1 _ rfl
        have ce2 : we.cell? ⟨g, j * 5 + 2, none⟩ = _ := cs 2 _ rfl
        have ce3 : we.cell? ⟨g, j * 5 + 3, none⟩ = _ := cs 3 _ rfl
        have ce4 : we.cell? ⟨g, j * 5 + 4, none⟩ = _ := cs 4 _ rfl
        have f0 := fr (j * 5)
        have f1 := fr (j * 5 + 1)
        have f2 := fr (j * 5 + 2)
        have f3 := fr (j * 5 + 3)
        have f4 := fr (j * 5 + 4)
        clear cs fr
        have sT0 := HSe.out
        obtain ⟨z0_0, z0_1, z0_2, z0_3, z0_4⟩ := sT0.c5
        have sT1 := sT0.tail
        obtain ⟨z1_0, z1_1, z1_2, z1_3⟩ := sT1.c4
        have sT2 := sT1.tail
        clear sT0 sT1 sT2
        go_wp2
        go_roundw
        case rel =>
          have hn := row_ne HSe.out.tail HMe.out.tlb (by simp only [List.mem_cons, List.not_mem_nil, or_false, forall_eq_or_imp, forall_eq]; decide)
          have ha := apart_blk HOe.out HMe.out.tlb (by decide)
          refine ⟨j + 1, by omega, by first | rfl | go_num, Lib.hid (by rw [HYES.out]; exact OwnM.setT HMe.out j (by simp only; rw [HLNT.out]; exact hltT) (dmT x)), Lib.hid ?_, Lib.hid ?_⟩
          · exact own_setOff (own_setOff (own_setOff (own_setOff (own_setOff HOe.out (a := ⟨g, j * 5, none⟩) ha _) (a := ⟨g, j * 5 + 1, none⟩) ha _) (a := ⟨g, j * 5 + 2, none⟩) ha _) (a := ⟨g, j * 5 + 3, none⟩) ha _) (a := ⟨g, j * 5 + 4, none⟩) ha _
          · exact st_rows (st_rows (st_rows (st_rows (st_rows HSe.out.tail hn.1 hn.2 _ _) hn.1 hn.2 _ _) hn.1 hn.2 _ _) hn.1 hn.2 _ _) hn.1 hn.2 _ _
        case measure => simp [intOf]; omega
end Go.Proofs.Ythphfcheencbgaa.Draw
