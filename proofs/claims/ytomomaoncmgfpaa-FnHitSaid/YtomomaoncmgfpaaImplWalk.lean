/- Walk of the program's walk. -/
import Derived.Test.YtomomaoncmgfpaaImplAdd
import Derived.Test.YtomomaoncmgfpaaImplBegin
namespace Go.Proofs.Ytomomaoncmgfpaa.Mmu
open Go.RowKit Go.Proofs.Ytomomaoncmgfpaa.Base Go.Proofs.Ytomomaoncmgfpaa.Kinds Go.Proofs.Ytomomaoncmgfpaa.DecMath Go.Proofs.Ytomomaoncmgfpaa.L1
set_option linter.unusedVariables false
set_option linter.unusedSimpArgs false
theorem bitI_c (c b : Int) (r : Bool) (w : World) (hc : 0 ≤ c) (hc' : c ≤ 65535) (hb : 0 ≤ b) (hb' : b ≤ 50) (h : bitB c b.toNat = r) : Calls Try.prog 52 #[.int .i64 c, .int .i64 b] w fun e w' => e = .returned (.bool r) ∧ w' = w := by
  obtain ⟨n, rfl⟩ := Int.eq_ofNat_of_zero_le hb
  exact bitI_b c n r w hc hc' (by omega) (by simpa using h)
theorem indexI_b (l p x : Int) (w : World) (hl : l = 1 ∨ l = 2 ∨ l = 3) (hp : 0 ≤ p) (hp' : p < 4096) (h : idx l p = x) : Calls Try.prog 47 #[.int .i64 l, .int .i64 p] w fun e w' => e = .returned (.int .i64 x) ∧ w' = w :=
  (index_any l p w hl hp hp').mono (by rintro e w' ⟨rfl, rfl⟩; exact ⟨by rw [h], rfl⟩)
theorem framesI_b (A : Option Addr) (n c : Nat) (x : Int) (w : World) (hn : n ≤ c) (hc : c ≤ 9223372036854775807) (h : ((n / 16 : Nat) : Int) = x) : Calls Try.prog 48 #[.agg #[.slice A n c]] w fun e w' => e = .returned (.int .i64 x) ∧ Below w.heap.size w w' := by
  rw [← h]; exact frames_any A n c w hn hc
theorem coverW_b (l c : Int) (h : cov l = c) (w : World) : Calls Try.prog 44 #[.int .i64 l] w fun e w' => e = .returned (.int .i64 c) ∧ w' = w :=
  (cover_any l w).mono (by rintro e w' ⟨rfl, rfl⟩; exact ⟨by rw [h], rfl⟩)
theorem latest_wc (m : SM) (l : List SWc) : latestOf { m with wc := l } = latestOf m := rfl
theorem Walkable.setWc {m : SM} (h : Walkable m) {l : List SWc} (hl : l.length ≤ 256) (ho : ∀ e ∈ l, okWc ((m.ws.length / 16 : Nat) : Int) e) : Walkable { m with wc := l } := ⟨h.adr, h.small, h.mod, h.big, h.npend, h.ntlb, hl, h.wf, ho⟩
theorem div_mul (p c : Int) : p / c * c = p - p % c := by rw [Int.emod_def]; have := Int.mul_comm c (p / c); omega
/-- What a walk from a level on asks of the machine. -/
structure Goable (m : SM) : Prop where
  small : m.ws.length ≤ 8192
  ntlb : m.tlb.length ≤ 256
  nwc : m.wc.length ≤ 256
  wf : WfM m
theorem latest_len (m : SM) : (latestOf m).length = m.ws.length := writes_len _ _
theorem word0 {w : World} {base p : Nat} {v0 v1 v2 v3 v4 : Value} {m : SM} {ls : List Int} (X : OwnX base w p v0 v1 v2 v3 v4 m ls) (a : Int) (ha : 0 ≤ a) (ha' : a < m.ws.length) : ∃ ad c, v0 = .slice (some ad) m.ws.length c ∧ m.ws.length ≤ c ∧ c ≤ 9223372036854775807 ∧ w.cell? (ad.add a.toNat) = some (.int .u64 (readP m a false)) := by
  obtain ⟨A, c, e, h1, h2⟩ := (X.ws.rd wLen).shape
  have r := X.ws.rd wLen
  rw [e] at r
  obtain ⟨ad, x, ea, hx, hc⟩ := word_at r (show a.toNat < m.ws.length by omega)
  refine ⟨ad, c, by rw [e, ea], h1, h2, ?_⟩
  rw [hc]; unfold readP; rw [if_neg (by decide), List.getD_eq_getElem?_getD, hx]; rfl
theorem word1 {w : World} {base p : Nat} {v0 v1 v2 v3 v4 : Value} {m : SM} (X : OwnX base w p v0 v1 v2 v3 v4 m (latestOf m)) (a : Int) (ha : 0 ≤ a) (ha' : a < m.ws.length) : ∃ ad c, v1 = .slice (some ad) m.ws.length c ∧ w.cell? (ad.add a.toNat) = some (.int .u64 (readP m a true)) := by
  obtain ⟨A, c, e, h1, h2⟩ := (X.ls.rd wLen).shape
  have r := X.ls.rd wLen
  rw [e] at r
  obtain ⟨ad, x, ea, hx, hc⟩ := word_at r (show a.toNat < (latestOf m).length by rw [latest_len]; omega)
  refine ⟨ad, c, by rw [e, ea, latest_len], ?_⟩
  rw [hc]; unfold readP; rw [if_pos rfl, List.getD_eq_getElem?_getD, hx]; rfl
/-- The answer of a walk is written into its box. -/
theorem retX {w W : World} {base p z T : Nat} {cs : Array Value} {v0 v1 v2 v3 v4 : Value} {m m' : SM} {ls : List Int} (X : OwnX base W p v0 v1 v2 v3 v4 m ls) (hz : W.heap[z]? = some (.cells cs T)) (hT : ¬ inX T) (hzn : w.heap.size ≤ z) (hb0 : base ≤ w.heap.size) (b : Below base w W) (k : KeepX w W) (hm : m' = m) (y0 y1 y2 y3 : Value) :
    ∃ v3' v4', OwnX base ((((W.setCell ⟨z, 0, none⟩ y0).setCell ⟨z, 1, none⟩ y1).setCell ⟨z, 2, none⟩ y2).setCell ⟨z, 3, none⟩ y3) p v0 v1 v2 v3' v4' m' ls ∧ Below base w ((((W.setCell ⟨z, 0, none⟩ y0).setCell ⟨z, 1, none⟩ y1).setCell ⟨z, 2, none⟩ y2).setCell ⟨z, 3, none⟩ y3) ∧ KeepX w ((((W.setCell ⟨z, 0, none⟩ y0).setCell ⟨z, 1, none⟩ y1).setCell ⟨z, 2, none⟩ y2).setCell ⟨z, 3, none⟩ y3) := by
  have ks : ∀ {W : World} (i : Nat) (u : Value), KeepX w W → KeepX w (W.setCell ⟨z, i, none⟩ u) := fun i u k => ⟨by simpa [World.setCell] using k.size, fun j cs T hj hT => by
    have := (Array.getElem?_eq_some_iff.1 hj).1
    rw [Below.heap_setCell _ _ _ _ (by simp; omega)]; exact k.block j cs T hj hT⟩
  have hbz : base ≤ z := by omega
  exact ⟨_, _, hm ▸ X.setBox4 hz hT y0 y1 y2 y3, (((b.setCell (p := ⟨z, 0, none⟩) hbz y0).setCell (p := ⟨z, 1, none⟩) hbz y1).setCell (p := ⟨z, 2, none⟩) hbz y2).setCell (p := ⟨z, 3, none⟩) hbz y3, ks 3 y3 (ks 2 y2 (ks 1 y1 (ks 0 y0 k)))⟩
theorem retD {w W : World} {base p : Nat} {v0 v1 v2 : Value} {m : SM} {ls : List Int} (h : ∃ v3 v4, OwnX base W p v0 v1 v2 v3 v4 m ls ∧ Below base w W ∧ KeepX w W) : ∃ v3 v4, OwnX base W.drew p v0 v1 v2 v3 v4 m ls ∧ Below base w W.drew ∧ KeepX w W.drew := by
  obtain ⟨a, b, X, hb, hk⟩ := h
  exact ⟨a, b, X.drew, hb.drew, hk.trans (KeepX.of_below (below_drewN (Below.refl _ _) 1))⟩
theorem belowT {B : Nat} {a b c : World} (h : Below B a b) (hB : B ≤ a.heap.size) (k : Below b.heap.size b c) : Below B a c := h.trans (k.mono (Nat.le_trans hB h.size))
/-- The world is left behind; what is known of it stays. -/
theorem gen4 {w0 W : World} {B : Nat} {l : List (Nat × Array Value × Nat)} {base p : Nat} {v0 v1 v2 v3 v4 : Value} {m : SM} {ls : List Int} (S : Bx l W) (b : Below B w0 W) (k : KeepX w0 W) (h : OwnX base W p v0 v1 v2 v3 v4 m ls) {G : World → Prop} (f : ∀ w', Bx l w' → Below B w0 w' → KeepX w0 w' → OwnX base w' p v0 v1 v2 v3 v4 m ls → G w') : G W := f W S b k h
theorem find_mem {α : Type} {p : α → Bool} {l : List α} {e : α} (h : l.find? p = some e) : e ∈ l := List.mem_of_find?_eq_some h
/-- Where a walk begins: a level, and a table that is there. -/
theorem begin_range (page choice : Int) {m : SM} (hm : Walkable m) {a b : Int} {c : Bool} (h : beginP m page choice = (a, b, c)) : (1 ≤ a ∧ a ≤ 3) ∧ 0 ≤ b ∧ b < ((m.ws.length / 16 : Nat) : Int) := by
  have h0 : 0 < m.ws.length / 16 := by have := hm.big; omega
  unfold beginP at h
  split at h
  · split at h
    · rename_i e he
      simp only [Prod.mk.injEq] at h
      have := hm.wc e (find_mem he)
      obtain ⟨_, _, _, h4, h5⟩ := this
      omega
    · split at h
      · rename_i e he
        simp only [Prod.mk.injEq] at h
        have := hm.wc e (find_mem he)
        obtain ⟨_, _, _, h4, h5⟩ := this
        omega
      · simp only [Prod.mk.injEq] at h; omega
  · simp only [Prod.mk.injEq] at h; omega

set_option maxRecDepth 100000 in
set_option maxHeartbeats 8000000 in
theorem implWalk_any (page choice : Int) (hp : 0 ≤ page ∧ page < 4096) (hc : 0 ≤ choice ∧ choice ≤ 65535) (base p : Nat) (v0 v1 v2 v3 v4 : Value) (m : SM) (w : World) (X : OwnX base w p v0 v1 v2 v3 v4 m (latestOf m)) (hm : Walkable m) (r : SM × Int × Int × Int × Int) (hr : walkP m page choice = r) :
    Calls Try.prog 32 #[.pointer (some ⟨p, 0, none⟩), .int .i64 page, .int .i64 choice] w (XPost base p w v0 v1 v2 r.1 (latestOf m) (.agg #[.int .i64 r.2.1, .int .i64 r.2.2.1, .int .i64 r.2.2.2.1, .int .i64 r.2.2.2.2])) := by
  obtain ⟨bl, bf, bd, hB⟩ : ∃ a b c, beginP m page choice = (a, b, c) := ⟨_, _, _, rfl⟩
  have hr1 : goP page choice (4 - bl).toNat m bl bf bd = r := by rw [← hr]; unfold walkP; rw [hB]
  have hbb := begin_range page choice hm hB
  have HBB := Lib.hid hbb
  have HX := Lib.hid X
  have HM := Lib.hid hm
  have HB := Lib.hid hB
  have HR := Lib.hid hr1
  have HP := Lib.hid hp
  have HC := Lib.hid hc
  have hp2 : p < w.heap.size := X.lt
  have hp1 : base ≤ p := X.low
  obtain ⟨hp0, hp4⟩ := hp
  obtain ⟨hc0, hc1⟩ := hc
  obtain ⟨nws, hnws⟩ : ∃ n, m.ws.length = n := ⟨_, rfl⟩
  have HNW := Lib.hid hnws
  clear X hm hr hB hr1 hbb hnws
  go_enter Try.func32, Try.ntmps32
  go_upto_region 1 with fail
  refine ((St.start w).push _ _).gen (fun w1 S1' _ => ?_)
  have S1 := Lib.hid S1'
  have X1 := Lib.hid (HX.out.below S1'.b)
  clear S1'
  go_wp2_with (first | (go_at_call 51; refine (begin_any p _ _ _ _ _ m page choice _ (OwnX.rd X1.out) HP.out HC.out HM.out bl bf bd HB.out).mono ?_; rintro e w2 ⟨rfl, hb2⟩; have S2 := Lib.hid (S1.out.below hb2); have X2 := Lib.hid (X1.out.below hb2); clear hb2))
  obtain ⟨fr, hfr⟩ : ∃ x : Int, ((m.ws.length / 16 : Nat) : Int) = x := ⟨_, rfl⟩
  have HFR := Lib.hid hfr
  clear hfr
  go_loopw [7, 8] (fun x y wr => ∃ (L f : Int) (u3 u4 : Value) (mk : SM), 1 ≤ L ∧ L ≤ 3 ∧ x = .int .i64 L ∧ y = .int .i64 f ∧ 0 ≤ f ∧ f < fr ∧ goP page choice (4 - L).toNat mk L f bd = r ∧ mk.ws = m.ws ∧ mk.pend = m.pend ∧ mk.tlb.length ≤ 256 ∧ mk.wc.length ≤ 256 ∧ OwnX base wr p v0 v1 v2 u3 u4 mk (latestOf m) ∧ Bx [(w.heap.size, #[.int .i64 0, .int .i64 0, .int .i64 0, .int .i64 0], 32)] wr ∧ Below base w wr ∧ KeepX w wr) (fun x _ _ => (4 - intOf x).toNat)
  case atStart => exact ⟨bl, bf, _, _, m, HBB.out.1.1, HBB.out.1.2, rfl, rfl, HBB.out.2.1, by rw [← HFR.out]; exact HBB.out.2.2, HR.out, rfl, rfl, HM.out.ntlb, HM.out.nwc, X2.out, ⟨S2.out.blk, S2.out.ord⟩, S2.out.b.mono (by omega), KeepX.of_below S2.out.b⟩
  case round =>
    obtain ⟨L, f, u3, u4, mk, hL1, hL2, rfl, rfl, hf0, hf1, hg, hws, hpd, htl, hwc, hX, hBx, hb, hk⟩ := hrel
    have XX := Lib.hid hX
    have BX := Lib.hid hBx
    have HBe := Lib.hid hb
    have KX := Lib.hid hk
    have HWS := Lib.hid hws
    have HPD := Lib.hid hpd
    have HLT0 : Hid (latestOf mk = latestOf m) := Lib.hid (by unfold latestOf; rw [hws, hpd])
    have hwf : WfM mk := ⟨by rw [hws]; exact HM.out.wf.1, by rw [hpd]; exact HM.out.wf.2⟩
    have hsm : m.ws.length ≤ 8192 := HM.out.small
    have hmod : m.ws.length % 16 = 0 := HM.out.mod
    have hbig : 16 ≤ m.ws.length := HM.out.big
    obtain ⟨n, hn⟩ : ∃ n, (4 - L).toNat = n + 1 := ⟨(3 - L).toNat, by omega⟩
    have hn2 : (4 - (L + 1)).toNat = n := by omega
    have HN2 := Lib.hid hn2
    obtain ⟨ix, hix⟩ : ∃ x, idx L page = x := ⟨_, rfl⟩
    obtain ⟨hi0, hi1⟩ := idx_lt L page hp0
    rw [hix] at hi0 hi1
    obtain ⟨lb, hlb⟩ : ∃ b, bitB choice L.toNat = b := ⟨_, rfl⟩
    obtain ⟨wd, hwd⟩ : ∃ x, readP mk (f * 16 + ix) lb = x := ⟨_, rfl⟩
    obtain ⟨dk, dout, dpm, hd⟩ : ∃ a b c, dec L wd = (a, b, c) := ⟨_, _, _, rfl⟩
    have ha0 : 0 ≤ f * 16 + ix := by omega
    have ha1 : f * 16 + ix < (m.ws.length : Int) := by have := HFR.out; omega
    have HG : Hid (r = if dk = 0 then (mk, 0, 0, 0, 0)
      else if dk = 1 ∧ dout < fr then goP page choice n (addStepP mk (bitB choice (L + 3).toNat) L page dout bd) (L + 1) dout bd
      else if dk = 2 ∨ dk = 3 then (addWholeP mk (bitB choice 6) page (if dk = 2 then 16 else 1) dout dpm bd, 1, dout + page % (if dk = 2 then 16 else 1), dpm, if dk = 2 then 16 else 1)
      else (mk, 3, 0, 0, 0)) := Lib.hid (by rw [← hg, hn]; simp only [goP, hix, hlb, hwd, hd, hws, HFR.out])
    have hwr := readP_range mk (f * 16 + ix) lb hwf
    rw [hwd] at hwr
    obtain ⟨hwr0, hwr1⟩ := hwr
    obtain ⟨ad0, cc0, hv0, hcc0, hcc1, hcw0⟩ := word0 hX (f * 16 + ix) ha0 (by rw [hws]; exact ha1)
    obtain ⟨ad1, cc1, hv1, hcw1⟩ := word1 (by rw [HLT0.out]; exact hX) (f * 16 + ix) ha0 (by rw [hws]; exact ha1)
    rw [hws] at hv0 hv1 hcc0
    obtain ⟨x0, hx0⟩ : ∃ x, readP mk (f * 16 + ix) false = x := ⟨_, rfl⟩
    obtain ⟨x1, hx1⟩ : ∃ x, readP mk (f * 16 + ix) true = x := ⟨_, rfl⟩
    rw [hx0] at hcw0
    rw [hx1] at hcw1
    have HW : Hid (wd = if lb = true then x1 else x0) := Lib.hid (by rw [← hwd, ← hx0, ← hx1]; cases lb <;> rfl)
    subst hv0 hv1
    have hk5 := dec_kind L wd
    have ho5 := dec_out L wd
    have ht5 := dec_table L wd
    rw [hd] at hk5 ho5 ht5
    simp only at hk5 ho5 ht5
    obtain ⟨ho0, ho1, ho2, ho3⟩ := ho5
    have HT := Lib.hid ht5
    have HIX := Lib.hid hix
    have HLB := Lib.hid hlb
    have HDK := Lib.hid hd
    have HLV : Hid (L = 1 ∨ L = 2 ∨ L = 3) := Lib.hid (by omega)
    have hw1 : IntKind.i64.wrap (f * 16) = f * 16 := by rw [IntKind.wrap_i64]; omega
    have hw2 : IntKind.i64.wrap (f * 16 + ix) = f * 16 + ix := by rw [IntKind.wrap_i64]; omega
    have hat : (f * 16 + ix).toNat < m.ws.length := by omega
    have hac : (((f * 16 + ix).toNat : Nat) : Int) = f * 16 + ix := by omega
    have HF : Hid (framesOf m.ws.length = fr) := Lib.hid (by rw [← HFR.out]; unfold framesOf; rw [if_pos (by omega)])
    have q0 := hX.cell.1
    have q1 := hX.cell.2.1
    clear hX hBx hb hk hws hpd hg hn hlb hwd hd hix ht5 hn2 hx0 hx1 hsm hwf
    have sT0 := BX.out
    obtain ⟨p0_0, p0_1, p0_2, p0_3⟩ := sT0.c4
    have pF0_0 := sT0.f 0
    have pF0_1 := sT0.f 1
    have pF0_2 := sT0.f 2
    have pF0_3 := sT0.f 3
    have sT1 := sT0.tail
    clear sT0 sT1
    generalize wr = w3 at *
    have hbw : base ≤ w.heap.size := by omega
    cases lb
    rotate_left
    have hww : wd = x1 := HW.out
    subst hww
    go_upto_region 9 with (first | (go_at_call 47; refine (indexI_b L page ix _ HLV.out hp0 hp4 HIX.out).mono ?_; rintro e w3 ⟨rfl, rfl⟩) | (go_at_call 52; refine (bitI_c choice L true _ hc0 hc1 (by omega) (by omega) HLB.out).mono ?_; rintro e w3 ⟨rfl, rfl⟩) | (go_at_call 46; refine (implDecode_any L wd _ hwr0 hwr1).mono ?_; rw [HDK.out]; rintro e w4 ⟨rfl, hb4⟩; have HB4 := Lib.hid hb4; clear hb4))
    rotate_left
    have hww : wd = x0 := HW.out
    subst hww
    go_upto_region 9 with (first | (go_at_call 47; refine (indexI_b L page ix _ HLV.out hp0 hp4 HIX.out).mono ?_; rintro e w3 ⟨rfl, rfl⟩) | (go_at_call 52; refine (bitI_c choice L false _ hc0 hc1 (by omega) (by omega) HLB.out).mono ?_; rintro e w3 ⟨rfl, rfl⟩) | (go_at_call 46; refine (implDecode_any L wd _ hwr0 hwr1).mono ?_; rw [HDK.out]; rintro e w4 ⟨rfl, hb4⟩; have HB4 := Lib.hid hb4; clear hb4))
    all_goals
      have HB5 := Lib.hid (allocB HB4.out (.cells #[.int .i64 dk, .int .i64 dout, .int .i64 dpm] 35))
      refine gen4 ((BX.out.below HB4.out).push _ _) (belowT HBe.out hbw HB5.out) (KX.out.trans (KeepX.of_below HB5.out)) (XX.out.below HB5.out) (fun w5 B5' b5' k5' X5' => ?_)
      have B5 := Lib.hid B5'
      have H5 := Lib.hid b5'
      have K5 := Lib.hid k5'
      have X5 := Lib.hid X5'
      clear p0_0 p0_1 p0_2 p0_3 pF0_0 pF0_1 pF0_2 pF0_3
      clear B5' b5' k5' X5' q0 q1 hcw0 hcw1 HB5 HB4 BX HBe KX XX
      have sT0 := B5.out
      obtain ⟨p0_0, p0_1, p0_2⟩ := sT0.c3
      have sT1 := sT0.tail
      obtain ⟨p1_0, p1_1, p1_2, p1_3⟩ := sT1.c4
      have pF1_0 := sT1.f 0
      have pF1_1 := sT1.f 1
      have pF1_2 := sT1.f 2
      have pF1_3 := sT1.f 3
      have sT2 := sT1.tail
      clear sT0 sT1 sT2
      rcases hk5 with rfl | rfl | rfl | rfl | rfl
      · have Q : Hid (r = (mk, 0, 0, 0, 0)) := Lib.hid (by have q := HG.out; simpa using q)
        go_wp2
        refine bodyPost_ret (v := .agg #[.int .i64 0, .int .i64 0, .int .i64 0, .int .i64 0]) (by simp [results, Try.results32, go_sem, *]) rfl ⟨by rw [Q.out], retX X5.out B5.out.tail.head (by decide) (Nat.le_refl _) hbw H5.out K5.out (by rw [Q.out]) _ _ _ _⟩
      rotate_right
      · have Q : Hid (r = (mk, 3, 0, 0, 0)) := Lib.hid (by have q := HG.out; simpa using q)
        go_wp2
        refine bodyPost_ret (v := .agg #[.int .i64 3, .int .i64 0, .int .i64 0, .int .i64 0]) (by simp [results, Try.results32, go_sem, *]) rfl ⟨by rw [Q.out], retX X5.out B5.out.tail.head (by decide) (Nat.le_refl _) hbw H5.out K5.out (by rw [Q.out]) _ _ _ _⟩
      · have hl4 : L ≤ 2 := by have := HT.out (by simp); omega
        go_wp2
        clear p0_0 p0_1 p0_2 p1_0 p1_1 p1_2 p1_3 pF1_0 pF1_1 pF1_2 pF1_3
        have b0 := BW.cell X5.out.cell.1
        have sT0 := B5.out
        obtain ⟨p0_0, p0_1, p0_2⟩ := sT0.c3
        have sT1 := sT0.tail
        have pB0_0 := BW.cell p0_0
        have pB0_1 := BW.cell p0_1
        have pB0_2 := BW.cell p0_2
        clear p0_0 p0_1 p0_2
        clear sT0 sT1
        by_cases hlt : dout < fr
        · have hlt0 : ¬ fr ≤ dout := by omega
          have hlt' : decide (fr ≤ dout) = false := by simpa using hlt
          have HLT := Lib.hid hlt
          clear hlt
          (refine wp_region_below (by kernel_rfl) (by kernel_rfl) ?_; (repeat (first | (go_big_quiet_step (first | (go_at_call 48; refine BW.calls (framesI_b (some ad0) m.ws.length cc0 fr _ hcc0 hcc1 HFR.out)))) | ((with_reducible refine wpQuiet_step ?_); intro K hK; go_simp; first | ((with_reducible refine hK _ ?_); clear hK K) | (apply Exists.intro; refine ⟨fun _ => ?_, hK _ ?_⟩; (first | (go_at_call 48; refine BW.calls (framesI_b (some ad0) m.ws.length cc0 fr _ hcc0 hcc1 HFR.out))); clear hK K)))); (with_reducible refine wpQuiet_nil ?_); intro wq hw'; obtain ⟨⟨wy, hbq⟩, hw''⟩ := hw'; subst hw'')
          clear pB0_0 pB0_1 pB0_2 b0
          have B6 := Lib.hid (B5.out.below hbq)
          have H6 := Lib.hid (belowT H5.out hbw hbq)
          have K6 := Lib.hid (K5.out.trans (KeepX.of_below hbq))
          have X6 := Lib.hid (X5.out.below hbq)
          clear hbq B5 H5 K5 X5
          obtain ⟨sb, hsb⟩ : ∃ b, bitB choice (3 + L).toNat = b := ⟨_, rfl⟩
          have HQ : Hid (r = goP page choice n (addStepP mk sb L page dout bd) (L + 1) dout bd) := Lib.hid (by have q := HG.out; rw [Int.add_comm L 3, hsb] at q; simpa [HLT.out] using q)
          have HSB := Lib.hid hsb
          clear hsb
          have sT0 := B6.out
          obtain ⟨p0_0, p0_1, p0_2⟩ := sT0.c3
          have sT1 := sT0.tail
          clear sT0 sT1
          cases sb with
          | false =>
            go_wp2_with (first | (go_at_call 52; refine (bitI_c choice (3 + L) false _ hc0 hc1 (by omega) (by omega) HSB.out).mono ?_; rintro e w6 ⟨rfl, rfl⟩))
            go_roundw
            case rel => exact ⟨L + 1, dout, _, _, mk, by omega, by omega, by go_num, rfl, ho0, HLT.out, by rw [HN2.out, HQ.out]; simp [addStepP], HWS.out, HPD.out, htl, hwc, X6.out, B6.out.tail, H6.out, K6.out⟩
            case measure => simp [intOf]; omega
          | true =>
            have hcv := cov_pos L
            obtain ⟨cv, hcv'⟩ : ∃ x, cov L = x := ⟨_, rfl⟩
            rw [hcv'] at hcv
            obtain ⟨hcv0, hcv1⟩ := hcv
            have hcz : ¬ cv = 0 := by omega
            have hq0 : 0 ≤ page / cv := Int.ediv_nonneg hp0 (by omega)
            have hq1 : page / cv ≤ page := Int.ediv_le_self _ hp0
            have hm0 : 0 ≤ page / cv * cv := Int.mul_nonneg hq0 (by omega)
            have hm1 : page / cv * cv ≤ page := by have := div_mul page cv; have := Int.emod_nonneg page hcz; omega
            have htd : page.tdiv cv = page / cv := Int.tdiv_eq_ediv_of_nonneg hp0
            have hw3 : IntKind.i64.wrap (page / cv) = page / cv := by rw [IntKind.wrap_i64]; omega
            have hw4 : IntKind.i64.wrap (page / cv * cv) = page / cv * cv := by rw [IntKind.wrap_i64]; omega
            have hw5 : IntKind.i64.wrap (L + 1) = L + 1 := by rw [IntKind.wrap_i64]; omega
            obtain ⟨lw, hlw⟩ : ∃ l, addL mk.wc ⟨L + 1, page / cv * cv, dout, bd⟩ = l := ⟨_, rfl⟩
            have hlw1 : lw.length ≤ 256 := by rw [← hlw]; exact addL_256 _ _ hwc
            have HLW := Lib.hid hlw
            have HQ2 : Hid (r = goP page choice n { mk with wc := lw } (L + 1) dout bd) := Lib.hid (by rw [HQ.out, ← hlw, ← hcv', div_mul]; rfl)
            have HCV := Lib.hid hcv'
            have HCW : Hid (cov (L + 1 - 1) = cv) := Lib.hid (by rw [show L + 1 - 1 = L by omega]; exact hcv')
            clear hlw hcv'
            go_wp2_with (first | (go_at_call 52; refine (bitI_c choice (3 + L) true _ hc0 hc1 (by omega) (by omega) HSB.out).mono ?_; rintro e w6 ⟨rfl, rfl⟩) | (go_at_call 44; refine (coverW_b L cv HCV.out _).mono ?_; rintro e w6 ⟨rfl, rfl⟩) | (go_at_call 53; refine (addStep_any base p _ _ _ _ _ mk (latestOf m) (page / cv * cv) cv (L + 1) dout bd _ X6.out hwc HCW.out).mono ?_; rw [HLW.out]; rintro e w7 ⟨rfl, u5, u6, X7', hb7, hk7⟩; have X7 := Lib.hid X7'; have B7 := Lib.hid (B6.out.keep hk7 (by simp [inX])); have H7 := Lib.hid (H6.out.trans hb7); have K7 := Lib.hid (K6.out.trans hk7); clear X7' hb7 hk7))
            go_roundw
            case rel => exact ⟨L + 1, dout, _, _, { mk with wc := lw }, by omega, by omega, by go_num, rfl, ho0, HLT.out, by rw [HN2.out, HQ2.out], HWS.out, HPD.out, htl, hlw1, X7.out, B7.out.tail, H7.out, K7.out⟩
            case measure => simp [intOf]; omega
        · have hlt0 : fr ≤ dout := by omega
          have hlt' : decide (fr ≤ dout) = true := by simpa using hlt0
          have HLT := Lib.hid hlt0
          clear hlt
          have Q : Hid (r = (mk, 3, 0, 0, 0)) := Lib.hid (by have q := HG.out; simp at q; rwa [if_neg (by have := HLT.out; omega)] at q)
          (refine wp_region_below (by kernel_rfl) (by kernel_rfl) ?_; (repeat (first | (go_big_quiet_step (first | (go_at_call 48; refine BW.calls (framesI_b (some ad0) m.ws.length cc0 fr _ hcc0 hcc1 HFR.out)))) | ((with_reducible refine wpQuiet_step ?_); intro K hK; go_simp; first | ((with_reducible refine hK _ ?_); clear hK K) | (apply Exists.intro; refine ⟨fun _ => ?_, hK _ ?_⟩; (first | (go_at_call 48; refine BW.calls (framesI_b (some ad0) m.ws.length cc0 fr _ hcc0 hcc1 HFR.out))); clear hK K)))); (with_reducible refine wpQuiet_nil ?_); intro wq hw'; obtain ⟨⟨wy, hbq⟩, hw''⟩ := hw'; subst hw'')
          clear pB0_0 pB0_1 pB0_2 b0
          have B6 := Lib.hid (B5.out.below hbq)
          have H6 := Lib.hid (belowT H5.out hbw hbq)
          have K6 := Lib.hid (K5.out.trans (KeepX.of_below hbq))
          have X6 := Lib.hid (X5.out.below hbq)
          clear hbq B5 H5 K5 X5
          have sT0 := B6.out
          have sT1 := sT0.tail
          obtain ⟨p1_0, p1_1, p1_2, p1_3⟩ := sT1.c4
          have pF1_0 := sT1.f 0
          have pF1_1 := sT1.f 1
          have pF1_2 := sT1.f 2
          have pF1_3 := sT1.f 3
          have sT2 := sT1.tail
          clear sT0 sT1 sT2
          go_wp2
          refine bodyPost_ret (v := .agg #[.int .i64 3, .int .i64 0, .int .i64 0, .int .i64 0]) (by simp [results, Try.results32, go_sem, *]) rfl ⟨by rw [Q.out], retX X6.out B6.out.tail.head (by decide) (Nat.le_refl _) hbw H6.out K6.out (by rw [Q.out]) _ _ _ _⟩
      · have htd : page.tdiv 16 = page / 16 := Int.tdiv_eq_ediv_of_nonneg hp0
        have htm : page.tmod 16 = page % 16 := Int.tmod_eq_emod_of_nonneg hp0
        have hw3 : IntKind.i64.wrap (page / 16) = page / 16 := by rw [IntKind.wrap_i64]; omega
        have hw4 : IntKind.i64.wrap (page / 16 * 16) = page / 16 * 16 := by rw [IntKind.wrap_i64]; omega
        have hw5 : IntKind.i64.wrap (dout + page % 16) = dout + page % 16 := by rw [IntKind.wrap_i64]; omega
        have hw6 : IntKind.i64.wrap dout = dout := by rw [IntKind.wrap_i64]; omega
        have hw7 : IntKind.i64.wrap page = page := by rw [IntKind.wrap_i64]; omega
        obtain ⟨tb, htb⟩ : ∃ b, bitB choice 6 = b := ⟨_, rfl⟩
        have HTB := Lib.hid htb
        have HQ : Hid (r = (addWholeP mk tb page 16 dout dpm bd, 1, dout + page % 16, dpm, 16)) := Lib.hid (by have q := HG.out; rw [htb] at q; simpa using q)
        clear htb
        have hord := B5.out.ord
        simp at hord
        have n1 : ¬ (w.heap.size = w4.heap.size) := by omega
        clear hord
        cases tb with
        | false =>
          have HQ2 : Hid (r = (mk, 1, dout + page % 16, dpm, 16)) := Lib.hid (by rw [HQ.out]; simp [addWholeP])
          go_wp2_with (first | (go_at_call 52; refine (bitI_b choice 6 false _ hc0 hc1 (by omega) HTB.out).mono ?_; rintro e w5 ⟨rfl, rfl⟩))
          go_region_held3 (fun w' => w'.cell? ⟨w4.heap.size, 1, none⟩ = some (.int .i64 dout) ∧ w'.cell? ⟨w4.heap.size, 2, none⟩ = some (.int .i64 dpm)) (go_keep) (fail)
          go_wp2
          refine bodyPost_ret (v := .agg #[.int .i64 1, .int .i64 (dout + page % 16), .int .i64 dpm, .int .i64 16]) (by simp [results, Try.results32, go_sem, *]) rfl ⟨by rw [HQ2.out], ?_⟩
          exact retD (retX X5.out B5.out.tail.head (by decide) (Nat.le_refl _) hbw H5.out K5.out (by rw [HQ2.out]) _ _ _ _)
        | true =>
          obtain ⟨lw, hlw⟩ : ∃ l, addL mk.tlb ⟨page / 16 * 16, 16, dout, dpm, bd⟩ = l := ⟨_, rfl⟩
          have HLW := Lib.hid hlw
          have HQ2 : Hid (r = ({ mk with tlb := lw }, 1, dout + page % 16, dpm, 16)) := Lib.hid (by rw [HQ.out, ← hlw]; simp [addWholeP, div_mul])
          clear hlw
          go_wp2_with (first | (go_at_call 52; refine (bitI_b choice 6 true _ hc0 hc1 (by omega) HTB.out).mono ?_; rintro e w5 ⟨rfl, rfl⟩))
          go_region_held3 (fun w' => w'.cell? ⟨w4.heap.size, 1, none⟩ = some (.int .i64 dout) ∧ w'.cell? ⟨w4.heap.size, 2, none⟩ = some (.int .i64 dpm)) (go_keep)
            ((go_at_call 54; refine (addWhole_any base p _ _ _ _ _ mk (latestOf m) (page / 16 * 16) 16 dout dpm bd _ X5.out.drew htl).mono ?_; rw [HLW.out]; rintro e w7 ⟨rfl, u5, u6, X7', hb7, hk7⟩; have X7 := Lib.hid X7'; have B7 := Lib.hid (B5.out.drew.keep hk7 (by simp [inX])); have H7 := Lib.hid (H5.out.drew.trans hb7); have K7 := Lib.hid ((K5.out.trans (KeepX.of_below (below_drewN (Below.refl _ _) 1))).trans hk7); clear X7' hb7 hk7; have sT0 := B7.out; obtain ⟨y0_0, y0_1, y0_2⟩ := sT0.c3; have sT1 := sT0.tail; obtain ⟨y1_0, y1_1, y1_2, y1_3⟩ := sT1.c4; have yF1_0 := sT1.f 0; have yF1_1 := sT1.f 1; have yF1_2 := sT1.f 2; have yF1_3 := sT1.f 3; have sT2 := sT1.tail; clear sT0 sT1 sT2))
          clear p0_0 p0_1 p0_2 p1_0 p1_1 p1_2 p1_3 pF1_0 pF1_1 pF1_2 pF1_3
          go_wp2
          go_region_held3 (fun w' => w'.cell? ⟨w4.heap.size, 1, none⟩ = some (.int .i64 dout) ∧ w'.cell? ⟨w4.heap.size, 2, none⟩ = some (.int .i64 dpm)) (go_keep) (fail)
          go_wp2
          refine bodyPost_ret (v := .agg #[.int .i64 1, .int .i64 (dout + page % 16), .int .i64 dpm, .int .i64 16]) (by simp [results, Try.results32, go_sem, *]) rfl ⟨by rw [HQ2.out], ?_⟩
          exact retD (retX X7.out B7.out.tail.head (by decide) (Nat.le_refl _) hbw H7.out K7.out (by rw [HQ2.out]) _ _ _ _)
      · have htd : page.tdiv 1 = page / 1 := Int.tdiv_eq_ediv_of_nonneg hp0
        have htm : page.tmod 1 = page % 1 := Int.tmod_eq_emod_of_nonneg hp0
        have hw3 : IntKind.i64.wrap (page / 1) = page / 1 := by rw [IntKind.wrap_i64]; omega
        have hw4 : IntKind.i64.wrap (page / 1 * 1) = page / 1 * 1 := by rw [IntKind.wrap_i64]; omega
        have hw5 : IntKind.i64.wrap (dout + page % 1) = dout + page % 1 := by rw [IntKind.wrap_i64]; omega
        have hw6 : IntKind.i64.wrap dout = dout := by rw [IntKind.wrap_i64]; omega
        have hw7 : IntKind.i64.wrap page = page := by rw [IntKind.wrap_i64]; omega
        obtain ⟨tb, htb⟩ : ∃ b, bitB choice 6 = b := ⟨_, rfl⟩
        have HTB := Lib.hid htb
        have HQ : Hid (r = (addWholeP mk tb page 1 dout dpm bd, 1, dout, dpm, 1)) := Lib.hid (by have q := HG.out; rw [htb] at q; simpa using q)
        clear htb
        have hord := B5.out.ord
        simp at hord
        have n1 : ¬ (w.heap.size = w4.heap.size) := by omega
        clear hord
        cases tb with
        | false =>
          have HQ2 : Hid (r = (mk, 1, dout, dpm, 1)) := Lib.hid (by rw [HQ.out]; simp [addWholeP])
          go_wp2_with (first | (go_at_call 52; refine (bitI_b choice 6 false _ hc0 hc1 (by omega) HTB.out).mono ?_; rintro e w5 ⟨rfl, rfl⟩))
          go_region_held3 (fun w' => w'.cell? ⟨w4.heap.size, 1, none⟩ = some (.int .i64 dout) ∧ w'.cell? ⟨w4.heap.size, 2, none⟩ = some (.int .i64 dpm)) (go_keep) (fail)
          go_wp2
          refine bodyPost_ret (v := .agg #[.int .i64 1, .int .i64 (dout), .int .i64 dpm, .int .i64 1]) (by simp [results, Try.results32, go_sem, *]) rfl ⟨by rw [HQ2.out], ?_⟩
          exact retD (retX X5.out B5.out.tail.head (by decide) (Nat.le_refl _) hbw H5.out K5.out (by rw [HQ2.out]) _ _ _ _)
        | true =>
          obtain ⟨lw, hlw⟩ : ∃ l, addL mk.tlb ⟨page, 1, dout, dpm, bd⟩ = l := ⟨_, rfl⟩
          have HLW := Lib.hid hlw
          have HQ2 : Hid (r = ({ mk with tlb := lw }, 1, dout, dpm, 1)) := Lib.hid (by rw [HQ.out, ← hlw]; simp [addWholeP, div_mul])
          clear hlw
          go_wp2_with (first | (go_at_call 52; refine (bitI_b choice 6 true _ hc0 hc1 (by omega) HTB.out).mono ?_; rintro e w5 ⟨rfl, rfl⟩))
          go_region_held3 (fun w' => w'.cell? ⟨w4.heap.size, 1, none⟩ = some (.int .i64 dout) ∧ w'.cell? ⟨w4.heap.size, 2, none⟩ = some (.int .i64 dpm)) (go_keep)
            ((go_at_call 54; refine (addWhole_any base p _ _ _ _ _ mk (latestOf m) (page) 1 dout dpm bd _ X5.out.drew htl).mono ?_; rw [HLW.out]; rintro e w7 ⟨rfl, u5, u6, X7', hb7, hk7⟩; have X7 := Lib.hid X7'; have B7 := Lib.hid (B5.out.drew.keep hk7 (by simp [inX])); have H7 := Lib.hid (H5.out.drew.trans hb7); have K7 := Lib.hid ((K5.out.trans (KeepX.of_below (below_drewN (Below.refl _ _) 1))).trans hk7); clear X7' hb7 hk7; have sT0 := B7.out; obtain ⟨y0_0, y0_1, y0_2⟩ := sT0.c3; have sT1 := sT0.tail; obtain ⟨y1_0, y1_1, y1_2, y1_3⟩ := sT1.c4; have yF1_0 := sT1.f 0; have yF1_1 := sT1.f 1; have yF1_2 := sT1.f 2; have yF1_3 := sT1.f 3; have sT2 := sT1.tail; clear sT0 sT1 sT2))
          clear p0_0 p0_1 p0_2 p1_0 p1_1 p1_2 p1_3 pF1_0 pF1_1 pF1_2 pF1_3
          go_wp2
          go_region_held3 (fun w' => w'.cell? ⟨w4.heap.size, 1, none⟩ = some (.int .i64 dout) ∧ w'.cell? ⟨w4.heap.size, 2, none⟩ = some (.int .i64 dpm)) (go_keep) (fail)
          go_wp2
          refine bodyPost_ret (v := .agg #[.int .i64 1, .int .i64 (dout), .int .i64 dpm, .int .i64 1]) (by simp [results, Try.results32, go_sem, *]) rfl ⟨by rw [HQ2.out], ?_⟩
          exact retD (retX X7.out B7.out.tail.head (by decide) (Nat.le_refl _) hbw H7.out K7.out (by rw [HQ2.out]) _ _ _ _)
end Go.Proofs.Ytomomaoncmgfpaa.Mmu
