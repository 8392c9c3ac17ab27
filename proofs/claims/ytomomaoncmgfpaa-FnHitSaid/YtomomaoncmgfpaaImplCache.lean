/- Walks of the program's needOK and cached. -/
import Derived.Test.YtomomaoncmgfpaaImplSame
import Derived.Test.YtomomaoncmgfpaaImplBegin
import Derived.Test.YtomomaoncmgfpaaAccMath
namespace Go.Proofs.Ytomomaoncmgfpaa.Mmu
open Go.RowKit Go.Proofs.Ytomomaoncmgfpaa.Base Go.Proofs.Ytomomaoncmgfpaa.Kinds Go.Proofs.Ytomomaoncmgfpaa.DecMath Go.Proofs.Ytomomaoncmgfpaa.L1
set_option linter.unusedVariables false
set_option linter.unusedSimpArgs false
set_option maxHeartbeats 4000000 in
theorem needOK_b (need : Int) (b : Bool) (w : World) (h : decide (needP need) = b) : Calls Try.prog 34 #[.int .i64 need] w fun e w' => e = .returned (.bool b) ∧ w' = w := by
  rw [← h]
  clear h
  by_cases h1 : need = 1
  · subst h1
    go_enter Try.func34, Try.ntmps34
    go_wp2
    go_ret
    exact ⟨ret_bool (by decide), rfl⟩
  by_cases h2 : need = 2
  · subst h2
    go_enter Try.func34, Try.ntmps34
    go_wp2
    go_ret
    exact ⟨ret_bool (by decide), rfl⟩
  have hb1 : (need == 1) = false := by simpa using h1
  have hb2 : (need == 2) = false := by simpa using h2
  have HN : Hid (decide (needP need) = (need == 4)) := Lib.hid (by rw [Bool.eq_iff_iff]; simp [needP, h1, h2])
  clear h1 h2
  rw [HN.out]
  go_enter Try.func34, Try.ntmps34
  go_wp2
  go_ret
  exact ⟨rfl, rfl⟩
/-- What the cache of translations says, as the program answers. -/
def cacheV (h : Option (Int × Int × Int × Int)) : Value := match h with
  | none => .tuple #[.agg #[.int .i64 0, .int .i64 0, .int .i64 0, .int .i64 0], .bool false]
  | some h => .tuple #[.agg #[.int .i64 h.1, .int .i64 h.2.1, .int .i64 h.2.2.1, .int .i64 h.2.2.2], .bool true]
/-- The pointer 'first' after k entries. -/
def FirstR (m : SM) (page : Int) (A : Option Addr) (k : Nat) (f : Value) : Prop :=
  (covL (m.tlb.take k) page = [] ∧ f = .pointer none) ∨ ∃ (a last : STlb) (r : List STlb) (j : Nat) (ad : Addr), covL (m.tlb.take k) page = a :: r ∧ allSame a (a :: r) ∧ j < k ∧ m.tlb[j]? = some last ∧ sameP a last ∧ A = some ad ∧ f = .pointer (some (ad.add (j * 5)))
theorem sameI_b (a b : STlb) (r : Bool) (w : World) (h : decide (sameP a b) = r) : Calls Try.prog 59 #[STlb.wval a, STlb.wval b] w fun ex w' => ex = .returned (.bool r) ∧ Below w.heap.size w w' := by
  rw [← h]; exact sameI_any a b w
theorem cov_split {m : SM} {page : Int} {k : Nat} {e : STlb} (he : m.tlb[k]? = some e) (hc : tcovP e page) : e ∈ covL m.tlb page := by
  unfold covL; simp; exact ⟨List.mem_of_getElem? he, hc⟩
theorem cov_pre {m : SM} {page : Int} {k : Nat} {a : STlb} {r : List STlb} (h : covL (m.tlb.take k) page = a :: r) : ∃ r', covL m.tlb page = a :: (r ++ r') := by
  refine ⟨covL (m.tlb.drop k) page, ?_⟩
  have : covL m.tlb page = covL (m.tlb.take k) page ++ covL (m.tlb.drop k) page := by unfold covL; rw [← List.filter_append, List.take_append_drop]
  rw [this, h]; rfl
theorem cache_bad {m : SM} {page : Int} {k : Nat} {a last e : STlb} {r : List STlb} (h : covL (m.tlb.take k) page = a :: r) (hl : sameP a last) (he : m.tlb[k]? = some e) (hc : tcovP e page) (hs : ¬ sameP last e) : cacheP m.tlb page = some (4, 0, 0, 0) := by
  obtain ⟨r', h'⟩ := cov_pre h
  unfold cacheP
  have hm := cov_split he hc
  rw [h'] at hm ⊢
  simp only
  rw [if_neg]
  intro hall
  exact hs (sameP_trans (sameP_symm hl) (hall e hm))
theorem cache_none {m : SM} {page : Int} (h : covL m.tlb page = []) : cacheP m.tlb page = none := by unfold cacheP; rw [h]
theorem cache_some {m : SM} {page : Int} {a last : STlb} {r : List STlb} (h : covL m.tlb page = a :: r) (hs : allSame a (a :: r)) (hl : sameP a last) : cacheP m.tlb page = some (1, last.Out + page - last.Page, last.Perm, last.Size) := by
  unfold cacheP; rw [h]; simp only; rw [if_pos hs, hl.1, hl.2.1, hl.2.2.1, hl.2.2.2]

set_option maxRecDepth 100000 in
set_option maxHeartbeats 8000000 in
theorem cached_any (p : Nat) (v0 v1 v2 v3 v4 : Value) (m : SM) (page : Int) (w : World) (r : RdX w p v0 v1 v2 v3 v4 m) (hp : 0 ≤ page ∧ page < 4096) (hn : m.tlb.length ≤ 256) (hok : ∀ e ∈ m.tlb, okTlb e) :
    Calls Try.prog 55 #[.pointer (some ⟨p, 0, none⟩), .int .i64 page] w fun e w' => e = .returned (cacheV (cacheP m.tlb page)) ∧ Below w.heap.size w w' := by
  obtain ⟨A3, c3, e3, l3, k3⟩ := r.tlb.shape
  subst e3
  have R := Lib.hid r
  have HOK := Lib.hid hok
  obtain ⟨hp0, hp1⟩ := hp
  obtain ⟨q, hq⟩ : ∃ q, cacheP m.tlb page = q := ⟨_, rfl⟩
  have HQ := Lib.hid hq
  rw [hq]
  clear r hok hq
  go_enter Try.func55, Try.ntmps55
  go_upto_region 1 with fail
  refine ((St.start w).push _ _).gen (fun w1 S1' _ => ?_)
  have S1 := Lib.hid S1'
  clear S1'
  have q3 := bC S1.out.b R.out.c3
  go_wp2
  clear q3
  go_loopw [6, 14] (fun f i wr => ∃ k : Nat, k ≤ m.tlb.length ∧ i = .int .i64 k ∧ FirstR m page A3 k f ∧ Below w1.heap.size w1 wr) (fun _ i _ => m.tlb.length - (intOf i).toNat)
  case atStart => exact ⟨0, Nat.zero_le _, rfl, Or.inl ⟨rfl, rfl⟩, Below.refl _ _⟩
  case round =>
    obtain ⟨k, hk, rfl, hf, hb⟩ := hrel
    have HF := Lib.hid hf
    have S2 := Lib.hid (S1.out.below hb)
    have HB := Lib.hid hb
    have q3 := bC S2.out.b R.out.c3
    clear hf hb
    by_cases hlt : k < m.tlb.length
    · have hlt' : (k : Int) < (m.tlb.length : Int) := by omega
      obtain ⟨a0, e0, ea, g0, u0, u1, u2, u3, u4⟩ := whole_at R.out.tlb hlt
      cases ea
      have RT := Lib.hid (R.out.tlb.below S2.out.b)
      have G0 := Lib.hid g0
      have OK := Lib.hid (HOK.out e0 (List.mem_of_getElem? g0))
      have x0 := bC S2.out.b u0
      have x1 := bC S2.out.b u1
      have x2 := bC S2.out.b u2
      have x3 := bC S2.out.b u3
      have x4 := bC S2.out.b u4
      obtain ⟨cb, hcb⟩ : ∃ b, decide (e0.Page ≤ page ∧ page < e0.Page + e0.Size) = b := ⟨_, rfl⟩
      have HCB := Lib.hid hcb
      clear g0 hcb u0 u1 u2 u3 u4
      cases cb with
      | false =>
        have HE : Hid (covL (m.tlb.take (k + 1)) page = covL (m.tlb.take k) page) := Lib.hid (by rw [covL_take page G0.out, if_neg (fun h => (of_decide_eq_false HCB.out) ((tcov_iff OK.out hp0).1 h))])
        go_wp2_with (first | (go_at_call 58; refine (hcovers_b _ e0.Page e0.Size page false _ x0 x1 (by have := OK.out.2.1; omega) (by have := OK.out.1; omega) HCB.out).mono ?_; rintro e w4 ⟨rfl, hb4⟩; have HB4 := Lib.hid hb4; clear hb4))
        go_roundw
        case rel =>
          have hr : FirstR m page (some a0) (k + 1) u6 := by
            rcases HF.out with ⟨h1, h2⟩ | ⟨a, last, r, j, ad, h1, h2, h3, h4⟩
            · exact Or.inl ⟨by rw [HE.out]; exact h1, h2⟩
            · exact Or.inr ⟨a, last, r, j, ad, by rw [HE.out]; exact h1, h2, by omega, h4⟩
          have h := (⟨k + 1, by omega, rfl, hr, thenB HB.out HB4.out⟩ : ∃ k' : Nat, k' ≤ m.tlb.length ∧ Value.int .i64 (((k + 1 : Nat) : Int)) = .int .i64 k' ∧ FirstR m page (some a0) k' u6 ∧ Below w1.heap.size w1 w4)
          first
            | (simpa using h; done)
            | ((repeat apply Exists.intro); refine ⟨?_, rfl⟩; simpa using h)
        case measure => simp [intOf]; omega
      | true =>
        have HC : Hid (tcovP e0 page) := Lib.hid ((tcov_iff OK.out hp0).2 (of_decide_eq_true HCB.out))
        have HE : Hid (covL (m.tlb.take (k + 1)) page = covL (m.tlb.take k) page ++ [e0]) := Lib.hid (by rw [covL_take page G0.out, if_pos HC.out])
        rcases HF.out with ⟨h1, rfl⟩ | ⟨a, last, r, j, ad, h1, h2, h3, h4, h6, h5, rfl⟩
        · have H1 := Lib.hid h1
          clear h1
          go_wp2_with (first | (go_at_call 58; refine (hcovers_b _ e0.Page e0.Size page true _ x0 x1 (by have := OK.out.2.1; omega) (by have := OK.out.1; omega) HCB.out).mono ?_; rintro e w4 ⟨rfl, hb4⟩; have HB4 := Lib.hid hb4; clear hb4))
          (refine wp_region_below (by kernel_rfl) (by kernel_rfl) ?_; (repeat (first | (go_big_quiet_step (fail)) | ((with_reducible refine wpQuiet_step ?_); intro K hK; go_simp; first | ((with_reducible refine hK _ ?_); clear hK K) | (apply Exists.intro; refine ⟨fun _ => ?_, hK _ ?_⟩; (fail); clear hK K)))); (with_reducible refine wpQuiet_nil ?_); intro wq hw'; obtain ⟨⟨wy, hbq⟩, hw''⟩ := hw'; subst hw'')
          have HBQ := Lib.hid hbq
          clear hbq
          go_wp2
          go_roundw
          case rel =>
            have hr : FirstR m page (some a0) (k + 1) (.pointer (some (a0.add (k * 5)))) := Or.inr ⟨e0, e0, [], k, a0, by rw [HE.out, H1.out]; rfl, fun x hx => (by simp at hx; subst hx; exact sameP_refl _), by omega, G0.out, sameP_refl _, rfl, rfl⟩
            have h := (⟨k + 1, by omega, rfl, hr, thenB (thenB HB.out HB4.out) HBQ.out⟩ : ∃ k' : Nat, k' ≤ m.tlb.length ∧ Value.int .i64 (((k + 1 : Nat) : Int)) = .int .i64 k' ∧ FirstR m page (some a0) k' (.pointer (some (a0.add (k * 5)))) ∧ Below w1.heap.size w1 wq)
            first
              | (simpa using h; done)
              | ((repeat apply Exists.intro); refine ⟨?_, rfl⟩; simpa using h)
          case measure => simp [intOf]; omega
        · obtain rfl : a0 = ad := by simpa using h5
          obtain ⟨a1, e1, ea, g1, y0, y1, y2, y3, y4⟩ := whole_at RT.out (show j < m.tlb.length by omega)
          obtain rfl : a0 = a1 := by simpa using ea
          obtain rfl : last = e1 := Option.some.inj (h4.symm.trans g1)
          obtain ⟨sb, hsb⟩ : ∃ b, decide (sameP last e0) = b := ⟨_, rfl⟩
          have HSB := Lib.hid hsb
          have H1 := Lib.hid h1
          have H2 := Lib.hid h2
          have H6 := Lib.hid h6
          clear h1 h2 h4 h5 h6 g1 hsb ea
          go_wp2_with (first | (go_at_call 58; refine (hcovers_b _ e0.Page e0.Size page true _ x0 x1 (by have := OK.out.2.1; omega) (by have := OK.out.1; omega) HCB.out).mono ?_; rintro e w4 ⟨rfl, hb4⟩; have HB4 := Lib.hid hb4; have S4 := Lib.hid (S2.out.below hb4); have b0 := BW.cell (bC hb4 x0); have b1 := BW.cell (bC hb4 x1); have b2 := BW.cell (bC hb4 x2); have b3 := BW.cell (bC hb4 x3); have b4 := BW.cell (bC hb4 x4); have b5 := BW.cell (bC hb4 y0); have b6 := BW.cell (bC hb4 y1); have b7 := BW.cell (bC hb4 y2); have b8 := BW.cell (bC hb4 y3); have b9 := BW.cell (bC hb4 y4); clear hb4 x0 x1 x2 x3 x4 y0 y1 y2 y3 y4))
          cases sb
          · (refine wp_region_below (by kernel_rfl) (by kernel_rfl) ?_; (repeat (first | (go_big_quiet_step (first | (go_at_call 59; refine BW.calls (sameI_b last e0 false _ HSB.out)))) | ((with_reducible refine wpQuiet_step ?_); intro K hK; go_simp; first | ((with_reducible refine hK _ ?_); clear hK K) | (apply Exists.intro; refine ⟨fun _ => ?_, hK _ ?_⟩; (first | (go_at_call 59; refine BW.calls (sameI_b last e0 false _ HSB.out))); clear hK K)))); (with_reducible refine wpQuiet_nil ?_); intro wq hw'; obtain ⟨⟨wy, hbq⟩, hw''⟩ := hw'; subst hw'')
            clear b0 b1 b2 b3 b4 b5 b6 b7 b8 b9
            have S5 := Lib.hid (S4.out.below hbq)
            have HQ2 : Hid (q = some (4, 0, 0, 0)) := Lib.hid (by rw [← HQ.out]; exact cache_bad H1.out H6.out G0.out HC.out (of_decide_eq_false HSB.out))
            clear hbq
            have sT0 := S5.out
            obtain ⟨p0_0, p0_1, p0_2, p0_3⟩ := sT0.c4
            have pF0_0 := sT0.f 0
            have pF0_1 := sT0.f 1
            have pF0_2 := sT0.f 2
            have pF0_3 := sT0.f 3
            have sT1 := sT0.tail
            clear sT0 sT1
            go_wp2
            refine bodyPost_ret (v := .tuple #[.agg #[.int .i64 4, .int .i64 0, .int .i64 0, .int .i64 0], .bool true]) (by simp [results, Try.results55, go_sem, *]) rfl ⟨by rw [HQ2.out]; rfl, (S5.out.s0 _ _ _ _).b⟩
          · (refine wp_region_below (by kernel_rfl) (by kernel_rfl) ?_; (repeat (first | (go_big_quiet_step (first | (go_at_call 59; refine BW.calls (sameI_b last e0 true _ HSB.out)))) | ((with_reducible refine wpQuiet_step ?_); intro K hK; go_simp; first | ((with_reducible refine hK _ ?_); clear hK K) | (apply Exists.intro; refine ⟨fun _ => ?_, hK _ ?_⟩; (first | (go_at_call 59; refine BW.calls (sameI_b last e0 true _ HSB.out))); clear hK K)))); (with_reducible refine wpQuiet_nil ?_); intro wq hw'; obtain ⟨⟨wy, hbq⟩, hw''⟩ := hw'; subst hw'')
            clear b0 b1 b2 b3 b4 b5 b6 b7 b8 b9
            have HBQ := Lib.hid hbq
            clear hbq
            go_wp2
            go_roundw
            case rel =>
              have hs := sameP_trans H6.out (of_decide_eq_true HSB.out)
              have hr : FirstR m page (some a0) (k + 1) (.pointer (some (a0.add (k * 5)))) := Or.inr ⟨a, e0, r ++ [e0], k, a0, by rw [HE.out, H1.out]; rfl, fun x hx => (by
                rw [← List.cons_append] at hx
                rcases List.mem_append.1 hx with hx | hx
                · exact H2.out x hx
                · simp at hx; subst hx; exact hs), by omega, G0.out, hs, rfl, rfl⟩
              have h := (⟨k + 1, by omega, rfl, hr, thenB (thenB HB.out HB4.out) HBQ.out⟩ : ∃ k' : Nat, k' ≤ m.tlb.length ∧ Value.int .i64 (((k + 1 : Nat) : Int)) = .int .i64 k' ∧ FirstR m page (some a0) k' (.pointer (some (a0.add (k * 5)))) ∧ Below w1.heap.size w1 wq)
              first
                | (simpa using h; done)
                | ((repeat apply Exists.intro); refine ⟨?_, rfl⟩; simpa using h)
            case measure => simp [intOf]; omega
    · have hlt' : ¬ (k : Int) < (m.tlb.length : Int) := by omega
      obtain rfl : k = m.tlb.length := by omega
      have hf := HF.out
      unfold FirstR at hf
      rw [List.take_length] at hf
      rcases hf with ⟨h1, rfl⟩ | ⟨a, last, r, j, ad, h1, h2, h3, h4, h6, h5, rfl⟩
      · have HQ2 : Hid (q = none) := Lib.hid (by rw [← HQ.out]; exact cache_none h1)
        clear h1 HF
        have sT0 := S2.out
        obtain ⟨p0_0, p0_1, p0_2, p0_3⟩ := sT0.c4
        have pF0_0 := sT0.f 0
        have pF0_1 := sT0.f 1
        have pF0_2 := sT0.f 2
        have pF0_3 := sT0.f 3
        have sT1 := sT0.tail
        clear sT0 sT1
        go_wp2
        refine bodyPost_ret (v := .tuple #[.agg #[.int .i64 0, .int .i64 0, .int .i64 0, .int .i64 0], .bool false]) (by simp [results, Try.results55, go_sem, *]) rfl ⟨by rw [HQ2.out]; rfl, (S2.out.s0 _ _ _ _).b⟩
      · subst h5
        obtain ⟨a1, e1, ea, g1, y0, y1, y2, y3, y4⟩ := whole_at R.out.tlb h3
        obtain rfl : ad = a1 := by simpa using ea
        obtain rfl : last = e1 := Option.some.inj (h4.symm.trans g1)
        have hab := World.block_lt_of_cell? _ _ y4
        simp only at hab
        have n1 : ¬ (w.heap.size = (ad.add (j * 5)).block) := by omega
        have OK := HOK.out last (List.mem_of_getElem? h4)
        have hpg := OK.2.1
        have hou : 0 ≤ last.Out ∧ last.Out < 65536 := by have := OK.2.2.2.2.2; omega
        obtain ⟨hpg0, hpg1⟩ := hpg
        obtain ⟨hou0, hou1⟩ := hou
        have hw1 : IntKind.i64.wrap (last.Out + page) = last.Out + page := by rw [IntKind.wrap_i64]; omega
        have hw2 : IntKind.i64.wrap (last.Out + page - last.Page) = last.Out + page - last.Page := by rw [IntKind.wrap_i64]; omega
        have HQ2 : Hid (q = some (1, last.Out + page - last.Page, last.Perm, last.Size)) := Lib.hid (by rw [← HQ.out]; exact cache_some h1 h2 h6)
        have x0 := bC S2.out.b y0
        have x1 := bC S2.out.b y1
        have x3 := bC S2.out.b y3
        have x4 := bC S2.out.b y4
        clear h1 h2 h4 h6 g1 ea OK hab y0 y1 y2 y3 y4 HF
        have sT0 := S2.out
        obtain ⟨p0_0, p0_1, p0_2, p0_3⟩ := sT0.c4
        have pF0_0 := sT0.f 0
        have pF0_1 := sT0.f 1
        have pF0_2 := sT0.f 2
        have pF0_3 := sT0.f 3
        have sT1 := sT0.tail
        clear sT0 sT1
        go_wp2
        go_region_held3 (fun w' => w'.cell? (ad.add (j * 5)) = some (.int .i64 last.Page) ∧ w'.cell? ⟨(ad.add (j * 5)).block, (ad.add (j * 5)).off + 1, none⟩ = some (.int .i64 last.Size) ∧ w'.cell? ⟨(ad.add (j * 5)).block, (ad.add (j * 5)).off + 3, none⟩ = some (.int .i64 last.Out) ∧ w'.cell? ⟨(ad.add (j * 5)).block, (ad.add (j * 5)).off + 4, none⟩ = some (.int .i64 last.Perm)) (first | go_keep | (with_reducible exact ⟨far4 x0 n1 _ _ _ _, far4 x1 n1 _ _ _ _, far4 x3 n1 _ _ _ _, far4 x4 n1 _ _ _ _⟩)) (fail)
        go_wp2
        refine bodyPost_ret (v := .tuple #[.agg #[.int .i64 1, .int .i64 (last.Out + page - last.Page), .int .i64 last.Perm, .int .i64 last.Size], .bool true]) (by simp [results, Try.results55, go_sem, *]) rfl ⟨by rw [HQ2.out]; rfl, (S2.out.s0 _ _ _ _).b.drew⟩
end Go.Proofs.Ytomomaoncmgfpaa.Mmu
