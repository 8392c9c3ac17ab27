/- Walk of the program's every. -/
import Derived.Test.YtkdclihnmocepaaImplValid
import Derived.Test.YtkdclihnmocepaaEveryMath
namespace Go.Proofs.Ytkdclihnmocepaa.Mmu
open Go.RowKit Go.Proofs.Ytkdclihnmocepaa.Base Go.Proofs.Ytkdclihnmocepaa.Kinds
set_option linter.unusedVariables false
set_option linter.unusedSimpArgs false

set_option maxRecDepth 100000 in
theorem infoTab : (Try.prog.info? 40).map (fun i => (i.zero, i.size)) = some (some (.agg (hitCells (List.replicate 4096 noHit))), 16384) := by kernel_rfl
set_option maxRecDepth 100000 in
theorem builtTab : Try.prog.built 40 [] = some (hitCells (List.replicate 4096 noHit)) := by kernel_rfl
theorem sizeTab : (Try.prog.info? 40).map (·.size) = some 16384 := by kernel_rfl
theorem implHit_b (s : SSpan) (p : Nat) (ho : okS s) (hp : p < 4096) (hh : hasS s p) (h : SHit) (e : hitS s (p : Int) = h) (w : World) : Calls Try.prog 25 #[s.val, .int .i64 (p : Int)] w fun e w' => e = .returned (.agg #[.int .i64 h.Kind, .int .i64 h.Out, .int .i64 h.Perm, .int .i64 h.Size]) ∧ Below w.heap.size w w' := by
  rw [← e]; exact implHit_any s p ho ⟨by omega, by omega⟩ hh w

set_option maxRecDepth 100000 in
set_option maxHeartbeats 4000000 in
theorem implEvery_any (v : Value) (l : List SSpan) (w : World) (r : Rd SSpan.enc 5 w v l) (hv : ValidS l) :
    Calls Try.prog 22 #[v] w fun e w' => e = .returned (.agg (hitCells (hitsS l))) ∧ Below w.heap.size w w' := by
  obtain ⟨A, c, rfl, hc, hk⟩ := r.shape
  have R := Lib.hid r
  have HV := Lib.hid hv
  clear r hv
  have hit := infoTab
  have hbt := builtTab
  have hst := sizeTab
  obtain ⟨Z, hZ⟩ : ∃ Z, hitCells (List.replicate 4096 noHit) = Z := ⟨_, rfl⟩
  rw [hZ] at hit hbt
  have hzs : Z.size = 16384 := by rw [← hZ, hitCells_size, List.length_replicate]
  have hz1 : Z.all (·.oneCell') = true := by rw [← hZ]; exact hitCells_one _
  have HIT := Lib.hid hit
  have HBT := Lib.hid hbt
  have HST := Lib.hid hst
  have HZ := Lib.hid hZ
  have HZS := Lib.hid hzs
  have HZ1 := Lib.hid hz1
  clear hit hbt hst hZ hzs hz1
  go_enter Try.func22, Try.ntmps22
  go_upto_region 2 with (first
    | (refine big_alloc rfl 40 rfl Z _ HIT.out ?_; (try simp only [Act.put, List.setIfInBounds_toArray, List.set_cons_zero, List.set_cons_succ]))
    | (refine big_build rfl 40 _ rfl #[] (by simp) Z HBT.out ?_; (try simp only [Act.put, List.setIfInBounds_toArray, List.set_cons_zero, List.set_cons_succ]))
    | (refine big_store rfl 40 _ _ rfl (w.heap.size + 1) 40 Z Z (by simp [Act.eval]) rfl (heap_alloc2_new w _ _) (by rw [HZS.out]; exact HST.out) rfl HZ1.out ?_; (try simp only [Act.put, List.setIfInBounds_toArray, List.set_cons_zero, List.set_cons_succ])))
  rw [show (w.alloc (.cells Z 40)).heap.size = w.heap.size + 1 by simp]
  refine world_gen (fun w' => St w [(w.heap.size + 1, Z, 40), (w.heap.size, Z, 40)] w') ?_ (fun w1 S1 => ?_)
  · have e := World.setRow_alloc_new (w.alloc (.cells Z 40)) Z Z 40
    rw [show (w.alloc (.cells Z 40)).heap.size = w.heap.size + 1 by simp] at e
    rw [e]
    exact (St.start w).push2 _ _ _ _
  have HS1 := Lib.hid S1
  clear S1
  go_wp2
  go_loopw [10] (fun i wr => ∃ k : Nat, k ≤ l.length ∧ i = .int .i64 k ∧ Hid (St w [(w.heap.size + 1, hitCells (hitsS (l.take k)), 40), (w.heap.size, Z, 40)] wr)) (fun i _ => l.length - (intOf i).toNat)
  case atStart => exact ⟨0, Nat.zero_le _, rfl, by rw [List.take_zero, hitsS_nil, HZ.out]; exact HS1⟩
  case round =>
    obtain ⟨k, hkl, rfl, HS⟩ := hrel
    by_cases hlt : k < l.length
    · have hlt' : (k : Int) < (l.length : Int) := by omega
      obtain ⟨ad, x, rfl, hx, q0, q1, q2, q3, q4⟩ := SSpan.at (R.out.below HS.out.b) hlt
      have ho := HV.out.ok hx
      obtain ⟨pg, cn, xo, xm, xh, rfl⟩ : ∃ (pg cn : Nat) (xo xm : Int) (xh : Bool), x = ⟨(pg : Int), (cn : Int), xo, xm, xh⟩ := by
        obtain ⟨a, b, c, d, e⟩ := x
        unfold okS at ho
        exact ⟨a.toNat, b.toNat, c, d, e, by simp only [SSpan.mk.injEq, and_true]; simp only at ho; omega⟩
      dsimp only at q0 q1 q2 q3 q4
      have HX := Lib.hid hx
      have HO := Lib.hid ho
      have hb4 : pg + cn ≤ 4096 := by unfold okS at ho; simp only at ho; omega
      have e1 : IntKind.i64.wrap ((pg : Int) + (cn : Int)) = (pg : Int) + (cn : Int) := by rw [IntKind.wrap_i64]; omega
      obtain ⟨x, hxe⟩ : ∃ x, (⟨(pg : Int), (cn : Int), xo, xm, xh⟩ : SSpan) = x := ⟨_, rfl⟩
      have HXE := Lib.hid hxe
      rw [hxe] at HX HO
      clear hx hxe ho
      go_upto_region 5 with fail
      refine (HS.out.push _ _).gen (fun w2 S2 _ => ?_)
      have HS2 := Lib.hid S2
      clear S2 q0 q1 q2 q3 q4
      have sT0 := HS2.out
      obtain ⟨z0_0, z0_1, z0_2, z0_3, z0_4⟩ := sT0.c5
      have sT1 := sT0.tail
      have sT2 := sT1.tail
      have sT3 := sT2.tail
      clear sT0 sT1 sT2 sT3
      go_wp2
      clear z0_0 z0_1 z0_2 z0_3 z0_4
      go_loopw [6] (fun i wi => ∃ d : Nat, d ≤ cn ∧ i = .int .i64 ((pg + d : Nat) : Int) ∧ Hid (St w [(wr.heap.size, #[.int .i64 (pg : Int), .int .i64 (cn : Int), .int .i64 xo, .int .i64 xm, .bool xh], 35), (w.heap.size + 1, hitCells (midH l k x d), 40), (w.heap.size, Z, 40)] wi)) (fun i _ => pg + cn - (intOf i).toNat)
      case atStart => exact ⟨0, Nat.zero_le _, rfl, by rw [midH_zero]; exact HS2⟩
      case round =>
        obtain ⟨d, hd, rfl, HS3⟩ := hrel
        have sT0 := HS3.out
        obtain ⟨z0_0, z0_1, z0_2, z0_3, z0_4⟩ := sT0.c5
        have sT1 := sT0.tail
        have sT2 := sT1.tail
        have sT3 := sT2.tail
        clear sT0 sT1 sT2 sT3
        by_cases hlt2 : d < cn
        · have hlt2' : ((pg + d : Nat) : Int) < (pg : Int) + (cn : Int) := by omega
          obtain ⟨h, hh⟩ : ∃ h, hitS x ((pg + d : Nat) : Int) = h := ⟨_, rfl⟩
          have HH := Lib.hid hh
          clear hh
          have hq4 : pg + d < 4096 := by omega
          obtain ⟨go, hgo⟩ : ∃ g, (midH l k x d)[pg + d]? = some g := ⟨_, List.getElem?_eq_getElem (by rw [midH_len]; exact hq4)⟩
          have HGO := Lib.hid hgo
          clear hgo
          go_wp2_with (first | (go_at_call 25; refine (implHit_b ⟨(pg : Int), (cn : Int), xo, xm, xh⟩ (pg + d) (by rw [HXE.out]; exact HO.out) hq4 (by unfold hasS; simp only; omega) h (by rw [HXE.out]; exact HH.out) _).mono ?_; rintro e w4 ⟨rfl, hb4⟩; have HS4 := Lib.hid (HS3.out.below hb4); obtain ⟨y0, y1, y2, y3⟩ := hit_cells4 HS4.out.tail.head HGO.out; have f0 := HS4.out.tail.f ((pg + d) * 4); have f1 := HS4.out.tail.f ((pg + d) * 4 + 1); have f2 := HS4.out.tail.f ((pg + d) * 4 + 2); have f3 := HS4.out.tail.f ((pg + d) * 4 + 3); clear hb4))
          go_roundw
          case rel =>
            have hm := midH_step l k x d (pg + d) (by rw [← HXE.out]; simp) hq4
            have hs := St.setHit HS4.out (pg + d) (by rw [midH_len]; exact hq4) h
            rw [← HH.out, hm] at hs
            exact ⟨d + 1, by omega, by simp; omega, Lib.hid (by rw [← HH.out]; exact hs)⟩
          case measure => simp [intOf]; omega
        · obtain rfl : d = cn := by omega
          go_wp2
          go_roundw
          case rel =>
            have hm := midH_end HV.out HX.out d (by rw [← HXE.out])
            exact ⟨k + 1, by omega, by go_num, Lib.hid (by have := HS3.out.tail; rw [hm] at this; exact this)⟩
          case measure => simp [intOf]; omega
    · obtain rfl : k = l.length := by omega
      rw [List.take_length] at HS
      have HSZ := Lib.hid (show (hitCells (hitsS l)).size = 16384 by rw [hitCells_size, hitsS_len])
      obtain ⟨X, hX⟩ : ∃ X, hitCells (hitsS l) = X := ⟨_, rfl⟩
      have HX1 := Lib.hid (hitCells_one (hitsS l))
      rw [hX] at HS HSZ HX1
      have HEQ := Lib.hid hX
      clear hX
      go_wp2_with (first
        | (refine wpList_load_row rfl 40 _ rfl (w.heap.size + 1) (by simp [Act.eval]) 40 X (0, 0) _ HS.out.head Try.underlying40 rfl (by rw [HSZ.out]; exact HST.out) ?_; (try simp only [Act.put, List.setIfInBounds_toArray, List.set_cons_zero, List.set_cons_succ]))
        | (refine big_store rfl 40 _ _ rfl w.heap.size 40 Z X (by simp [Act.eval]) (by simp [Act.eval]) HS.out.tail.head (by rw [HSZ.out]; exact HST.out) (by rw [HZS.out, HSZ.out]) HX1.out ?_; (try simp only [Act.put, List.setIfInBounds_toArray, List.set_cons_zero, List.set_cons_succ])))
      have hs := St.setRow0 (c' := X) HS.out.tail
      exact bodyPost_ret (v := .agg X) (by rw [results_cell_row Try.results22 _ _ w.heap.size 40 X (0, 0) _ (by simp) hs.head Try.underlying40 rfl (by rw [HSZ.out]; exact HST.out)]) rfl ⟨by rw [HEQ.out], hs.b⟩
end Go.Proofs.Ytkdclihnmocepaa.Mmu
