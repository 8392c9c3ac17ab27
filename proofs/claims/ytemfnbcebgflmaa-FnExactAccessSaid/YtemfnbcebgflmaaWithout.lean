/- Walks of the program's without, for both caches. -/
import Derived.Test.YtemfnbcebgflmaaSpecDrop
import Derived.Test.YtemfnbcebgflmaaMachOf
import Derived.ArgAppend
namespace Go.Proofs.Ytemfnbcebgflmaa.Mmu
open Go.RowKit Go.Proofs.Ytemfnbcebgflmaa.Base Go.Proofs.Ytemfnbcebgflmaa.Kinds Go.Proofs.Ytemfnbcebgflmaa.DecMath Go.Proofs.Ytemfnbcebgflmaa.L1
set_option linter.unusedVariables false
set_option linter.unusedSimpArgs false

theorem wpList_run {P : Program} {W w' : World} {ops : Array Oper} {rest : List Oper} {o : Oper} {a : Act} {Q : Exit → Act → World → Prop} {v u v' : Value} (t : Nat) (hgd : o.guard = none) (s x : Operand)
    (ho : o.op = .call { callee := .builtin .append, args := #[s, x], argTypes := #[t, t] }) (hs : a.eval s = v) (hx : a.eval x = u) (hr : (Builtin.append_ #[t, t] o.type #[v, u]).run P W = .ok v' w')
    (h : wpList P ops Q rest (a.put o.dst v') w') : wpList P ops Q (o :: rest) a W := by
  refine wpList_plain hgd fun K hK => ?_
  unfold Oper.wp execOp
  simp only [ho, resolve, invoke, builtin, Sem.run_bind, Sem.run_pure, Result.andThen_ok, List.map_toArray, List.map_cons, List.map_nil, hs, hx, hr]
  exact hK _ _ h
theorem setCells_nil (w : World) (b o : Nat) : w.setCells b o [] = w := by
  simp [World.setCells]
theorem cutRd {α : Type} {enc : α → List Value} {sz : Nat} {w : World} {ad : Addr} {n c : Nat} {l : List α} (hlen : ∀ x, (enc x).length = sz) (h0 : 0 < sz) (h : Rd enc sz w (.slice (some ad) n c) l) (k : Nat) (hk : k ≤ l.length) :
    (∀ j u, ((l.take k).flatMap enc)[j]? = some u → w.cell? (ad.add j) = some u) ∧ (∀ j u, ((l.drop k).flatMap enc)[j]? = some u → w.cell? (ad.add (k * sz + j)) = some u) := by
  have e : l.flatMap enc = (l.take k).flatMap enc ++ (l.drop k).flatMap enc := by rw [← List.flatMap_append, List.take_append_drop]
  have hl : ((l.take k).flatMap enc).length = k * sz := by rw [flat_len hlen, List.length_take, Nat.min_eq_left hk]
  have hn := h.news hlen h0
  refine ⟨fun j u hu => hn j u ?_, fun j u hu => hn (k * sz + j) u ?_⟩
  · rw [e, List.getElem?_append_left (by have := (List.getElem?_eq_some_iff.1 hu).1; exact this)]; exact hu
  · rw [e, List.getElem?_append_right (by omega), hl, Nat.add_sub_cancel_left]; exact hu
theorem takeRd {α : Type} {enc : α → List Value} {sz : Nat} {w : World} {ad : Addr} {n c : Nat} {l : List α} (h : Rd enc sz w (.slice (some ad) n c) l) (k : Nat) (hk : k ≤ l.length) : Rd enc sz w (.slice (some ad) k k) (l.take k) := by
  obtain ⟨A, cap, e, hc, hl, hr⟩ := h
  simp only [Value.slice.injEq] at e
  obtain ⟨rfl, rfl, rfl⟩ := e
  have hlk : (l.take k).length = k := take_len hk
  refine ⟨some ad, k, by rw [hlk], by omega, by omega, fun i x hx => hr i x ?_⟩
  have hi : i < k := by have := (List.getElem?_eq_some_iff.1 hx).1; omega
  rw [List.getElem?_take_of_lt hi] at hx
  exact hx
theorem add_lit0 (g a b : Nat) : (⟨g, a, none⟩ : Addr).add b = ⟨g, a + b, none⟩ := by
  unfold Addr.add
  by_cases h : b = 0 <;> simp_all

set_option maxRecDepth 100000 in
set_option maxHeartbeats 4000000 in
theorem withoutW_any (v : Value) (l : List STlb) (i : Int) (w : World) (r : Rd wholeEnc 5 w v l) (hn : l.length ≤ 256) (hg : l ≠ [] → ∃ g c, v = .slice (some ⟨g, 0, none⟩) l.length c) :
    Calls Try.prog 102 #[v, .int .i64 i] w fun e w' => ∃ v', e = .returned v' ∧ Rd wholeEnc 5 w' v' (dropAt l i) ∧ (∀ k, v'.ownBlock = some k → v.ownBlock = some k ∨ w.heap.size ≤ k) ∧ Below w.heap.size w w' := by
  obtain ⟨A, c, rfl, hl, hc⟩ := r.shape
  have R := Lib.hid r
  clear r
  by_cases h0 : i < 0
  · go_enter Try.func102, Try.ntmps102
    go_wp2
    go_ret
    have : dropAt l i = l := by unfold dropAt; rw [if_neg (by omega)]
    rw [this]
    exact ⟨_, rfl, R.out, fun k hk => Or.inl hk, Below.refl _ _⟩
  have h0' : 0 ≤ i := by omega
  by_cases h1 : (l.length : Int) ≤ i
  · go_enter Try.func102, Try.ntmps102
    go_wp2
    go_ret
    have : dropAt l i = l := dropAt_big l i h1
    rw [this]
    exact ⟨_, rfl, R.out, fun k hk => Or.inl hk, Below.refl _ _⟩
  have h1' : i < (l.length : Int) := by omega
  have hi3 : IntKind.i64.wrap (i + 1) = i + 1 := by rw [IntKind.wrap_i64]; omega
  clear h0 h1
  obtain ⟨k, rfl⟩ : ∃ k : Nat, i = (k : Int) := ⟨i.toNat, by omega⟩
  have hk : k < l.length := by omega
  have HD : Hid (dropAt l (k : Int) = l.take k ++ l.drop (k + 1)) := Lib.hid (by unfold dropAt; rw [if_pos (by omega), show (k : Int).toNat = k by omega, List.eraseIdx_eq_take_drop_succ])
  obtain ⟨g, c', e⟩ := hg (by intro e; rw [e] at hk; simp at hk)
  simp only [Value.slice.injEq] at e
  obtain ⟨e1, -, -⟩ := e
  subst e1
  have q0 : (k : Int) ≤ (c : Int) := by omega
  have q1 : (k : Int) + 1 ≤ (l.length : Int) := by omega
  have q2 : (l.length : Int) ≤ (c : Int) := by omega
  have q3 : ¬ (k : Int) < 0 := by omega
  have q4 : ¬ (k : Int) + 1 < 0 := by omega
  have q5 : ¬ (l.length : Int) < (k : Int) + 1 := by omega
  have q6 : ¬ (c : Int) < (k : Int) := by omega
  have q7 : ((k : Int) + 1).toNat = k + 1 := by omega
  clear hg
  have hcut := cutRd wholeLen (by decide) R.out (k + 1) (by omega)
  have htk := cutRd wholeLen (by decide) R.out k (by omega)
  have HC := Lib.hid hcut
  have HT := Lib.hid htk
  clear hcut htk
  by_cases hm : k + 1 = l.length
  · go_enter Try.func102, Try.ntmps102
    go_wp2
    go_still_tail 8, (by kernel_rfl)
    change wpList _ _ _ _ _ w.drew
    have hd : l.drop (k + 1) = [] := by rw [hm]; exact List.drop_length
    have hx : ∃ ad : Addr, (if c = l.length then some (⟨g, 0, none⟩ : Addr) else some (⟨g, l.length * 5, none⟩ : Addr)) = some ad := by split <;> exact ⟨_, rfl⟩
    obtain ⟨ad, hx⟩ := hx
    rw [hx]
    obtain ⟨i0, hi, hz0, hz1, hz2⟩ := info_parts infoWh
    have hr := fun ty => run_append_room_cells (P := Try.prog) w.drew 132 ty 139 i0 Try.underlying132 hi g 0 k k ad 0 (c - l.length) [] (by simp) (by simp) (by simp) (by omega) (by simp) (by simp)
    simp only [setCells_nil, Nat.add_zero] at hr
    refine wpList_run 132 rfl (.tmp 17) (.tmp 21) rfl rfl rfl (hr _) ?_
    go_wp2
    go_ret
    refine ⟨_, rfl, ?_, fun k hk => Or.inl hk, below_drewN (Below.refl _ _) 1⟩
    rw [HD.out, hd, List.append_nil]
    exact takeRd R.out k (by omega)
  · go_enter Try.func102, Try.ntmps102
    go_wp2
    go_still_tail 8, (by kernel_rfl)
    change wpList _ _ _ _ _ w.drew
    have hx : (if c = k + 1 then some (⟨g, 0, none⟩ : Addr) else some (⟨g, (k + 1) * 5, none⟩ : Addr)) = some (⟨g, (k + 1) * 5, none⟩ : Addr) := by rw [if_neg (by omega)]
    rw [hx]
    obtain ⟨i0, hi, hz0, hz1, hz2⟩ := info_parts infoWh
    have hr := fun ty => run_append_arg_grows (P := Try.prog) w.drew 132 ty 139 i0 _ 5 40 Try.underlying132 hi hz0 hz1 hz2 rfl (by decide) ⟨g, 0, none⟩ k k ((l.take k).flatMap wholeEnc) (by rw [flat_len wholeLen, take_len (by omega)]) HT.out.1 ⟨g, (k + 1) * 5, none⟩ (l.length - (k + 1)) (c - (k + 1)) ((l.drop (k + 1)).flatMap wholeEnc) (by rw [flat_len wholeLen, List.length_drop]) (fun j u hu => by have h := HC.out.2 j u hu; rw [add_lit0] at h ⊢; rw [Nat.zero_add] at h; exact h) (by omega) (by unfold maxLen; omega) (by omega)
    obtain ⟨v', w', hrun, hown, hgr⟩ := hr 132
    have hO : Own wholeEnc 5 139 w.heap.size w' v' (dropAt l (k : Int)) := by
      rw [HD.out]
      unfold Own
      have e1 : (l.take k ++ l.drop (k + 1)).length = k + (l.length - (k + 1)) := by rw [List.length_append, List.length_drop, take_len (by omega)]
      rw [e1, List.flatMap_append]
      exact hown
    refine wpList_run 132 rfl (.tmp 17) (.tmp 21) rfl rfl rfl hrun ?_
    obtain ⟨B, d, rfl⟩ := hO.shape
    have HO := Lib.hid hO
    clear hrun hown hO
    go_wp2
    go_ret
    exact ⟨_, rfl, HO.out.rd wholeLen, fun k hk => Or.inr (HO.out.lt k hk).1, ⟨hgr.os, hgr.tape, hgr.output, hgr.size, fun j hj => hgr.block j hj (by simp)⟩⟩

set_option maxRecDepth 100000 in
set_option maxHeartbeats 4000000 in
theorem withoutS_any (v : Value) (l : List SWc) (i : Int) (w : World) (r : Rd stepEnc 5 w v l) (hn : l.length ≤ 256) (hg : l ≠ [] → ∃ g c, v = .slice (some ⟨g, 0, none⟩) l.length c) :
    Calls Try.prog 103 #[v, .int .i64 i] w fun e w' => ∃ v', e = .returned v' ∧ Rd stepEnc 5 w' v' (dropAt l i) ∧ (∀ k, v'.ownBlock = some k → v.ownBlock = some k ∨ w.heap.size ≤ k) ∧ Below w.heap.size w w' := by
  obtain ⟨A, c, rfl, hl, hc⟩ := r.shape
  have R := Lib.hid r
  clear r
  by_cases h0 : i < 0
  · go_enter Try.func103, Try.ntmps103
    go_wp2
    go_ret
    have : dropAt l i = l := by unfold dropAt; rw [if_neg (by omega)]
    rw [this]
    exact ⟨_, rfl, R.out, fun k hk => Or.inl hk, Below.refl _ _⟩
  have h0' : 0 ≤ i := by omega
  by_cases h1 : (l.length : Int) ≤ i
  · go_enter Try.func103, Try.ntmps103
    go_wp2
    go_ret
    have : dropAt l i = l := dropAt_big l i h1
    rw [this]
    exact ⟨_, rfl, R.out, fun k hk => Or.inl hk, Below.refl _ _⟩
  have h1' : i < (l.length : Int) := by omega
  have hi3 : IntKind.i64.wrap (i + 1) = i + 1 := by rw [IntKind.wrap_i64]; omega
  clear h0 h1
  obtain ⟨k, rfl⟩ : ∃ k : Nat, i = (k : Int) := ⟨i.toNat, by omega⟩
  have hk : k < l.length := by omega
  have HD : Hid (dropAt l (k : Int) = l.take k ++ l.drop (k + 1)) := Lib.hid (by unfold dropAt; rw [if_pos (by omega), show (k : Int).toNat = k by omega, List.eraseIdx_eq_take_drop_succ])
  obtain ⟨g, c', e⟩ := hg (by intro e; rw [e] at hk; simp at hk)
  simp only [Value.slice.injEq] at e
  obtain ⟨e1, -, -⟩ := e
  subst e1
  have q0 : (k : Int) ≤ (c : Int) := by omega
  have q1 : (k : Int) + 1 ≤ (l.length : Int) := by omega
  have q2 : (l.length : Int) ≤ (c : Int) := by omega
  have q3 : ¬ (k : Int) < 0 := by omega
  have q4 : ¬ (k : Int) + 1 < 0 := by omega
  have q5 : ¬ (l.length : Int) < (k : Int) + 1 := by omega
  have q6 : ¬ (c : Int) < (k : Int) := by omega
  have q7 : ((k : Int) + 1).toNat = k + 1 := by omega
  clear hg
  have hcut := cutRd stepLen (by decide) R.out (k + 1) (by omega)
  have htk := cutRd stepLen (by decide) R.out k (by omega)
  have HC := Lib.hid hcut
  have HT := Lib.hid htk
  clear hcut htk
  by_cases hm : k + 1 = l.length
  · go_enter Try.func103, Try.ntmps103
    go_wp2
    go_still_tail 8, (by kernel_rfl)
    change wpList _ _ _ _ _ w.drew
    have hd : l.drop (k + 1) = [] := by rw [hm]; exact List.drop_length
    have hx : ∃ ad : Addr, (if c = l.length then some (⟨g, 0, none⟩ : Addr) else some (⟨g, l.length * 5, none⟩ : Addr)) = some ad := by split <;> exact ⟨_, rfl⟩
    obtain ⟨ad, hx⟩ := hx
    rw [hx]
    obtain ⟨i0, hi, hz0, hz1, hz2⟩ := info_parts infoSt
    have hr := fun ty => run_append_room_cells (P := Try.prog) w.drew 133 ty 151 i0 Try.underlying133 hi g 0 k k ad 0 (c - l.length) [] (by simp) (by simp) (by simp) (by omega) (by simp) (by simp)
    simp only [setCells_nil, Nat.add_zero] at hr
    refine wpList_run 133 rfl (.tmp 17) (.tmp 21) rfl rfl rfl (hr _) ?_
    go_wp2
    go_ret
    refine ⟨_, rfl, ?_, fun k hk => Or.inl hk, below_drewN (Below.refl _ _) 1⟩
    rw [HD.out, hd, List.append_nil]
    exact takeRd R.out k (by omega)
  · go_enter Try.func103, Try.ntmps103
    go_wp2
    go_still_tail 8, (by kernel_rfl)
    change wpList _ _ _ _ _ w.drew
    have hx : (if c = k + 1 then some (⟨g, 0, none⟩ : Addr) else some (⟨g, (k + 1) * 5, none⟩ : Addr)) = some (⟨g, (k + 1) * 5, none⟩ : Addr) := by rw [if_neg (by omega)]
    rw [hx]
    obtain ⟨i0, hi, hz0, hz1, hz2⟩ := info_parts infoSt
    have hr := fun ty => run_append_arg_grows (P := Try.prog) w.drew 133 ty 151 i0 _ 5 40 Try.underlying133 hi hz0 hz1 hz2 rfl (by decide) ⟨g, 0, none⟩ k k ((l.take k).flatMap stepEnc) (by rw [flat_len stepLen, take_len (by omega)]) HT.out.1 ⟨g, (k + 1) * 5, none⟩ (l.length - (k + 1)) (c - (k + 1)) ((l.drop (k + 1)).flatMap stepEnc) (by rw [flat_len stepLen, List.length_drop]) (fun j u hu => by have h := HC.out.2 j u hu; rw [add_lit0] at h ⊢; rw [Nat.zero_add] at h; exact h) (by omega) (by unfold maxLen; omega) (by omega)
    obtain ⟨v', w', hrun, hown, hgr⟩ := hr 133
    have hO : Own stepEnc 5 151 w.heap.size w' v' (dropAt l (k : Int)) := by
      rw [HD.out]
      unfold Own
      have e1 : (l.take k ++ l.drop (k + 1)).length = k + (l.length - (k + 1)) := by rw [List.length_append, List.length_drop, take_len (by omega)]
      rw [e1, List.flatMap_append]
      exact hown
    refine wpList_run 133 rfl (.tmp 17) (.tmp 21) rfl rfl rfl hrun ?_
    obtain ⟨B, d, rfl⟩ := hO.shape
    have HO := Lib.hid hO
    clear hrun hown hO
    go_wp2
    go_ret
    exact ⟨_, rfl, HO.out.rd stepLen, fun k hk => Or.inr (HO.out.lt k hk).1, ⟨hgr.os, hgr.tape, hgr.output, hgr.size, fun j hj => hgr.block j hj (by simp)⟩⟩
end Go.Proofs.Ytemfnbcebgflmaa.Mmu
