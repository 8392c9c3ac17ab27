/- Rules for operations on great arrays and structs as values: their cells are a letter, nothing is unrolled. Nothing of the program. -/
import Derived.Test.YthphfcheencbgaaGround
import Derived.Deep.WholeRow
import Derived.Deep.MidRow
import Derived.Great.FillDense
namespace Go.Proofs.Ythphfcheencbgaa.Base
open Go.RowKit
set_option linter.unusedVariables false
set_option linter.unusedSimpArgs false
section
variable {P : Program} {ops : Array Oper} {rest : List Oper} {o : Oper} {a : Act} {w w' : World} {Q : Exit → Act → World → Prop}

theorem wpList_val (hgd : o.guard = none) (v : Value) (h : (execOp a.eval o).run P w = .ok (.value v) w') (k : wpList P ops Q rest (a.put o.dst v) w') : wpList P ops Q (o :: rest) a w :=
  wpList_plain hgd fun K hK => by unfold Oper.wp; rw [h, Oper.upon_value]; exact hK _ _ k
theorem wpList_nov (hgd : o.guard = none) (h : (execOp a.eval o).run P w = .ok .skip w') (k : wpList P ops Q rest (a.put o.dst undef) w') : wpList P ops Q (o :: rest) a w :=
  wpList_plain hgd fun K hK => by unfold Oper.wp; rw [h, Oper.upon_skip]; exact hK _ _ k
theorem big_alloc (hgd : o.guard = none) (t : TypeId) (ho : o.op = .alloc t) (z : Array Value) (n : Nat) (hz : (P.info? t).map (fun i => (i.zero, i.size)) = some (some (.agg z), n))
    (k : wpList P ops Q rest (a.put o.dst (.pointer (some ⟨w.heap.size, 0, none⟩))) (w.alloc (.cells z t))) : wpList P ops Q (o :: rest) a w := by
  refine wpList_val hgd _ ?_ k
  have hz1 := (zero_of_info hz).1 w
  unfold execOp
  simp only [ho]
  simp [Instr.alloc, hz1, newVar, newRow, Value.cells, Result.andThen, go_sem]
theorem big_box (hgd : o.guard = none) (t : TypeId) (x : Operand) (ho : o.op = .box t x) (z : Array Value) (hx : a.eval x = .agg z)
    (k : wpList P ops Q rest (a.put o.dst (.pointer (some ⟨w.heap.size, 0, none⟩))) (w.alloc (.cells z t))) : wpList P ops Q (o :: rest) a w := by
  refine wpList_val hgd _ ?_ k
  unfold execOp
  simp only [ho, hx]
  simp [Instr.box, newVar, newRow, Value.cells, Result.andThen, go_sem]
theorem big_build (hgd : o.guard = none) (t : TypeId) (parts : Array (Nat × Operand)) (ho : o.op = .build t parts) (vs : Array (Nat × Value)) (hv : (parts.map fun (i, x) => (i, a.eval x)) = vs) (z : Array Value) (hb : P.built t vs.toList = some z)
    (k : wpList P ops Q rest (a.put o.dst (.agg z)) w) : wpList P ops Q (o :: rest) a w := by
  refine wpList_val hgd _ ?_ k
  unfold execOp
  simp only [ho, hv]
  simp only [Sem.run_bind, Sem.run_pure, run_build w t vs z hb, Result.andThen_ok]
theorem big_store (hgd : o.guard = none) (t : TypeId) (x y : Operand) (ho : o.op = .store t x y) (g T : Nat) (c c' : Array Value) (hx : a.eval x = .pointer (some ⟨g, 0, none⟩)) (hy : a.eval y = .agg c')
    (hg : w.heap[g]? = some (.cells c T)) (hi : (P.info? t).map (·.size) = some c'.size) (hs : c.size = c'.size) (h1 : c'.all (·.oneCell') = true)
    (k : wpList P ops Q rest (a.put o.dst undef) (w.setRow g c')) : wpList P ops Q (o :: rest) a w := by
  refine wpList_nov hgd ?_ k
  unfold execOp
  simp only [ho, hx, hy]
  simp only [Instr.storeAt, Instr.sureAddr, Sem.run_bind, Sem.run_pure, Result.andThen_ok, run_storeVar_row w g T t c c' hg hi hs h1]
/-- An element of an array that is a value: a struct. -/
theorem big_index (hgd : o.guard = none) (t : TypeId) (x i : Operand) (ho : o.op = .index t x i) (c : Array Value) (hx : a.eval x = .agg c) (p n e sz : Nat) (hi : a.eval i = .int .i64 (p : Int))
    (hu : P.underlying t = some (.array n e)) (hp : p < n) (hsz : (P.info? e).map (·.size) = some sz) (fs : Array Field) (hs : P.underlying e = some (.struct fs)) (v : Array Value) (hv : c.extract (p * sz) (p * sz + sz) = v)
    (k : wpList P ops Q rest (a.put o.dst (.agg v)) w) : wpList P ops Q (o :: rest) a w := by
  refine wpList_val hgd _ ?_ k
  have hp' : (p : Int) < (n : Int) := by omega
  unfold execOp
  simp only [ho, hx, hi]
  cases hq : P.info? e with
  | none => simp [hq] at hsz
  | some ie =>
    have hz : ie.size = sz := by simpa [hq] using hsz
    simp [Instr.index, asIntOf, run_underlying hu, run_underlying hs, hp, part, isAgg, sizeOf, typeInfo, hq, hz, hv, Result.andThen, Sem.run_bind, go_sem]
/-- An element of an array that is a value: one cell. -/
theorem big_index1 (hgd : o.guard = none) (t : TypeId) (x i : Operand) (ho : o.op = .index t x i) (c : Array Value) (hx : a.eval x = .agg c) (p n e : Nat) (hi : a.eval i = .int .i64 (p : Int))
    (hu : P.underlying t = some (.array n e)) (hp : p < n) (hsz : (P.info? e).map (·.size) = some 1) (d : TypeDesc) (hs : P.underlying e = some d) (hd : d.isRow = false) (v : Value) (hv : c[p]? = some v)
    (k : wpList P ops Q rest (a.put o.dst v) w) : wpList P ops Q (o :: rest) a w := by
  refine wpList_val hgd _ ?_ k
  have hp' : (p : Int) < (n : Int) := by omega
  have hagg : (isAgg e).run P w = .ok false w := by
    unfold isAgg
    rw [Sem.run_bind, run_underlying hs w]
    cases d <;> simp_all [TypeDesc.isRow]
  unfold execOp
  simp only [ho, hx, hi]
  cases hq : P.info? e with
  | none => simp [hq] at hsz
  | some ie =>
    have hz : ie.size = 1 := by simpa [hq] using hsz
    simp [Instr.index, asIntOf, run_underlying hu, hp, part, hagg, sizeOf, typeInfo, hq, hz, hv, Result.andThen, Sem.run_bind, go_sem]
end
end Go.Proofs.Ythphfcheencbgaa.Base
