/- A command's cells: the command p alone. Copied out of other texts by pick.py. No condition. -/
import Derived.Test.YtdinjlglngpecaaGreatDoorSba
import Derived.Deep.MidRow
import Derived.ChangeKeysEq
import Derived.Laws.StructEq
namespace Go.Proofs.YtdinjlglngpecaaGreatDoor
open Go.RowKit

theorem cmd_size : Tryz.zeroCells60.toList.length = 272 := by kernel_rfl
theorem cmd_one : ∀ v ∈ Tryz.zeroCells60.toList, v.oneCell' = true := by
  have h : Tryz.zeroCells60.toList.all (·.oneCell') = true := by kernel_rfl
  exact List.all_eq_true.1 h
theorem cmd_info : (Tryz.prog.info? 60).map (·.size) = some 272 := by kernel_rfl
/-- A list of a command's cells. -/
structure CmdL (l : List Value) : Prop where
  len : l.length = 272
  one : ∀ v ∈ l, v.oneCell' = true
theorem CmdL.zero : CmdL Tryz.zeroCells60.toList := ⟨cmd_size, cmd_one⟩
theorem CmdL.set {l : List Value} (h : CmdL l) (i : Nat) {v : Value} (hv : v.oneCell' = true) : CmdL (l.set i v) :=
  ⟨by rw [List.length_set]; exact h.len, fun x hx => (List.mem_or_eq_of_mem_set hx).elim (h.one x) (fun e => e ▸ hv)⟩
theorem CmdL.store {l : List Value} (h : CmdL l) (w : World) : (storeCells ⟨w.heap.size, 0, none⟩ l 0).run Tryz.prog (w.alloc (.cells Tryz.zeroCells60 60)) = .ok () (w.alloc (.cells l.toArray 60)) := by
  have := run_storeCells_new (P := Tryz.prog) w 60 Tryz.zeroCells60 l.toArray (by rw [cmd_info, List.size_toArray, h.len]) (by rw [← Array.length_toList, cmd_size, List.size_toArray, h.len]) (by
    rw [← Array.all_toList, List.all_eq_true]; exact h.one)
  simpa using this
theorem cmd_load {w : World} {b : Nat} {l : List Value} (h : CmdL l) (hb : w.heap[b]? = some (.cells l.toArray 60 (0, 0))) : (loadCellsFrom ⟨b, 0, none⟩ 0 272 #[]).run Tryz.prog w = .ok l.toArray w := by
  have := run_loadCells_list (P := Tryz.prog) w ⟨b, 0, none⟩ l (fun j v hv => by
    have hadd : (⟨b, 0, none⟩ : Addr).add j = ⟨b, j, none⟩ := by unfold Addr.add; split <;> simp_all
    rw [hadd, cell_of_row _ _ j _ _ (0, 0) hb]
    simpa using hv)
  rw [h.len] at this
  simpa [loadCells] using this
theorem cmd_loadAt {w : World} {b : Nat} {l : List Value} (h : CmdL l) (hb : w.heap[b]? = some (.cells l.toArray 60 (0, 0))) : (Instr.loadAt 60 (.pointer (some ⟨b, 0, none⟩))).run Tryz.prog w = .ok (.agg l.toArray) w := by
  simp only [Instr.loadAt, Instr.sureAddr, Sem.run_bind, Sem.run_pure, Result.andThen]
  exact run_loadVar_row w b _ _ _ (0, 0) _ hb Tryz.underlying60 rfl (by rw [cmd_info, List.size_toArray, h.len])
/-- A command's block. -/
structure CmB (w : World) (b : Nat) (l : List Value) : Prop where
  heap : w.heap[b]? = some (.cells l.toArray 60 (0, 0))
  cl : CmdL l
section
variable {w w' : World} {b : Nat} {l : List Value}
theorem CmB.lt (h : CmB w b l) : b < w.heap.size := (Array.getElem?_eq_some_iff.1 h.heap).1
theorem CmB.cell (h : CmB w b l) (j : Nat) : w.cell? ⟨b, j, none⟩ = l[j]? := (cell_of_row _ _ j _ _ (0, 0) h.heap).trans (by simp)
theorem CmB.fz (h : CmB w b l) (j : Nat) : w.frozen? ⟨b, j, none⟩ = false := frozen_cls h.heap j
theorem CmB.block (h : CmB w b l) (hb : w'.heap[b]? = w.heap[b]?) : CmB w' b l := ⟨hb.trans h.heap, h.cl⟩
theorem CmB.below (h : CmB w b l) (hb : Below w.heap.size w w') : CmB w' b l := h.block (hb.block b h.lt)
theorem CmB.other (h : CmB w b l) {c : Nat} (hc : b ≠ c) (o : Nat) (v : Value) : CmB (w.setCell ⟨c, o, none⟩ v) b l := h.block (Below.heap_setCell _ _ _ _ hc)
theorem CmB.set (h : CmB w b l) (i : Nat) {v : Value} (hv : v.oneCell' = true) : CmB (w.setCell ⟨b, i, none⟩ v) b (l.set i v) :=
  ⟨by
    rw [setCell_eq_setRow w b i _ _ _ v h.heap, setRow_heap w b _ _ _ _ h.heap]
    simp, h.cl.set i hv⟩
theorem CmB.new (hl : CmdL l) (w : World) : CmB (w.alloc (.cells l.toArray 60)) w.heap.size l := ⟨heap_alloc_new w _, hl⟩
end
theorem CmB.tab2 {w : World} {b : Nat} {l : List Value} (h : CmB w b l) : w.rangeAt b 16 (l.drop 16) := fun j v hv => by
  rw [h.cell, ← hv, List.getElem?_drop]
theorem CmB.row2 {w : World} {b : Nat} {l : List Value} (h : CmB w b l) : w.rangeAt b 0 l := fun j v hv => by rw [h.cell, Nat.zero_add, ← hv]
/-- A guarded load of a range. -/
theorem wpList_load_mid_g {P : Program} {ops : Array Oper} {rest : List Oper} {op : Oper} {a : Act} {w : World} {Q : Exit → Act → World → Prop} (hgd : Region.wanted op (yielded ops a.tmps) = true) (ty : TypeId) (x : Operand) (ho : op.op = .load ty x)
    (b o : Nat) (hx : a.eval x = .pointer (some ⟨b, o, none⟩)) (cs : List Value) (d : TypeDesc) (hc : w.rangeAt b o cs)
    (hu : P.underlying ty = some d) (hd : d.isRow = true) (hi : (P.info? ty).map (·.size) = some cs.length)
    (h : wpList P ops Q rest (a.put op.dst (.agg cs.toArray)) w) : wpList P ops Q (op :: rest) a w :=
  wpList_step fun _ hK => by rw [if_pos hgd]; exact wp_load_mid ty x ho b o hx cs d hc hu hd hi (hK _ _ h)
theorem eq_u8 (v : Int) (w : World) : (Op.equalIn 9999 5 (.int .u8 v) (.int .u8 v)).run Tryz.prog w = .ok true w := by
  simp [go_sem]
theorem items_same (xs : Array Value) (w : World) : ∀ is : List Nat, (∀ i ∈ is, ∃ v, xs[i]? = some (.int .u8 v)) → (Op.eqItems 9999 5 1 xs xs is).run Tryz.prog w = .ok true w
  | [], _ => rfl
  | i :: is, h => by
    obtain ⟨v, hv⟩ := h i (by simp)
    have hp : (part 5 xs (i * 1)).run Tryz.prog w = .ok (.int .u8 v) w := run_part_plain w (by kernel_rfl) (by rw [Nat.mul_one]; exact hv)
    have ih := items_same xs w is (fun j hj => h j (by simp [hj]))
    simp only [Op.eqItems, Sem.run_bind, hp, Result.andThen_ok, eq_u8, Bool.not_true]
    simpa using ih
theorem table_info : (Tryz.prog.info? 58).map (·.size) = some 256 := by kernel_rfl
/-- A guarded load of a row. -/
theorem wpList_load_row_g {P : Program} {ops : Array Oper} {rest : List Oper} {o : Oper} {a : Act} {w : World} {Q : Exit → Act → World → Prop} (hgd : Region.wanted o (yielded ops a.tmps) = true) (ty : TypeId) (x : Operand) (ho : o.op = .load ty x)
    (g : Nat) (hx : a.eval x = .pointer (some ⟨g, 0, none⟩)) (t : TypeId) (cs : Array Value) (fr : Nat × Nat) (d : TypeDesc) (hg : w.heap[g]? = some (.cells cs t fr))
    (hu : P.underlying ty = some d) (hd : (match d with | .struct _ | .array _ _ => true | _ => false) = true) (hi : (P.info? ty).map (·.size) = some cs.size)
    (h : wpList P ops Q rest (a.put o.dst (.agg cs)) w) : wpList P ops Q (o :: rest) a w :=
  wpList_step fun _ hK => by rw [if_pos hgd]; exact wp_load_row ty x ho g hx t cs fr d hg hu hd hi (hK _ _ h)
theorem zero_eqIn : ∀ w, (Op.equalIn 10000 58 (.agg (List.replicate 256 (Value.int .u8 0)).toArray) (.agg Tryz.zeroCells58)).run Tryz.prog w = .ok true w := fun w => by
  obtain ⟨i, hi⟩ : ∃ i, Tryz.prog.info? 5 = some i := Option.isSome_iff_exists.1 (by kernel_rfl)
  rw [show Tryz.zeroCells58 = (List.replicate 256 (Value.int .u8 0)).toArray by kernel_rfl, run_equalIn_array w 9999 _ _ Tryz.underlying58 hi, show Tryz.prog.cellsOf 5 = 1 by kernel_rfl, items_same _ w _ (fun i hi => ⟨0, by rw [List.getElem?_toArray, List.getElem?_replicate, if_pos (List.mem_range.1 hi)]⟩)]
theorem wpList_neq_g {ops : Array Oper} {rest : List Oper} {op : Oper} {a : Act} {w : World} {Q : Exit → Act → World → Prop} (hgd : Region.wanted op (yielded ops a.tmps) = true) (x y : Operand) {t' : TypeId} (ho : op.op = .binOp .neq 58 x y t') {xs ys : Array Value}
    (hx : a.eval x = .agg xs) (hy : a.eval y = .agg ys) (h0 : ∀ w, (Op.equalIn 10000 58 (.agg xs) (.agg ys)).run Tryz.prog w = .ok true w) (h : wpList Tryz.prog ops Q rest (a.put op.dst (.bool false)) w) : wpList Tryz.prog ops Q (op :: rest) a w :=
  wpList_step fun _ hK => by
    rw [if_pos hgd]
    unfold Oper.wp execOp
    simp only [ho, hx, hy, Sem.run_bind, run_eqGuard_agg _ _ _ _ _ _ _ (show Tryz.prog.eqGuardType Tryz.prog.depth 58 = false by kernel_rfl), run_neq_struct, h0, Result.andThen_ok, Bool.not_true]
    exact hK _ _ h
end Go.Proofs.YtdinjlglngpecaaGreatDoor
