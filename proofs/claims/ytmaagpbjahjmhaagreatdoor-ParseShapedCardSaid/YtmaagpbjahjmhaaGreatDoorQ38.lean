/- Parts: Hha. -/
import Derived.Test.YtmaagpbjahjmhaaGreatDoorQ0
import Derived.Deep.MidRow
import Derived.ChangeKeysEq
import Derived.Laws.StructEq
namespace Go.Proofs.YtmaagpbjahjmhaaGreatDoor
open Go.RowKit
theorem zAi {P:Program} {ops:Array Oper} {rest:List Oper} {op:Oper} {a:Act} {w:World} {Q:Exit→Act→World→Prop} (hgd:Region.wanted op (yielded ops a.tmps)=true) (ty:TypeId) (x:Operand) (ho:op.op= .load ty x)
  (b o:Nat) (hx:a.eval x= .pointer (some ⟨b,o,none⟩)) (cs:List Value) (d:TypeDesc) (hc:w.rangeAt b o cs)
  (hu:P.underlying ty=some d) (hd:d.isRow=true) (hi:(P.info? ty).map (·.size)=some cs.length)
  (h:wpList P ops Q rest (a.put op.dst (.agg cs.toArray)) w):wpList P ops Q (op::rest) a w:=
 wpList_step fun _ hK=>by rw[if_pos hgd];exact wp_load_mid ty x ho b o hx cs d hc hu hd hi (hK _ _ h)
theorem zQG (v:Int) (w:World):(Op.equalIn 9999 5 (.int .u8 v) (.int .u8 v)).run Tryz.prog w= .ok true w:=by
 simp[go_sem]
theorem zGy (xs:Array Value) (w:World): ∀is:List Nat,(∀i∈is,∃v,xs[i]?=some (.int .u8 v))→(Op.eqItems 9999 5 1 xs xs is).run Tryz.prog w= .ok true w
 |[],_=>rfl
 |i::is,h=>by
  obtain⟨v,hv⟩:=h i (by simp)
  have hp:(part 5 xs (i*1)).run Tryz.prog w= .ok (.int .u8 v) w:=run_part_plain w (by kernel_rfl) (by rw[Nat.mul_one];exact hv)
  have ih:=zGy xs w is (fun j hj=>h j (by simp[hj]))
  simp only[Op.eqItems,Sem.run_bind,hp,Result.andThen_ok,zQG,Bool.not_true]
  simpa using ih
theorem zKq {xs:Array Value} (h: ∀i,i<256→ ∃v,xs[i]?=some (.int .u8 v)) (w:World):(binOp .eql 34 (.agg xs) (.agg xs)).run Tryz.prog w= .ok (.bool true) w:=by
 obtain⟨i,hi⟩: ∃i,Tryz.prog.info? 5=some i:=Option.isSome_iff_exists.1 (by kernel_rfl)
 rw[run_eql_struct,run_equalIn_array w 9999 _ _ Tryz.underlying34 hi,show Tryz.prog.cellsOf 5=1 by kernel_rfl,zGy xs w _ (fun i hi=>h i (List.mem_range.1 hi))]
 rfl
theorem zKr:(Tryz.prog.info? 34).map (·.size)=some 256:=by kernel_rfl
end Go.Proofs.YtmaagpbjahjmhaaGreatDoor
