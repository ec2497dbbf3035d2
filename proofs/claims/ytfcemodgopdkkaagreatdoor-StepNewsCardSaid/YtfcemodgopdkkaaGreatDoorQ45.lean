/- Parts: Xmi. -/
import Derived.Test.YtfcemodgopdkkaaGreatDoorQ2
import Derived.Test.YtfcemodgopdkkaaGreatDoorQ9
import Derived.MapKept
namespace Go.Proofs.YtfcemodgopdkkaaGreatDoor
open Go.RowKit
def MpI (w:World) (r:Nat):Prop:= ∃es clock,w.heap[r]?=some (.map es clock)∧ ∀x∈es.toList,MapKept.IsKey (.int .i64) x.key
section
variable {w w':World} {r:Nat}
theorem MpI.new (w:World):MpI (w.alloc (.map #[] 0)) w.heap.size:=⟨#[],0,zML w _,by simp⟩
theorem MpI.lt (h:MpI w r):r<w.heap.size:=by
 obtain⟨_,_,h,_⟩:=h
 exact(zMG.1 h).1
theorem MpI.block (h:MpI w r) (hb:w'.heap[r]?=w.heap[r]?):MpI w' r:=by
 obtain⟨es,c,h1,h2⟩:=h
 exact⟨es,c,hb.trans h1,h2⟩
theorem zGV {o o':Obj} (h:w.heap[r]?=some o):zAb w { w with heap:=w.heap.setIfInBounds r o' } (fun x=>x=r):=
 ⟨rfl,rfl,rfl,Nat.le_of_eq (Array.size_setIfInBounds).symm,fun k _ hk=>(MapKept.heap_set h).2 k hk⟩
theorem zJA (h:MpI w r) (key:Int) (v:Value): ∃W,(Instr.mapUpdate 80 (.map (some r)) (.int .i64 key) v).run Tryz.prog w= .ok () W∧MpI W r∧zAb w W (fun x=>x=r):=by
 obtain⟨es,clock,hb,hks⟩:=h
 have hk:MapKept.IsKey (.int .i64) (.int .i64 key):=rfl
 rcases MapKept.findNow_spec hk es.toList 0 hks with ⟨h1,h2⟩|⟨j,e,h1,h2,h3⟩
 ·refine⟨{ w with heap:=w.heap.setIfInBounds r (.map (es.push ⟨.int .i64 key,v,clock⟩) (clock+1)) },?_,⟨_,_,(MapKept.heap_set hb).1,fun x hx=>?_⟩,zGV hb⟩
  ·simp[Instr.mapUpdate,run_underlying Tryz.underlying80,MapKept.run_getObj_map hb,MapKept.run_checkKey Tryz.underlying3 hk,MapKept.run_findKey Tryz.underlying3 h1,MapKept.run_setObj_map _ hb,Result.andThen]
  ·simp only[Array.toList_push,List.mem_append,List.mem_singleton]at hx
   rcases hx with hx|rfl
   ·exact hks x hx
   ·exact hk
 ·have hj:es[j]?=some e:=by simpa using h2
  refine⟨{ w with heap:=w.heap.setIfInBounds r (.map (es.modify j fun e'=> { e' with key:= .int .i64 key,val:=v }) clock) },?_,⟨_,_,(MapKept.heap_set hb).1,?_⟩,zGV hb⟩
  ·simp[Instr.mapUpdate,run_underlying Tryz.underlying80,MapKept.run_getObj_map hb,MapKept.run_checkKey Tryz.underlying3 hk,MapKept.run_findKey Tryz.underlying3 h1,hj,h3,MapKept.run_keyThatStays hk,MapKept.run_setObj_map _ hb,Result.andThen]
  ·exact MapKept.isKey_modify hks _ _ fun e' he'=>by rw[hj]at he';cases he';exact h3.symm
end
theorem zFO {w:World} {r:Nat} {key:Int} {v:Value} {ops:Array Oper} {rest:List Oper} {op:Oper} {a:Act} {Q:Exit→Act→World→Prop} (hgd:op.guard=none) (m k x:Operand)
  (hop:op.op= .mapUpdate 80 m k x) (hm:a.eval m= .map (some r)) (hk:a.eval k= .int .i64 key) (hx:a.eval x=v) (h:MpI w r)
  (hc: ∀W,MpI W r→zAb w W (fun x=>x=r)→wpList Tryz.prog ops Q rest (a.put op.dst undef) W):wpList Tryz.prog ops Q (op::rest) a w:=by
 obtain⟨W,h1,h2,h3⟩:=zJA h key v
 exact wpList_plain hgd fun _ hK=>by
  unfold Oper.wp execOp
  simp only[hop,hm,hk,hx,h1,Sem.run_bind,Result.andThen_ok]
  exact hK _ _ (hc W h2 h3)
end Go.Proofs.YtfcemodgopdkkaaGreatDoor
