/- Parts: Ypb. -/
import Derived.Test.YtmaagpbjahjmhaaGreatDoorQ31
import Derived.Great.BuildSlice
namespace Go.Proofs.YtmaagpbjahjmhaaGreatDoor
open Go.RowKit
theorem zKh {ops:Array Oper} {rest:List Oper} {op:Oper} {a:Act} {w:World} {Q:Exit→Act→World→Prop} (hgd:op.guard=none) (x:Operand) (hop:op.op= .buildSlice 24 1 #[(0,x)]) {l:List Value} (hx:a.eval x= .agg l.toArray) (hl:zEq l)
  (h:wpList Tryz.prog ops Q rest (a.put op.dst (.slice (some ⟨w.heap.size,0,none⟩) 1 1)) (w.alloc (.cells l.toArray 36))):wpList Tryz.prog ops Q (op::rest) a w:=by
 obtain⟨i,hi,hz0,hz1,_⟩:=info_parts zQZ.hi
 refine wpList_buildSlice hgd 24 36 1 #[(0,x)] hop l.toArray i _ Tryz.underlying24 hi hz0 (by rw[hz1];decide) (by rw[hz1];decide) ?_ h
 rw[hz1]
 have hs:(Value.agg l.toArray).cells.size=272:=by
  show l.toArray.size=272
  rw[List.size_toArray,hl.len]
 have hfw:=Go.Great.fill_whole (s:=272) (by decide) [Value.agg l.toArray] ((Array.range (1*272)).map ((Value.agg Tryz.zeroCells36).cells[· % (Value.agg Tryz.zeroCells36).cells.size]!)) (by simpa using hs) (by simp)
 have e:(Array.map (fun p:Nat × Operand=>(p.1,a.eval p.2)) #[(0,x)]).toList=([Value.agg l.toArray].zipIdx 0).map fun x=>(x.2,x.1):=by simp[hx]
 have e2:(([Value.agg l.toArray]:List Value).flatMap fun v=>v.cells.toList).toArray=l.toArray:=by simp[Value.cells]
 rw[e2]at hfw
 exact(congrArg _ e).trans hfw
end Go.Proofs.YtmaagpbjahjmhaaGreatDoor
