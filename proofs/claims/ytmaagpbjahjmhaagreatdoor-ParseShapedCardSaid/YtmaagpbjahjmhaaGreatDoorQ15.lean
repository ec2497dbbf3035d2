/- Parts: Fua. -/
import Derived.Test.YtmaagpbjahjmhaaGreatDoorQ6
import Derived.Deep.WholeRow
namespace Go.Proofs.YtmaagpbjahjmhaaGreatDoor
open Go.RowKit
theorem zFg:Tryz.zeroCells36.toList.length=272:=by kernel_rfl
theorem zPM: ∀v∈Tryz.zeroCells36.toList,v.oneCell'=true:=by
 have h:Tryz.zeroCells36.toList.all (·.oneCell')=true:=by kernel_rfl
 exact List.all_eq_true.1 h
theorem zCe:(Tryz.prog.info? 36).map (·.size)=some 272:=by kernel_rfl
structure zEq (l:List Value):Prop where
 len:l.length=272
 one: ∀v∈l,v.oneCell'=true
theorem zEq.zero:zEq Tryz.zeroCells36.toList:=⟨zFg,zPM⟩
theorem zEq.set {l:List Value} (h:zEq l) (i:Nat) {v:Value} (hv:v.oneCell'=true):zEq (l.set i v):=
 ⟨by rw[List.length_set];exact h.len,fun x hx=>(List.mem_or_eq_of_mem_set hx).elim (h.one x) (fun e=>e▸hv)⟩
theorem zEq.store {l:List Value} (h:zEq l) (w:World):(storeCells ⟨w.heap.size,0,none⟩ l 0).run Tryz.prog (w.alloc (.cells Tryz.zeroCells36 36))= .ok () (w.alloc (.cells l.toArray 36)):=by
 have:=run_storeCells_new (P:=Tryz.prog) w 36 Tryz.zeroCells36 l.toArray (by rw[zCe,List.size_toArray,h.len]) (by rw[←Array.length_toList,zFg,List.size_toArray,h.len]) (by
  rw[←Array.all_toList,List.all_eq_true];exact h.one)
 simpa using this
end Go.Proofs.YtmaagpbjahjmhaaGreatDoor
