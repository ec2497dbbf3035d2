/- Parts: Fu. -/
import Derived.Test.YtfjbnpdffillbaaGreatDoorQ16
import Derived.Deep.WholeRow
namespace Go.Proofs.YtfjbnpdffillbaaGreatDoor
open Go.RowKit
theorem zIE:Tryz.zeroCells91.toList.length=272:=by kernel_rfl
theorem zOV: ∀v∈Tryz.zeroCells91.toList,v.oneCell'=true:=by
 have h:Tryz.zeroCells91.toList.all (·.oneCell')=true:=by kernel_rfl
 exact List.all_eq_true.1 h
theorem zKY:(Tryz.prog.info? 91).map (·.size)=some 272:=by kernel_rfl
structure zNm (l:List Value):Prop where
 len:l.length=272
 one: ∀v∈l,v.oneCell'=true
theorem zNm.zero:zNm Tryz.zeroCells91.toList:=⟨zIE,zOV⟩
theorem zNm.set {l:List Value} (h:zNm l) (i:Nat) {v:Value} (hv:v.oneCell'=true):zNm (l.set i v):=
 ⟨by rw[List.length_set];exact h.len,fun x hx=>(List.mem_or_eq_of_mem_set hx).elim (h.one x) (fun e=>e▸hv)⟩
theorem zNm.store {l:List Value} (h:zNm l) (w:World):(storeCells ⟨w.heap.size,0,none⟩ l 0).run Tryz.prog (w.alloc (.cells Tryz.zeroCells91 91))= .ok () (w.alloc (.cells l.toArray 91)):=by
 have:=run_storeCells_new (P:=Tryz.prog) w 91 Tryz.zeroCells91 l.toArray (by rw[zKY,List.size_toArray,h.len]) (by rw[←Array.length_toList,zIE,List.size_toArray,h.len]) (by
  rw[←Array.all_toList,List.all_eq_true];exact h.one)
 simpa using this
theorem zOW {l:List Value} {ka na kb nb:Int} {nt:Bool} (h0:l[0]?=some (.int .i8 ka)) (h1:l[1]?=some (.int .i64 na)) (h2:l[2]?=some (.slice none 0 0)) (h3:l[3]?=some (.int .i8 kb)) (h4:l[4]?=some (.int .i64 nb)) (h5:l[5]?=some (.slice none 0 0)) (h6:l[6]?=some (.bool nt)):
  zPB l.toArray ka na none 0 0 kb nb none 0 0 nt:=⟨by simpa using h0,by simpa using h1,by simpa using h2,by simpa using h3,by simpa using h4,by simpa using h5,by simpa using h6⟩
end Go.Proofs.YtfjbnpdffillbaaGreatDoor
