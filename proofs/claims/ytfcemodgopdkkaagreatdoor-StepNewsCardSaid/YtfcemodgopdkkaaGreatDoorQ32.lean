/- Parts: Xl. -/
import Derived.Test.YtfcemodgopdkkaaGreatDoorQ2
import Derived.Test.YtfcemodgopdkkaaGreatDoorQ0
import Derived.MapKept
namespace Go.Proofs.YtfcemodgopdkkaaGreatDoor
open Go.RowKit
theorem zJb:ElT Tryz.prog 24 9 1 16 (.string ⟨#[]⟩):=⟨Tryz.underlying24,by kernel_rfl,rfl,by decide⟩
def zBN (T:List Nat):ByteArray:=strOfNums (T.map fun b:Nat=>(b:Int))
theorem zCA {T U:List Nat} (h: ∀b∈T,b<256) (k: ∀b∈U,b<256):zBN T=zBN U↔T=U:=
 ⟨fun e=>by rw[←zB5 T h,←zB5 U k];exact congrArg zAs e,fun e=>by rw[e]⟩
theorem zEQ (a:ByteArray):(a==a)=true:=by
 show(a.data==a.data)=true
 simp
theorem zKR {a b:ByteArray} (h:a≠b):(a==b)=false:=by
 cases e:(a==b)with
 |false=>rfl
 |true=>
  have e2:(a.data==b.data)=true:=e
  refine absurd ?_ h
  cases a
  cases b
  simpa using e2
def zIh:List (List Nat × Nat)→Nat→List MapEntry
 |[],_=>[]
 |p::l,c=>⟨.string (zBN p.1),.int .i64 (p.2:Nat),c⟩::zIh l (c+1)
theorem zFC: ∀(l:List (List Nat × Nat)) (p:List Nat × Nat) (c:Nat),zIh (l++[p]) c=zIh l c++[⟨.string (zBN p.1),.int .i64 (p.2:Nat),c+l.length⟩]
 |[],_,_=>rfl
 |q::l,p,c=>by
  simp only[List.cons_append,zIh,zFC l p (c+1),List.length_cons,show c+1+l.length=c+(l.length+1)by omega]
def LaB (l:List (List Nat × Nat)):Prop:= ∀p∈l,∀b∈p.1,b<256
theorem zDd {t:List Nat} (ht: ∀b∈t,b<256): ∀(l:List (List Nat × Nat)),LaB l→ ∀(c i:Nat),match zBM t l with
  |none=>Instr.findNow .string (.string (zBN t)) (zIh l c) i=some none
  |some m=> ∃j,Instr.findNow .string (.string (zBN t)) (zIh l c) i=some (some (j,.int .i64 (m:Nat)))
 |[],_,_,_=>rfl
 |(a,k)::l,hl,c,i=>by
  have ha: ∀b∈a,b<256:=hl (a,k) (by simp)
  have ih:=zDd ht l (fun p hp=>hl p (by simp[hp])) (c+1) (i+1)
  by_cases h1:a=t
  ·subst h1
   rw[zBM,if_pos rfl]
   refine⟨i,?_⟩
   simp only[zIh,Instr.findNow,Instr.sameNow,zEQ]
  ·rw[zBM,if_neg h1]
   have e:(zBN t==zBN a)=false:=zKR fun e=>h1 ((zCA ht ha).1 e).symm
   simp only[zIh,Instr.findNow,Instr.sameNow,e]
   exact ih
def MpL (w:World) (r:Nat) (l:List (List Nat × Nat)):Prop:=LaB l∧w.heap[r]?=some (.map (zIh l 0).toArray l.length)
def zHM (w:World) (r:Nat) (t:List Nat) (k:Nat) (l:List (List Nat × Nat)):World:= { w with heap:=w.heap.setIfInBounds r (.map (zIh (l++[(t,k)]) 0).toArray (l.length+1)) }
section
variable {w w':World} {r k:Nat} {t:List Nat} {l:List (List Nat × Nat)}
theorem MpL.lt (h:MpL w r l):r<w.heap.size:=(zMG.1 h.2).1
theorem MpL.nil (w:World):MpL (w.alloc (.map #[] 0)) w.heap.size []:=⟨fun p hp=>by simp at hp,zML w _⟩
theorem MpL.block (h:MpL w r l) (hb:w'.heap[r]?=w.heap[r]?):MpL w' r l:=⟨h.1,hb.trans h.2⟩
theorem MpL.ins (h:MpL w r l) (ht: ∀b∈t,b<256):MpL (zHM w r t k l) r (l++[(t,k)]):=by
 have:=(MapKept.heap_set (o':= .map (zIh (l++[(t,k)]) 0).toArray (l.length+1)) h.2).1
 refine⟨fun p hp=>?_,?_⟩
 ·rcases zMd.1 hp with hp|hp
  ·exact h.1 p hp
  ·simp only[List.mem_singleton]at hp
   subst hp
   exact ht
 ·rw[zMS]
  exact this
theorem zCF (h:MpL w r l) {b:Nat} (hb:b≠r):(zHM w r t k l).heap[b]?=w.heap[b]?:=(MapKept.heap_set h.2).2 b hb
theorem zDb:(zHM w r t k l).heap.size=w.heap.size:=by simp[zHM]
theorem zHX {B:Nat} {w0:World} (hb:Below B w0 w) (h:MpL w r l) (hr:B≤r):Below B w0 (zHM w r t k l):=
 ⟨hb.os,hb.tape,hb.output,zMV hb.size (Nat.le_of_eq zDb.symm),fun k hk=>(zCF h (by omega)).trans (hb.block k hk)⟩
theorem zI9 (h:MpL w r l) (ht: ∀b∈t,b<256) (hn:zBM t l=none):
  (Instr.mapUpdate 134 (.map (some r)) (.string (zBN t)) (.int .i64 (k:Nat))).run Tryz.prog w= .ok () (zHM w r t k l):=by
 have hf:=zDd ht l h.1 0 0
 rw[hn]at hf
 have hb:=h.2
 simp[Instr.mapUpdate,run_underlying Tryz.underlying134,MapKept.run_getObj_map hb,MapKept.run_checkKey Tryz.underlying9 (k:= .string (zBN t)) trivial,MapKept.run_findKey Tryz.underlying9 hf,MapKept.run_setObj_map _ hb,Result.andThen,zHM,zFC]
theorem zHy (h:MpL w r l) (ht: ∀b∈t,b<256):
  (Instr.lookup 134 (.map (some r)) (.string (zBN t)) true).run Tryz.prog w= .ok (match zBM t l with|none=> .tuple #[.int .i64 0,.bool false]|some m=> .tuple #[.int .i64 (m:Nat),.bool true]) w:=by
 have hf:=zDd ht l h.1 0 0
 have hb:=h.2
 have hz:(zeroValue 3).run Tryz.prog w= .ok (.int .i64 0) w:=by kernel_rfl
 cases hq:zBM t l with
 |none=>
  rw[hq]at hf
  simp[Instr.lookup,run_underlying Tryz.underlying134,MapKept.run_getObj_map hb,MapKept.run_checkKey Tryz.underlying9 (k:= .string (zBN t)) trivial,MapKept.run_findKey Tryz.underlying9 hf,Result.andThen,hz]
 |some m=>
  rw[hq]at hf
  obtain⟨j,hf⟩:=hf
  simp[Instr.lookup,run_underlying Tryz.underlying134,MapKept.run_getObj_map hb,MapKept.run_checkKey Tryz.underlying9 (k:= .string (zBN t)) trivial,MapKept.run_findKey Tryz.underlying9 hf,Result.andThen]
end
theorem zFN {w:World} {r kk:Nat} {t:List Nat} {l:List (List Nat × Nat)} {ops:Array Oper} {rest:List Oper} {op:Oper} {a:Act} {Q:Exit→Act→World→Prop} (hgd:op.guard=none) (m k x:Operand)
  (hop:op.op= .mapUpdate 134 m k x) (hm:a.eval m= .map (some r)) (hk:a.eval k= .string (zBN t)) (hx:a.eval x= .int .i64 (kk:Nat)) (h:MpL w r l) (ht: ∀b∈t,b<256) (hn:zBM t l=none)
  (hc:wpList Tryz.prog ops Q rest (a.put op.dst undef) (zHM w r t kk l)):wpList Tryz.prog ops Q (op::rest) a w:=
 wpList_plain hgd fun _ hK=>by
  unfold Oper.wp execOp
  simp only[hop,hm,hk,hx,zI9 h ht hn,Sem.run_bind,Result.andThen_ok]
  exact hK _ _ hc
theorem zBf {w:World} {r:Nat} {t:List Nat} {l:List (List Nat × Nat)} {ops:Array Oper} {rest:List Oper} {op:Oper} {a:Act} {Q:Exit→Act→World→Prop} (hgd:op.guard=none) (m k:Operand)
  (hop:op.op= .lookup 134 m k true) (hm:a.eval m= .map (some r)) (hk:a.eval k= .string (zBN t)) (h:MpL w r l) (ht: ∀b∈t,b<256)
  (hc:wpList Tryz.prog ops Q rest (a.put op.dst (match zBM t l with|none=> .tuple #[.int .i64 0,.bool false]|some m=> .tuple #[.int .i64 (m:Nat),.bool true])) w):wpList Tryz.prog ops Q (op::rest) a w:=
 wpList_plain hgd fun _ hK=>by
  unfold Oper.wp execOp
  simp only[hop,hm,hk,zHy h ht,Sem.run_bind,Result.andThen_ok]
  exact hK _ _ hc
end Go.Proofs.YtfcemodgopdkkaaGreatDoor
