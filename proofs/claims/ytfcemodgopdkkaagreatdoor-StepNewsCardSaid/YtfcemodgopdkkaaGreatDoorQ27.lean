/- Parts: Gxa Ywa Zba. -/
import Derived.Test.YtfcemodgopdkkaaGreatDoorQ14
import Derived.Test.YtfcemodgopdkkaaGreatDoorQ15
import Derived.Test.YtfcemodgopdkkaaGreatDoorQ11
import Derived.Test.YtfcemodgopdkkaaGreatDoorQ2
import Derived.Deep.Grids
import Derived.Deep.MidRow
import Derived.Deep.WholeRow
namespace Go.Proofs.YtfcemodgopdkkaaGreatDoor
section
open Go.ChangeShapes Go.WideShapes Go.RowKit Go.Deep
theorem zCx {cs l:List Value} {off k:Nat} (h:(cs.drop off).take k=l) {j:Nat} (hj:j<k):cs[off+j]?=l[j]?:=by
 rw[←h,List.getElem?_take,if_pos hj,List.getElem?_drop]
theorem zCr {α:Type} {l:List α} (h:l.length=3): ∃a b c,l=[a,b,c]:=by
 match l,h with
 |[a,b,c],_=>exact⟨a,b,c,rfl⟩
theorem zBG {cs:List Value} {off:Nat} {v:Value} (h:(cs.drop off).take 1=[v]):cs[off]?=some v:=by
 have:=zCx h (j:=0) (by decide)
 simpa using this
section
variable {H:Type} {enc:TypeId × Value→H} {w:World} {spare:Nat→Bool} {held:Bool}
theorem zEy {n:Nat} {cs:List Value} {x:DataW H × List MemPlace} (h:DataW.trod enc Tryz.prog w 0 spare held n 66 cs=some x) (hz:Sz 66 x.1):
  ∃(k m:Int) (oa:Option Addr) (re:List Nd) (ca:Nat),cs=[.int .i8 k,.int .i64 m,.slice oa re.length ca]∧NdW w oa ca re∧re.length*72≤140737488351232∧ -128≤k∧k≤127:=by
 obtain⟨xs,n',_,hx,hl,hxl,hf⟩:=DataW.trod_struct Tryz.underlying66 h
 have hl2:cs.length=3:=hl.trans (by kernel_rfl)
 obtain⟨c0,c1,c2,rfl⟩:=zCr hl2
 obtain⟨x0,x1,x2,rfl⟩:=zCr hxl
 have h0:=fld hf (i:=0) (ty:=63) (off:=0) (k:=1) rfl rfl rfl (by kernel_rfl)
 have h1:=fld hf (i:=1) (ty:=3) (off:=1) (k:=1) rfl rfl rfl (by kernel_rfl)
 have h2:=fld hf (i:=2) (ty:=64) (off:=2) (k:=1) rfl rfl rfl (by kernel_rfl)
 simp only[List.drop_zero,List.take_succ_cons,List.take_zero,List.drop_succ_cons,List.getElem?_cons_zero,List.getElem?_cons_succ]at h0 h1 h2
 obtain⟨k,e0,_,w0⟩:=DataW.trod_int Tryz.underlying63 h0
 obtain⟨m,e1,_,_⟩:=DataW.trod_int Tryz.underlying3 h1
 obtain⟨oa,len,ca,e2⟩:=zAj Tryz.underlying64 h2
 simp only[List.cons.injEq,and_true]at e0 e1 e2
 subst e0 e1 e2
 obtain⟨re,hl,hm,_⟩:=zDx (d:=x2.1) (p:=x2.2) Tryz.underlying64 ⟨n',h2⟩ rfl
 subst hl
 have hx1:x.1= .agg [x0.1,x1.1,x2.1]:=congrArg Prod.fst hx
 rw[hx1]at hz
 have:=zBI Tryz.underlying64 h2 (Sz.fld Tryz.underlying66 hz (i:=2) rfl rfl)
 rw[show Tryz.prog.bytesOf 127=72 by kernel_rfl]at this
 exact⟨k,m,oa,re,ca,rfl,hm,this,bounds_i8 w0⟩
theorem NdW.srcZ {oa:Option Addr} {cap:Nat} {re:List Nd} (h:NdW w oa cap re):Src w (.slice oa re.length cap) re.length (zBb re):=by
 cases oa with
 |none=>
  obtain⟨rfl,rfl⟩:=h.no rfl
  exact .inl ⟨rfl,rfl,rfl⟩
 |some a=>
  refine .inr ⟨a,cap,rfl,fun j u hu=>?_⟩
  have hj:j<(zBb re).length:=(zMF.1 hu).1
  rw[zAi]at hj
  obtain⟨nb,no,h1,_,h3⟩:=h.at_ (by omega)
  injection h1 with h1
  subst h1
  have hc:=zBH re (j / 9) (j % 9) (by omega) (Nat.mod_lt _ (by decide))
  rw[show j / 9*9+j % 9=j by omega,hu]at hc
  rw[zAq,show no+j=no+j / 9*9+j % 9 by omega,h3 (j / 9) (by omega) (j % 9) (Nat.mod_lt _ (by decide)),←hc]
end
end
section
open Go.RowKit
theorem zAT {P:Program} {ops:Array Oper} {rest:List Oper} {o:Oper} {a:Act} {w:World} {Q:Exit→Act→World→Prop} (hgd:Region.wanted o (yielded ops a.tmps)=true) (ty:TypeId) (x:Operand) (ho:o.op= .load ty x)
  (g:Nat) (hx:a.eval x= .pointer (some ⟨g,0,none⟩)) (t:TypeId) (cs:Array Value) (fr:Nat × Nat) (d:TypeDesc) (hg:w.heap[g]?=some (.cells cs t fr))
  (hu:P.underlying ty=some d) (hd:(match d with| .struct _| .array _ _=>true|_=>false)=true) (hi:(P.info? ty).map (·.size)=some cs.size)
  (h:wpList P ops Q rest (a.put o.dst (.agg cs)) w):wpList P ops Q (o::rest) a w:=
 wpList_step fun _ hK=>by rw[if_pos hgd];exact wp_load_row ty x ho g hx t cs fr d hg hu hd hi (hK _ _ h)
theorem zHc: ∀w,(Op.equalIn 10000 69 (.agg (List.replicate 256 (Value.int .u8 0)).toArray) (.agg Tryz.zeroCells69)).run Tryz.prog w= .ok true w:=fun w=>by
 obtain⟨i,hi⟩: ∃i,Tryz.prog.info? 5=some i:=Option.isSome_iff_exists.1 (by kernel_rfl)
 rw[show Tryz.zeroCells69=(List.replicate 256 (Value.int .u8 0)).toArray by kernel_rfl,run_equalIn_array w 9999 _ _ Tryz.underlying69 hi,show Tryz.prog.cellsOf 5=1 by kernel_rfl,zCs _ w _ (fun i hi=>⟨0,by rw[List.getElem?_toArray,List.getElem?_replicate,if_pos (List.mem_range.1 hi)]⟩)]
theorem zES {ops:Array Oper} {rest:List Oper} {op:Oper} {a:Act} {w:World} {Q:Exit→Act→World→Prop} (hgd:Region.wanted op (yielded ops a.tmps)=true) (x y:Operand) {t':TypeId} (ho:op.op= .binOp .neq 69 x y t') {xs ys:Array Value}
  (hx:a.eval x= .agg xs) (hy:a.eval y= .agg ys) (h0: ∀w,(Op.equalIn 10000 69 (.agg xs) (.agg ys)).run Tryz.prog w= .ok true w) (h:wpList Tryz.prog ops Q rest (a.put op.dst (.bool false)) w):wpList Tryz.prog ops Q (op::rest) a w:=
 wpList_step fun _ hK=>by
  rw[if_pos hgd]
  unfold Oper.wp execOp
  simp only[ho,hx,hy,Sem.run_bind,run_eqGuard_agg _ _ _ _ _ _ _ (show Tryz.prog.eqGuardType Tryz.prog.depth 69=false by kernel_rfl),run_neq_struct,h0,Result.andThen_ok,Bool.not_true]
  exact hK _ _ h
end
section
open Go.RowKit
structure CmB (w:World) (b:Nat) (l:List Value):Prop where
 heap:w.heap[b]?=some (.cells l.toArray 71 (0,0))
 cl:zBc l
section
variable {w w':World} {b:Nat} {l:List Value}
theorem CmB.lt (h:CmB w b l):b<w.heap.size:=(zMG.1 h.heap).1
theorem CmB.cell (h:CmB w b l) (j:Nat):w.cell? ⟨b,j,none⟩=l[j]?:=(zMN _ _ j _ _ (0,0) h.heap).trans (by simp)
theorem CmB.fz (h:CmB w b l) (j:Nat):w.frozen? ⟨b,j,none⟩=false:=zAm h.heap j
theorem CmB.block (h:CmB w b l) (hb:w'.heap[b]?=w.heap[b]?):CmB w' b l:=⟨hb.trans h.heap,h.cl⟩
theorem CmB.below (h:CmB w b l) (hb:Below w.heap.size w w'):CmB w' b l:=h.block (hb.block b h.lt)
theorem CmB.other (h:CmB w b l) {c:Nat} (hc:b≠c) (o:Nat) (v:Value):CmB (w.setCell ⟨c,o,none⟩ v) b l:=h.block (zMI _ _ _ _ hc)
theorem CmB.set (h:CmB w b l) (i:Nat) {v:Value} (hv:v.oneCell'=true):CmB (w.setCell ⟨b,i,none⟩ v) b (l.set i v):=
 ⟨by
  rw[setCell_eq_setRow w b i _ _ _ v h.heap,setRow_heap w b _ _ _ _ h.heap]
  simp,h.cl.set i hv⟩
theorem CmB.new (hl:zBc l) (w:World):CmB (w.alloc (.cells l.toArray 71)) w.heap.size l:=⟨zML w _,hl⟩
end
theorem CmB.tab2 {w:World} {b:Nat} {l:List Value} (h:CmB w b l):w.rangeAt b 16 (l.drop 16):=fun j v hv=>by
 rw[h.cell,←hv,List.getElem?_drop]
theorem CmB.row2 {w:World} {b:Nat} {l:List Value} (h:CmB w b l):w.rangeAt b 0 l:=fun j v hv=>by rw[h.cell,Nat.zero_add,←hv]
end
end Go.Proofs.YtfcemodgopdkkaaGreatDoor
