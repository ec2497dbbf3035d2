/- Parts: Ye Za Yg. -/
import Derived.Test.YtfcemodgopdkkaaGreatDoorQ22
import Derived.Test.YtfcemodgopdkkaaGreatDoorQ7
import Derived.Test.YtfcemodgopdkkaaGreatDoorQ15
import Derived.Test.YtfcemodgopdkkaaGreatDoorQ18
import Derived.Test.YtfcemodgopdkkaaGreatDoorQ11
import Derived.Laws.Cover3
import Derived.Laws.CopyOwn
import Derived.Deep.MidRow
import Derived.Laws.ResultCell
set_option maxHeartbeats 1600000
set_option maxRecDepth 100000
namespace Go.Proofs.YtfcemodgopdkkaaGreatDoor
section
open Go.RowKit
theorem zJ6 {w:World} {g:Nat} {cs:Array Value} :(w.setRow g cs).heap.size=w.heap.size:=by simp[World.setRow]
theorem zBU.below {w w':World} {oa:Option Addr} {T:List Nat} (h:zBU w oa T) (hb:Below w.heap.size w w'):zBU w' oa T:=fun hp=>by
 obtain⟨g,o,h1,h2⟩:=h hp
 exact⟨g,o,h1,fun i hi=>(hb.cell (zMf w _ (h2 i hi))).trans (h2 i hi)⟩
section
variable {w:World} {f g:List Nat} {oa ob:Option Addr} {ca cb:Nat}
end
end
section
open Go.RowKit
theorem zCD {w:World} {base:Nat} {e:TypeId} {size:Nat} {o:Option Addr} {n c:Nat} {xs:List Value} (h:w.ownsRow base e size (.slice o n c) n xs):n≤maxLen:=by
 rcases h.2 with ⟨h1,h2⟩|⟨g,cap,cur,h1,hb,hg,hnc,hcm,hcs,ht⟩
 ·omega
 ·exact zMV hnc hcm
section
variable {w w':World} {base:Nat} {l:List Value} {c:Cm} {oa ob:Option Addr} {ca cb:Nat} {T:List Nat} {re:List Nd} {P:List Pc}
theorem zBR {n:Nat} (h:n≤maxLen):(n:Int)≤9223372036854775807:=by unfold maxLen at h;omega
theorem zGZ (ha:zBU w oa T) (hb:zBU w ob T) (z:T.length≤maxLen):
  Calls Tryz.prog 52 #[.slice oa T.length ca,.slice ob T.length cb] w fun e w'=>e= .returned (.bool true)∧Below w.heap.size w w':=by
 have HA:=zL8 ha
 have HB:=zL8 hb
 have hz:=zBR z
 clear ha hb z
 go_enter Tryz.func52,Tryz.ntmps52
 go_wp2_with fail
 go_loopg [5] T.length (fun n iv wr=> ∃d:Nat,iv= .int .i64 (d:Nat)∧n=T.length - d∧d≤T.length∧Below w.heap.size w wr)
 case atStart=>exact⟨0,rfl,by omega,by omega,zL9 _ _⟩
 case round=>
  obtain⟨d,rfl,hg,hd,hbe⟩:=hrel
  have HG:=zL8 hg
  have HBE:=zL8 hbe
  clear hg
  by_cases hlt:d<T.length
  ·have hlt':(d:Int)<(T.length:Int):=by omega
   obtain⟨na,oo,rfl,hna⟩:=(HA.out.below hbe) (by omega)
   obtain⟨nb,ob',rfl,hnb⟩:=(HB.out.below hbe) (by omega)
   have n0:=hna d hlt
   have m0:=hnb d hlt
   have nal:=zMf _ _ n0
   have nbl:=zMf _ _ m0
   revert n0 m0
   generalize T.getD d 0=x
   intro n0 m0
   have e1:((x:Int) !=(x:Int))=false:=by simp
   clear hna hnb hbe
   go_wp2_with fail
   refine zAA (X:=none) 9 [] [0,1,2,3,4,5,6,7,8] (by kernel_rfl) (by kernel_rfl) rfl (fun _ _ _ _ _ h=>h) ?_
   simp only[zAJ,zAC,zAD,zAB,List.getD_cons_zero,List.getD_cons_succ,List.drop_succ_cons,List.drop_nil]
   repeat (go_big_quiet_step (fail))
   refine wpQuiet_nil ?_
   go_wp2_with fail
   go_roundg (T.length - (d+1))
   case measure=>have:=HG.out;omega
   case rel=>exact⟨d+1,by go_num,rfl,by omega,HBE.out.drew⟩
  ·have hlt': ¬(d:Int)<(T.length:Int):=by omega
   clear hbe
   go_wp2_with fail
   go_ret
   exact⟨rfl,HBE.out⟩
theorem zGY (ha:NdU w oa re) (hb:NdU w ob re) (z:re.length≤maxLen):
  Calls Tryz.prog 171 #[.slice oa re.length ca,.slice ob re.length cb] w fun e w'=>e= .returned (.bool true)∧Below w.heap.size w w':=by
 have HA:=zL8 ha
 have HB:=zL8 hb
 have hla:=zBR z
 clear ha hb z
 go_enter Tryz.func171,Tryz.ntmps171
 go_wp2_with fail
 go_loopg [5] re.length (fun n iv wr=> ∃d:Nat,iv= .int .i64 (d:Nat)∧n=re.length - d∧d≤re.length∧Below w.heap.size w wr)
 case atStart=>exact⟨0,rfl,by omega,by omega,zL9 _ _⟩
 case round=>
  obtain⟨d,rfl,hg,hd,hbe⟩:=hrel
  have HG:=zL8 hg
  have HBE:=zL8 hbe
  clear hg
  by_cases hlt:d<re.length
  ·have hlt':(d:Int)<(re.length:Int):=by omega
   obtain⟨na,oo,rfl,nal0,hna⟩:=HA.out (by omega)
   obtain⟨nb,ob',rfl,nbl0,hnb⟩:=HB.out (by omega)
   obtain⟨x,hx⟩: ∃x,re[d]?=some x:=⟨_,zMP hlt⟩
   have hna2: ∀i,i<re.length→ ∀j,j<9→wr.cell? ⟨na,oo+i*9+j,none⟩=(zAY (re.getD i Nd.zero))[j]?:=fun i hi j hj=>(hbe.cell (p:=⟨na,oo+i*9+j,none⟩) nal0).trans (hna i hi j hj)
   have hnb2: ∀i,i<re.length→ ∀j,j<9→wr.cell? ⟨nb,ob'+i*9+j,none⟩=(zAY (re.getD i Nd.zero))[j]?:=fun i hi j hj=>(hbe.cell (p:=⟨nb,ob'+i*9+j,none⟩) nbl0).trans (hnb i hi j hj)
   obtain⟨n0,n1,n2,n3,n4,n5,n6,n7,n8⟩:=NdU.cells hna2 hx
   obtain⟨m0,m1,m2,m3,m4,m5,m6,m7,m8⟩:=NdU.cells hnb2 hx
   have nal:na<wr.heap.size:=zMB nal0 hbe.size
   have nbl:nb<wr.heap.size:=zMB nbl0 hbe.size
   have hq:=zKF x x
   have HX:=zL8 hx
   clear hna hnb hna2 hnb2 hbe hx nal0 nbl0
   rw[show(!decide (x=x))=false by simp]at hq
   obtain⟨op,⟨x0,x1,x2,x3⟩,xn,xmin,xmax,xk⟩:=x
   simp only[ndV]at n0 n1 n2 n3 n4 n5 n6 n7 n8 m0 m1 m2 m3 m4 m5 m6 m7 m8 hq
   go_wp2_with fail
   refine zAA (X:=none) 9 [] [0,1,2,3,4,5,6,7,8] (by kernel_rfl) (by kernel_rfl) rfl (fun _ _ _ _ _ h=>h) ?_
   simp only[zAJ,zAC,zAD,zAB,List.getD_cons_zero,List.getD_cons_succ,List.drop_succ_cons,List.drop_nil]
   repeat (go_big_quiet_step (fail))
   refine wpQuiet_nil ?_
   go_wp2_with fail
   go_roundg (re.length - (d+1))
   case measure=>have:=HG.out;omega
   case rel=>exact⟨d+1,by go_num,rfl,by omega,HBE.out.drew⟩
  ·have hlt': ¬(d:Int)<(re.length:Int):=by omega
   have hde:d=re.length:=by omega
   subst hde
   go_wp2_with fail
   go_ret
   exact⟨rfl,HBE.out⟩
theorem zIg (k n:Int) (ha:NdU w oa re) (hb:NdU w ob re) (z:re.length≤maxLen):
  Calls Tryz.prog 170 #[.agg #[.int .i8 k,.int .i64 n,.slice oa re.length ca],.agg #[.int .i8 k,.int .i64 n,.slice ob re.length cb]] w fun e w'=>e= .returned (.bool true)∧Below w.heap.size w w':=by
 have hb1:=((zL9 w.heap.size w).alloc (zMA _) (.cells #[.int .i8 k,.int .i64 n,.slice oa re.length ca] 66)).alloc (by simp) (.cells #[.int .i8 k,.int .i64 n,.slice ob re.length cb] 66)
 have HE:=zL8 (zGY (ca:=ca) (cb:=cb) (ha.below hb1) (hb.below hb1) z)
 have HB:=zL8 hb1
 clear ha hb hb1
 go_enter Tryz.func170,Tryz.ntmps170
 go_wp2_with fail
 refine HE.out.mono ?_;rintro e w1 ⟨rfl,hb1⟩
 have HB1:=zL8 (HB.out.trans (hb1.mono HB.out.size))
 clear hb1
 go_wp2_with fail
 go_ret
 exact⟨rfl,HB1.out⟩
theorem zJa (k:Int) (ha:zBU w oa T) (hb:zBU w ob T) (z:T.length≤maxLen):
  Calls Tryz.prog 198 #[.agg #[.int .i64 k,.slice oa T.length ca],.agg #[.int .i64 k,.slice ob T.length cb]] w fun e w'=>e= .returned (.bool true)∧Below w.heap.size w w':=by
 have hb1:=((zL9 w.heap.size w).alloc (zMA _) (.cells #[.int .i64 k,.slice oa T.length ca] 73)).alloc (by simp) (.cells #[.int .i64 k,.slice ob T.length cb] 73)
 have HE:=zL8 (zGZ (ca:=ca) (cb:=cb) (ha.below hb1) (hb.below hb1) z)
 have HB:=zL8 hb1
 have hk:(k==k)=true:=beq_self_eq_true k
 clear ha hb hb1
 go_enter Tryz.func198,Tryz.ntmps198
 go_wp2_with fail
 refine HE.out.mono ?_
 rintro e w2 ⟨rfl,hb2⟩
 have HB2:=zL8 (HB.out.trans (hb2.mono HB.out.size))
 clear hb2
 go_wp2_with fail
 go_ret
 exact⟨rfl,HB2.out⟩
end
end
section
open Go.RowKit
theorem zDQ {P:Program} (w:World) (g o:Nat) (t ty:TypeId) (old cells:Array Value) (hg:w.heap[g]?=some (.cells old t (0,0))) (hi:(P.info? ty).map (·.size)=some cells.size)
  (ho:o+cells.size≤old.size) (h1:cells.all (·.oneCell')=true):
  (storeVar ty ⟨g,o,none⟩ (.agg cells)).run P w= .ok () (w.setRow g (old.toList.take o++cells.toList++old.toList.drop (o+cells.size)).toArray):=by
 have:=run_storeCells_at P g o t cells.toList 0 old w hg (by simpa using ho) (fun v hv=>(Array.all_eq_true_iff_forall_mem.1 h1) v (by simpa using hv))
 cases hq:P.info? ty with
 |none=>simp[hq]at hi
 |some i=>
  have hs:cells.size=i.size:=by simp[hq]at hi;omega
  simp[storeVar,sizeOf,typeInfo,hq,Value.cells,hs,this]
theorem zBx {P:Program} {ops:Array Oper} {rest:List Oper} {op:Oper} {a:Act} {w:World} {Q:Exit→Act→World→Prop} (hgd:op.guard=none) (ty:TypeId) (x y:Operand) (hop:op.op= .store ty x y)
  (g o:Nat) (cells:Array Value) (hx:a.eval x= .pointer (some ⟨g,o,none⟩)) (hy:a.eval y= .agg cells)
  (t:TypeId) (old:Array Value) (hg:w.heap[g]?=some (.cells old t (0,0))) (hi:(P.info? ty).map (·.size)=some cells.size)
  (ho:o+cells.size≤old.size) (h1:cells.all (·.oneCell')=true) (W:World) (hW:w.setRow g (old.toList.take o++cells.toList++old.toList.drop (o+cells.size)).toArray=W)
  (h:wpList P ops Q rest (a.put op.dst undef) W):wpList P ops Q (op::rest) a w:=
 wpList_plain hgd fun _ hK=>by
  unfold Oper.wp execOp
  simp only[hop,hx,hy,Instr.storeAt,Instr.sureAddr,Sem.run_bind,Sem.run_pure,Result.andThen_ok,zDQ w g o t ty old cells hg hi ho h1,hW]
  exact hK _ _ h
section
variable {w w':World} {E:PE} {i j k n:Nat} {l l':List Value} {base:Nat} {c:Cm}
theorem zBc.tab (h:zBc l) {t:List Nat} (ht:t.length=256):zBc (l.take 16++u8s t):=
 ⟨by rw[zMS,List.length_take,zB8,h.len,ht];rfl,fun v hv=>(zMd.1 hv).elim (fun hv=>h.one v (List.mem_of_mem_take hv)) (zD9 t v)⟩
end
end
end Go.Proofs.YtfcemodgopdkkaaGreatDoor
