/- Parts: Yw Zj Zk Zl. -/
import Derived.Test.YtfcemodgopdkkaaGreatDoorQ22
import Derived.Test.YtfcemodgopdkkaaGreatDoorQ20
import Derived.Test.YtfcemodgopdkkaaGreatDoorQ6
import Derived.Test.YtfcemodgopdkkaaGreatDoorQ23
import Derived.Test.YtfcemodgopdkkaaGreatDoorQ18
import Derived.Test.YtfcemodgopdkkaaGreatDoorQ7
import Derived.Test.YtfcemodgopdkkaaGreatDoorQ1
import Derived.Test.YtfcemodgopdkkaaGreatDoorQ9
import Derived.Test.YtfcemodgopdkkaaGreatDoorQ11
import Derived.Test.YtfcemodgopdkkaaGreatDoorQ0
import Derived.Test.YtfcemodgopdkkaaGreatDoorQ15
import Derived.Test.YtfcemodgopdkkaaGreatDoorQ27
import Derived.Test.YtfcemodgopdkkaaGreatDoorQ24
import Derived.Lib.SlBytesConst
import Derived.MapKept
import Derived.Shelf.Abstract
import Derived.LaidEql
import Derived.Stop.Asserts
import Derived.RowKitTokens
import Derived.WalkKit
import Derived.StillTail
import Derived.BigQuiet
import Derived.Defers
import Derived.Recover
import Derived.Laws.EntriesVeiled
import Derived.Test.YtfcemodgopdkkaaGreatDoorProg
import Derived.Shelf.Bytes.SlCut
import Derived.Great.BuildSlice
set_option maxHeartbeats 12800000
set_option maxRecDepth 100000
namespace Go.Proofs.YtfcemodgopdkkaaGreatDoor
section
open Go.RowKit
def adK (c:Cm) (k:Nat):Ad:=if k=0 then c.a else c.b
def zIx (c:Cm) (k:Nat):Nat:=(if 0<k∧c.a.kind≠0 then 1 else 0)+(if 1<k∧c.b.kind≠0 then 1 else 0)
theorem zIl (c:Cm) {k:Nat} (hk:k<2):zIx c (k+1)=zIx c k+(if (adK c k).kind≠0 then 1 else 0):=by
 rcases(show k=0∨k=1 by omega)with rfl|rfl
 ·simp[zIx,adK]
 ·simp[zIx,adK]
theorem zJh (c:Cm):zIx c 2=zDA c.a c.b:=by simp[zIx,zDA]
def AdR (w:World) (sb:Nat) (c:Cm):Prop:=sb<w.heap.size∧ ∀k,k<2→w.cell? ⟨sb,k*3,none⟩=some (.int .i8 (adK c k).kind)∧w.cell? ⟨sb,k*3+1,none⟩=some (.int .i64 (adK c k).n)∧
 ∃o cp,w.cell? ⟨sb,k*3+2,none⟩=some (.slice o (adK c k).re.length cp)∧NdV w o (adK c k).re
theorem AdR.below {w w':World} {sb:Nat} {c:Cm} (h:AdR w sb c) (hb:Below w.heap.size w w'):AdR w' sb c:=
 ⟨zMB h.1 hb.size,fun k hk=>by
  obtain⟨h1,h2,o,cp,h3,h4⟩:=h.2 k hk
  exact⟨(hb.cell (p:=⟨sb,k*3,none⟩) h.1).trans h1,(hb.cell (p:=⟨sb,k*3+1,none⟩) h.1).trans h2,o,cp,(hb.cell (p:=⟨sb,k*3+2,none⟩) h.1).trans h3,h4.below hb⟩⟩
end
section
open Go.RowKit
structure Cz where
 a:Ad
 b:Ad
 nt:Bool
 nm:Nat
 at_:Int
 tx:List Nat
 re:List Nd
 fi:List Pc
 ct:Int
 al:Bool
 pr:Bool
 wr:Bool
 tb:Nat→Int
def Cz.tz (c:Cz):Bool:=(List.range 256).all fun i=>c.tb i==0
def Cz.ok (c:Cz):Bool:=zHw c.a c.b c.nt c.nm c.at_ c.tx c.re c.fi c.ct c.al c.pr c.wr c.tz
structure ShV (w:World) (l:List Value) (c:Cz):Prop where
 cl:zBc l
 a0:l[0]?=some (.int .i8 c.a.kind)
 a1:l[1]?=some (.int .i64 c.a.n)
 a2: ∃o k,l[2]?=some (.slice o c.a.re.length k)∧NdV w o c.a.re
 b0:l[3]?=some (.int .i8 c.b.kind)
 b1:l[4]?=some (.int .i64 c.b.n)
 b2: ∃o k,l[5]?=some (.slice o c.b.re.length k)∧NdV w o c.b.re
 ka: -128≤c.a.kind∧c.a.kind≤127
 kb: -128≤c.b.kind∧c.b.kind≤127
 oa:Hid (∀x∈c.a.re,-128≤x.op∧x.op≤127)
 ob:Hid (∀x∈c.b.re,-128≤x.op∧x.op≤127)
 nt:l[6]?=some (.bool c.nt)
 nm:l[7]?=some (.int .u8 (c.nm:Nat))
 nl:c.nm<256
 p:l[8]?=some (.int .i64 c.at_)
 tx: ∃o k,l[9]?=some (.slice o c.tx.length k)
 re: ∃o k,l[10]?=some (.slice o c.re.length k)∧NdV w o c.re
 ore:Hid (∀x∈c.re,-128≤x.op∧x.op≤127)
 fi: ∃o k,l[11]?=some (.slice o c.fi.length k)∧PcR w o c.fi
 fl:c.fi.length≤9223372036854775807
 ct:l[12]?=some (.int .i64 c.ct)
 al:l[13]?=some (.bool c.al)
 pr:l[14]?=some (.bool c.pr)
 wr:l[15]?=some (.bool c.wr)
 tb: ∀j,j<256→l[16+j]?=some (.int .u8 (c.tb j))
section
variable {w w':World} {l:List Value} {c:Cz} {oa:Option Addr} {P:List Pc}
theorem PcR.pk (h:PcR w oa P):PkR w oa (P.map (·.k)):=fun hp=>by
 rw[List.length_map]at hp
 obtain⟨nb,no,h1,h2,h3⟩:=h hp
 refine⟨nb,no,h1,h2,fun i k hk=>?_⟩
 rw[List.getElem?_map]at hk
 cases hpi:P[i]? with
 |none=>rw[hpi]at hk;cases hk
 |some p=>
  rw[hpi]at hk
  cases hk
  obtain⟨e1,o,c,e2⟩:=h3 i p hpi
  exact⟨e1,o,_,c,e2⟩
theorem ShV.below (h:ShV w l c) (hb:Below w.heap.size w w'):ShV w' l c:=
 {h with
  a2:=by obtain⟨o,k,h1,h2⟩:=h.a2;exact⟨o,k,h1,h2.below hb⟩
  b2:=by obtain⟨o,k,h1,h2⟩:=h.b2;exact⟨o,k,h1,h2.below hb⟩
  re:=by obtain⟨o,k,h1,h2⟩:=h.re;exact⟨o,k,h1,h2.below hb⟩
  fi:=by obtain⟨o,k,h1,h2⟩:=h.fi;exact⟨o,k,h1,h2.below hb⟩ }
end
theorem zK4 (a b:Int) (w:World):(Op.equalIn 9999 5 (.int .u8 a) (.int .u8 b)).run Tryz.prog w= .ok (a==b) w:=by
 simp[go_sem]
theorem zE8 (xs ys:Array Value) (f g:Nat→Int) (w:World): ∀is:List Nat,(∀i∈is,xs[i]?=some (.int .u8 (f i))∧ys[i]?=some (.int .u8 (g i)))→(Op.eqItems 9999 5 1 xs ys is).run Tryz.prog w= .ok (is.all fun i=>f i==g i) w
 |[],_=>rfl
 |i::is,h=>by
  obtain⟨h1,h2⟩:=h i (by simp)
  have p1:(part 5 xs (i*1)).run Tryz.prog w= .ok (.int .u8 (f i)) w:=run_part_plain w (by kernel_rfl) (by rw[Nat.mul_one];exact h1)
  have p2:(part 5 ys (i*1)).run Tryz.prog w= .ok (.int .u8 (g i)) w:=run_part_plain w (by kernel_rfl) (by rw[Nat.mul_one];exact h2)
  have ih:=zE8 xs ys f g w is (fun j hj=>h j (by simp[hj]))
  simp only[Op.eqItems,Sem.run_bind,p1,p2,Result.andThen_ok,zK4,List.all_cons]
  cases hq:f i==g i
  ·simp
  ·simpa using ih
theorem zJp {xs:Array Value} {f:Nat→Int} (h: ∀i,i<256→xs[i]?=some (.int .u8 (f i))) (w:World):(Op.equalIn 10000 69 (.agg xs) (.agg Tryz.zeroCells69)).run Tryz.prog w= .ok ((List.range 256).all fun i=>f i==0) w:=by
 obtain⟨i,hi⟩: ∃i,Tryz.prog.info? 5=some i:=Option.isSome_iff_exists.1 (by kernel_rfl)
 rw[show Tryz.zeroCells69=(List.replicate 256 (Value.int .u8 0)).toArray by kernel_rfl,run_equalIn_array w 9999 _ _ Tryz.underlying69 hi,show Tryz.prog.cellsOf 5=1 by kernel_rfl,
  zE8 xs _ f (fun _=>0) w _ (fun i hi=>⟨h i (List.mem_range.1 hi),by rw[List.getElem?_toArray,List.getElem?_replicate,if_pos (List.mem_range.1 hi)]⟩)]
theorem zA9 {ops:Array Oper} {rest:List Oper} {op:Oper} {a:Act} {w:World} {Q:Exit→Act→World→Prop} (hgd:Region.wanted op (yielded ops a.tmps)=true) (x y:Operand) {t':TypeId} (ho:op.op= .binOp .neq 69 x y t') {xs ys:Array Value} {r:Bool}
  (hx:a.eval x= .agg xs) (hy:a.eval y= .agg ys) (h0: ∀w,(Op.equalIn 10000 69 (.agg xs) (.agg ys)).run Tryz.prog w= .ok r w) (h:wpList Tryz.prog ops Q rest (a.put op.dst (.bool (!r))) w):wpList Tryz.prog ops Q (op::rest) a w:=
 wpList_step fun _ hK=>by
  rw[if_pos hgd]
  unfold Oper.wp execOp
  simp only[ho,hx,hy,Sem.run_bind,run_eqGuard_agg _ _ _ _ _ _ _ (show Tryz.prog.eqGuardType Tryz.prog.depth 69=false by kernel_rfl),run_neq_struct,h0,Result.andThen_ok]
  exact hK _ _ h
theorem zD0 (nt:Bool) (many nm:Nat):zE2 nt many (zCT nm)=(decide ((many:Int)≤zEL (zCT nm))&& !(decide (zEL (zCT nm)=0)&&nt)):=by
 unfold zE2 zEL
 cases zCT nm with
 |none=>simp;omega
 |some k=>simp
end
section
open Go.RowKit
theorem zLg {b c d e f:Bool} :(!(false&&b&&c&&d&&e&&f))=true:=by cases b<;>rfl
theorem zLf {a c d e f:Bool} :(!(a&&false&&c&&d&&e&&f))=true:=by cases a<;>rfl
theorem zLe {a b d e f:Bool} :(!(a&&b&&false&&d&&e&&f))=true:=by cases a<;>cases b<;>rfl
theorem zLd {a b c e f:Bool} :(!(a&&b&&c&&false&&e&&f))=true:=by cases a<;>cases b<;>cases c<;>rfl
theorem zLc {a b c d f:Bool} :(!(a&&b&&c&&d&&false&&f))=true:=by cases a<;>cases b<;>cases c<;>cases d<;>rfl
theorem zFz {m:Int} {mn:Nat} {nt:Bool} (h1: ¬m<(mn:Int)) (h2: ¬(m=0∧nt=true)):(decide ((mn:Int)≤m)&& !(decide (m=0)&&nt))=true:=by
 rw[zMJ (show(mn:Int)≤m by omega)]
 by_cases h:m=0
 ·cases nt
  ·simp
  ·exact absurd ⟨h,rfl⟩ h2
 ·rw[zMK h];rfl
theorem zF1 {mn:Nat} {k:Int} (h: ¬(mn=1∧k=0)):(!(decide (mn=1)&&decide (k=0)))=true:=by
 by_cases h1:mn=1
 ·rw[zMK (fun e=>h ⟨h1,e⟩),Bool.and_false];rfl
 ·rw[zMK h1];rfl
def k01 (k:Int):Nat:=if k=0 then 0 else 1
theorem zK2 (k:Int):k01 k≤1:=by unfold k01;split<;>omega
theorem zGS (a b:Ad):zDA a b=k01 a.kind+k01 b.kind:=by
 unfold zDA k01
 by_cases h1:a.kind=0<;>by_cases h2:b.kind=0<;>simp[h1,h2]
theorem zJC {w:World} {l:List Value} {c:Cz} (h:ShV w l c) (hsd: ∀W,Below w.heap.size w W→Calls Tryz.prog 192 #[.agg l.toArray] W fun e w'=>e= .returned (.bool (zCe c.nm c.wr c.tx))∧Below W.heap.size W w'):
  Calls Tryz.prog 162 #[.agg l.toArray] w fun e w'=>e= .returned (.bool c.ok)∧Below w.heap.size w w':=by
 have hnew:=zML w (.cells l.toArray 71)
 have hbl:=(zL9 w.heap.size w).alloc (zMA _) (.cells l.toArray 71)
 obtain⟨R,hR⟩: ∃R,c.ok=R:=⟨_,rfl⟩
 rw[hR]
 obtain⟨mn,hmn⟩: ∃x,zDA c.a c.b=x:=⟨_,rfl⟩
 obtain⟨m,hm⟩: ∃x,zEL (zCT c.nm)=x:=⟨_,rfl⟩
 obtain⟨ra,hra⟩: ∃x,zAS c.a=x:=⟨_,rfl⟩
 obtain⟨rb,hrb⟩: ∃x,zAS c.b=x:=⟨_,rfl⟩
 obtain⟨mo,hmo⟩: ∃x,zE2 c.nt (zDA c.a c.b) (zCT c.nm)=x:=⟨_,rfl⟩
 obtain⟨ko,hko⟩: ∃x,(!(decide (zDA c.a c.b=1)&&decide (c.a.kind=0)))=x:=⟨_,rfl⟩
 obtain⟨ao,hao⟩: ∃x,decide (0≤c.at_)=x:=⟨_,rfl⟩
 obtain⟨sd,hsq⟩: ∃x,zCe c.nm c.wr c.tx=x:=⟨_,rfl⟩
 obtain⟨ty,hty⟩: ∃x,(c.nm==121||c.tz)=x:=⟨_,rfl⟩
 have HOK:Hid (R=(ra&&rb&&mo&&ko&&ao&&sd&&ty&&(if c.nm=115 then(c.re.isEmpty||(shapedN c.re&&decide (zC8 c.fi≤(zAr c.re:Int))))&&zAM c.fi false&&decide (0≤c.ct∧c.ct≤1048576)
   else c.re.isEmpty&&c.fi.isEmpty&&c.ct==0&& !c.al&& !c.pr&& !c.wr))):=zL8 (by rw[←hR,←hra,←hrb,←hmo,←hko,←hao,←hsq,←hty];rfl)
 rw[zD0,hmn,hm]at hmo
 rw[hmn]at hko
 have HMN:=zL8 hmn
 have HM:=zL8 hm
 have HRA:=zL8 hra
 have HRB:=zL8 hrb
 have HMO:=zL8 hmo.symm
 have HKO:=zL8 hko.symm
 have HAO:=zL8 hao.symm
 have HTY:=zL8 hty.symm
 have HSD:Hid (∀W,Below w.heap.size w W→Calls Tryz.prog 192 #[.agg l.toArray] W fun e w'=>e= .returned (.bool sd)∧Below W.heap.size W w'):=zL8 (by rw[←hsq];exact hsd)
 have HV0:=zL8 (h.below hbl)
 have HB0:=zL8 hbl
 have HH:=zL8 hnew
 have HTQ:Hid (∀w,(Op.equalIn 10000 69 (.agg (l.drop 16).toArray) (.agg Tryz.zeroCells69)).run Tryz.prog w= .ok c.tz w):=zL8 (zJp fun i hi=>by rw[List.getElem?_toArray,List.getElem?_drop];exact h.tb i hi)
 have HZI:Hid ((Tryz.prog.info? 69).map (·.size)=some (l.drop 16).length):=zL8 (by rw[List.length_drop,h.cl.len];kernel_rfl)
 have HCI:Hid ((Tryz.prog.info? 71).map (·.size)=some l.toArray.size):=zL8 (by rw[zAd,List.size_toArray,h.cl.len])
 clear h hsd hbl hnew hR hmn hm hra hrb hmo hko hao hsq hty
 go_enter Tryz.func162,Tryz.ntmps162
 go_upto_region 1 with fail
 obtain⟨b,hb⟩: ∃b,w.heap.size=b:=⟨_,rfl⟩
 have HBQ:=zL8 hb
 obtain⟨W,hW⟩: ∃W,w.alloc (.cells l.toArray 71)=W:=⟨_,rfl⟩
 rw[hW]at HV0 HB0 HH ⊢
 have hh:=HH.out
 rw[hb]at hh ⊢
 have HR:=zL8 hh
 have HBL:=zL8 (zMG.1 hh).1
 have HCK:Hid (∀X,Below W.heap.size W X→ ∀k,X.cell? ⟨b,k,none⟩=l[k]?):=zL8 fun X hx k=>(hx.cell (p:=⟨b,k,none⟩) HBL.out).trans ((zMN _ _ k _ _ (0,0) HR.out).trans (by simp))
 have HHP:Hid (∀X,Below W.heap.size W X→X.heap[b]?=some (.cells l.toArray 71 (0,0))):=zL8 fun X hx=>(hx.block b HBL.out).trans HR.out
 have HTB:Hid (∀X,Below W.heap.size W X→X.rangeAt b 16 (l.drop 16)):=zL8 fun X hx j v hv=>by rw[HCK.out X hx,←hv,List.getElem?_drop]
 clear hW hb hh HH
 have hk0: ∀k,W.cell? ⟨b,k,none⟩=l[k]?:=HCK.out W (zL9 _ _)
 have HK0:=zL8 hk0
 have c0:W.cell? ⟨b,0,none⟩=some (.int .i8 c.a.kind):=(hk0 0).trans HV0.out.a0
 have c3:W.cell? ⟨b,3,none⟩=some (.int .i8 c.b.kind):=(hk0 3).trans HV0.out.b0
 clear hk0
 go_upto_if 8 with fail
 go_cut [3] (fun v wd=>v= .int .i64 (k01 c.a.kind:Nat)∧wd=W)
 case first=>
  by_cases h0:c.a.kind=0
  ·have q:(c.a.kind !=0)=false:=by rw[bne_eq_false_iff_eq];exact h0
   have HF:=zL8 (show k01 c.a.kind=0 by unfold k01;rw[if_pos h0])
   clear h0
   go_wp2_with fail
   go_meet
   exact⟨by rw[HF.out];rfl,rfl⟩
  ·have q:(c.a.kind !=0)=true:=by rw[bne_iff_ne];exact h0
   have HF:=zL8 (show k01 c.a.kind=1 by unfold k01;rw[if_neg h0])
   clear h0
   go_wp2_with fail
   go_meet
   exact⟨by rw[HF.out];rfl,rfl⟩
 case rest=>
 obtain⟨rfl,hwc⟩:=hcut
 subst hwc
 have hn1:=zK2 c.a.kind
 obtain⟨n1,hn⟩: ∃x,k01 c.a.kind=x:=⟨_,rfl⟩
 have HN1:=zL8 hn
 rw[hn]at hn1 ⊢
 have hn1i:(n1:Int)≤1:=by omega
 clear hn hn1
 go_upto_if 14 with fail
 go_cut [3] (fun v wd=>v= .int .i64 (mn:Nat)∧wd=wc)
 case first=>
  by_cases h0:c.b.kind=0
  ·have q:(c.b.kind !=0)=false:=by rw[bne_eq_false_iff_eq];exact h0
   have HF:=zL8 (show mn=n1 by rw[←HMN.out,zGS,HN1.out];unfold k01;rw[if_pos h0];rfl)
   clear h0
   go_wp2_with fail
   go_meet
   exact⟨by rw[HF.out],rfl⟩
  ·have q:(c.b.kind !=0)=true:=by rw[bne_iff_ne];exact h0
   have HF:=zL8 (show mn=n1+1 by rw[←HMN.out,zGS,HN1.out];unfold k01;rw[if_neg h0])
   clear h0
   go_wp2_with fail
   go_meet
   exact⟨by rw[HF.out];go_num,rfl⟩
 case rest=>
 obtain⟨rfl,hwc⟩:=hcut
 subst hwc
 clear hn1i
 rename World=>V
 have c7:V.cell? ⟨b,7,none⟩=some (.int .u8 (c.nm:Nat)):=(HK0.out 7).trans HV0.out.nm
 have HMC:=zL8 (zG3 (w:=V) (b:=c.nm))
 rw[HM.out]at HMC
 go_wp2_with fail
 refine HMC.out.mono ?_;rintro e wq ⟨rfl,rfl⟩
 clear HMC
 obtain⟨t7,ht7⟩: ∃t7,(!(ra&&rb&&mo&&ko&&ao&&sd))=t7:=⟨_,rfl⟩
 have HT7:=zL8 ht7
 clear ht7
 go_upto_region 7 with fail
 go_cut [62] (fun v wd=>v= .bool t7∧Below V.heap.size V wd)
 case first=>
  obtain⟨oa,ka,ea,na⟩:=HV0.out.a2
  obtain⟨ob,kb,eb,nb⟩:=HV0.out.b2
  have HNA:=zL8 na
  have HNB:=zL8 nb
  have c1:V.cell? ⟨b,1,none⟩=some (.int .i64 c.a.n):=(HK0.out 1).trans HV0.out.a1
  have c2:V.cell? ⟨b,2,none⟩=some (.slice oa c.a.re.length ka):=(HK0.out 2).trans ea
  have c4:V.cell? ⟨b,4,none⟩=some (.int .i64 c.b.n):=(HK0.out 4).trans HV0.out.b1
  have c5:V.cell? ⟨b,5,none⟩=some (.slice ob c.b.re.length kb):=(HK0.out 5).trans eb
  have c6:V.cell? ⟨b,6,none⟩=some (.bool c.nt):=(HK0.out 6).trans HV0.out.nt
  have c8:V.cell? ⟨b,8,none⟩=some (.int .i64 c.at_):=(HK0.out 8).trans HV0.out.p
  have hbW:b<V.heap.size:=HBL.out
  have HC1:=zCP (cap:=ka) c.a.kind c.a.n HV0.out.oa HNA.out HV0.out.ka.1 HV0.out.ka.2
  rw[show zAS ⟨c.a.kind,c.a.n,c.a.re⟩=ra from HRA.out]at HC1
  have HC1:=zL8 HC1
  clear ea eb na nb
  by_cases h1:m<(mn:Int)
  ·have HF:=zL8 (show t7=true by rw[←HT7.out,HMO.out,zMK (show¬(mn:Int)≤m by omega)];exact zLe)
   clear HC1
   go_wp2_with fail
   go_meet
   exact⟨by rw[HF.out],zL9 _ _⟩
  by_cases hm0:m=0∧c.nt=true
  ·obtain⟨hmz,hnt⟩:=hm0
   have HF:=zL8 (show t7=true by rw[←HT7.out,HMO.out,hnt,zMJ hmz,Bool.and_self,Bool.not_true,Bool.and_false];exact zLe)
   have q:(m==0)=true:=beq_iff_eq.2 hmz
   rw[hnt]at c6
   clear hnt HC1 hmz
   go_wp2_with fail
   go_meet
   exact⟨by rw[HF.out],zL9 _ _⟩
  have HMT:=zL8 (show mo=true by rw[HMO.out];exact zFz h1 hm0)
  have key:((m==0)=true∧c.nt=false)∨(m==0)=false:=by
   by_cases h:m=0
   ·exact .inl ⟨beq_iff_eq.2 h,by
     cases hn:c.nt
     ·rfl
     ·exact absurd ⟨h,hn⟩ hm0⟩
   ·exact .inr (zME.2 h)
  clear hm0
  rcases key with ⟨hmz,hnt⟩|hmz
  ·rw[hnt]at c6
   clear hnt
   by_cases h3:c.at_<0
   ·have HF:=zL8 (show t7=true by rw[←HT7.out,HAO.out,zMK (show¬0≤c.at_ by omega)];exact zLc)
    clear HC1
    go_wp2_with fail
    go_meet
    exact⟨by rw[HF.out],zL9 _ _⟩
   have HAT:=zL8 (show ao=true by rw[HAO.out,zMJ (show 0≤c.at_ by omega)])
   go_wp2_with fail
   refine HC1.out.mono ?_;rintro e w1 ⟨rfl,hb1⟩
   have HX1:=zL8 hb1
   clear HC1
   cases ra with
   |false=>
    have HF:=zL8 (show t7=true by rw[←HT7.out];exact zLg)
    clear hb1
    go_wp2_with fail
    go_meet
    exact⟨by rw[HF.out],HX1.out⟩
   |true=>
   have z3:w1.cell? ⟨b,3,none⟩=some (.int .i8 c.b.kind):=(hb1.cell (p:=⟨b,3,none⟩) hbW).trans c3
   have z4:w1.cell? ⟨b,4,none⟩=some (.int .i64 c.b.n):=(hb1.cell (p:=⟨b,4,none⟩) hbW).trans c4
   have z5:w1.cell? ⟨b,5,none⟩=some (.slice ob c.b.re.length kb):=(hb1.cell (p:=⟨b,5,none⟩) hbW).trans c5
   have HC2:=zCP (w:=w1) (cap:=kb) c.b.kind c.b.n HV0.out.ob (HNB.out.below hb1) HV0.out.kb.1 HV0.out.kb.2
   rw[show zAS ⟨c.b.kind,c.b.n,c.b.re⟩=rb from HRB.out]at HC2
   have HC2:=zL8 HC2
   clear hb1
   go_wp2_with fail
   refine HC2.out.mono ?_;rintro e w2 ⟨rfl,hb2⟩
   have hx2:=HX1.out.trans (hb2.mono HX1.out.size)
   have HX2:=zL8 hx2
   clear HC2 z3 z4 z5 hb2
   cases rb with
   |false=>
    have HF:=zL8 (show t7=true by rw[←HT7.out];exact zLf)
    clear hx2
    go_wp2_with fail
    go_meet
    exact⟨by rw[HF.out],HX2.out⟩
   |true=>
   have y0:w2.cell? ⟨b,0,none⟩=some (.int .i8 c.a.kind):=(hx2.cell (p:=⟨b,0,none⟩) hbW).trans c0
   have HRW:=zL8 (HHP.out w2 hx2)
   have HSC:=zL8 (HSD.out w2 (HB0.out.trans (hx2.mono HB0.out.size)))
   clear hx2 c0 c1 c2 c3 c4 c5 c6 c7 c8
   by_cases hk1:mn=1∧c.a.kind=0
   ·obtain⟨hk1,hk0⟩:=hk1
    have HF:=zL8 (show t7=true by rw[←HT7.out,HKO.out,zMJ hk0,zMJ hk1];exact zLd)
    have q:(c.a.kind==0)=true:=beq_iff_eq.2 hk0
    have q1:((mn:Int)==1)=true:=by rw[beq_iff_eq];omega
    clear hk0 hk1 HSC
    go_wp2_with fail
    go_meet
    exact⟨by rw[HF.out],HX2.out⟩
   have HKT:=zL8 (show ko=true by rw[HKO.out];exact zF1 hk1)
   have key2:(((mn:Int)==1)=true∧(c.a.kind==0)=false)∨((mn:Int)==1)=false:=by
    by_cases h:mn=1
    ·exact .inl ⟨by rw[beq_iff_eq];omega,zME.2 fun e=>hk1 ⟨h,e⟩⟩
    ·exact .inr (zME.2 (by omega))
   clear hk1
   rcases key2 with ⟨hk1,hkz⟩|hkz
   ·go_wp2_with (refine zAT rfl 71 _ rfl b rfl 71 l.toArray (0,0) _ HRW.out Tryz.underlying71 rfl HCI.out ?_)
    refine HSC.out.mono ?_;rintro e w3 ⟨rfl,hb3⟩
    have HX3:=zL8 (HX2.out.trans (hb3.mono HX2.out.size))
    clear hb3 y0
    have HF:=zL8 (show t7= !sd by rw[←HT7.out,HMT.out,HKT.out,HAT.out];rfl)
    cases sd with
    |false=>
     go_wp2_with fail
     go_meet
     exact⟨by rw[HF.out];rfl,HX3.out⟩
    |true=>
     go_wp2_with fail
     go_meet
     exact⟨by rw[HF.out];rfl,HX3.out⟩
   ·go_wp2_with (refine zAT rfl 71 _ rfl b rfl 71 l.toArray (0,0) _ HRW.out Tryz.underlying71 rfl HCI.out ?_)
    refine HSC.out.mono ?_;rintro e w3 ⟨rfl,hb3⟩
    have HX3:=zL8 (HX2.out.trans (hb3.mono HX2.out.size))
    clear hb3 y0
    have HF:=zL8 (show t7= !sd by rw[←HT7.out,HMT.out,HKT.out,HAT.out];rfl)
    cases sd with
    |false=>
     go_wp2_with fail
     go_meet
     exact⟨by rw[HF.out];rfl,HX3.out⟩
    |true=>
     go_wp2_with fail
     go_meet
     exact⟨by rw[HF.out];rfl,HX3.out⟩
  ·by_cases h3:c.at_<0
   ·have HF:=zL8 (show t7=true by rw[←HT7.out,HAO.out,zMK (show¬0≤c.at_ by omega)];exact zLc)
    clear HC1
    go_wp2_with fail
    go_meet
    exact⟨by rw[HF.out],zL9 _ _⟩
   have HAT:=zL8 (show ao=true by rw[HAO.out,zMJ (show 0≤c.at_ by omega)])
   go_wp2_with fail
   refine HC1.out.mono ?_;rintro e w1 ⟨rfl,hb1⟩
   have HX1:=zL8 hb1
   clear HC1
   cases ra with
   |false=>
    have HF:=zL8 (show t7=true by rw[←HT7.out];exact zLg)
    clear hb1
    go_wp2_with fail
    go_meet
    exact⟨by rw[HF.out],HX1.out⟩
   |true=>
   have z3:w1.cell? ⟨b,3,none⟩=some (.int .i8 c.b.kind):=(hb1.cell (p:=⟨b,3,none⟩) hbW).trans c3
   have z4:w1.cell? ⟨b,4,none⟩=some (.int .i64 c.b.n):=(hb1.cell (p:=⟨b,4,none⟩) hbW).trans c4
   have z5:w1.cell? ⟨b,5,none⟩=some (.slice ob c.b.re.length kb):=(hb1.cell (p:=⟨b,5,none⟩) hbW).trans c5
   have HC2:=zCP (w:=w1) (cap:=kb) c.b.kind c.b.n HV0.out.ob (HNB.out.below hb1) HV0.out.kb.1 HV0.out.kb.2
   rw[show zAS ⟨c.b.kind,c.b.n,c.b.re⟩=rb from HRB.out]at HC2
   have HC2:=zL8 HC2
   clear hb1
   go_wp2_with fail
   refine HC2.out.mono ?_;rintro e w2 ⟨rfl,hb2⟩
   have hx2:=HX1.out.trans (hb2.mono HX1.out.size)
   have HX2:=zL8 hx2
   clear HC2 z3 z4 z5 hb2
   cases rb with
   |false=>
    have HF:=zL8 (show t7=true by rw[←HT7.out];exact zLf)
    clear hx2
    go_wp2_with fail
    go_meet
    exact⟨by rw[HF.out],HX2.out⟩
   |true=>
   have y0:w2.cell? ⟨b,0,none⟩=some (.int .i8 c.a.kind):=(hx2.cell (p:=⟨b,0,none⟩) hbW).trans c0
   have HRW:=zL8 (HHP.out w2 hx2)
   have HSC:=zL8 (HSD.out w2 (HB0.out.trans (hx2.mono HB0.out.size)))
   clear hx2 c0 c1 c2 c3 c4 c5 c6 c7 c8
   by_cases hk1:mn=1∧c.a.kind=0
   ·obtain⟨hk1,hk0⟩:=hk1
    have HF:=zL8 (show t7=true by rw[←HT7.out,HKO.out,zMJ hk0,zMJ hk1];exact zLd)
    have q:(c.a.kind==0)=true:=beq_iff_eq.2 hk0
    have q1:((mn:Int)==1)=true:=by rw[beq_iff_eq];omega
    clear hk0 hk1 HSC
    go_wp2_with fail
    go_meet
    exact⟨by rw[HF.out],HX2.out⟩
   have HKT:=zL8 (show ko=true by rw[HKO.out];exact zF1 hk1)
   have key2:(((mn:Int)==1)=true∧(c.a.kind==0)=false)∨((mn:Int)==1)=false:=by
    by_cases h:mn=1
    ·exact .inl ⟨by rw[beq_iff_eq];omega,zME.2 fun e=>hk1 ⟨h,e⟩⟩
    ·exact .inr (zME.2 (by omega))
   clear hk1
   rcases key2 with ⟨hk1,hkz⟩|hkz
   ·go_wp2_with (refine zAT rfl 71 _ rfl b rfl 71 l.toArray (0,0) _ HRW.out Tryz.underlying71 rfl HCI.out ?_)
    refine HSC.out.mono ?_;rintro e w3 ⟨rfl,hb3⟩
    have HX3:=zL8 (HX2.out.trans (hb3.mono HX2.out.size))
    clear hb3 y0
    have HF:=zL8 (show t7= !sd by rw[←HT7.out,HMT.out,HKT.out,HAT.out];rfl)
    cases sd with
    |false=>
     go_wp2_with fail
     go_meet
     exact⟨by rw[HF.out];rfl,HX3.out⟩
    |true=>
     go_wp2_with fail
     go_meet
     exact⟨by rw[HF.out];rfl,HX3.out⟩
   ·go_wp2_with (refine zAT rfl 71 _ rfl b rfl 71 l.toArray (0,0) _ HRW.out Tryz.underlying71 rfl HCI.out ?_)
    refine HSC.out.mono ?_;rintro e w3 ⟨rfl,hb3⟩
    have HX3:=zL8 (HX2.out.trans (hb3.mono HX2.out.size))
    clear hb3 y0
    have HF:=zL8 (show t7= !sd by rw[←HT7.out,HMT.out,HKT.out,HAT.out];rfl)
    cases sd with
    |false=>
     go_wp2_with fail
     go_meet
     exact⟨by rw[HF.out];rfl,HX3.out⟩
    |true=>
     go_wp2_with fail
     go_meet
     exact⟨by rw[HF.out];rfl,HX3.out⟩
 case rest=>
 obtain⟨rfl,hxc⟩:=hcut
 have HXX:=zL8 hxc
 have HBX:=zL8 (HB0.out.trans (hxc.mono HB0.out.size))
 have HRW:=zL8 (HHP.out wc hxc)
 have HTW:=zL8 (HTB.out wc hxc)
 have d7:wc.cell? ⟨b,7,none⟩=some (.int .u8 (c.nm:Nat)):=(HCK.out wc hxc 7).trans HV0.out.nm
 clear hxc c0 c3 c7
 cases t7 with
 |true=>
  have HF:=zL8 (show R=false by
   have h7:=HT7.out
   rw[Bool.not_eq_true']at h7
   rw[HOK.out,h7];rfl)
  go_wp2_with fail
  go_ret
  exact⟨zAE HF.out.symm,HBX.out⟩
 |false=>
 have HO2:=zL8 (show R=(ty&&(if c.nm=115 then(c.re.isEmpty||(shapedN c.re&&decide (zC8 c.fi≤(zAr c.re:Int))))&&zAM c.fi false&&decide (0≤c.ct∧c.ct≤1048576)
   else c.re.isEmpty&&c.fi.isEmpty&&c.ct==0&& !c.al&& !c.pr&& !c.wr))by
  have h7:=HT7.out
  rw[Bool.not_eq_false']at h7
  rw[HOK.out,h7,Bool.true_and])
 clear HOK
 rename World=>X
 go_upto_region 9 with fail
 go_cut [71] (fun v wd=>v= .bool (!ty)∧wd=X)
 case first=>
  by_cases n121:c.nm=121
  ·have q:((c.nm:Int) !=121)=false:=by rw[bne_eq_false_iff_eq];omega
   have HF:=zL8 (show ty=true by rw[HTY.out,beq_iff_eq.2 n121];rfl)
   clear n121
   go_wp2_with fail
   go_meet
   exact⟨by rw[HF.out];rfl,rfl⟩
  ·have q:((c.nm:Int) !=121)=true:=by rw[bne_iff_ne];omega
   have HF:=zL8 (show ty=c.tz by rw[HTY.out,zME.2 n121];rfl)
   clear n121
   go_wp2_with (first|refine zAV rfl 69 _ rfl b 16 rfl (l.drop 16) _ HTW.out Tryz.underlying69 rfl HZI.out ?_|refine zA9 rfl _ _ rfl rfl rfl HTQ.out ?_)
   go_meet
   exact⟨by rw[HF.out],rfl⟩
 case rest=>
 obtain⟨rfl,hwc⟩:=hcut
 subst hwc
 cases ty with
 |false=>
  have HF:=zL8 (show R=false by rw[HO2.out];rfl)
  clear d7
  go_wp2_with fail
  go_ret
  exact⟨zAE HF.out.symm,HBX.out⟩
 |true=>
 have HE:=zL8 (show R=(if c.nm=115 then(c.re.isEmpty||(shapedN c.re&&decide (zC8 c.fi≤(zAr c.re:Int))))&&zAM c.fi false&&decide (0≤c.ct∧c.ct≤1048576)
   else c.re.isEmpty&&c.fi.isEmpty&&c.ct==0&& !c.al&& !c.pr&& !c.wr)by rw[HO2.out,Bool.true_and])
 clear d7 HO2
 rename World=>X
 have HVX:=zL8 (HV0.out.below HXX.out)
 have hbX:b<X.heap.size:=zMB HBL.out HXX.out.size
 have c7:X.cell? ⟨b,7,none⟩=some (.int .u8 (c.nm:Nat)):=(HCK.out X HXX.out 7).trans HV0.out.nm
 obtain⟨o10,k10,e10,n10⟩:=HVX.out.re
 obtain⟨o11,k11,e11,n11⟩:=HVX.out.fi
 have HN10:=zL8 n10
 have HN11:=zL8 n11
 have d10:X.cell? ⟨b,10,none⟩=some (.slice o10 c.re.length k10):=(HCK.out X HXX.out 10).trans e10
 have d11:X.cell? ⟨b,11,none⟩=some (.slice o11 c.fi.length k11):=(HCK.out X HXX.out 11).trans e11
 have d12:X.cell? ⟨b,12,none⟩=some (.int .i64 c.ct):=(HCK.out X HXX.out 12).trans HV0.out.ct
 clear e10 e11 n10 n11
 by_cases n115:c.nm=115
 case neg=>
  have HEN:=zL8 (show R=(c.re.isEmpty&&c.fi.isEmpty&&c.ct==0&& !c.al&& !c.pr&& !c.wr)by rw[HE.out,if_neg n115])
  have q115:((c.nm:Int) !=115)=true:=by rw[bne_iff_ne];omega
  have d13:X.cell? ⟨b,13,none⟩=some (.bool c.al):=(HCK.out X HXX.out 13).trans HV0.out.al
  have d14:X.cell? ⟨b,14,none⟩=some (.bool c.pr):=(HCK.out X HXX.out 14).trans HV0.out.pr
  have d15:X.cell? ⟨b,15,none⟩=some (.bool c.wr):=(HCK.out X HXX.out 15).trans HV0.out.wr
  clear n115 HE
  by_cases hre:c.re=[]
  case neg=>
   have HF:=zL8 (show R=false by rw[HEN.out,List.isEmpty_eq_false_iff.2 hre];rfl)
   have q10:((c.re.length:Int)==0)=false:=zME.2 (by have:=List.length_pos_iff.2 hre;omega)
   clear hre
   go_wp2_with fail
   go_ret
   exact⟨zAE HF.out.symm,HBX.out⟩
  rw[hre,List.length_nil]at d10
  have HRE:=zL8 (show c.re.isEmpty=true by rw[hre];rfl)
  clear hre
  by_cases hfi:c.fi=[]
  case neg=>
   have HF:=zL8 (show R=false by rw[HEN.out,List.isEmpty_eq_false_iff.2 hfi,Bool.and_false];rfl)
   have q11:((c.fi.length:Int)==0)=false:=zME.2 (by have:=List.length_pos_iff.2 hfi;omega)
   clear hfi
   go_wp2_with fail
   go_ret
   exact⟨zAE HF.out.symm,HBX.out⟩
  rw[hfi,List.length_nil]at d11
  have HFI:=zL8 (show c.fi.isEmpty=true by rw[hfi];rfl)
  clear hfi
  by_cases hct:c.ct=0
  case neg=>
   have q12:(c.ct==0)=false:=zME.2 hct
   have HF:=zL8 (show R=false by rw[HEN.out,q12,Bool.and_false];rfl)
   clear hct
   go_wp2_with fail
   go_ret
   exact⟨zAE HF.out.symm,HBX.out⟩
  have HCT:=zL8 (show(c.ct==0)=true from beq_iff_eq.2 hct)
  rw[hct]at d12
  clear hct
  cases hal:c.al with
  |true=>
   have HF:=zL8 (show R=false by rw[HEN.out,hal];simp)
   rw[hal]at d13
   clear hal
   go_wp2_with fail
   go_ret
   exact⟨zAE HF.out.symm,HBX.out⟩
  |false=>
  cases hpr:c.pr with
  |true=>
   have HF:=zL8 (show R=false by rw[HEN.out,hpr];simp)
   rw[hal]at d13
   rw[hpr]at d14
   clear hal hpr
   go_wp2_with fail
   go_ret
   exact⟨zAE HF.out.symm,HBX.out⟩
  |false=>
  cases hwr:c.wr with
  |true=>
   have HF:=zL8 (show R=false by rw[HEN.out,hwr];simp)
   rw[hal]at d13
   rw[hpr]at d14
   rw[hwr]at d15
   clear hal hpr hwr
   go_wp2_with fail
   go_ret
   exact⟨zAE HF.out.symm,HBX.out⟩
  |false=>
  have HF:=zL8 (show R=true by rw[HEN.out,HRE.out,HFI.out,HCT.out,hal,hpr,hwr];rfl)
  rw[hal]at d13
  rw[hpr]at d14
  rw[hwr]at d15
  clear hal hpr hwr
  go_wp2_with fail
  go_ret
  exact⟨zAE HF.out.symm,HBX.out⟩
 have HEN:=zL8 (show R=((c.re.isEmpty||(shapedN c.re&&decide (zC8 c.fi≤(zAr c.re:Int))))&&zAM c.fi false&&decide (0≤c.ct∧c.ct≤1048576))by rw[HE.out,if_pos n115])
 have q115:((c.nm:Int) !=115)=false:=by rw[bne_eq_false_iff_eq];omega
 clear n115 HE
 go_upto_region 13 with fail
 by_cases hre:c.re=[]
 ·have HEQ:=zL8 (show R=(zAM c.fi false&&decide (0≤c.ct∧c.ct≤1048576))by rw[HEN.out,hre];rfl)
  rw[hre,List.length_nil]at d10
  clear hre HEN
  refine zAA (X:=none) 19 [([0,1,2,3,4,5,6],7),([8,9,10,11,13,14],12),([],15)] [16,17,18] (by kernel_rfl) (by kernel_rfl) rfl (fun _ _ _ _ _ h=>h) ?_
  simp only[zAJ,zAC,zAG,zAD,zAB,List.getD_cons_zero,List.getD_cons_succ,List.drop_succ_cons,List.drop_nil]
  repeat (go_big_quiet_step (fail))
  refine wpQuiet_nil ?_
  go_wp2_with fail
  refine⟨zAP.refl _,?_⟩
  repeat (go_big_quiet_step (fail))
  refine wpQuiet_nil ?_
  go_wp2_with fail
  refine⟨zAP.refl _,?_⟩
  repeat (go_big_quiet_step (fail))
  refine wpQuiet_nil ?_
  go_wp2_with fail
  refine⟨zAP.refl _,?_⟩
  repeat (go_big_quiet_step (fail))
  refine wpQuiet_nil ?_
  have HY:Hid (Below X.heap.size X X.drew):=zL8 (zL9 _ _).drew
  go_upto_region 15 with fail
  obtain⟨Y,hY⟩: ∃Y,X.drew=Y:=⟨_,rfl⟩
  rw[hY]at HY ⊢
  clear hY
  obtain⟨sf,hsf⟩: ∃x,zAM c.fi false=x:=⟨_,rfl⟩
  have HC4:=zL8 (zCc (ca:=k11) (HN11.out.below HY.out) HV0.out.fl)
  rw[hsf]at HC4 HEQ
  have y11:Y.cell? ⟨b,11,none⟩=some (.slice o11 c.fi.length k11):=(HY.out.cell (p:=⟨b,11,none⟩) hbX).trans d11
  have y12:Y.cell? ⟨b,12,none⟩=some (.int .i64 c.ct):=(HY.out.cell (p:=⟨b,12,none⟩) hbX).trans d12
  have hbY:b<Y.heap.size:=zMB hbX HY.out.size
  clear hsf d10 d11 d12
  go_wp2_with fail
  refine HC4.out.mono ?_;rintro e wz ⟨rfl,hbz⟩
  have HBZ:=zL8 (HBX.out.trans ((HY.out.trans (hbz.mono HY.out.size)).mono HBX.out.size))
  have z12:wz.cell? ⟨b,12,none⟩=some (.int .i64 c.ct):=(hbz.cell (p:=⟨b,12,none⟩) hbY).trans y12
  clear hbz y11 y12 HC4
  cases sf with
  |false=>
   have HF:=zL8 (show R=false by rw[HEQ.out];rfl)
   go_wp2_with fail
   go_ret
   exact⟨zAE HF.out.symm,HBZ.out⟩
  |true=>
  by_cases hc0:0≤c.ct
  case neg=>
   have HF:=zL8 (show R=false by rw[HEQ.out,zMK (by omega)];rfl)
   go_wp2_with fail
   go_ret
   exact⟨zAE HF.out.symm,HBZ.out⟩
  by_cases hc1:c.ct≤1048576
  case neg=>
   have HF:=zL8 (show R=false by rw[HEQ.out,zMK (by omega)];rfl)
   go_wp2_with fail
   go_ret
   exact⟨zAE (by rw[HF.out];exact zMK (by omega)),HBZ.out⟩
  have HF:=zL8 (show R=true by rw[HEQ.out,zMJ ⟨hc0,hc1⟩];rfl)
  go_wp2_with fail
  go_ret
  exact⟨zAE HF.out.symm,HBZ.out⟩
 have q10:0<c.re.length:=List.length_pos_iff.2 hre
 have HRE:=zL8 (List.isEmpty_eq_false_iff.2 hre)
 obtain⟨sh,hsh⟩: ∃x,shapedN c.re=x:=⟨_,rfl⟩
 have HSN:=zL8 hsh
 have HC1:=zL8 (zBz (cap:=k10) HV0.out.ore (HN10.out.below (w':=X.drew) (zL9 _ _).drew))
 rw[hsh]at HC1
 clear hre hsh
 refine zAA (X:=none) 19 [([0,1,2,3,4,5,6],7),([8,9,10,11,13,14],12),([],15)] [16,17,18] (by kernel_rfl) (by kernel_rfl) rfl (fun _ _ _ _ _ h=>h) ?_
 simp only[zAJ,zAC,zAG,zAD,zAB,List.getD_cons_zero,List.getD_cons_succ,List.drop_succ_cons,List.drop_nil]
 repeat (go_big_quiet_step (fail))
 refine wpQuiet_nil ?_
 go_wp2_with fail
 refine HC1.out.mono ?_;rintro e w7 ⟨rfl,hb7⟩
 have HX7:Hid (Below X.heap.size X w7):=zL8 ((zL9 X.heap.size X).drew.trans hb7)
 have HK7:=zL8 (zAP.of_below (X:=none) hb7)
 clear hb7 HC1
 cases sh with
 |false=>
  have HF:=zL8 (show R=false by rw[HEN.out,HRE.out,HSN.out];rfl)
  have HBZ:=zL8 (HBX.out.trans (HX7.out.mono HBX.out.size))
  go_wp2_with fail
  refine⟨HK7.out,?_⟩
  repeat (go_big_quiet_step (fail))
  refine wpQuiet_nil ?_
  go_wp2_with fail
  refine⟨zAP.refl _,?_⟩
  repeat (go_big_quiet_step (fail))
  refine wpQuiet_nil ?_
  go_wp2_with fail
  refine⟨zAP.refl _,?_⟩
  repeat (go_big_quiet_step (fail))
  refine wpQuiet_nil ?_
  go_wp2_with fail
  go_ret
  exact⟨zAE HF.out.symm,HBZ.out⟩
 |true=>
 have z11:w7.cell? ⟨b,11,none⟩=some (.slice o11 c.fi.length k11):=(HX7.out.cell (p:=⟨b,11,none⟩) hbX).trans d11
 have z10:w7.cell? ⟨b,10,none⟩=some (.slice o10 c.re.length k10):=(HX7.out.cell (p:=⟨b,10,none⟩) hbX).trans d10
 have hb7l:b<w7.heap.size:=zMB hbX HX7.out.size
 have HC2:=zFy (ca:=k11) (HN11.out.below HX7.out).pk (by rw[List.length_map];exact HV0.out.fl)
 rw[List.length_map,←zGR]at HC2
 have HC2:=zL8 HC2
 go_wp2_with fail
 refine⟨HK7.out,?_⟩
 repeat (go_big_quiet_step (fail))
 refine wpQuiet_nil ?_
 go_wp2_with fail
 refine HC2.out.mono ?_;rintro e w8 ⟨rfl,hb8⟩
 have HX8:=zL8 (HX7.out.trans (hb8.mono HX7.out.size))
 have HK8:=zL8 (zAP.of_below (X:=none) hb8)
 have HC3:=zL8 (zEq (cap:=k10) HV0.out.ore (HN10.out.below HX8.out))
 clear hb8 HC2 z11 z10 hb7l
 go_wp2_with fail
 refine⟨HK8.out,?_⟩
 repeat (go_big_quiet_step (fail))
 refine wpQuiet_nil ?_
 go_wp2_with fail
 refine HC3.out.mono ?_;rintro e w9 ⟨rfl,hb9⟩
 have HX9:=zL8 (HX8.out.trans (hb9.mono HX8.out.size))
 have HK9:=zL8 (zAP.of_below (X:=none) hb9)
 clear hb9 HC3
 obtain⟨mp,hmp⟩: ∃x,zC8 c.fi=x:=⟨_,rfl⟩
 obtain⟨gr,hgr⟩: ∃x,zAr c.re=x:=⟨_,rfl⟩
 rw[hmp,hgr]at HEN
 rw[hmp,hgr]
 clear hmp hgr
 by_cases hgm:(gr:Int)<mp
 ·have HF:=zL8 (show R=false by rw[HEN.out,HRE.out,HSN.out,zMK (show¬mp≤(gr:Int)by omega)];rfl)
  have HBZ:=zL8 (HBX.out.trans (HX9.out.mono HBX.out.size))
  go_wp2_with fail
  refine⟨HK9.out,?_⟩
  repeat (go_big_quiet_step (fail))
  refine wpQuiet_nil ?_
  go_wp2_with fail
  go_ret
  exact⟨zAE HF.out.symm,HBZ.out⟩
 have HEQ:=zL8 (show R=(zAM c.fi false&&decide (0≤c.ct∧c.ct≤1048576))by rw[HEN.out,HRE.out,HSN.out,zMJ (show mp≤(gr:Int)by omega)];rfl)
 go_wp2_with fail
 refine⟨HK9.out,?_⟩
 repeat (go_big_quiet_step (fail))
 refine wpQuiet_nil ?_
 go_upto_region 15 with fail
 have HY:=HX9
 obtain⟨Y,hY⟩: ∃Y,w9=Y:=⟨_,rfl⟩
 rw[hY]at HY ⊢
 clear hY
 obtain⟨sf,hsf⟩: ∃x,zAM c.fi false=x:=⟨_,rfl⟩
 have HC4:=zL8 (zCc (ca:=k11) (HN11.out.below HY.out) HV0.out.fl)
 rw[hsf]at HC4 HEQ
 have y11:Y.cell? ⟨b,11,none⟩=some (.slice o11 c.fi.length k11):=(HY.out.cell (p:=⟨b,11,none⟩) hbX).trans d11
 have y12:Y.cell? ⟨b,12,none⟩=some (.int .i64 c.ct):=(HY.out.cell (p:=⟨b,12,none⟩) hbX).trans d12
 have hbY:b<Y.heap.size:=zMB hbX HY.out.size
 clear hsf d10 d11 d12
 go_wp2_with fail
 refine HC4.out.mono ?_;rintro e wz ⟨rfl,hbz⟩
 have HBZ:=zL8 (HBX.out.trans ((HY.out.trans (hbz.mono HY.out.size)).mono HBX.out.size))
 have z12:wz.cell? ⟨b,12,none⟩=some (.int .i64 c.ct):=(hbz.cell (p:=⟨b,12,none⟩) hbY).trans y12
 clear hbz y11 y12 HC4
 cases sf with
 |false=>
  have HF:=zL8 (show R=false by rw[HEQ.out];rfl)
  go_wp2_with fail
  go_ret
  exact⟨zAE HF.out.symm,HBZ.out⟩
 |true=>
 by_cases hc0:0≤c.ct
 case neg=>
  have HF:=zL8 (show R=false by rw[HEQ.out,zMK (by omega)];rfl)
  go_wp2_with fail
  go_ret
  exact⟨zAE HF.out.symm,HBZ.out⟩
 by_cases hc1:c.ct≤1048576
 case neg=>
  have HF:=zL8 (show R=false by rw[HEQ.out,zMK (by omega)];rfl)
  go_wp2_with fail
  go_ret
  exact⟨zAE (by rw[HF.out];exact zMK (by omega)),HBZ.out⟩
 have HF:=zL8 (show R=true by rw[HEQ.out,zMJ ⟨hc0,hc1⟩];rfl)
 go_wp2_with fail
 go_ret
 exact⟨zAE HF.out.symm,HBZ.out⟩
end
section
open Go.RowKit
theorem zLN {b c d e:Bool} :(!(false&&b&&c&&d&&e))=true:=by cases b<;>rfl
theorem zLo {a c d e:Bool} :(!(a&&false&&c&&d&&e))=true:=by cases a<;>rfl
theorem zLH {a b d e:Bool} :(!(a&&b&&false&&d&&e))=true:=by cases a<;>cases b<;>rfl
theorem zLG {a b c e:Bool} :(!(a&&b&&c&&false&&e))=true:=by cases a<;>cases b<;>cases c<;>rfl
theorem zJI {w:World} {l:List Value} {c:Cz} (h:ShV w l c) (hsd: ∀W,Below w.heap.size w W→Calls Tryz.prog 107 #[.agg l.toArray] W fun e w'=>e= .returned (.bool (zCe c.nm c.wr c.tx))∧Below W.heap.size W w'):
  Calls Tryz.prog 59 #[.agg l.toArray] w fun e w'=>e= .returned (.bool c.ok)∧Below w.heap.size w w':=by
 have hnew:=zML w (.cells l.toArray 71)
 have hbl:=(zL9 w.heap.size w).alloc (zMA _) (.cells l.toArray 71)
 obtain⟨R,hR⟩: ∃R,c.ok=R:=⟨_,rfl⟩
 rw[hR]
 obtain⟨mn,hmn⟩: ∃x,zDA c.a c.b=x:=⟨_,rfl⟩
 obtain⟨m,hm⟩: ∃x,zEL (zCT c.nm)=x:=⟨_,rfl⟩
 obtain⟨ra,hra⟩: ∃x,zAS c.a=x:=⟨_,rfl⟩
 obtain⟨rb,hrb⟩: ∃x,zAS c.b=x:=⟨_,rfl⟩
 obtain⟨mo,hmo⟩: ∃x,zE2 c.nt (zDA c.a c.b) (zCT c.nm)=x:=⟨_,rfl⟩
 obtain⟨ko,hko⟩: ∃x,(!(decide (zDA c.a c.b=1)&&decide (c.a.kind=0)))=x:=⟨_,rfl⟩
 obtain⟨ao,hao⟩: ∃x,decide (0≤c.at_)=x:=⟨_,rfl⟩
 obtain⟨sd,hsq⟩: ∃x,zCe c.nm c.wr c.tx=x:=⟨_,rfl⟩
 obtain⟨ty,hty⟩: ∃x,(c.nm==121||c.tz)=x:=⟨_,rfl⟩
 have HOK:Hid (R=(ra&&rb&&mo&&ko&&ao&&sd&&ty&&(if c.nm=115 then(c.re.isEmpty||(shapedN c.re&&decide (zC8 c.fi≤(zAr c.re:Int))))&&zAM c.fi false&&decide (0≤c.ct∧c.ct≤1048576)
   else c.re.isEmpty&&c.fi.isEmpty&&c.ct==0&& !c.al&& !c.pr&& !c.wr))):=zL8 (by rw[←hR,←hra,←hrb,←hmo,←hko,←hao,←hsq,←hty];rfl)
 rw[zD0,hmn,hm]at hmo
 rw[hmn]at hko
 have HMN:=zL8 hmn
 have HM:=zL8 hm
 have HRA:=zL8 hra
 have HRB:=zL8 hrb
 have HMO:=zL8 hmo.symm
 have HKO:=zL8 hko.symm
 have HAO:=zL8 hao.symm
 have HTY:=zL8 hty.symm
 have HSD:Hid (∀W,Below w.heap.size w W→Calls Tryz.prog 107 #[.agg l.toArray] W fun e w'=>e= .returned (.bool sd)∧Below W.heap.size W w'):=zL8 (by rw[←hsq];exact hsd)
 have HV0:=zL8 (h.below hbl)
 have HB0:=zL8 hbl
 have HH:=zL8 hnew
 have HTQ:Hid (∀w,(Op.equalIn 10000 69 (.agg (l.drop 16).toArray) (.agg Tryz.zeroCells69)).run Tryz.prog w= .ok c.tz w):=zL8 (zJp fun i hi=>by rw[List.getElem?_toArray,List.getElem?_drop];exact h.tb i hi)
 have HZI:Hid ((Tryz.prog.info? 69).map (·.size)=some (l.drop 16).length):=zL8 (by rw[List.length_drop,h.cl.len];kernel_rfl)
 have HCI:Hid ((Tryz.prog.info? 71).map (·.size)=some l.toArray.size):=zL8 (by rw[zAd,List.size_toArray,h.cl.len])
 clear h hsd hbl hnew hR hmn hm hra hrb hmo hko hao hsq hty
 go_enter Tryz.func59,Tryz.ntmps59
 go_upto_region 1 with fail
 obtain⟨b,hb⟩: ∃b,w.heap.size=b:=⟨_,rfl⟩
 have HBQ:=zL8 hb
 obtain⟨W,hW⟩: ∃W,w.alloc (.cells l.toArray 71)=W:=⟨_,rfl⟩
 rw[hW]at HV0 HB0 HH ⊢
 have hh:=HH.out
 rw[hb]at hh ⊢
 have HR:=zL8 hh
 have HBL:=zL8 (zMG.1 hh).1
 have HCK:Hid (∀X,Below W.heap.size W X→ ∀k,X.cell? ⟨b,k,none⟩=l[k]?):=zL8 fun X hx k=>(hx.cell (p:=⟨b,k,none⟩) HBL.out).trans ((zMN _ _ k _ _ (0,0) HR.out).trans (by simp))
 have HHP:Hid (∀X,Below W.heap.size W X→X.heap[b]?=some (.cells l.toArray 71 (0,0))):=zL8 fun X hx=>(hx.block b HBL.out).trans HR.out
 have HTB:Hid (∀X,Below W.heap.size W X→X.rangeAt b 16 (l.drop 16)):=zL8 fun X hx j v hv=>by rw[HCK.out X hx,←hv,List.getElem?_drop]
 clear hW hb hh HH
 obtain⟨cd,hcd⟩: ∃cd:Cm,cd= { Cm.zero with a:=c.a,b:=c.b } :=⟨_,rfl⟩
 have hca:cd.a=c.a:=by rw[hcd]
 have hcb:cd.b=c.b:=by rw[hcd]
 have HCA:=zL8 hca
 have HCB:=zL8 hcb
 clear hcd hca hcb
 have HK0:Hid (∀k,W.cell? ⟨b,k,none⟩=l[k]?):=zL8 (HCK.out W (zL9 _ _))
 have c7:W.cell? ⟨b,7,none⟩=some (.int .u8 (c.nm:Nat)):=(HK0.out 7).trans HV0.out.nm
 have HMC:=zIM (w:=W) HV0.out.nl
 rw[HM.out]at HMC
 have HMC:=zL8 HMC
 go_wp2_with fail
 refine HMC.out.mono ?_;rintro e w1 ⟨rfl,rfl⟩
 clear HMC
 obtain⟨oa,ka,ea,na⟩:=HV0.out.a2
 obtain⟨ob,kb,eb,nb⟩:=HV0.out.b2
 have HNA:=zL8 na
 have HNB:=zL8 nb
 have c0:W.cell? ⟨b,0,none⟩=some (.int .i8 c.a.kind):=(HK0.out 0).trans HV0.out.a0
 have c1:W.cell? ⟨b,1,none⟩=some (.int .i64 c.a.n):=(HK0.out 1).trans HV0.out.a1
 have c2:W.cell? ⟨b,2,none⟩=some (.slice oa c.a.re.length ka):=(HK0.out 2).trans ea
 have c3:W.cell? ⟨b,3,none⟩=some (.int .i8 c.b.kind):=(HK0.out 3).trans HV0.out.b0
 have c4:W.cell? ⟨b,4,none⟩=some (.int .i64 c.b.n):=(HK0.out 4).trans HV0.out.b1
 have c5:W.cell? ⟨b,5,none⟩=some (.slice ob c.b.re.length kb):=(HK0.out 5).trans eb
 clear ea eb na nb
 go_wp2_with fail
 have hnw:=zML W (.cells #[.int .i8 c.a.kind,.int .i64 c.a.n,.slice oa c.a.re.length ka,.int .i8 c.b.kind,.int .i64 c.b.n,.slice ob c.b.re.length kb] 66)
 have hbw:=(zL9 W.heap.size W).alloc (zMA _) (.cells #[.int .i8 c.a.kind,.int .i64 c.a.n,.slice oa c.a.re.length ka,.int .i8 c.b.kind,.int .i64 c.b.n,.slice ob c.b.re.length kb] 66)
 have HAR:Hid (AdR (W.alloc (.cells #[.int .i8 c.a.kind,.int .i64 c.a.n,.slice oa c.a.re.length ka,.int .i8 c.b.kind,.int .i64 c.b.n,.slice ob c.b.re.length kb] 66)) W.heap.size cd):=zL8 ⟨by simp,fun k hk=>by
  rcases(show k=0∨k=1 by omega)with rfl|rfl
  ·rw[show adK cd 0=c.a from HCA.out]
   exact⟨(zMN _ _ 0 _ _ (0,0) hnw).trans rfl,(zMN _ _ 1 _ _ (0,0) hnw).trans rfl,oa,ka,(zMN _ _ 2 _ _ (0,0) hnw).trans rfl,HNA.out.below hbw⟩
  ·rw[show adK cd 1=c.b from HCB.out]
   exact⟨(zMN _ _ 3 _ _ (0,0) hnw).trans rfl,(zMN _ _ 4 _ _ (0,0) hnw).trans rfl,ob,kb,(zMN _ _ 5 _ _ (0,0) hnw).trans rfl,HNB.out.below hbw⟩⟩
 have HBW:=zL8 hbw
 clear hnw hbw c0 c1 c2 c3 c4 c5 c7 HNA HNB
 obtain⟨sb,hsb⟩: ∃k,W.heap.size=k:=⟨_,rfl⟩
 obtain⟨W2,hW2⟩: ∃X,W.alloc (.cells #[.int .i8 c.a.kind,.int .i64 c.a.n,.slice oa c.a.re.length ka,.int .i8 c.b.kind,.int .i64 c.b.n,.slice ob c.b.re.length kb] 66)=X:=⟨_,rfl⟩
 rw[hW2]at HAR HBW ⊢
 rw[hsb]at HAR ⊢
 clear hW2 hsb
 have HBS:=zL8 (show W.heap.size≤W2.heap.size from HBW.out.size)
 go_loopg [4,16] 2 (fun gk mv kv wr=> ∃k:Nat,mv= .int .i64 (zIx cd k:Nat)∧kv= .int .i64 (k:Nat)∧gk=2 - k∧k≤2∧Hid (∀j,j<k→zAS (adK cd j)=true)∧Below W2.heap.size W2 wr)
 case atStart=>exact⟨0,rfl,rfl,rfl,by omega,fun j hj=>by omega,zL9 _ _⟩
 case round=>
 obtain⟨k,rfl,rfl,hg,hk,HRT,hbr⟩:=hrel
 have HG:=zL8 hg
 have HK:=zL8 hk
 have HBR:=zL8 hbr
 clear hg hk hbr
 by_cases hk2:k<2
 case pos=>
  have HK2:=zL8 hk2
  obtain⟨r0,r1,o,cp,r2,rn⟩:=(HAR.out.below HBR.out).2 k hk2
  have HRN:=zL8 rn
  clear rn
  go_upto_region 5 with fail
  have hnr:=zML wr (.cells #[.int .i8 (adK cd k).kind,.int .i64 (adK cd k).n,.slice o (adK cd k).re.length cp] 66)
  have hbr:=(zL9 wr.heap.size wr).alloc (zMA _) (.cells #[.int .i8 (adK cd k).kind,.int .i64 (adK cd k).n,.slice o (adK cd k).re.length cp] 66)
  have d0:(wr.alloc (.cells #[.int .i8 (adK cd k).kind,.int .i64 (adK cd k).n,.slice o (adK cd k).re.length cp] 66)).cell? ⟨wr.heap.size,0,none⟩=some (.int .i8 (adK cd k).kind):=(zMN _ _ 0 _ _ (0,0) hnr).trans rfl
  have d1:(wr.alloc (.cells #[.int .i8 (adK cd k).kind,.int .i64 (adK cd k).n,.slice o (adK cd k).re.length cp] 66)).cell? ⟨wr.heap.size,1,none⟩=some (.int .i64 (adK cd k).n):=(zMN _ _ 1 _ _ (0,0) hnr).trans rfl
  have d2:(wr.alloc (.cells #[.int .i8 (adK cd k).kind,.int .i64 (adK cd k).n,.slice o (adK cd k).re.length cp] 66)).cell? ⟨wr.heap.size,2,none⟩=some (.slice o (adK cd k).re.length cp):=(zMN _ _ 2 _ _ (0,0) hnr).trans rfl
  obtain⟨rk,hrk⟩: ∃x,zAS (adK cd k)=x:=⟨_,rfl⟩
  have HRK:=zL8 hrk
  have hrc:=zG4 (cap:=cp) (adK cd k).kind (adK cd k).n (HRN.out.below hbr)
  rw[show(⟨(adK cd k).kind,(adK cd k).n,(adK cd k).re⟩:Ad)=adK cd k from rfl,hrk]at hrc
  have HRC:=zL8 hrc
  have HB4:=zL8 (HBR.out.trans (hbr.mono HBR.out.size))
  have hlt:wr.heap.size<(wr.alloc (.cells #[.int .i8 (adK cd k).kind,.int .i64 (adK cd k).n,.slice o (adK cd k).re.length cp] 66)).heap.size:=by simp
  have HLT:=zL8 hlt
  have HCN:=zL8 (show zIx cd k≤2 by unfold zIx;split<;>split<;>omega)
  clear hnr hbr hrc hrk r0 r1 r2 hlt
  obtain⟨p6,hp6⟩: ∃p,wr.heap.size=p:=⟨_,rfl⟩
  obtain⟨W4,hW4⟩: ∃X,wr.alloc (.cells #[.int .i8 (adK cd k).kind,.int .i64 (adK cd k).n,.slice o (adK cd k).re.length cp] 66)=X:=⟨_,rfl⟩
  rw[hW4]at d0 d1 d2 HRC HB4 HLT ⊢
  rw[hp6]at d0 d1 d2 HLT ⊢
  clear hp6 hW4
  go_wp2_with fail
  refine HRC.out.mono ?_;rintro e w5 ⟨rfl,hb5⟩
  have e0:w5.cell? ⟨p6,0,none⟩=some (.int .i8 (adK cd k).kind):=(hb5.cell (p:=⟨p6,0,none⟩) HLT.out).trans d0
  have HB5:=zL8 (HB4.out.trans (hb5.mono HB4.out.size))
  have hst:=zIl cd hk2
  clear hb5 d0 d1 d2 HRC
  cases rk with
  |false=>
   have HF:=zL8 (show R=false by
    rcases(show k=0∨k=1 by have:=HK2.out;omega)with rfl|rfl
    ·rw[HOK.out,←HRA.out,←HCA.out,show zAS cd.a=false from HRK.out];rfl
    ·rw[HOK.out,←HRB.out,←HCB.out,show zAS cd.b=false from HRK.out,Bool.and_false];rfl)
   have HBZ:=zL8 (HB0.out.trans ((HBW.out.trans (HB5.out.mono HBS.out)).mono HB0.out.size))
   clear hst
   go_wp2_with fail
   go_ret
   exact⟨zAE HF.out.symm,HBZ.out⟩
  |true=>
  have HRT2:Hid (∀j,j<k+1→zAS (adK cd j)=true):=zL8 fun j hj=>by
   by_cases hjk:j<k
   ·exact HRT.out j hjk
   ·obtain rfl:j=k:=by omega
    exact HRK.out
  by_cases hz:(adK cd k).kind=0
  ·rw[hz]at e0
   rw[if_neg (by simp[hz])]at hst
   have HST:=zL8 hst
   clear hst hz
   go_wp2_with fail
   go_roundg (2 - (k+1))
   case measure=>have:=HG.out;omega
   case rel=>exact⟨k+1,by rw[HST.out];rfl,congrArg (Value.int .i64) (by omega),rfl,by omega,HRT2,HB5.out⟩
  ·have qz:((adK cd k).kind==0)=false:=zME.2 hz
   rw[if_pos hz]at hst
   have HST:=zL8 hst
   have hcn:zIx cd k≤2:=HCN.out
   clear hst hz
   go_wp2_with fail
   go_roundg (2 - (k+1))
   case measure=>have:=HG.out;omega
   case rel=>exact⟨k+1,by rw[HST.out];exact congrArg (Value.int .i64) (by omega),congrArg (Value.int .i64) (by omega),rfl,by omega,HRT2,HB5.out⟩
 case neg=>
 obtain rfl:k=2:=by have:=HK.out;omega
 have HRA1:=zL8 (show ra=true by rw[←HRA.out,←HCA.out];exact HRT.out 0 (by omega))
 have HRB1:=zL8 (show rb=true by rw[←HRB.out,←HCB.out];exact HRT.out 1 (by omega))
 have hbt:Below W.heap.size W wr:=HBW.out.trans (HBR.out.mono HBS.out)
 have HBT:=zL8 hbt
 rw[zJh,HCA.out,HCB.out,HMN.out]
 obtain⟨t7,ht7⟩: ∃t7,(!(mo&&ko&&ao&&sd&&ty))=t7:=⟨_,rfl⟩
 have HT7:=zL8 ht7
 clear ht7 hk2
 rename World=>V
 go_upto_region 10 with fail
 go_cut [70] (fun v wd=>v= .bool t7∧Below V.heap.size V wd)
 case first=>
  have hbV:b<V.heap.size:=zMB HBL.out hbt.size
  have HRW:=zL8 (HHP.out V hbt)
  have HSC:=zL8 (HSD.out V (HB0.out.trans (hbt.mono HB0.out.size)))
  have c0:V.cell? ⟨b,0,none⟩=some (.int .i8 c.a.kind):=(HCK.out V hbt 0).trans HV0.out.a0
  have c6:V.cell? ⟨b,6,none⟩=some (.bool c.nt):=(HCK.out V hbt 6).trans HV0.out.nt
  have c7:V.cell? ⟨b,7,none⟩=some (.int .u8 (c.nm:Nat)):=(HCK.out V hbt 7).trans HV0.out.nm
  have c8:V.cell? ⟨b,8,none⟩=some (.int .i64 c.at_):=(HCK.out V hbt 8).trans HV0.out.p
  clear hbt
  by_cases h1:m<(mn:Int)
  ·have HF:=zL8 (show t7=true by rw[←HT7.out,HMO.out,zMK (show¬(mn:Int)≤m by omega)];exact zLN)
   clear HSC
   go_wp2_with fail
   go_meet
   exact⟨by rw[HF.out],zL9 _ _⟩
  by_cases hk1:mn=1∧c.a.kind=0
  ·obtain⟨hk1,hk0⟩:=hk1
   have HF:=zL8 (show t7=true by rw[←HT7.out,HKO.out,zMJ hk0,zMJ hk1];exact zLo)
   have q:(c.a.kind==0)=true:=beq_iff_eq.2 hk0
   have q1:((mn:Int)==1)=true:=by rw[beq_iff_eq];omega
   clear hk0 hk1 HSC
   go_wp2_with fail
   go_meet
   exact⟨by rw[HF.out],zL9 _ _⟩
  have HKT:=zL8 (show ko=true by rw[HKO.out];exact zF1 hk1)
  have key2:(((mn:Int)==1)=true∧(c.a.kind==0)=false)∨((mn:Int)==1)=false:=by
   by_cases h:mn=1
   ·exact .inl ⟨by rw[beq_iff_eq];omega,zME.2 fun e=>hk1 ⟨h,e⟩⟩
   ·exact .inr (zME.2 (by omega))
  clear hk1
  rcases key2 with ⟨hk1,hkz⟩|hkz
  ·by_cases hm0:m=0∧c.nt=true
   ·obtain⟨hmz,hnt⟩:=hm0
    have HF:=zL8 (show t7=true by rw[←HT7.out,HMO.out,hnt,zMJ hmz,Bool.and_self,Bool.not_true,Bool.and_false];exact zLN)
    have q:(m==0)=true:=beq_iff_eq.2 hmz
    rw[hnt]at c6
    clear hnt HSC hmz
    go_wp2_with fail
    go_meet
    exact⟨by rw[HF.out],zL9 _ _⟩
   have HMT:=zL8 (show mo=true by rw[HMO.out];exact zFz h1 hm0)
   have key:((m==0)=true∧c.nt=false)∨(m==0)=false:=by
    by_cases h:m=0
    ·exact .inl ⟨beq_iff_eq.2 h,by
      cases hn:c.nt
      ·rfl
      ·exact absurd ⟨h,hn⟩ hm0⟩
    ·exact .inr (zME.2 h)
   clear hm0
   rcases key with ⟨hmz,hnt⟩|hmz
   ·rw[hnt]at c6
    clear hnt
    by_cases h3:c.at_<0
    ·have HF:=zL8 (show t7=true by rw[←HT7.out,HAO.out,zMK (show¬0≤c.at_ by omega)];exact zLH)
     clear HSC
     go_wp2_with fail
     go_meet
     exact⟨by rw[HF.out],zL9 _ _⟩
    have HAT:=zL8 (show ao=true by rw[HAO.out,zMJ (show 0≤c.at_ by omega)])
    go_wp2_with (refine zAT rfl 71 _ rfl b rfl 71 l.toArray (0,0) _ HRW.out Tryz.underlying71 rfl HCI.out ?_)
    refine HSC.out.mono ?_;rintro e w3 ⟨rfl,hb3⟩
    have HX3:=zL8 hb3
    have d7:w3.cell? ⟨b,7,none⟩=some (.int .u8 (c.nm:Nat)):=(hb3.cell (p:=⟨b,7,none⟩) hbV).trans c7
    have HTW:=zL8 (HTB.out w3 (HBT.out.trans (hb3.mono HBT.out.size)))
    clear hb3 c0 c6 c7 c8 HSC
    cases sd with
    |false=>
     have HF:=zL8 (show t7=true by rw[←HT7.out];exact zLG)
     go_wp2_with fail
     go_meet
     exact⟨by rw[HF.out],HX3.out⟩
    |true=>
    have HF:=zL8 (show t7= !ty by rw[←HT7.out,HMT.out,HKT.out,HAT.out];rfl)
    by_cases n121:c.nm=121
    ·have q:((c.nm:Int) !=121)=false:=by rw[bne_eq_false_iff_eq];omega
     have HF2:=zL8 (show ty=true by rw[HTY.out,beq_iff_eq.2 n121];rfl)
     clear n121
     go_wp2_with fail
     go_meet
     exact⟨by rw[HF.out,HF2.out];rfl,HX3.out⟩
    ·have q:((c.nm:Int) !=121)=true:=by rw[bne_iff_ne];omega
     have HF2:=zL8 (show ty=c.tz by rw[HTY.out,zME.2 n121];rfl)
     clear n121
     go_wp2_with (first|refine zAV rfl 69 _ rfl b 16 rfl (l.drop 16) _ HTW.out Tryz.underlying69 rfl HZI.out ?_|refine zA9 rfl _ _ rfl rfl rfl HTQ.out ?_)
     go_meet
     exact⟨by rw[HF.out,HF2.out],HX3.out⟩
   ·by_cases h3:c.at_<0
    ·have HF:=zL8 (show t7=true by rw[←HT7.out,HAO.out,zMK (show¬0≤c.at_ by omega)];exact zLH)
     clear HSC
     go_wp2_with fail
     go_meet
     exact⟨by rw[HF.out],zL9 _ _⟩
    have HAT:=zL8 (show ao=true by rw[HAO.out,zMJ (show 0≤c.at_ by omega)])
    go_wp2_with (refine zAT rfl 71 _ rfl b rfl 71 l.toArray (0,0) _ HRW.out Tryz.underlying71 rfl HCI.out ?_)
    refine HSC.out.mono ?_;rintro e w3 ⟨rfl,hb3⟩
    have HX3:=zL8 hb3
    have d7:w3.cell? ⟨b,7,none⟩=some (.int .u8 (c.nm:Nat)):=(hb3.cell (p:=⟨b,7,none⟩) hbV).trans c7
    have HTW:=zL8 (HTB.out w3 (HBT.out.trans (hb3.mono HBT.out.size)))
    clear hb3 c0 c6 c7 c8 HSC
    cases sd with
    |false=>
     have HF:=zL8 (show t7=true by rw[←HT7.out];exact zLG)
     go_wp2_with fail
     go_meet
     exact⟨by rw[HF.out],HX3.out⟩
    |true=>
    have HF:=zL8 (show t7= !ty by rw[←HT7.out,HMT.out,HKT.out,HAT.out];rfl)
    by_cases n121:c.nm=121
    ·have q:((c.nm:Int) !=121)=false:=by rw[bne_eq_false_iff_eq];omega
     have HF2:=zL8 (show ty=true by rw[HTY.out,beq_iff_eq.2 n121];rfl)
     clear n121
     go_wp2_with fail
     go_meet
     exact⟨by rw[HF.out,HF2.out];rfl,HX3.out⟩
    ·have q:((c.nm:Int) !=121)=true:=by rw[bne_iff_ne];omega
     have HF2:=zL8 (show ty=c.tz by rw[HTY.out,zME.2 n121];rfl)
     clear n121
     go_wp2_with (first|refine zAV rfl 69 _ rfl b 16 rfl (l.drop 16) _ HTW.out Tryz.underlying69 rfl HZI.out ?_|refine zA9 rfl _ _ rfl rfl rfl HTQ.out ?_)
     go_meet
     exact⟨by rw[HF.out,HF2.out],HX3.out⟩
  ·by_cases hm0:m=0∧c.nt=true
   ·obtain⟨hmz,hnt⟩:=hm0
    have HF:=zL8 (show t7=true by rw[←HT7.out,HMO.out,hnt,zMJ hmz,Bool.and_self,Bool.not_true,Bool.and_false];exact zLN)
    have q:(m==0)=true:=beq_iff_eq.2 hmz
    rw[hnt]at c6
    clear hnt HSC hmz
    go_wp2_with fail
    go_meet
    exact⟨by rw[HF.out],zL9 _ _⟩
   have HMT:=zL8 (show mo=true by rw[HMO.out];exact zFz h1 hm0)
   have key:((m==0)=true∧c.nt=false)∨(m==0)=false:=by
    by_cases h:m=0
    ·exact .inl ⟨beq_iff_eq.2 h,by
      cases hn:c.nt
      ·rfl
      ·exact absurd ⟨h,hn⟩ hm0⟩
    ·exact .inr (zME.2 h)
   clear hm0
   rcases key with ⟨hmz,hnt⟩|hmz
   ·rw[hnt]at c6
    clear hnt
    by_cases h3:c.at_<0
    ·have HF:=zL8 (show t7=true by rw[←HT7.out,HAO.out,zMK (show¬0≤c.at_ by omega)];exact zLH)
     clear HSC
     go_wp2_with fail
     go_meet
     exact⟨by rw[HF.out],zL9 _ _⟩
    have HAT:=zL8 (show ao=true by rw[HAO.out,zMJ (show 0≤c.at_ by omega)])
    go_wp2_with (refine zAT rfl 71 _ rfl b rfl 71 l.toArray (0,0) _ HRW.out Tryz.underlying71 rfl HCI.out ?_)
    refine HSC.out.mono ?_;rintro e w3 ⟨rfl,hb3⟩
    have HX3:=zL8 hb3
    have d7:w3.cell? ⟨b,7,none⟩=some (.int .u8 (c.nm:Nat)):=(hb3.cell (p:=⟨b,7,none⟩) hbV).trans c7
    have HTW:=zL8 (HTB.out w3 (HBT.out.trans (hb3.mono HBT.out.size)))
    clear hb3 c0 c6 c7 c8 HSC
    cases sd with
    |false=>
     have HF:=zL8 (show t7=true by rw[←HT7.out];exact zLG)
     go_wp2_with fail
     go_meet
     exact⟨by rw[HF.out],HX3.out⟩
    |true=>
    have HF:=zL8 (show t7= !ty by rw[←HT7.out,HMT.out,HKT.out,HAT.out];rfl)
    by_cases n121:c.nm=121
    ·have q:((c.nm:Int) !=121)=false:=by rw[bne_eq_false_iff_eq];omega
     have HF2:=zL8 (show ty=true by rw[HTY.out,beq_iff_eq.2 n121];rfl)
     clear n121
     go_wp2_with fail
     go_meet
     exact⟨by rw[HF.out,HF2.out];rfl,HX3.out⟩
    ·have q:((c.nm:Int) !=121)=true:=by rw[bne_iff_ne];omega
     have HF2:=zL8 (show ty=c.tz by rw[HTY.out,zME.2 n121];rfl)
     clear n121
     go_wp2_with (first|refine zAV rfl 69 _ rfl b 16 rfl (l.drop 16) _ HTW.out Tryz.underlying69 rfl HZI.out ?_|refine zA9 rfl _ _ rfl rfl rfl HTQ.out ?_)
     go_meet
     exact⟨by rw[HF.out,HF2.out],HX3.out⟩
   ·by_cases h3:c.at_<0
    ·have HF:=zL8 (show t7=true by rw[←HT7.out,HAO.out,zMK (show¬0≤c.at_ by omega)];exact zLH)
     clear HSC
     go_wp2_with fail
     go_meet
     exact⟨by rw[HF.out],zL9 _ _⟩
    have HAT:=zL8 (show ao=true by rw[HAO.out,zMJ (show 0≤c.at_ by omega)])
    go_wp2_with (refine zAT rfl 71 _ rfl b rfl 71 l.toArray (0,0) _ HRW.out Tryz.underlying71 rfl HCI.out ?_)
    refine HSC.out.mono ?_;rintro e w3 ⟨rfl,hb3⟩
    have HX3:=zL8 hb3
    have d7:w3.cell? ⟨b,7,none⟩=some (.int .u8 (c.nm:Nat)):=(hb3.cell (p:=⟨b,7,none⟩) hbV).trans c7
    have HTW:=zL8 (HTB.out w3 (HBT.out.trans (hb3.mono HBT.out.size)))
    clear hb3 c0 c6 c7 c8 HSC
    cases sd with
    |false=>
     have HF:=zL8 (show t7=true by rw[←HT7.out];exact zLG)
     go_wp2_with fail
     go_meet
     exact⟨by rw[HF.out],HX3.out⟩
    |true=>
    have HF:=zL8 (show t7= !ty by rw[←HT7.out,HMT.out,HKT.out,HAT.out];rfl)
    by_cases n121:c.nm=121
    ·have q:((c.nm:Int) !=121)=false:=by rw[bne_eq_false_iff_eq];omega
     have HF2:=zL8 (show ty=true by rw[HTY.out,beq_iff_eq.2 n121];rfl)
     clear n121
     go_wp2_with fail
     go_meet
     exact⟨by rw[HF.out,HF2.out];rfl,HX3.out⟩
    ·have q:((c.nm:Int) !=121)=true:=by rw[bne_iff_ne];omega
     have HF2:=zL8 (show ty=c.tz by rw[HTY.out,zME.2 n121];rfl)
     clear n121
     go_wp2_with (first|refine zAV rfl 69 _ rfl b 16 rfl (l.drop 16) _ HTW.out Tryz.underlying69 rfl HZI.out ?_|refine zA9 rfl _ _ rfl rfl rfl HTQ.out ?_)
     go_meet
     exact⟨by rw[HF.out,HF2.out],HX3.out⟩
 case rest=>
 obtain⟨rfl,hxc⟩:=hcut
 have HXX:=zL8 (HBT.out.trans (hxc.mono HBT.out.size))
 have HBX:=zL8 (HB0.out.trans (HXX.out.mono HB0.out.size))
 clear hxc hbt
 cases t7 with
 |true=>
  have HF:=zL8 (show R=false by
   have h7:=HT7.out
   rw[Bool.not_eq_true']at h7
   rw[HOK.out,HRA1.out,HRB1.out,Bool.true_and,Bool.true_and,h7];rfl)
  go_wp2_with fail
  go_ret
  exact⟨zAE HF.out.symm,HBX.out⟩
 |false=>
 have HE:=zL8 (show R=(if c.nm=115 then(c.re.isEmpty||(shapedN c.re&&decide (zC8 c.fi≤(zAr c.re:Int))))&&zAM c.fi false&&decide (0≤c.ct∧c.ct≤1048576)
   else c.re.isEmpty&&c.fi.isEmpty&&c.ct==0&& !c.al&& !c.pr&& !c.wr)by
  have h7:=HT7.out
  rw[Bool.not_eq_false']at h7
  rw[HOK.out,HRA1.out,HRB1.out,Bool.true_and,Bool.true_and,h7,Bool.true_and])
 clear HOK
 rename World=>X
 have HVX:=zL8 (HV0.out.below HXX.out)
 have hbX:b<X.heap.size:=zMB HBL.out HXX.out.size
 have c7:X.cell? ⟨b,7,none⟩=some (.int .u8 (c.nm:Nat)):=(HCK.out X HXX.out 7).trans HV0.out.nm
 obtain⟨o10,k10,e10,n10⟩:=HVX.out.re
 obtain⟨o11,k11,e11,n11⟩:=HVX.out.fi
 have HN10:=zL8 n10
 have HN11:=zL8 n11
 have d10:X.cell? ⟨b,10,none⟩=some (.slice o10 c.re.length k10):=(HCK.out X HXX.out 10).trans e10
 have d11:X.cell? ⟨b,11,none⟩=some (.slice o11 c.fi.length k11):=(HCK.out X HXX.out 11).trans e11
 have d12:X.cell? ⟨b,12,none⟩=some (.int .i64 c.ct):=(HCK.out X HXX.out 12).trans HV0.out.ct
 clear e10 e11 n10 n11
 by_cases n115:c.nm=115
 case neg=>
  have HEN:=zL8 (show R=(c.re.isEmpty&&c.fi.isEmpty&&c.ct==0&& !c.al&& !c.pr&& !c.wr)by rw[HE.out,if_neg n115])
  have q115:((c.nm:Int) !=115)=true:=by rw[bne_iff_ne];omega
  have d13:X.cell? ⟨b,13,none⟩=some (.bool c.al):=(HCK.out X HXX.out 13).trans HV0.out.al
  have d14:X.cell? ⟨b,14,none⟩=some (.bool c.pr):=(HCK.out X HXX.out 14).trans HV0.out.pr
  have d15:X.cell? ⟨b,15,none⟩=some (.bool c.wr):=(HCK.out X HXX.out 15).trans HV0.out.wr
  clear n115 HE
  by_cases hre:c.re=[]
  case neg=>
   have HF:=zL8 (show R=false by rw[HEN.out,List.isEmpty_eq_false_iff.2 hre];rfl)
   have q10:((c.re.length:Int)==0)=false:=zME.2 (by have:=List.length_pos_iff.2 hre;omega)
   clear hre
   go_wp2_with fail
   go_ret
   exact⟨zAE HF.out.symm,HBX.out⟩
  rw[hre,List.length_nil]at d10
  have HRE:=zL8 (show c.re.isEmpty=true by rw[hre];rfl)
  clear hre
  by_cases hfi:c.fi=[]
  case neg=>
   have HF:=zL8 (show R=false by rw[HEN.out,List.isEmpty_eq_false_iff.2 hfi,Bool.and_false];rfl)
   have q11:((c.fi.length:Int)==0)=false:=zME.2 (by have:=List.length_pos_iff.2 hfi;omega)
   clear hfi
   go_wp2_with fail
   go_ret
   exact⟨zAE HF.out.symm,HBX.out⟩
  rw[hfi,List.length_nil]at d11
  have HFI:=zL8 (show c.fi.isEmpty=true by rw[hfi];rfl)
  clear hfi
  by_cases hct:c.ct=0
  case neg=>
   have q12:(c.ct==0)=false:=zME.2 hct
   have HF:=zL8 (show R=false by rw[HEN.out,q12,Bool.and_false];rfl)
   clear hct
   go_wp2_with fail
   go_ret
   exact⟨zAE HF.out.symm,HBX.out⟩
  have HCT:=zL8 (show(c.ct==0)=true from beq_iff_eq.2 hct)
  rw[hct]at d12
  clear hct
  cases hal:c.al with
  |true=>
   have HF:=zL8 (show R=false by rw[HEN.out,hal];simp)
   rw[hal]at d13
   clear hal
   go_wp2_with fail
   go_ret
   exact⟨zAE HF.out.symm,HBX.out⟩
  |false=>
  cases hpr:c.pr with
  |true=>
   have HF:=zL8 (show R=false by rw[HEN.out,hpr];simp)
   rw[hal]at d13
   rw[hpr]at d14
   clear hal hpr
   go_wp2_with fail
   go_ret
   exact⟨zAE HF.out.symm,HBX.out⟩
  |false=>
  cases hwr:c.wr with
  |true=>
   have HF:=zL8 (show R=false by rw[HEN.out,hwr];simp)
   rw[hal]at d13
   rw[hpr]at d14
   rw[hwr]at d15
   clear hal hpr hwr
   go_wp2_with fail
   go_ret
   exact⟨zAE HF.out.symm,HBX.out⟩
  |false=>
  have HF:=zL8 (show R=true by rw[HEN.out,HRE.out,HFI.out,HCT.out,hal,hpr,hwr];rfl)
  rw[hal]at d13
  rw[hpr]at d14
  rw[hwr]at d15
  clear hal hpr hwr
  go_wp2_with fail
  go_ret
  exact⟨zAE HF.out.symm,HBX.out⟩
 have HEN:=zL8 (show R=((c.re.isEmpty||(shapedN c.re&&decide (zC8 c.fi≤(zAr c.re:Int))))&&zAM c.fi false&&decide (0≤c.ct∧c.ct≤1048576))by rw[HE.out,if_pos n115])
 have q115:((c.nm:Int) !=115)=false:=by rw[bne_eq_false_iff_eq];omega
 clear n115 HE
 go_upto_region 14 with fail
 by_cases hre:c.re=[]
 ·have HEQ:=zL8 (show R=(zAM c.fi false&&decide (0≤c.ct∧c.ct≤1048576))by rw[HEN.out,hre];rfl)
  rw[hre,List.length_nil]at d10
  clear hre HEN
  refine zAA (X:=none) 19 [([0,1,2,3,4,5,6],7),([8,9,10,11,13,14],12),([],15)] [16,17,18] (by kernel_rfl) (by kernel_rfl) rfl (fun _ _ _ _ _ h=>h) ?_
  simp only[zAJ,zAC,zAG,zAD,zAB,List.getD_cons_zero,List.getD_cons_succ,List.drop_succ_cons,List.drop_nil]
  repeat (go_big_quiet_step (fail))
  refine wpQuiet_nil ?_
  go_wp2_with fail
  refine⟨zAP.refl _,?_⟩
  repeat (go_big_quiet_step (fail))
  refine wpQuiet_nil ?_
  go_wp2_with fail
  refine⟨zAP.refl _,?_⟩
  repeat (go_big_quiet_step (fail))
  refine wpQuiet_nil ?_
  go_wp2_with fail
  refine⟨zAP.refl _,?_⟩
  repeat (go_big_quiet_step (fail))
  refine wpQuiet_nil ?_
  have HY:Hid (Below X.heap.size X X.drew):=zL8 (zL9 _ _).drew
  go_upto_region 16 with fail
  obtain⟨Y,hY⟩: ∃Y,X.drew=Y:=⟨_,rfl⟩
  rw[hY]at HY ⊢
  clear hY
  obtain⟨sf,hsf⟩: ∃x,zAM c.fi false=x:=⟨_,rfl⟩
  have HC4:=zL8 (zC2 (ca:=k11) (HN11.out.below HY.out) HV0.out.fl)
  rw[hsf]at HC4 HEQ
  have y11:Y.cell? ⟨b,11,none⟩=some (.slice o11 c.fi.length k11):=(HY.out.cell (p:=⟨b,11,none⟩) hbX).trans d11
  have y12:Y.cell? ⟨b,12,none⟩=some (.int .i64 c.ct):=(HY.out.cell (p:=⟨b,12,none⟩) hbX).trans d12
  have hbY:b<Y.heap.size:=zMB hbX HY.out.size
  clear hsf d10 d11 d12
  go_wp2_with fail
  refine HC4.out.mono ?_;rintro e wz ⟨rfl,hbz⟩
  have HBZ:=zL8 (HBX.out.trans ((HY.out.trans (hbz.mono HY.out.size)).mono HBX.out.size))
  have z12:wz.cell? ⟨b,12,none⟩=some (.int .i64 c.ct):=(hbz.cell (p:=⟨b,12,none⟩) hbY).trans y12
  clear hbz y11 y12 HC4
  cases sf with
  |false=>
   have HF:=zL8 (show R=false by rw[HEQ.out];rfl)
   go_wp2_with fail
   go_ret
   exact⟨zAE HF.out.symm,HBZ.out⟩
  |true=>
  by_cases hc0:0≤c.ct
  case neg=>
   have HF:=zL8 (show R=false by rw[HEQ.out,zMK (by omega)];rfl)
   go_wp2_with fail
   go_ret
   exact⟨zAE HF.out.symm,HBZ.out⟩
  by_cases hc1:c.ct≤1048576
  case neg=>
   have HF:=zL8 (show R=false by rw[HEQ.out,zMK (by omega)];rfl)
   go_wp2_with fail
   go_ret
   exact⟨zAE (by rw[HF.out];exact zMK (by omega)),HBZ.out⟩
  have HF:=zL8 (show R=true by rw[HEQ.out,zMJ ⟨hc0,hc1⟩];rfl)
  go_wp2_with fail
  go_ret
  exact⟨zAE HF.out.symm,HBZ.out⟩
 have q10:0<c.re.length:=List.length_pos_iff.2 hre
 have HRE:=zL8 (List.isEmpty_eq_false_iff.2 hre)
 obtain⟨sh,hsh⟩: ∃x,shapedN c.re=x:=⟨_,rfl⟩
 have HSN:=zL8 hsh
 have HC1:=zL8 (zBF (cap:=k10) (HN10.out.below (w':=X.drew) (zL9 _ _).drew))
 rw[hsh]at HC1
 clear hre hsh
 refine zAA (X:=none) 19 [([0,1,2,3,4,5,6],7),([8,9,10,11,13,14],12),([],15)] [16,17,18] (by kernel_rfl) (by kernel_rfl) rfl (fun _ _ _ _ _ h=>h) ?_
 simp only[zAJ,zAC,zAG,zAD,zAB,List.getD_cons_zero,List.getD_cons_succ,List.drop_succ_cons,List.drop_nil]
 repeat (go_big_quiet_step (fail))
 refine wpQuiet_nil ?_
 go_wp2_with fail
 refine HC1.out.mono ?_;rintro e w7 ⟨rfl,hb7⟩
 have HX7:Hid (Below X.heap.size X w7):=zL8 ((zL9 X.heap.size X).drew.trans hb7)
 have HK7:=zL8 (zAP.of_below (X:=none) hb7)
 clear hb7 HC1
 cases sh with
 |false=>
  have HF:=zL8 (show R=false by rw[HEN.out,HRE.out,HSN.out];rfl)
  have HBZ:=zL8 (HBX.out.trans (HX7.out.mono HBX.out.size))
  go_wp2_with fail
  refine⟨HK7.out,?_⟩
  repeat (go_big_quiet_step (fail))
  refine wpQuiet_nil ?_
  go_wp2_with fail
  refine⟨zAP.refl _,?_⟩
  repeat (go_big_quiet_step (fail))
  refine wpQuiet_nil ?_
  go_wp2_with fail
  refine⟨zAP.refl _,?_⟩
  repeat (go_big_quiet_step (fail))
  refine wpQuiet_nil ?_
  go_wp2_with fail
  go_ret
  exact⟨zAE HF.out.symm,HBZ.out⟩
 |true=>
 have z11:w7.cell? ⟨b,11,none⟩=some (.slice o11 c.fi.length k11):=(HX7.out.cell (p:=⟨b,11,none⟩) hbX).trans d11
 have z10:w7.cell? ⟨b,10,none⟩=some (.slice o10 c.re.length k10):=(HX7.out.cell (p:=⟨b,10,none⟩) hbX).trans d10
 have hb7l:b<w7.heap.size:=zMB hbX HX7.out.size
 have HC2:=zHQ (ca:=k11) (HN11.out.below HX7.out).pk (by rw[List.length_map];exact HV0.out.fl)
 rw[List.length_map,←zGR]at HC2
 have HC2:=zL8 HC2
 go_wp2_with fail
 refine⟨HK7.out,?_⟩
 repeat (go_big_quiet_step (fail))
 refine wpQuiet_nil ?_
 go_wp2_with fail
 refine HC2.out.mono ?_;rintro e w8 ⟨rfl,hb8⟩
 have HX8:=zL8 (HX7.out.trans (hb8.mono HX7.out.size))
 have HK8:=zL8 (zAP.of_below (X:=none) hb8)
 have HC3:=zL8 (zDc (cap:=k10) (HN10.out.below HX8.out))
 clear hb8 HC2 z11 z10 hb7l
 go_wp2_with fail
 refine⟨HK8.out,?_⟩
 repeat (go_big_quiet_step (fail))
 refine wpQuiet_nil ?_
 go_wp2_with fail
 refine HC3.out.mono ?_;rintro e w9 ⟨rfl,hb9⟩
 have HX9:=zL8 (HX8.out.trans (hb9.mono HX8.out.size))
 have HK9:=zL8 (zAP.of_below (X:=none) hb9)
 clear hb9 HC3
 obtain⟨mp,hmp⟩: ∃x,zC8 c.fi=x:=⟨_,rfl⟩
 obtain⟨gr,hgr⟩: ∃x,zAr c.re=x:=⟨_,rfl⟩
 rw[hmp,hgr]at HEN
 rw[hmp,hgr]
 clear hmp hgr
 by_cases hgm:(gr:Int)<mp
 ·have HF:=zL8 (show R=false by rw[HEN.out,HRE.out,HSN.out,zMK (show¬mp≤(gr:Int)by omega)];rfl)
  have HBZ:=zL8 (HBX.out.trans (HX9.out.mono HBX.out.size))
  go_wp2_with fail
  refine⟨HK9.out,?_⟩
  repeat (go_big_quiet_step (fail))
  refine wpQuiet_nil ?_
  go_wp2_with fail
  go_ret
  exact⟨zAE HF.out.symm,HBZ.out⟩
 have HEQ:=zL8 (show R=(zAM c.fi false&&decide (0≤c.ct∧c.ct≤1048576))by rw[HEN.out,HRE.out,HSN.out,zMJ (show mp≤(gr:Int)by omega)];rfl)
 go_wp2_with fail
 refine⟨HK9.out,?_⟩
 repeat (go_big_quiet_step (fail))
 refine wpQuiet_nil ?_
 go_upto_region 16 with fail
 have HY:=HX9
 obtain⟨Y,hY⟩: ∃Y,w9=Y:=⟨_,rfl⟩
 rw[hY]at HY ⊢
 clear hY
 obtain⟨sf,hsf⟩: ∃x,zAM c.fi false=x:=⟨_,rfl⟩
 have HC4:=zL8 (zC2 (ca:=k11) (HN11.out.below HY.out) HV0.out.fl)
 rw[hsf]at HC4 HEQ
 have y11:Y.cell? ⟨b,11,none⟩=some (.slice o11 c.fi.length k11):=(HY.out.cell (p:=⟨b,11,none⟩) hbX).trans d11
 have y12:Y.cell? ⟨b,12,none⟩=some (.int .i64 c.ct):=(HY.out.cell (p:=⟨b,12,none⟩) hbX).trans d12
 have hbY:b<Y.heap.size:=zMB hbX HY.out.size
 clear hsf d10 d11 d12
 go_wp2_with fail
 refine HC4.out.mono ?_;rintro e wz ⟨rfl,hbz⟩
 have HBZ:=zL8 (HBX.out.trans ((HY.out.trans (hbz.mono HY.out.size)).mono HBX.out.size))
 have z12:wz.cell? ⟨b,12,none⟩=some (.int .i64 c.ct):=(hbz.cell (p:=⟨b,12,none⟩) hbY).trans y12
 clear hbz y11 y12 HC4
 cases sf with
 |false=>
  have HF:=zL8 (show R=false by rw[HEQ.out];rfl)
  go_wp2_with fail
  go_ret
  exact⟨zAE HF.out.symm,HBZ.out⟩
 |true=>
 by_cases hc0:0≤c.ct
 case neg=>
  have HF:=zL8 (show R=false by rw[HEQ.out,zMK (by omega)];rfl)
  go_wp2_with fail
  go_ret
  exact⟨zAE HF.out.symm,HBZ.out⟩
 by_cases hc1:c.ct≤1048576
 case neg=>
  have HF:=zL8 (show R=false by rw[HEQ.out,zMK (by omega)];rfl)
  go_wp2_with fail
  go_ret
  exact⟨zAE (by rw[HF.out];exact zMK (by omega)),HBZ.out⟩
 have HF:=zL8 (show R=true by rw[HEQ.out,zMJ ⟨hc0,hc1⟩];rfl)
 go_wp2_with fail
 go_ret
 exact⟨zAE HF.out.symm,HBZ.out⟩
end
end Go.Proofs.YtfcemodgopdkkaaGreatDoor
