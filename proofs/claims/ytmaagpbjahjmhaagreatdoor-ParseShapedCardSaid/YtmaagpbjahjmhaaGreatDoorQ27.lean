/- Parts: Th Uf Ug Ur Uha Gja Gt Ha. -/
import Derived.Test.YtmaagpbjahjmhaaGreatDoorQ25
import Derived.Test.YtmaagpbjahjmhaaGreatDoorQ5
import Derived.Deep.Slices
import Derived.OpenShut
set_option maxHeartbeats 1600000
set_option maxRecDepth 100000
namespace Go.Proofs.YtmaagpbjahjmhaaGreatDoor
section
open Go.RowKit Go.ChangeShapes Go.WideShapes Go.Deep
structure MkV (w:World) (oa:Option Addr) (cap:Nat) (L:List Mk):Prop where
 u: ∀i,i<L.length→(zAI L i).b<256
 no:oa=none→L=[]∧cap=0
 cp:L.length≤cap
 at_:0<L.length→ ∃mb mo,oa=some ⟨mb,mo,none⟩∧mb<w.heap.size∧ ∀i,i<L.length→w.cell? ⟨mb,mo+i*2,none⟩=some (.int .u8 ((zAI L i).b:Nat))∧w.cell? ⟨mb,mo+i*2+1,none⟩=some (.bool (zAI L i).p)
theorem MkV.below {w w':World} {oa:Option Addr} {cap:Nat} {L:List Mk} (h:MkV w oa cap L) (hb:Below w.heap.size w w'):MkV w' oa cap L:=
 ⟨h.u,h.no,h.cp,fun hp=>by
  obtain⟨mb,mo,h1,h2,h3⟩:=h.at_ hp
  exact⟨mb,mo,h1,zQu h2 hb.size,fun i hi=>⟨(hb.cell (p:=⟨mb,mo+i*2,none⟩) h2).trans (h3 i hi).1,(hb.cell (p:=⟨mb,mo+i*2+1,none⟩) h2).trans (h3 i hi).2⟩⟩⟩
theorem MkV.arg {w:World} {oa:Option Addr} {cap:Nat} {L:List Mk} (h:MkV w oa cap L):0<L.length→L.length≤4096→ ∃mb mo,oa=some ⟨mb,mo,none⟩∧zI4 w mb mo L:=fun hn hl=>by
 obtain⟨mb,mo,h1,h2,h3⟩:=h.at_ hn
 exact⟨mb,mo,h1,h2,hl,fun i hi=>(h3 i hi).1,fun i hi=>(h3 i hi).2,h.u⟩
theorem zNt (L:List Mk) (j:Nat) (u:Value) (h:(zF8 L)[j]?=some u): ∃i,i<L.length∧(j=i*2∧u= .int .u8 ((zAI L i).b:Nat)∨j=i*2+1∧u= .bool (zAI L i).p):=by
 have hj:j<(zF8 L).length:=(zQy.1 h).1
 rw[zEI]at hj
 refine⟨j / 2,by omega,?_⟩
 obtain⟨h1,h2⟩:=zE7 L (j / 2) (by omega)
 by_cases hm:j % 2=0
 ·left
  have e:j=j / 2*2:=by omega
  rw[←e,h]at h1
  exact⟨e,zRN h1⟩
 ·right
  have e:j=j / 2*2+1:=by omega
  rw[←e,h]at h2
  exact⟨e,zRN h2⟩
theorem MkV.src {w:World} {oa:Option Addr} {cap:Nat} {L:List Mk} (h:MkV w oa cap L):Src w (.slice oa L.length cap) L.length (zF8 L):=by
 cases oa with
 |none=>
  obtain⟨rfl,rfl⟩:=h.no rfl
  exact Src.nil w
 |some a=>
  refine .inr ⟨a,cap,rfl,fun j u hu=>?_⟩
  obtain⟨i,hi,hj⟩:=zNt L j u hu
  obtain⟨mb,mo,ha,_,h3⟩:=h.at_ (by omega)
  cases ha
  have hadd: ∀k,(⟨mb,mo,none⟩:Addr).add k=⟨mb,mo+k,none⟩:=fun k=>by unfold Addr.add;split<;>simp_all
  rw[hadd]
  rcases hj with ⟨rfl,rfl⟩|⟨rfl,rfl⟩
  ·exact(h3 i hi).1
  ·rw[←Nat.add_assoc];exact(h3 i hi).2
theorem Mks.toV {w:World} {base:Nat} {v:Value} {L:List Mk} (h:Mks w base v L) (hu: ∀i,i<L.length→(zAI L i).b<256): ∃oa cap,v= .slice oa L.length cap∧MkV w oa cap L:=by
 rcases h.2 with ⟨rfl,h0⟩|⟨g,cp,cur,rfl,hg1,hg2,hcp,_⟩
 ·have:L=[]:=zRP h0
  subst this
  exact⟨none,0,rfl,hu,fun _=>⟨rfl,rfl⟩,zQt _,fun h=>absurd h (by simp)⟩
 ·refine⟨_,_,rfl,hu,(fun h=>by cases h),hcp,fun _=>⟨g,0,rfl,(zQz.1 hg2).1,fun i hi=>?_⟩⟩
  have hadd: ∀j,(⟨g,0,none⟩:Addr).add j=⟨g,j,none⟩:=fun j=>by unfold Addr.add;split<;>simp_all
  have hc: ∀j u,(zF8 L)[j]?=some u→w.cell? ⟨g,j,none⟩=some u:=fun j u hu=>by
   rw[←hadd];exact World.ownsRow.cells h rfl j u hu
  rw[Nat.zero_add]
  exact⟨hc _ _ (zE7 L i hi).1,hc _ _ (zE7 L i hi).2⟩
theorem zMz {w:World} {a:Addr} {v:Value} (h:w.cell? a=some v):a.block<w.heap.size:=by
 rcases Nat.lt_or_ge a.block w.heap.size with h'|h'
 ·exact h'
 ·simp[World.cell?,Array.getElem?_eq_none h']at h
theorem zKO {α:Type} {l:List α} (h:l.length=2): ∃a b,l=[a,b]:=by
 match l,h with
 |[a,b],_=>exact⟨a,b,rfl⟩
theorem MkV.take {w:World} {oa:Option Addr} {cap:Nat} {L:List Mk} (h:MkV w oa cap L) {n:Nat} (hn:n≤L.length):MkV w oa cap (L.take n):=by
 have hl:(L.take n).length=n:=by rw[List.length_take];omega
 have hm: ∀i,i<n→zAI (L.take n) i=zAI L i:=fun i hi=>by
  unfold zAI
  rw[zQ0,zQ0,List.getElem?_take_of_lt hi]
 refine⟨fun i hi=>?_,fun h0=>?_,by rw[hl];exact zRE hn h.cp,fun hp=>?_⟩
 ·rw[hl]at hi;rw[hm i hi];exact h.u i (by omega)
 ·obtain⟨rfl,hc⟩:=h.no h0;exact⟨by simp,hc⟩
 ·rw[hl]at hp
  obtain⟨mb,mo,h1,h2,h3⟩:=h.at_ (by omega)
  refine⟨mb,mo,h1,h2,fun i hi=>?_⟩
  rw[hl]at hi
  rw[hm i hi]
  exact h3 i (by omega)
section
variable {H:Type} {enc:TypeId × Value→H} {w:World} {spare:Nat→Bool} {held:Bool}
theorem fld {n':Nat} {fs:Array Field} {cs:List Value} {xs:List (DataW H × List MemPlace)} (hf: ∀(i:Nat) (f:Field),fs[i]?=some f→DataW.trod enc Tryz.prog w 0 spare held n' f.type ((cs.drop f.offset).take (Tryz.prog.cellsOf f.type))=xs[i]?)
  {i ty off k:Nat} {f:Field} (hi:fs[i]?=some f) (h1:f.type=ty) (h2:f.offset=off) (h3:Tryz.prog.cellsOf ty=k):DataW.trod enc Tryz.prog w 0 spare held n' ty ((cs.drop off).take k)=xs[i]?:=by
 subst h1 h2 h3
 exact hf i f hi
end
end
section
open Go.RowKit
structure NdW (w:World) (oa:Option Addr) (cap:Nat) (re:List Nd):Prop where
 no:oa=none→re=[]∧cap=0
 cp:re.length≤cap
 wf: ∀x∈re,(-128≤x.op∧x.op≤127)∧(-9223372036854775808≤x.n∧x.n≤9223372036854775807)∧(-9223372036854775808≤x.min∧x.min≤9223372036854775807)∧(-9223372036854775808≤x.max∧x.max≤9223372036854775807)∧(-9223372036854775808≤x.kids∧x.kids≤9223372036854775807)
 at_:0<re.length→ ∃nb no,oa=some ⟨nb,no,none⟩∧nb<w.heap.size∧ ∀i,i<re.length→ ∀j,j<9→w.cell? ⟨nb,no+i*9+j,none⟩=(zAT (re.getD i Nd.zero))[j]?
theorem NdW.below {w w':World} {oa:Option Addr} {cap:Nat} {re:List Nd} (h:NdW w oa cap re) (hb:Below w.heap.size w w'):NdW w' oa cap re:=
 ⟨h.no,h.cp,h.wf,fun hp=>by
  obtain⟨nb,no,h1,h2,h3⟩:=h.at_ hp
  exact⟨nb,no,h1,zQu h2 hb.size,fun i hi j hj=>(hb.cell (p:=⟨nb,no+i*9+j,none⟩) h2).trans (h3 i hi j hj)⟩⟩
theorem NdW.toV {w:World} {oa:Option Addr} {cap:Nat} {re:List Nd} (h:NdW w oa cap re) (hl:re.length≤4294967296):NdV w oa re:=
 ⟨hl,fun hp=>by
  obtain⟨nb,no,h1,h2,h3⟩:=h.at_ hp
  exact⟨nb,no,h1,h2,hl,fun i hi j=>if hj:j<9 then .inl (h3 i hi j hj)else .inr (by omega),fun x hx=>(h.wf x hx).2.2.2.2.2⟩⟩
theorem NdW.op {w:World} {oa:Option Addr} {cap:Nat} {re:List Nd} (h:NdW w oa cap re):Hid (∀x∈re,-128≤x.op∧x.op≤127):=fun x hx=>(h.wf x hx).1
theorem NdW.kids {w:World} {oa:Option Addr} {cap:Nat} {re:List Nd} (h:NdW w oa cap re) {i:Nat} {x:Nd} (hx:re[i]?=some x): ∃nb no,oa=some ⟨nb,no,none⟩∧nb<w.heap.size∧w.cell? ⟨nb,no+i*9+8,none⟩=some (.int .i64 x.kids):=by
 have hi:i<re.length:=(zQy.1 hx).1
 obtain⟨nb,no,h1,h2,h3⟩:=h.at_ (by omega)
 have hg:re.getD i Nd.zero=x:=by simp[List.getD_eq_getElem?_getD,hx]
 have:=h3 i hi 8 (by decide)
 rw[hg]at this
 exact⟨nb,no,h1,h2,this⟩
theorem zPx:ElT Tryz.prog 96 3 1 8 (.int .i64 0):=⟨Tryz.underlying96,by kernel_rfl,rfl,by decide⟩
def Ins (w:World) (base:Nat) (v:Value) (xs:List Int):Prop:=w.ownsRow base 3 1 v xs.length (xs.map (.int .i64))
theorem Ins.nil (w:World) (base:Nat):Ins w base (.slice none 0 0) []:=zQ7 _ _ _ _
theorem Ins.lt {w:World} {base:Nat} {v:Value} {xs:List Int} (h:Ins w base v xs): ∀g,v.ownBlock=some g→base≤g∧g<w.heap.size:=World.ownsRow.lt h
theorem Ins.row {w:World} {base:Nat} {v:Value} {xs:List Int} (h:Ins w base v xs) (hn:0<xs.length): ∃g cp,v= .slice (some ⟨g,0,none⟩) xs.length cp∧base≤g∧g<w.heap.size∧xs.length≤cp:=by
 rcases h.2 with ⟨_,h2⟩|⟨g,cp,_,h1,h3,h4,h5,_⟩
 ·omega
 ·exact⟨g,cp,h1,h3,(zQz.1 h4).1,h5⟩
theorem Ins.form {w:World} {base:Nat} {v:Value} {xs:List Int} (h:Ins w base v xs): ∃o c,v= .slice o xs.length c:=by
 rcases h.2 with ⟨h1,h2⟩|⟨g,cp,_,h1,_⟩
 ·exact⟨none,0,by rw[h1,h2]⟩
 ·exact⟨_,_,h1⟩
def zQL (w:World) (e:Ending) (w':World):Prop:=(∃b,e= .returned (.bool b))∧Below w.heap.size w w'
theorem Ins.snoc {w:World} {base:Nat} {v:Value} {xs:List Int} {x:Int} (h:w.ownsRow base 3 1 v (xs.length+1) (xs.map (.int .i64)++[.int .i64 x])):Ins w base v (xs++[x]):=by
 unfold Ins
 rw[zRB,List.map_append]
 exact h
theorem Ins.alloc {w:World} {base:Nat} {v:Value} {xs:List Int} (h:Ins w base v xs) (o:Obj):w.alloc o |>.ownsRow base 3 1 v xs.length (xs.map (.int .i64)):=World.ownsRow.alloc h o
theorem zMd {α:Type} (l:List α):l=[]∨ ∃z x,l=z++[x]:=by
 rcases List.eq_nil_or_concat l with h|⟨z,x,h⟩
 ·exact .inl h
 ·exact .inr ⟨z,x,by simpa using h⟩
theorem zEK {re:List Nd} {oa:Option Addr} {cap:Nat} {w:World} (hv:NdW w oa cap re) (z:re.length*72≤140737488351232):
  Calls Tryz.prog 10 #[.slice oa re.length cap] w (zQL w):=by
 have HV:=zQr hv
 clear hv
 go_enter Tryz.func10,Tryz.ntmps10
 go_wp2_with fail
 go_loopg [3,4] re.length (fun n sv iv wr=> ∃(d:Nat) (xs:List Int),iv= .int .i64 (d:Nat)∧n=re.length - d∧d≤re.length∧Ins wr w.heap.size sv xs∧xs.length≤65536∧Below w.heap.size w wr)
 case atStart=>exact⟨0,[],rfl,by omega,by omega,Ins.nil _ _,by simp,zQs _ _⟩
 case round=>
  obtain⟨d,xs,rfl,hg,hd,hx,hxl,hb⟩:=hrel
  have HG:=zQr hg
  have HX:=zQr hx
  have HB:=zQr hb
  clear hg hx hb
  by_cases hlt:d<re.length
  ·have hlt':(d:Int)<(re.length:Int):=by omega
   obtain⟨x,hxd⟩: ∃x,re[d]?=some x:=⟨_,zQ8 hlt⟩
   obtain⟨nb,no,hoa,hnl,_⟩:=HV.out.kids hxd
   have HKC:=zQr (fun W (hW:Below w.heap.size w W)=>(HV.out.below hW).kids hxd)
   subst hoa
   obtain⟨wo,rfl⟩: ∃wo:World,wo=wr:=⟨_,rfl⟩
   generalize x.kids=xk at*
   clear hxd
   go_wp2_with fail
   go_loopg [3] xs.length (fun m sv wi=> ∃ys:List Int,m=ys.length∧Ins wi w.heap.size sv ys∧ys.length≤65536∧Below w.heap.size w wi)
   case atStart=>exact⟨xs,rfl,HX.out,hxl,HB.out⟩
   case round=>
    obtain⟨ys,hm,hy,hyl,hbi⟩:=hrel
    have HM:=zQr hm
    have HBI:=zQr hbi
    have hbs:=hbi.size
    obtain⟨nb2,no2,he2,hnl2,hkc⟩:=HKC.out _ hbi
    cases he2
    clear hm hbi
    rcases zMd ys with rfl|⟨zs,z,rfl⟩
    ·obtain⟨o,c,rfl⟩:=hy.form
     have HY:=zQr (hy.alloc (.cells #[.int .i64 xk] 3))
     clear hy
     go_wp2_with (at_builtin;refine zAe zPx rfl _ _ rfl w.heap.size rfl HY.out rfl (Src.new wr [.int .i64 xk] _ _ _) rfl (by simp[Value.oneCell']) (by simp[maxLen]) (by simp) (by rw[World.size_alloc];omega) ?_)
     intro v1 w2 hown2 hgr2 hblk2
     have HI:=zQr (show Ins w2 w.heap.size v1 [xk]from hown2)
     have HB2:=zQr ((HBI.out.alloc HBI.out.size (.cells #[.int .i64 xk] 3)).grown hgr2 (by rw[World.size_alloc];omega) (fun k hk=>(HY.out.lt k hk).1))
     obtain⟨o3,c3,rfl⟩:=HI.out.form
     clear hown2 hgr2 hblk2
     go_wp2_with fail
     go_roundg (re.length - (d+1))
     case measure=>have:=HG.out;omega
     case rel=>exact⟨d+1,[xk],by go_num,rfl,by omega,HI.out,by simp,HB2.out⟩
    ·obtain⟨g,cp,hsv,hg1,hg2,hcp⟩:=hy.row (by simp)
     rw[zRB,List.length_singleton]at hsv hyl hcp
     subst hsv
     have hO:wr.ownsRow w.heap.size 3 1 (.slice (some ⟨g,0,none⟩) (zs.length+1) cp) (zs.length+1) (zs.map (.int .i64)++[.int .i64 z]):=by
      unfold Ins at hy
      rw[zRB,List.map_append]at hy
      exact hy
     have hcell:wr.cell? ⟨g,zs.length,none⟩=some (.int .i64 z):=by
      rw[zRG hO _ (by omega),zRD (by simp)]
      simp
     have hfz:=zRH hO zs.length
     have hm1:(zs.length:Int)+1 - 1=(zs.length:Int):=by omega
     have HOW:=zQr hO
     have HHM:=HM.out
     rw[zRB,List.length_singleton]at HHM
     have HMM:=zQr HHM
     clear hy hO HM HHM
     by_cases hz:z≤0
     ·have hz':decide (z≤0)=true:=zQ2 hz
      go_wp2_with fail
      go_roundg zs.length
      case measure=>have:=HMM.out;omega
      case rel=>exact⟨zs,rfl,ownsRow_pop (by simp) HOW.out,by omega,HBI.out⟩
     ·have hz':decide (z≤0)=false:=zQ3 hz
      go_upto_region 9 with fail
      have hst:=(zRF HOW.out zs.length (.int .i64 (wrap64 (z - 1)))).1
      have hset:(zs.map (fun n=>Value.int .i64 n)++[Value.int .i64 z]).set zs.length (Value.int .i64 (wrap64 (z - 1)))=zs.map (fun n=>Value.int .i64 n)++[Value.int .i64 (wrap64 (z - 1))]:=by
       rw[List.set_append_right _ _ (by simp)]
       simp
      rw[hset]at hst
      clear hset
      have HST:=zQr hst
      have HB3:=zQr (HBI.out.setCell (p:=⟨g,zs.length,none⟩) hg1 (.int .i64 (wrap64 (z - 1))))
      have hgs:w.heap.size≤(wr.setCell ⟨g,zs.length,none⟩ (.int .i64 (wrap64 (z - 1)))).heap.size:=by simpa using hbs
      clear hst hcell hfz HOW hkc hnl2
      revert HST HB3 hgs
      generalize wr.setCell ⟨g,zs.length,none⟩ (.int .i64 (wrap64 (z - 1)))=W2
      generalize wrap64 (z - 1)=u
      intro HST HB3 hgs
      obtain⟨nb3,no3,he3,hnl3,hkc⟩:=HKC.out _ HB3.out
      cases he3
      have HY:=zQr (HST.out.alloc (.cells #[.int .i64 xk] 3))
      go_wp2_with (at_builtin;refine zAe zPx rfl _ _ rfl w.heap.size rfl HY.out rfl (Src.new W2 [.int .i64 xk] _ _ _) rfl (by simp[Value.oneCell']) (by unfold maxLen;omega) (by omega) (by rw[World.size_alloc];omega) ?_)
      intro v1 w2 hown2 hgr2 hblk2
      have HI:=zQr (show Ins w2 w.heap.size v1 (zs++[u]++[xk])from by
       refine Ins.snoc ?_
       rw[zRB,List.length_singleton,List.map_append,List.append_assoc]
       exact hown2)
      have HB4:=zQr ((HB3.out.alloc HB3.out.size (.cells #[.int .i64 xk] 3)).grown hgr2 (by rw[World.size_alloc];omega) (fun k hk=>(HY.out.lt k hk).1))
      obtain⟨o3,c3,hv1⟩:=HI.out.form
      rw[show(zs++[u]++[xk]).length=zs.length+1+1 by simp]at hv1
      subst hv1
      clear hown2 hgr2 hblk2 hkc hnl3
      by_cases hbig:65536<zs.length+1+1
      ·have hbig':decide ((65536:Int)<(zs.length:Int)+1+1)=true:=zQ2 (by omega)
       go_wp2_with fail
       go_ret
       exact⟨⟨_,rfl⟩,HB4.out⟩
      ·have hbig':decide ((65536:Int)<(zs.length:Int)+1+1)=false:=zQ3 (by omega)
       go_wp2_with fail
       go_roundg (re.length - (d+1))
       case measure=>have:=HG.out;omega
       case rel=>exact⟨d+1,zs++[u]++[xk],by go_num,rfl,by omega,HI.out,by simp;omega,HB4.out⟩
  ·have hlt': ¬(d:Int)<(re.length:Int):=by omega
   go_wp2_with fail
   go_ret
   exact⟨⟨_,rfl⟩,HB.out⟩
end
section
open Go.RowKit
def zGf (i:Nat):Nd:=⟨0,Cls.zero,1048576*9+(i:Int)+1,-7,0,0⟩
def zCP (n:Nat):List Nd:=(List.range 64).map fun k=>zGf (n+k)
def zQB (w:World) (g i:Nat) (x:Nd):World:=((((((((w.setCell ⟨g,i*9,none⟩ (.int .i8 x.op)).setCell ⟨g,i*9+1,none⟩ (.int .u64 x.set.w0.toNat)).setCell ⟨g,i*9+2,none⟩ (.int .u64 x.set.w1.toNat)).setCell ⟨g,i*9+3,none⟩ (.int .u64 x.set.w2.toNat)).setCell ⟨g,i*9+4,none⟩ (.int .u64 x.set.w3.toNat)).setCell ⟨g,i*9+5,none⟩ (.int .i64 x.n)).setCell ⟨g,i*9+6,none⟩ (.int .i64 x.min)).setCell ⟨g,i*9+7,none⟩ (.int .i64 x.max)).setCell ⟨g,i*9+8,none⟩ (.int .i64 x.kids)
theorem zMW (n:Nat):(madeCells #[Value.int .i8 0,.int .u64 0,.int .u64 0,.int .u64 0,.int .u64 0,.int .i64 0,.int .i64 0,.int .i64 0,.int .i64 0] (n*9)).toList=zEp (List.replicate n Nd.zero):=by
 refine List.ext_getElem? fun j=>?_
 by_cases hj:j<n*9
 ·have h1:=zCr (List.replicate n Nd.zero) (j / 9) (j % 9) (by rw[List.length_replicate];omega) (by omega)
  rw[show j / 9*9+j % 9=j by omega]at h1
  rw[h1]
  have hg:(List.replicate n Nd.zero).getD (j / 9) Nd.zero=Nd.zero:=by
   rw[zQ0,List.getElem?_replicate]
   split<;>rfl
  rw[hg]
  have h9:j % 9<9:=by omega
  simp only[madeCells,Array.toList_map,Array.toList_range,List.getElem?_map,List.getElem?_range hj,Option.map_some]
  generalize j % 9=k at h9
  have:k=0∨k=1∨k=2∨k=3∨k=4∨k=5∨k=6∨k=7∨k=8:=by omega
  rcases this with rfl|rfl|rfl|rfl|rfl|rfl|rfl|rfl|rfl<;>rfl
 ·rw[zRR (by rw[Array.length_toList,size_madeCells];omega),zRR (by rw[zBp,List.length_replicate];omega)]
def zFs (full:List Nd) (n d:Nat):List Nd:=full.take d++List.replicate (n - d) Nd.zero
theorem zHu {full:List Nd} {n d:Nat} (hf:full.length=n) (hd:d≤n):(zFs full n d).length=n:=by
 rw[zFs,zRB,List.length_take,List.length_replicate];omega
theorem zHt {full:List Nd} {n d:Nat} {x:Nd} (hf:full.length=n) (hd:d<n) (hx:full[d]?=some x):(zFs full n d).set d x=zFs full n (d+1):=by
 unfold zFs
 have hl:(full.take d).length=d:=by rw[List.length_take];omega
 rw[List.set_append_right _ _ (by omega),hl,Nat.sub_self,List.take_add_one,hx,show n - d=(n - (d+1))+1 by omega,List.replicate_succ,List.set_cons_zero]
 simp
theorem zKt {full:List Nd} {n d:Nat} (hf:full.length=n) (hd:d<n):(zFs full n d).getD d Nd.zero=Nd.zero:=by
 unfold zFs
 have hl:(full.take d).length=d:=by rw[List.length_take];omega
 rw[zQ0,zRD (by omega),List.getElem?_replicate]
 split<;>rfl
theorem zNp (l:List Nd) (i:Nat) (x:Nd) (hi:i<l.length):zEp (l.set i x)=((((((((((zEp l).set (i*9) (.int .i8 x.op)).set (i*9+1) (.int .u64 x.set.w0.toNat)).set (i*9+2) (.int .u64 x.set.w1.toNat)).set (i*9+3) (.int .u64 x.set.w2.toNat)).set (i*9+4) (.int .u64 x.set.w3.toNat)).set (i*9+5) (.int .i64 x.n)).set (i*9+6) (.int .i64 x.min)).set (i*9+7) (.int .i64 x.max)).set (i*9+8) (.int .i64 x.kids)):=by
 refine List.ext_getElem? fun j=>?_
 simp only[List.getElem?_set,List.length_set,zBp]
 by_cases hj:j<l.length*9
 ·have h1:=zCr (l.set i x) (j / 9) (j % 9) (by rw[List.length_set];omega) (by omega)
  rw[show j / 9*9+j % 9=j by omega]at h1
  rw[h1]
  have h2:=zCr l (j / 9) (j % 9) (by omega) (by omega)
  rw[show j / 9*9+j % 9=j by omega]at h2
  by_cases hji:j / 9=i
  ·have hg:(l.set i x).getD (j / 9) Nd.zero=x:=by rw[hji,zQ0,List.getElem?_set];simp[hi]
   rw[hg]
   have hj2:j=i*9+j % 9:=by omega
   have h9:j % 9<9:=by omega
   generalize j % 9=k at*
   subst hj2
   have:k=0∨k=1∨k=2∨k=3∨k=4∨k=5∨k=6∨k=7∨k=8:=by omega
   rcases this with rfl|rfl|rfl|rfl|rfl|rfl|rfl|rfl|rfl<;>simp[zAT]<;>omega
  ·have hg:(l.set i x).getD (j / 9) Nd.zero=l.getD (j / 9) Nd.zero:=by rw[zQ0,zQ0,List.getElem?_set,if_neg (fun h=>hji h.symm)]
   rw[hg,←h2]
   repeat rw[if_neg (by omega)]
 ·rw[zRR (by rw[zBp,List.length_set];omega),zRR (by rw[zBp];omega)]
  repeat' (split)
  all_goals first|rfl|omega
theorem Nds.put {w:World} {base g n cap i:Nat} {l:List Nd} (h:Nds w base (.slice (some ⟨g,0,none⟩) n cap) l) (hn:l.length=n) (hi:i<n) (x:Nd):Nds (zQB w g i x) base (.slice (some ⟨g,0,none⟩) n cap) (l.set i x):=by
 unfold Nds at h ⊢
 rw[List.length_set,zNp l i x (by omega),hn]
 rw[hn]at h
 unfold zQB
 have s:=fun {w:World} {xs:List Value} (h:w.ownsRow base 101 9 (.slice (some ⟨g,0,none⟩) n cap) n xs) (j:Nat) (u:Value)=>(zRF h j u).1
 exact s (s (s (s (s (s (s (s (s h _ _) _ _) _ _) _ _) _ _) _ _) _ _) _ _) _ _
theorem zGn {w:World} {g k:Nat} (h:k≤g) (i:Nat) (x:Nd):Below k w (zQB w g i x):=
 ((((((((((zQs k w).setCell (p:=⟨g,i*9,none⟩) h _).setCell (p:=⟨g,i*9+1,none⟩) h _).setCell (p:=⟨g,i*9+2,none⟩) h _).setCell (p:=⟨g,i*9+3,none⟩) h _).setCell (p:=⟨g,i*9+4,none⟩) h _).setCell (p:=⟨g,i*9+5,none⟩) h _).setCell (p:=⟨g,i*9+6,none⟩) h _).setCell (p:=⟨g,i*9+7,none⟩) h _).setCell (p:=⟨g,i*9+8,none⟩) h _)
theorem Nds.nine {w:World} {base g n cap i:Nat} {l:List Nd} (h:Nds w base (.slice (some ⟨g,0,none⟩) n cap) l) (hn:l.length=n) (hi:i<n) {x:Nd} (hx:l.getD i Nd.zero=x):
  w.cell? ⟨g,i*9,none⟩=some (.int .i8 x.op)∧w.cell? ⟨g,i*9+1,none⟩=some (.int .u64 x.set.w0.toNat)∧w.cell? ⟨g,i*9+2,none⟩=some (.int .u64 x.set.w1.toNat)∧w.cell? ⟨g,i*9+3,none⟩=some (.int .u64 x.set.w2.toNat)∧w.cell? ⟨g,i*9+4,none⟩=some (.int .u64 x.set.w3.toNat)∧
  w.cell? ⟨g,i*9+5,none⟩=some (.int .i64 x.n)∧w.cell? ⟨g,i*9+6,none⟩=some (.int .i64 x.min)∧w.cell? ⟨g,i*9+7,none⟩=some (.int .i64 x.max)∧w.cell? ⟨g,i*9+8,none⟩=some (.int .i64 x.kids)∧ ∀o,w.frozen? ⟨g,o,none⟩=false:=by
 unfold Nds at h
 rw[hn]at h
 have hc: ∀j,j<9→w.cell? ⟨g,i*9+j,none⟩=(zAT x)[j]?:=fun j hj=>by
  rw[zRG h _ (by omega),zCr l i j (by omega) hj,hx]
 exact⟨hc 0 (by decide),hc 1 (by decide),hc 2 (by decide),hc 3 (by decide),hc 4 (by decide),hc 5 (by decide),hc 6 (by decide),hc 7 (by decide),hc 8 (by decide),fun o=>zRH h o⟩
end
section
open Go.RowKit Go.ChangeShapes Go.WideShapes Go.Deep
section
variable {H:Type} {enc:TypeId × Value→H} {w:World} {spare:Nat→Bool} {held:Bool}
theorem zIf {α:Type} {l:List α} (h:l.length=4): ∃a b c d,l=[a,b,c,d]:=by
 match l,h with
 |[a,b,c,d],_=>exact⟨a,b,c,d,rfl⟩
theorem zNz {α:Type} {l:List α} (h:l.length=6): ∃a b c d e f,l=[a,b,c,d,e,f]:=by
 match l,h with
 |[a,b,c,d,e,f],_=>exact⟨a,b,c,d,e,f,rfl⟩
theorem zMc {α:Type} {l:List α} (h:l.length=9): ∃a b c d e f g i j,l=[a,b,c,d,e,f,g,i,j]:=by
 match l,h with
 |[a,b,c,d,e,f,g,i,j],_=>exact⟨a,b,c,d,e,f,g,i,j,rfl⟩
def zP0 (x:Nd):Prop:=(-128≤x.op∧x.op≤127)∧(-9223372036854775808≤x.n∧x.n≤9223372036854775807)∧(-9223372036854775808≤x.min∧x.min≤9223372036854775807)∧(-9223372036854775808≤x.max∧x.max≤9223372036854775807)∧(-9223372036854775808≤x.kids∧x.kids≤9223372036854775807)
theorem zPa {a:Int} (h:0≤a∧a≤18446744073709551615): ∃b:BitVec 64,a=((b.toNat:Nat):Int):=⟨BitVec.ofNat 64 a.toNat,by
 rw[BitVec.toNat_ofNat,Nat.mod_eq_of_lt (by omega)]
 omega⟩
theorem zEb {n:Nat} {v:Value} {x:DataW H × List MemPlace} (h:DataW.trod enc Tryz.prog w 0 spare held n 97 [v]=some x): ∃b:BitVec 64,v= .int .u64 ((b.toNat:Nat):Int):=by
 obtain⟨a,ha,_,wa⟩:=DataW.trod_int Tryz.underlying97 h
 obtain⟨b,hb⟩:=zPa (bounds_u64 wa)
 simp only[List.cons.injEq,and_true]at ha
 exact⟨b,by rw[ha,hb]⟩
theorem zPz {c m n e:Nat} {cs:List Value} {xs:List (DataW H × List MemPlace)} (hf: ∀i,i<n→DataW.trod enc Tryz.prog w 0 spare held m e ((cs.drop (i*Tryz.prog.cellsOf e)).take (Tryz.prog.cellsOf e))=xs[i]?) (hk:Tryz.prog.cellsOf e=c) {i:Nat} (hi:i<n):DataW.trod enc Tryz.prog w 0 spare held m e ((cs.drop (i*c)).take c)=xs[i]?:=by
 subst hk
 exact hf i hi
theorem zLE {n:Nat} {cs:List Value} {x:DataW H × List MemPlace} (hl:cs.length=4) (h:DataW.trod enc Tryz.prog w 0 spare held n 99 cs=some x): ∃c:Cls,cs=[.int .u64 c.w0.toNat,.int .u64 c.w1.toNat,.int .u64 c.w2.toNat,.int .u64 c.w3.toNat]:=by
 obtain⟨c0,c1,c2,c3,rfl⟩:=zIf hl
 obtain⟨xs,m,_,_,_,hx,hf⟩:=DataW.trod_array Tryz.underlying99 h
 obtain⟨y0,y1,y2,y3,rfl⟩:=zIf hx
 have e1:Tryz.prog.cellsOf 97=1:=by kernel_rfl
 have h0:=zPz hf e1 (i:=0) (by decide)
 have h1:=zPz hf e1 (i:=1) (by decide)
 have h2:=zPz hf e1 (i:=2) (by decide)
 have h3:=zPz hf e1 (i:=3) (by decide)
 obtain⟨b0,rfl⟩:=zEb h0
 obtain⟨b1,rfl⟩:=zEb h1
 obtain⟨b2,rfl⟩:=zEb h2
 obtain⟨b3,rfl⟩:=zEb h3
 exact⟨⟨b0,b1,b2,b3⟩,rfl⟩
theorem zML {n:Nat} {cs:List Value} {x:DataW H × List MemPlace} (h:DataW.trod enc Tryz.prog w 0 spare held n 101 cs=some x): ∃m:Nd,zP0 m∧cs=(zAT m).toList:=by
 obtain⟨xs,n',_,_,hl,hx,hf⟩:=DataW.trod_struct Tryz.underlying101 h
 have hl2:cs.length=9:=hl.trans (by kernel_rfl)
 obtain⟨c0,c1,c2,c3,c4,c5,c6,c7,c8,rfl⟩:=zMc hl2
 obtain⟨x0,x1,x2,x3,x4,x5,rfl⟩:=zNz hx
 have h0:=fld hf (i:=0) (ty:=28) (off:=0) (k:=1) rfl rfl rfl (by kernel_rfl)
 have h1:=fld hf (i:=1) (ty:=99) (off:=1) (k:=4) rfl rfl rfl (by kernel_rfl)
 have h2:=fld hf (i:=2) (ty:=3) (off:=5) (k:=1) rfl rfl rfl (by kernel_rfl)
 have h3:=fld hf (i:=3) (ty:=3) (off:=6) (k:=1) rfl rfl rfl (by kernel_rfl)
 have h4:=fld hf (i:=4) (ty:=3) (off:=7) (k:=1) rfl rfl rfl (by kernel_rfl)
 have h5:=fld hf (i:=5) (ty:=3) (off:=8) (k:=1) rfl rfl rfl (by kernel_rfl)
 simp only[List.drop_zero,List.take_succ_cons,List.take_zero,List.drop_succ_cons,List.getElem?_cons_zero,List.getElem?_cons_succ]at h0 h1 h2 h3 h4 h5
 obtain⟨a0,e0,_,w0⟩:=DataW.trod_int Tryz.underlying28 h0
 obtain⟨k,e1⟩:=zLE rfl h1
 obtain⟨a2,e2,_,w2⟩:=DataW.trod_int Tryz.underlying3 h2
 obtain⟨a3,e3,_,w3⟩:=DataW.trod_int Tryz.underlying3 h3
 obtain⟨a4,e4,_,w4⟩:=DataW.trod_int Tryz.underlying3 h4
 obtain⟨a5,e5,_,w5⟩:=DataW.trod_int Tryz.underlying3 h5
 simp only[List.cons.injEq,and_true]at e0 e1 e2 e3 e4 e5
 obtain⟨f1,f2,f3,f4⟩:=e1
 subst e0 e2 e3 e4 e5 f1 f2 f3 f4
 exact⟨⟨a0,k,a2,a3,a4,a5⟩,⟨bounds_i8 w0,bounds_i64 w2,bounds_i64 w3,bounds_i64 w4,bounds_i64 w5⟩,rfl⟩
theorem zGm {t:TypeId} {v:Value} {d:DataW H} {p:List MemPlace} (ht:Tryz.prog.underlying t=some (.slice 101)) (h:DataW.Trod enc Tryz.prog w 0 spare held t v d p) {oa:Option Addr} {len cap:Nat} (hv:v= .slice oa len cap):
  ∃L:List Nd,L.length=len∧NdW w oa cap L∧(L.length=0∨ ∃el sp,d= .slice el sp∧el.length=L.length):=by
 subst hv
 obtain⟨fuel,hf⟩:=h
 rcases open_slice ht hf with ⟨h0,_⟩|⟨a,len2,cap2,m,n',D,Pl,hcs,hb,hl,hmx,hmm,hx,hi⟩
 ·have h0':[Value.slice oa len cap]=[.slice none 0 0]:=h0
  simp only[List.cons.injEq,and_true,Value.slice.injEq]at h0'
  obtain⟨rfl,rfl,rfl⟩:=h0'
  exact⟨[],rfl,⟨fun _=>⟨rfl,rfl⟩,zQt _,fun x hx=>absurd hx (by simp),fun h=>absurd h (by simp)⟩,.inl rfl⟩
 ·have hcs':[Value.slice oa len cap]=[.slice (some a) len2 cap2]:=hcs
  simp only[List.cons.injEq,and_true,Value.slice.injEq]at hcs'
  obtain⟨rfl,rfl,rfl⟩:=hcs'
  have e9:Tryz.prog.cellsOf 101=9:=by kernel_rfl
  rw[e9]at hi
  have hlm:len≤m:=by rw[hmm];split<;>omega
  obtain⟨f,hff⟩:=choose_lt (α:=Int × (BitVec 64 × BitVec 64 × BitVec 64 × BitVec 64) × Int × Int × Int × Int) (n:=len) (p:=fun i q=>zP0 ⟨q.1,⟨q.2.1.1,q.2.1.2.1,q.2.1.2.2.1,q.2.1.2.2.2⟩,q.2.2.1,q.2.2.2.1,q.2.2.2.2.1,q.2.2.2.2.2⟩∧ ∀j,j<9→w.cell? (a.add (i*9+j))=(zAT ⟨q.1,⟨q.2.1.1,q.2.1.2.1,q.2.1.2.2.1,q.2.1.2.2.2⟩,q.2.2.1,q.2.2.2.1,q.2.2.2.2.1,q.2.2.2.2.2⟩)[j]?) (fun i hil=>by
   obtain⟨cs',hc,ht'⟩:=hi i (by omega)
   obtain⟨x,hx,rfl⟩:=zML ht'
   obtain⟨_,_,hat⟩:=World.cells?_some hc
   refine⟨(x.op,(x.set.w0,x.set.w1,x.set.w2,x.set.w3),x.n,x.min,x.max,x.kids),hx,fun j hj=>?_⟩
   have:=hat j hj
   rw[add_add]at this
   rw[this]
   simp)
  have hL:((List.range len).map fun i=>(⟨(f i).1,⟨(f i).2.1.1,(f i).2.1.2.1,(f i).2.1.2.2.1,(f i).2.1.2.2.2⟩,(f i).2.2.1,(f i).2.2.2.1,(f i).2.2.2.2.1,(f i).2.2.2.2.2⟩:Nd)).length=len:=by simp
  refine⟨(List.range len).map fun i=>⟨(f i).1,⟨(f i).2.1.1,(f i).2.1.2.1,(f i).2.1.2.2.1,(f i).2.1.2.2.2⟩,(f i).2.2.1,(f i).2.2.2.1,(f i).2.2.2.2.1,(f i).2.2.2.2.2⟩,hL,⟨fun h=>(by cases h),by rw[hL];exact hl,fun x hx=>?_,fun hp=>?_⟩,?_⟩
  ·simp only[List.mem_map,List.mem_range]at hx
   obtain⟨i,hi2,rfl⟩:=hx
   exact(hff i hi2).1
  ·rw[hL]at hp
   obtain⟨b,off,spot⟩:=a
   have c0:=(hff 0 hp).2 0 (by decide)
   have hspot:spot=none:=by simpa [Addr.add]using World.cell?_spot c0
   subst hspot
   have hadd: ∀k,(⟨b,off,none⟩:Addr).add k=⟨b,off+k,none⟩:=fun k=>by unfold Addr.add;split<;>simp_all
   refine⟨b,off,rfl,zMz c0,fun i hil j hj=>?_⟩
   rw[hL]at hil
   have h1:=(hff i hil).2 j hj
   rw[hadd,←Nat.add_assoc]at h1
   rw[h1]
   simp[List.getD_eq_getElem?_getD,hil]
  ·right
   simp only[Prod.mk.injEq]at hx
   exact⟨_,_,hx.1,by simp⟩
end
end
section
open Go.RowKit Go.ChangeShapes Go.WideShapes Go.Deep
theorem zJv (x:Nd) (w:World):(binOp .eql 101 (ndV x) (ndV x)).run Tryz.prog w= .ok (.bool true) w:=by
 obtain⟨op,⟨x0,x1,x2,x3⟩,xn,xmin,xmax,xk⟩:=x
 rw[ndV,run_eql_struct]
 have hcl:=zOl x0.toNat x1.toNat x2.toNat x3.toNat x0.toNat x1.toNat x2.toNat x3.toNat w
 simp[go_sem,hcl]
theorem Nds.pre {w:World} {base g n cap:Nat} {l r:List Nd} (h:Nds w base (.slice (some ⟨g,0,none⟩) n cap) (l++r)) (hn:(l++r).length=n) (hl:l.length≤4294967296) (hk: ∀x∈l,x.kids≤9223372036854775807):zGP w g 0 l:=
 ⟨(h.lt g rfl).2,hl,fun i hi j=>by
  by_cases hj:j<9
  ·left
   have hlen:(l++r).length=l.length+r.length:=zRB
   unfold Nds at h
   rw[hn]at h
   rw[Nat.zero_add,zRG h _ (by omega),zCr (l++r) i j (by omega) hj]
   congr 2
   rw[zQ0,zQ0,zRC hi]
  ·right;omega,hk⟩
theorem Nds.preV {w:World} {base g n cap:Nat} {l r:List Nd} (h:Nds w base (.slice (some ⟨g,0,none⟩) n cap) (l++r)) (hn:(l++r).length=n) (hl:l.length≤4294967296) (hk: ∀x∈l,x.kids≤9223372036854775807):NdV w (some ⟨g,0,none⟩) l:=
 ⟨hl,fun _=>⟨g,0,rfl,h.pre hn hl hk⟩⟩
end
section
open Go.RowKit
theorem Src.below {w w':World} {v:Value} {m:Nat} {xs:List Value} (h:Src w v m xs) (hb:Below w.heap.size w w'):Src w' v m xs:=by
 rcases h with h|⟨a,c,h,hj⟩
 ·exact .inl h
 ·exact .inr ⟨a,c,h,fun j u hu=>(hb.cell (zRO w _ (hj j u hu))).trans (hj j u hu)⟩
section
variable {w:World} {oa:Option Addr} {cap:Nat} {re:List Nd} {T:List Nat}
end
end
section
open Go.RowKit
section
variable {w w':World} {oa ob:Option Addr} {re:List Nd} {ca cb:Nat}
theorem zKR (ha:NdU w oa re) (hb:NdU w ob re) (z:re.length*72≤140737488355328):
  Calls Tryz.prog 106 #[.slice oa re.length ca,.slice ob re.length cb] w fun e w'=>e= .returned (.bool true)∧Below w.heap.size w w':=by
 have HA:=zQr ha
 have HB:=zQr hb
 have hla:(re.length:Int)≤1954687338269:=by omega
 clear ha hb z
 go_enter Tryz.func106,Tryz.ntmps106
 go_wp2_with fail
 go_loopg [5] re.length (fun n iv wr=> ∃d:Nat,iv= .int .i64 (d:Nat)∧n=re.length - d∧d≤re.length∧Below w.heap.size w wr)
 case atStart=>exact⟨0,rfl,by omega,by omega,zQs _ _⟩
 case round=>
  obtain⟨d,rfl,hg,hd,hbe⟩:=hrel
  have HG:=zQr hg
  have HBE:=zQr hbe
  clear hg
  by_cases hlt:d<re.length
  ·have hlt':(d:Int)<(re.length:Int):=by omega
   obtain⟨na,oo,rfl,nal0,hna⟩:=HA.out (by omega)
   obtain⟨nb,ob',rfl,nbl0,hnb⟩:=HB.out (by omega)
   obtain⟨x,hx⟩: ∃x,re[d]?=some x:=⟨_,zQ8 hlt⟩
   have hna2: ∀i,i<re.length→ ∀j,j<9→wr.cell? ⟨na,oo+i*9+j,none⟩=(zAT (re.getD i Nd.zero))[j]?:=fun i hi j hj=>(hbe.cell (p:=⟨na,oo+i*9+j,none⟩) nal0).trans (hna i hi j hj)
   have hnb2: ∀i,i<re.length→ ∀j,j<9→wr.cell? ⟨nb,ob'+i*9+j,none⟩=(zAT (re.getD i Nd.zero))[j]?:=fun i hi j hj=>(hbe.cell (p:=⟨nb,ob'+i*9+j,none⟩) nbl0).trans (hnb i hi j hj)
   obtain⟨n0,n1,n2,n3,n4,n5,n6,n7,n8⟩:=NdU.cells hna2 hx
   obtain⟨m0,m1,m2,m3,m4,m5,m6,m7,m8⟩:=NdU.cells hnb2 hx
   have nal:na<wr.heap.size:=zQu nal0 hbe.size
   have nbl:nb<wr.heap.size:=zQu nbl0 hbe.size
   have hq:=zO9 x x
   have HX:=zQr hx
   clear hna hnb hna2 hnb2 hbe hx nal0 nbl0
   rw[show(!decide (x=x))=false by simp]at hq
   obtain⟨op,⟨x0,x1,x2,x3⟩,xn,xmin,xmax,xk⟩:=x
   simp only[ndV]at n0 n1 n2 n3 n4 n5 n6 n7 n8 m0 m1 m2 m3 m4 m5 m6 m7 m8 hq
   go_wp2_with fail
   refine zAA (X:=none) 9 [] [0,1,2,3,4,5,6,7,8] (by kernel_rfl) (by kernel_rfl) rfl (fun _ _ _ _ _ h=>h) ?_
   simp only[zAK,zAC,zAD,zAB,List.getD_cons_zero,List.getD_cons_succ,List.drop_succ_cons,List.drop_nil]
   repeat (go_big_quiet_step (fail))
   refine wpQuiet_nil ?_
   go_wp2_with fail
   go_roundg (re.length - (d+1))
   case measure=>have:=HG.out;omega
   case rel=>exact⟨d+1,by go_num,rfl,by omega,HBE.out.drew⟩
  ·have hlt': ¬(d:Int)<(re.length:Int):=by omega
   have hde:d=re.length:=by omega
   subst hde
   go_wp2_with fail
   go_ret
   exact⟨rfl,HBE.out⟩
theorem zMt (k n:Int) (ha:NdU w oa re) (hb:NdU w ob re) (z:re.length*72≤140737488355328):
  Calls Tryz.prog 105 #[.agg #[.int .i8 k,.int .i64 n,.slice oa re.length ca],.agg #[.int .i8 k,.int .i64 n,.slice ob re.length cb]] w fun e w'=>e= .returned (.bool true)∧Below w.heap.size w w':=by
 have hb1:=((zQs w.heap.size w).alloc (zQt _) (.cells #[.int .i8 k,.int .i64 n,.slice oa re.length ca] 31)).alloc (by simp) (.cells #[.int .i8 k,.int .i64 n,.slice ob re.length cb] 31)
 have HE:=zQr (zKR (ca:=ca) (cb:=cb) (ha.below hb1) (hb.below hb1) z)
 have HB:=zQr hb1
 clear ha hb hb1
 go_enter Tryz.func105,Tryz.ntmps105
 go_wp2_with fail
 refine HE.out.mono ?_;rintro e w1 ⟨rfl,hb1⟩
 have HB1:=zQr (HB.out.trans (hb1.mono HB.out.size))
 clear hb1
 go_wp2_with fail
 go_ret
 exact⟨rfl,HB1.out⟩
end
end
section
open Go.RowKit
theorem zHW (a b:Int) {w:World} (ha:0≤a) (ha2:a≤1000) (hb:0≤b) (hb2:b≤281474976710656):
  Calls Tryz.prog 108 #[.int .i64 a,.int .i64 b] w fun e w'=>e= .returned (.int .i64 (1048576*a+b+1))∧w=w':=by
 go_enter Tryz.func108,Tryz.ntmps108
 go_wp2_with fail
 go_ret
 exact⟨rfl,rfl⟩
theorem zGa {re:List Nd} {oa:Option Addr} {cap:Nat} {w:World} (hv:NdU w oa re) (hl:re.length≤1954687338269):
  Calls Tryz.prog 39 #[.slice oa re.length cap] w fun e w'=>(∃g,e= .returned (.slice (some ⟨g,0,none⟩) re.length (re.length+64))∧Nds w' w.heap.size (.slice (some ⟨g,0,none⟩) (re.length+64) (re.length+64)) (re++zCP re.length))∧Below w.heap.size w w':=by
 have HV:=zQr hv
 have HL:=zQr hl
 have hl1:(re.length:Int)≤1954687338269:=by omega
 clear hv hl
 obtain⟨i0,hi,hz0,hz1,hz2⟩:=info_parts (zQY).hi
 go_enter Tryz.func39,Tryz.ntmps39
 go_wp2_with (at_make;refine wpList_make_full _ rfl _ _ 29 rfl w.heap.size 101 i0 _ 9 Tryz.underlying29 hi hz0 hz1 .i64 .i64 ((re.length:Int)+64) ((re.length:Int)+64) (re.length+64) rfl rfl (by omega) (by omega) (by rw[hz2];have:=HL.out;omega) (by unfold maxLen;have:=HL.out;omega) (Nat.le_refl _) ?_)
 intro w1 hown hgr
 have hN1:Nds w1 w.heap.size (.slice (some ⟨w.heap.size,0,none⟩) (re.length+64) (re.length+64)) (zFs (re++zCP re.length) (re.length+64) 0):=by
  unfold Nds zFs
  rw[List.take_zero,List.nil_append,Nat.sub_zero,List.length_replicate,←zMW]
  exact hown
 have HN1:=zQr hN1
 have HB1:=zQr ((zQs w.heap.size w).grown hgr (zQt _) (fun k hk=>by cases hk))
 have HF:=zQr (show(re++zCP re.length).length=re.length+64 by rw[zRB];simp[zCP])
 have hg1:w.heap.size<w1.heap.size:=(hN1.lt _ rfl).2
 clear hown hgr hN1 hi hz0 hz1 hz2
 go_wp2_with fail
 go_loopg [4] (re.length+64) (fun n iv wr=> ∃d:Nat,iv= .int .i64 (d:Nat)∧n=re.length+64 - d∧d≤re.length+64∧Nds wr w.heap.size (.slice (some ⟨w.heap.size,0,none⟩) (re.length+64) (re.length+64)) (zFs (re++zCP re.length) (re.length+64) d)∧Below w.heap.size w wr)
 case atStart=>exact⟨0,rfl,by omega,by omega,HN1.out,HB1.out⟩
 case round=>
  obtain⟨d,rfl,hg2,hd,hn,hb⟩:=hrel
  have HG:=zQr hg2
  have HNN:=zQr hn
  have HB:=zQr hb
  have hgw:w.heap.size<wr.heap.size:=(hn.lt _ rfl).2
  have hsl:=zHu HF.out hd
  by_cases hlt:d<re.length+64
  ·have hlt':(d:Int)<(re.length:Int)+64:=by omega
   obtain⟨z0,z1,z2,z3,z4,z5,z6,z7,z8,zf⟩:=hn.nine hsl hlt (zKt HF.out hlt)
   have HSL:=zQr hsl
   clear hg2 hn hb hsl
   by_cases hin:d<re.length
   ·have hin':(d:Int)<(re.length:Int):=by omega
    obtain⟨x,hx⟩: ∃x,re[d]?=some x:=⟨_,zQ8 hin⟩
    have HX:=zQr (show(re++zCP re.length)[d]?=some x by rw[zRC hin];exact hx)
    obtain⟨nb,no,hoa,nbl,hnd⟩:=(HV.out.below HB.out) (by omega)
    obtain⟨n0,n1,n2,n3,n4,n5,n6,n7,n8⟩:=NdU.cells hnd hx
    subst hoa
    clear hnd hx
    go_wp2_with fail
    go_roundg (re.length+64 - (d+1))
    case measure=>have:=HG.out;omega
    case rel=>exact⟨d+1,by go_num,rfl,by omega,by rw[←zHt HF.out hlt HX.out];exact Nds.put HNN.out HSL.out hlt x,HB.out.trans (zGn (zQt _) d x)⟩
   ·have hin': ¬(d:Int)<(re.length:Int):=by omega
    have HX:=zQr (show(re++zCP re.length)[d]?=some (zGf d)by
     rw[zRD (by omega),zCP,List.getElem?_map,List.getElem?_range (by omega),Option.map_some,show re.length+(d - re.length)=d by omega])
    go_wp2_with fail
    refine(zHW 9 (d:Int) (by decide) (by decide) (by omega) (by omega)).mono ?_;rintro e w3 ⟨rfl,rfl⟩
    go_wp2_with fail
    go_roundg (re.length+64 - (d+1))
    case measure=>have:=HG.out;omega
    case rel=>exact⟨d+1,by go_num,rfl,by omega,by rw[←zHt HF.out hlt HX.out];exact Nds.put HNN.out HSL.out hlt (zGf d),HB.out.trans (zGn (zQt _) d (zGf d))⟩
  ·have hlt': ¬(d:Int)<(re.length:Int)+64:=by omega
   have hde:d=re.length+64:=by omega
   subst hde
   have HFin:=zQr (show Nds wr w.heap.size (.slice (some ⟨w.heap.size,0,none⟩) (re.length+64) (re.length+64)) (re++zCP re.length)by
    have h:=HNN.out
    unfold zFs at h
    rw[List.take_of_length_le (by have:=HF.out;omega),Nat.sub_self,List.replicate_zero,List.append_nil]at h
    exact h)
   clear hg2 hn hb hsl
   go_wp2_with fail
   go_ret
   exact⟨⟨w.heap.size,rfl,HFin.out⟩,HB.out⟩
theorem zD7 {l:List Nd} {n g base:Nat} {w:World} (hn:Nds w base (.slice (some ⟨g,0,none⟩) (n+64) (n+64)) (l++zCP n)) (hl:l.length=n) (hb:n≤1954687338269):
  Calls Tryz.prog 53 #[.slice (some ⟨g,0,none⟩) n (n+64)] w fun e w'=>e= .returned (.bool true)∧Below w.heap.size w w':=by
 have HN:=zQr hn
 have HL:=zQr hl
 have hgw:g<w.heap.size:=(hn.lt _ rfl).2
 clear hn hl
 go_enter Tryz.func53,Tryz.ntmps53
 go_wp2_with fail
 go_loopg [4] 64 (fun m iv wr=> ∃d:Nat,iv= .int .i64 ((n+d:Nat):Int)∧m=64 - d∧d≤64∧Below w.heap.size w wr)
 case atStart=>exact⟨0,rfl,by omega,by omega,zQs _ _⟩
 case round=>
  obtain⟨d,rfl,hg,hd,hbe⟩:=hrel
  have HG:=zQr hg
  have HB:=zQr hbe
  have HNR:=zQr (HN.out.below hbe)
  have hgr:g<wr.heap.size:=zQu hgw hbe.size
  clear hg hbe
  obtain⟨k,hk⟩: ∃k,k=n+d:=⟨_,rfl⟩
  rw[←hk]
  by_cases hlt:d<64
  ·have hlt':(k:Int)<(n:Int)+64:=by omega
   obtain⟨z0,z1,z2,z3,z4,z5,z6,z7,z8,_⟩:=HNR.out.nine (by rw[zRB,HL.out];simp[zCP]) (show k<n+64 by omega) (show(l++zCP n).getD k Nd.zero=zGf k by
    rw[zQ0,zRD (by have:=HL.out;omega),zCP,List.getElem?_map,List.getElem?_range (by have:=HL.out;omega),Option.map_some,HL.out,show n+(k - n)=k by omega]
    rfl)
   have z5':wr.cell? ⟨g,k*9+5,none⟩=some (.int .i64 (9437184+(k:Int)+1)):=z5
   have hq:=zJv ⟨0,Cls.zero,9437184+(k:Int)+1,-7,0,0⟩
   simp only[zGf,Cls.zero]at z0 z1 z2 z3 z4 z6 z7 z8
   have hq': ∀w,(binOp .eql 101 (.agg #[.int .i8 0,.int .u64 0,.int .u64 0,.int .u64 0,.int .u64 0,.int .i64 (9437184+(k:Int)+1),.int .i64 (-7),.int .i64 0,.int .i64 0]) (.agg #[.int .i8 0,.int .u64 0,.int .u64 0,.int .u64 0,.int .u64 0,.int .i64 (9437184+(k:Int)+1),.int .i64 (-7),.int .i64 0,.int .i64 0])).run Tryz.prog w= .ok (.bool true) w:=hq
   have HKK:=zQr hk
   have hkb:(k:Int)≤1954687338400:=by omega
   clear hq z5 hk
   go_wp2_with fail
   refine zAA (X:=none) 9 [([0,1,2,3,4],5)] [6,7,8] (by kernel_rfl) (by kernel_rfl) rfl (fun _ _ _ _ _ h=>h) ?_
   simp only[zAK,zAC,zAE,zAD,zAB,List.getD_cons_zero,List.getD_cons_succ,List.drop_succ_cons,List.drop_nil]
   repeat (go_big_quiet_step (fail))
   refine wpQuiet_nil ?_
   go_wp2_with fail
   refine(zHW 9 (k:Int) (by decide) (by decide) (by omega) (by omega)).mono ?_;rintro e w3 ⟨rfl,rfl⟩
   go_wp2_with fail
   refine⟨zAJ.refl _,?_⟩
   repeat (go_big_quiet_step (fail))
   refine wpQuiet_nil ?_
   go_wp2_with fail
   go_roundg (64 - (d+1))
   case measure=>have:=HG.out;omega
   case rel=>exact⟨d+1,by have:=HKK.out;rw[show n+(d+1)=k+1 by omega];go_num,rfl,by omega,HB.out.drew⟩
  ·have hlt': ¬(k:Int)<(n:Int)+64:=by omega
   have HKK:=zQr hk
   clear hk
   go_wp2_with fail
   go_ret
   exact⟨rfl,HB.out⟩
end
end Go.Proofs.YtmaagpbjahjmhaaGreatDoor
