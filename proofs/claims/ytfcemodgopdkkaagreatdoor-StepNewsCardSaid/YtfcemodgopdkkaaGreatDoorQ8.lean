/- Parts: Th Tk Uf Ug Ur Uha Gja Ha Uh. -/
import Derived.Test.YtfcemodgopdkkaaGreatDoorQ7
import Derived.Test.YtfcemodgopdkkaaGreatDoorQ2
import Derived.Deep.Slices
import Derived.OpenShut
set_option maxHeartbeats 1600000
set_option maxRecDepth 100000
namespace Go.Proofs.YtfcemodgopdkkaaGreatDoor
section
open Go.RowKit Go.ChangeShapes Go.WideShapes Go.Deep
theorem zIo {w:World} {a:Addr} {v:Value} (h:w.cell? a=some v):a.block<w.heap.size:=by
 rcases Nat.lt_or_ge a.block w.heap.size with h'|h'
 ·exact h'
 ·simp[World.cell?,Array.getElem?_eq_none h']at h
theorem zGT {α:Type} {l:List α} (h:l.length=2): ∃a b,l=[a,b]:=by
 match l,h with
 |[a,b],_=>exact⟨a,b,rfl⟩
section
variable {H:Type} {enc:TypeId × Value→H} {w:World} {spare:Nat→Bool} {held:Bool}
theorem fld {n':Nat} {fs:Array Field} {cs:List Value} {xs:List (DataW H × List MemPlace)} (hf: ∀(i:Nat) (f:Field),fs[i]?=some f→DataW.trod enc Tryz.prog w 0 spare held n' f.type ((cs.drop f.offset).take (Tryz.prog.cellsOf f.type))=xs[i]?)
  {i ty off k:Nat} {f:Field} (hi:fs[i]?=some f) (h1:f.type=ty) (h2:f.offset=off) (h3:Tryz.prog.cellsOf ty=k):DataW.trod enc Tryz.prog w 0 spare held n' ty ((cs.drop off).take k)=xs[i]?:=by
 subst h1 h2 h3
 exact hf i f hi
end
end
section
open Go.RowKit
theorem zKp {w:World} {nb no cap:Nat} {re:List Nd} (h:zCm w nb no re) (k:Nat) (hk:k≤re.length):Src w (.slice (some ⟨nb,no+k*9,none⟩) (re.drop k).length cap) (re.drop k).length (zBb (re.drop k)):=by
 refine .inr ⟨_,_,rfl,fun j u hu=>?_⟩
 have hj:j<(zBb (re.drop k)).length:=(zMF.1 hu).1
 rw[zAi]at hj
 have hadd:(⟨nb,no+k*9,none⟩:Addr).add j=⟨nb,no+k*9+j,none⟩:=by unfold Addr.add;split<;>simp_all
 have hc:=zBH (re.drop k) (j / 9) (j % 9) (by omega) (by omega)
 rw[show j / 9*9+j % 9=j by omega,hu]at hc
 rw[List.length_drop]at hj
 have h1:=(h.c (k+j / 9) (by omega) (j % 9)).resolve_right (by omega)
 have hg:(re.drop k).getD (j / 9) Nd.zero=re.getD (k+j / 9) Nd.zero:=by simp[List.getD_eq_getElem?_getD,List.getElem?_drop]
 rw[hg]at hc
 rw[hadd,show no+k*9+j=no+(k+j / 9)*9+j % 9 by omega,h1,←hc]
theorem NdV.src {w:World} {oa:Option Addr} {cap:Nat} {re:List Nd} (h:NdV w oa re) (hp:0<re.length):Src w (.slice oa re.length cap) re.length (zBb re):=by
 obtain⟨nb,no,rfl,hn⟩:=h.at_ hp
 have:=zKp (cap:=cap) hn 0 (by omega)
 simpa using this
theorem Nds.toV2 {w:World} {base:Nat} {v:Value} {re:List Nd} (h:Nds w base v re) (hl:re.length≤4294967296) (hk: ∀x∈re,x.kids≤9223372036854775807): ∃oa cp,v= .slice oa re.length cp∧re.length≤cp∧NdV w oa re:=by
 rcases h.2 with ⟨rfl,h0⟩|⟨g,cp,cur,rfl,hg1,hg2,hcp,_⟩
 ·exact⟨none,0,by rw[h0],by omega,hl,fun h=>by omega⟩
 ·refine⟨_,_,rfl,hcp,hl,fun hn=>⟨g,0,rfl,(zMG.1 hg2).1,hl,fun i hi j=>?_,hk⟩⟩
  by_cases hj:j<9
  ·left
   have hc:=zMX h (i*9+j) (by omega)
   rw[show 0+i*9+j=i*9+j by omega,hc,zBH re i j hi hj]
  ·right;omega
end
section
open Go.RowKit
structure NdW (w:World) (oa:Option Addr) (cap:Nat) (re:List Nd):Prop where
 no:oa=none→re=[]∧cap=0
 cp:re.length≤cap
 wf: ∀x∈re,(-128≤x.op∧x.op≤127)∧(-9223372036854775808≤x.n∧x.n≤9223372036854775807)∧(-9223372036854775808≤x.min∧x.min≤9223372036854775807)∧(-9223372036854775808≤x.max∧x.max≤9223372036854775807)∧(-9223372036854775808≤x.kids∧x.kids≤9223372036854775807)
 at_:0<re.length→ ∃nb no,oa=some ⟨nb,no,none⟩∧nb<w.heap.size∧ ∀i,i<re.length→ ∀j,j<9→w.cell? ⟨nb,no+i*9+j,none⟩=(zAY (re.getD i Nd.zero))[j]?
theorem NdW.below {w w':World} {oa:Option Addr} {cap:Nat} {re:List Nd} (h:NdW w oa cap re) (hb:Below w.heap.size w w'):NdW w' oa cap re:=
 ⟨h.no,h.cp,h.wf,fun hp=>by
  obtain⟨nb,no,h1,h2,h3⟩:=h.at_ hp
  exact⟨nb,no,h1,zMB h2 hb.size,fun i hi j hj=>(hb.cell (p:=⟨nb,no+i*9+j,none⟩) h2).trans (h3 i hi j hj)⟩⟩
theorem NdW.toV {w:World} {oa:Option Addr} {cap:Nat} {re:List Nd} (h:NdW w oa cap re) (hl:re.length≤4294967296):NdV w oa re:=
 ⟨hl,fun hp=>by
  obtain⟨nb,no,h1,h2,h3⟩:=h.at_ hp
  exact⟨nb,no,h1,h2,hl,fun i hi j=>if hj:j<9 then .inl (h3 i hi j hj)else .inr (by omega),fun x hx=>(h.wf x hx).2.2.2.2.2⟩⟩
theorem NdW.op {w:World} {oa:Option Addr} {cap:Nat} {re:List Nd} (h:NdW w oa cap re):Hid (∀x∈re,-128≤x.op∧x.op≤127):=fun x hx=>(h.wf x hx).1
theorem NdW.kids {w:World} {oa:Option Addr} {cap:Nat} {re:List Nd} (h:NdW w oa cap re) {i:Nat} {x:Nd} (hx:re[i]?=some x): ∃nb no,oa=some ⟨nb,no,none⟩∧nb<w.heap.size∧w.cell? ⟨nb,no+i*9+8,none⟩=some (.int .i64 x.kids):=by
 have hi:i<re.length:=(zMF.1 hx).1
 obtain⟨nb,no,h1,h2,h3⟩:=h.at_ (by omega)
 have hg:re.getD i Nd.zero=x:=by simp[List.getD_eq_getElem?_getD,hx]
 have:=h3 i hi 8 (by decide)
 rw[hg]at this
 exact⟨nb,no,h1,h2,this⟩
theorem zEO:ElT Tryz.prog 23 3 1 8 (.int .i64 0):=⟨Tryz.underlying23,by kernel_rfl,rfl,by decide⟩
def Ins (w:World) (base:Nat) (v:Value) (xs:List Int):Prop:=w.ownsRow base 3 1 v xs.length (xs.map (.int .i64))
theorem Ins.nil (w:World) (base:Nat):Ins w base (.slice none 0 0) []:=zMO _ _ _ _
theorem Ins.lt {w:World} {base:Nat} {v:Value} {xs:List Int} (h:Ins w base v xs): ∀g,v.ownBlock=some g→base≤g∧g<w.heap.size:=World.ownsRow.lt h
theorem Ins.row {w:World} {base:Nat} {v:Value} {xs:List Int} (h:Ins w base v xs) (hn:0<xs.length): ∃g cp,v= .slice (some ⟨g,0,none⟩) xs.length cp∧base≤g∧g<w.heap.size∧xs.length≤cp:=by
 rcases h.2 with ⟨_,h2⟩|⟨g,cp,_,h1,h3,h4,h5,_⟩
 ·omega
 ·exact⟨g,cp,h1,h3,(zMG.1 h4).1,h5⟩
theorem Ins.form {w:World} {base:Nat} {v:Value} {xs:List Int} (h:Ins w base v xs): ∃o c,v= .slice o xs.length c:=by
 rcases h.2 with ⟨h1,h2⟩|⟨g,cp,_,h1,_⟩
 ·exact⟨none,0,by rw[h1,h2]⟩
 ·exact⟨_,_,h1⟩
def zLZ (w:World) (e:Ending) (w':World):Prop:=(∃b,e= .returned (.bool b))∧Below w.heap.size w w'
theorem Ins.snoc {w:World} {base:Nat} {v:Value} {xs:List Int} {x:Int} (h:w.ownsRow base 3 1 v (xs.length+1) (xs.map (.int .i64)++[.int .i64 x])):Ins w base v (xs++[x]):=by
 unfold Ins
 rw[zMS,List.map_append]
 exact h
theorem Ins.alloc {w:World} {base:Nat} {v:Value} {xs:List Int} (h:Ins w base v xs) (o:Obj):w.alloc o |>.ownsRow base 3 1 v xs.length (xs.map (.int .i64)):=World.ownsRow.alloc h o
theorem zIX {α:Type} (l:List α):l=[]∨ ∃z x,l=z++[x]:=by
 rcases List.eq_nil_or_concat l with h|⟨z,x,h⟩
 ·exact .inl h
 ·exact .inr ⟨z,x,by simpa using h⟩
theorem zCY {re:List Nd} {oa:Option Addr} {cap:Nat} {w:World} (hv:NdW w oa cap re) (z:re.length*72≤140737488351232):
  Calls Tryz.prog 19 #[.slice oa re.length cap] w (zLZ w):=by
 have HV:=zL8 hv
 clear hv
 go_enter Tryz.func19,Tryz.ntmps19
 go_wp2_with fail
 go_loopg [3,4] re.length (fun n sv iv wr=> ∃(d:Nat) (xs:List Int),iv= .int .i64 (d:Nat)∧n=re.length - d∧d≤re.length∧Ins wr w.heap.size sv xs∧xs.length≤65536∧Below w.heap.size w wr)
 case atStart=>exact⟨0,[],rfl,by omega,by omega,Ins.nil _ _,by simp,zL9 _ _⟩
 case round=>
  obtain⟨d,xs,rfl,hg,hd,hx,hxl,hb⟩:=hrel
  have HG:=zL8 hg
  have HX:=zL8 hx
  have HB:=zL8 hb
  clear hg hx hb
  by_cases hlt:d<re.length
  ·have hlt':(d:Int)<(re.length:Int):=by omega
   obtain⟨x,hxd⟩: ∃x,re[d]?=some x:=⟨_,zMP hlt⟩
   obtain⟨nb,no,hoa,hnl,_⟩:=HV.out.kids hxd
   have HKC:=zL8 (fun W (hW:Below w.heap.size w W)=>(HV.out.below hW).kids hxd)
   subst hoa
   obtain⟨wo,rfl⟩: ∃wo:World,wo=wr:=⟨_,rfl⟩
   generalize x.kids=xk at*
   clear hxd
   go_wp2_with fail
   go_loopg [3] xs.length (fun m sv wi=> ∃ys:List Int,m=ys.length∧Ins wi w.heap.size sv ys∧ys.length≤65536∧Below w.heap.size w wi)
   case atStart=>exact⟨xs,rfl,HX.out,hxl,HB.out⟩
   case round=>
    obtain⟨ys,hm,hy,hyl,hbi⟩:=hrel
    have HM:=zL8 hm
    have HBI:=zL8 hbi
    have hbs:=hbi.size
    obtain⟨nb2,no2,he2,hnl2,hkc⟩:=HKC.out _ hbi
    cases he2
    clear hm hbi
    rcases zIX ys with rfl|⟨zs,z,rfl⟩
    ·obtain⟨o,c,rfl⟩:=hy.form
     have HY:=zL8 (hy.alloc (.cells #[.int .i64 xk] 3))
     clear hy
     go_wp2_with (at_builtin;refine zAN zEO rfl _ _ rfl w.heap.size rfl HY.out rfl (Src.new wr [.int .i64 xk] _ _ _) rfl (by simp[Value.oneCell']) (by simp[maxLen]) (by simp) (by rw[World.size_alloc];omega) ?_)
     intro v1 w2 hown2 hgr2 hblk2
     have HI:=zL8 (show Ins w2 w.heap.size v1 [xk]from hown2)
     have HB2:=zL8 ((HBI.out.alloc HBI.out.size (.cells #[.int .i64 xk] 3)).grown hgr2 (by rw[World.size_alloc];omega) (fun k hk=>(HY.out.lt k hk).1))
     obtain⟨o3,c3,rfl⟩:=HI.out.form
     clear hown2 hgr2 hblk2
     go_wp2_with fail
     go_roundg (re.length - (d+1))
     case measure=>have:=HG.out;omega
     case rel=>exact⟨d+1,[xk],by go_num,rfl,by omega,HI.out,by simp,HB2.out⟩
    ·obtain⟨g,cp,hsv,hg1,hg2,hcp⟩:=hy.row (by simp)
     rw[zMS,List.length_singleton]at hsv hyl hcp
     subst hsv
     have hO:wr.ownsRow w.heap.size 3 1 (.slice (some ⟨g,0,none⟩) (zs.length+1) cp) (zs.length+1) (zs.map (.int .i64)++[.int .i64 z]):=by
      unfold Ins at hy
      rw[zMS,List.map_append]at hy
      exact hy
     have hcell:wr.cell? ⟨g,zs.length,none⟩=some (.int .i64 z):=by
      rw[zMX hO _ (by omega),zMU (by simp)]
      simp
     have hfz:=zMY hO zs.length
     have hm1:(zs.length:Int)+1 - 1=(zs.length:Int):=by omega
     have HOW:=zL8 hO
     have HHM:=HM.out
     rw[zMS,List.length_singleton]at HHM
     have HMM:=zL8 HHM
     clear hy hO HM HHM
     by_cases hz:z≤0
     ·have hz':decide (z≤0)=true:=zMJ hz
      go_wp2_with fail
      go_roundg zs.length
      case measure=>have:=HMM.out;omega
      case rel=>exact⟨zs,rfl,ownsRow_pop (by simp) HOW.out,by omega,HBI.out⟩
     ·have hz':decide (z≤0)=false:=zMK hz
      go_upto_region 9 with fail
      have hst:=(zMW HOW.out zs.length (.int .i64 (wrap64 (z - 1)))).1
      have hset:(zs.map (fun n=>Value.int .i64 n)++[Value.int .i64 z]).set zs.length (Value.int .i64 (wrap64 (z - 1)))=zs.map (fun n=>Value.int .i64 n)++[Value.int .i64 (wrap64 (z - 1))]:=by
       rw[List.set_append_right _ _ (by simp)]
       simp
      rw[hset]at hst
      clear hset
      have HST:=zL8 hst
      have HB3:=zL8 (HBI.out.setCell (p:=⟨g,zs.length,none⟩) hg1 (.int .i64 (wrap64 (z - 1))))
      have hgs:w.heap.size≤(wr.setCell ⟨g,zs.length,none⟩ (.int .i64 (wrap64 (z - 1)))).heap.size:=by simpa using hbs
      clear hst hcell hfz HOW hkc hnl2
      revert HST HB3 hgs
      generalize wr.setCell ⟨g,zs.length,none⟩ (.int .i64 (wrap64 (z - 1)))=W2
      generalize wrap64 (z - 1)=u
      intro HST HB3 hgs
      obtain⟨nb3,no3,he3,hnl3,hkc⟩:=HKC.out _ HB3.out
      cases he3
      have HY:=zL8 (HST.out.alloc (.cells #[.int .i64 xk] 3))
      go_wp2_with (at_builtin;refine zAN zEO rfl _ _ rfl w.heap.size rfl HY.out rfl (Src.new W2 [.int .i64 xk] _ _ _) rfl (by simp[Value.oneCell']) (by unfold maxLen;omega) (by omega) (by rw[World.size_alloc];omega) ?_)
      intro v1 w2 hown2 hgr2 hblk2
      have HI:=zL8 (show Ins w2 w.heap.size v1 (zs++[u]++[xk])from by
       refine Ins.snoc ?_
       rw[zMS,List.length_singleton,List.map_append,List.append_assoc]
       exact hown2)
      have HB4:=zL8 ((HB3.out.alloc HB3.out.size (.cells #[.int .i64 xk] 3)).grown hgr2 (by rw[World.size_alloc];omega) (fun k hk=>(HY.out.lt k hk).1))
      obtain⟨o3,c3,hv1⟩:=HI.out.form
      rw[show(zs++[u]++[xk]).length=zs.length+1+1 by simp]at hv1
      subst hv1
      clear hown2 hgr2 hblk2 hkc hnl3
      by_cases hbig:65536<zs.length+1+1
      ·have hbig':decide ((65536:Int)<(zs.length:Int)+1+1)=true:=zMJ (by omega)
       go_wp2_with fail
       go_ret
       exact⟨⟨_,rfl⟩,HB4.out⟩
      ·have hbig':decide ((65536:Int)<(zs.length:Int)+1+1)=false:=zMK (by omega)
       go_wp2_with fail
       go_roundg (re.length - (d+1))
       case measure=>have:=HG.out;omega
       case rel=>exact⟨d+1,zs++[u]++[xk],by go_num,rfl,by omega,HI.out,by simp;omega,HB4.out⟩
  ·have hlt': ¬(d:Int)<(re.length:Int):=by omega
   go_wp2_with fail
   go_ret
   exact⟨⟨_,rfl⟩,HB.out⟩
end
section
open Go.RowKit
def zDr (i:Nat):Nd:=⟨0,Cls.zero,1048576*9+(i:Int)+1,-7,0,0⟩
def zA7 (n:Nat):List Nd:=(List.range 64).map fun k=>zDr (n+k)
def zLM (w:World) (g i:Nat) (x:Nd):World:=((((((((w.setCell ⟨g,i*9,none⟩ (.int .i8 x.op)).setCell ⟨g,i*9+1,none⟩ (.int .u64 x.set.w0.toNat)).setCell ⟨g,i*9+2,none⟩ (.int .u64 x.set.w1.toNat)).setCell ⟨g,i*9+3,none⟩ (.int .u64 x.set.w2.toNat)).setCell ⟨g,i*9+4,none⟩ (.int .u64 x.set.w3.toNat)).setCell ⟨g,i*9+5,none⟩ (.int .i64 x.n)).setCell ⟨g,i*9+6,none⟩ (.int .i64 x.min)).setCell ⟨g,i*9+7,none⟩ (.int .i64 x.max)).setCell ⟨g,i*9+8,none⟩ (.int .i64 x.kids)
theorem zIO (n:Nat):(madeCells #[Value.int .i8 0,.int .u64 0,.int .u64 0,.int .u64 0,.int .u64 0,.int .i64 0,.int .i64 0,.int .i64 0,.int .i64 0] (n*9)).toList=zBb (List.replicate n Nd.zero):=by
 refine List.ext_getElem? fun j=>?_
 by_cases hj:j<n*9
 ·have h1:=zBH (List.replicate n Nd.zero) (j / 9) (j % 9) (by rw[List.length_replicate];omega) (by omega)
  rw[show j / 9*9+j % 9=j by omega]at h1
  rw[h1]
  have hg:(List.replicate n Nd.zero).getD (j / 9) Nd.zero=Nd.zero:=by
   rw[zMH,List.getElem?_replicate]
   split<;>rfl
  rw[hg]
  have h9:j % 9<9:=by omega
  simp only[madeCells,Array.toList_map,Array.toList_range,List.getElem?_map,List.getElem?_range hj,Option.map_some]
  generalize j % 9=k at h9
  have:k=0∨k=1∨k=2∨k=3∨k=4∨k=5∨k=6∨k=7∨k=8:=by omega
  rcases this with rfl|rfl|rfl|rfl|rfl|rfl|rfl|rfl|rfl<;>rfl
 ·rw[zMj (by rw[Array.length_toList,size_madeCells];omega),zMj (by rw[zAi,List.length_replicate];omega)]
def zDK (full:List Nd) (n d:Nat):List Nd:=full.take d++List.replicate (n - d) Nd.zero
theorem zEb {full:List Nd} {n d:Nat} (hf:full.length=n) (hd:d≤n):(zDK full n d).length=n:=by
 rw[zDK,zMS,List.length_take,List.length_replicate];omega
theorem zEa {full:List Nd} {n d:Nat} {x:Nd} (hf:full.length=n) (hd:d<n) (hx:full[d]?=some x):(zDK full n d).set d x=zDK full n (d+1):=by
 unfold zDK
 have hl:(full.take d).length=d:=by rw[List.length_take];omega
 rw[List.set_append_right _ _ (by omega),hl,Nat.sub_self,List.take_add_one,hx,show n - d=(n - (d+1))+1 by omega,List.replicate_succ,List.set_cons_zero]
 simp
theorem zGu {full:List Nd} {n d:Nat} (hf:full.length=n) (hd:d<n):(zDK full n d).getD d Nd.zero=Nd.zero:=by
 unfold zDK
 have hl:(full.take d).length=d:=by rw[List.length_take];omega
 rw[zMH,zMU (by omega),List.getElem?_replicate]
 split<;>rfl
theorem zJO (l:List Nd) (i:Nat) (x:Nd) (hi:i<l.length):zBb (l.set i x)=((((((((((zBb l).set (i*9) (.int .i8 x.op)).set (i*9+1) (.int .u64 x.set.w0.toNat)).set (i*9+2) (.int .u64 x.set.w1.toNat)).set (i*9+3) (.int .u64 x.set.w2.toNat)).set (i*9+4) (.int .u64 x.set.w3.toNat)).set (i*9+5) (.int .i64 x.n)).set (i*9+6) (.int .i64 x.min)).set (i*9+7) (.int .i64 x.max)).set (i*9+8) (.int .i64 x.kids)):=by
 refine List.ext_getElem? fun j=>?_
 simp only[List.getElem?_set,List.length_set,zAi]
 by_cases hj:j<l.length*9
 ·have h1:=zBH (l.set i x) (j / 9) (j % 9) (by rw[List.length_set];omega) (by omega)
  rw[show j / 9*9+j % 9=j by omega]at h1
  rw[h1]
  have h2:=zBH l (j / 9) (j % 9) (by omega) (by omega)
  rw[show j / 9*9+j % 9=j by omega]at h2
  by_cases hji:j / 9=i
  ·have hg:(l.set i x).getD (j / 9) Nd.zero=x:=by rw[hji,zMH,List.getElem?_set];simp[hi]
   rw[hg]
   have hj2:j=i*9+j % 9:=by omega
   have h9:j % 9<9:=by omega
   generalize j % 9=k at*
   subst hj2
   have:k=0∨k=1∨k=2∨k=3∨k=4∨k=5∨k=6∨k=7∨k=8:=by omega
   rcases this with rfl|rfl|rfl|rfl|rfl|rfl|rfl|rfl|rfl<;>simp[zAY]<;>omega
  ·have hg:(l.set i x).getD (j / 9) Nd.zero=l.getD (j / 9) Nd.zero:=by rw[zMH,zMH,List.getElem?_set,if_neg (fun h=>hji h.symm)]
   rw[hg,←h2]
   repeat rw[if_neg (by omega)]
 ·rw[zMj (by rw[zAi,List.length_set];omega),zMj (by rw[zAi];omega)]
  repeat' (split)
  all_goals first|rfl|omega
theorem Nds.put {w:World} {base g n cap i:Nat} {l:List Nd} (h:Nds w base (.slice (some ⟨g,0,none⟩) n cap) l) (hn:l.length=n) (hi:i<n) (x:Nd):Nds (zLM w g i x) base (.slice (some ⟨g,0,none⟩) n cap) (l.set i x):=by
 unfold Nds at h ⊢
 rw[List.length_set,zJO l i x (by omega),hn]
 rw[hn]at h
 unfold zLM
 have s:=fun {w:World} {xs:List Value} (h:w.ownsRow base 127 9 (.slice (some ⟨g,0,none⟩) n cap) n xs) (j:Nat) (u:Value)=>(zMW h j u).1
 exact s (s (s (s (s (s (s (s (s h _ _) _ _) _ _) _ _) _ _) _ _) _ _) _ _) _ _
theorem zDy {w:World} {g k:Nat} (h:k≤g) (i:Nat) (x:Nd):Below k w (zLM w g i x):=
 ((((((((((zL9 k w).setCell (p:=⟨g,i*9,none⟩) h _).setCell (p:=⟨g,i*9+1,none⟩) h _).setCell (p:=⟨g,i*9+2,none⟩) h _).setCell (p:=⟨g,i*9+3,none⟩) h _).setCell (p:=⟨g,i*9+4,none⟩) h _).setCell (p:=⟨g,i*9+5,none⟩) h _).setCell (p:=⟨g,i*9+6,none⟩) h _).setCell (p:=⟨g,i*9+7,none⟩) h _).setCell (p:=⟨g,i*9+8,none⟩) h _)
theorem Nds.nine {w:World} {base g n cap i:Nat} {l:List Nd} (h:Nds w base (.slice (some ⟨g,0,none⟩) n cap) l) (hn:l.length=n) (hi:i<n) {x:Nd} (hx:l.getD i Nd.zero=x):
  w.cell? ⟨g,i*9,none⟩=some (.int .i8 x.op)∧w.cell? ⟨g,i*9+1,none⟩=some (.int .u64 x.set.w0.toNat)∧w.cell? ⟨g,i*9+2,none⟩=some (.int .u64 x.set.w1.toNat)∧w.cell? ⟨g,i*9+3,none⟩=some (.int .u64 x.set.w2.toNat)∧w.cell? ⟨g,i*9+4,none⟩=some (.int .u64 x.set.w3.toNat)∧
  w.cell? ⟨g,i*9+5,none⟩=some (.int .i64 x.n)∧w.cell? ⟨g,i*9+6,none⟩=some (.int .i64 x.min)∧w.cell? ⟨g,i*9+7,none⟩=some (.int .i64 x.max)∧w.cell? ⟨g,i*9+8,none⟩=some (.int .i64 x.kids)∧ ∀o,w.frozen? ⟨g,o,none⟩=false:=by
 unfold Nds at h
 rw[hn]at h
 have hc: ∀j,j<9→w.cell? ⟨g,i*9+j,none⟩=(zAY x)[j]?:=fun j hj=>by
  rw[zMX h _ (by omega),zBH l i j (by omega) hj,hx]
 exact⟨hc 0 (by decide),hc 1 (by decide),hc 2 (by decide),hc 3 (by decide),hc 4 (by decide),hc 5 (by decide),hc 6 (by decide),hc 7 (by decide),hc 8 (by decide),fun o=>zMY h o⟩
end
section
open Go.RowKit Go.ChangeShapes Go.WideShapes Go.Deep
section
variable {H:Type} {enc:TypeId × Value→H} {w:World} {spare:Nat→Bool} {held:Bool}
theorem zE4 {α:Type} {l:List α} (h:l.length=4): ∃a b c d,l=[a,b,c,d]:=by
 match l,h with
 |[a,b,c,d],_=>exact⟨a,b,c,d,rfl⟩
theorem zJT {α:Type} {l:List α} (h:l.length=6): ∃a b c d e f,l=[a,b,c,d,e,f]:=by
 match l,h with
 |[a,b,c,d,e,f],_=>exact⟨a,b,c,d,e,f,rfl⟩
theorem zIW {α:Type} {l:List α} (h:l.length=9): ∃a b c d e f g i j,l=[a,b,c,d,e,f,g,i,j]:=by
 match l,h with
 |[a,b,c,d,e,f,g,i,j],_=>exact⟨a,b,c,d,e,f,g,i,j,rfl⟩
def zLD (x:Nd):Prop:=(-128≤x.op∧x.op≤127)∧(-9223372036854775808≤x.n∧x.n≤9223372036854775807)∧(-9223372036854775808≤x.min∧x.min≤9223372036854775807)∧(-9223372036854775808≤x.max∧x.max≤9223372036854775807)∧(-9223372036854775808≤x.kids∧x.kids≤9223372036854775807)
theorem zKb {a:Int} (h:0≤a∧a≤18446744073709551615): ∃b:BitVec 64,a=((b.toNat:Nat):Int):=⟨BitVec.ofNat 64 a.toNat,by
 rw[BitVec.toNat_ofNat,Nat.mod_eq_of_lt (by omega)]
 omega⟩
theorem zCf {n:Nat} {v:Value} {x:DataW H × List MemPlace} (h:DataW.trod enc Tryz.prog w 0 spare held n 123 [v]=some x): ∃b:BitVec 64,v= .int .u64 ((b.toNat:Nat):Int):=by
 obtain⟨a,ha,_,wa⟩:=DataW.trod_int Tryz.underlying123 h
 obtain⟨b,hb⟩:=zKb (bounds_u64 wa)
 simp only[List.cons.injEq,and_true]at ha
 exact⟨b,by rw[ha,hb]⟩
theorem zLC {c m n e:Nat} {cs:List Value} {xs:List (DataW H × List MemPlace)} (hf: ∀i,i<n→DataW.trod enc Tryz.prog w 0 spare held m e ((cs.drop (i*Tryz.prog.cellsOf e)).take (Tryz.prog.cellsOf e))=xs[i]?) (hk:Tryz.prog.cellsOf e=c) {i:Nat} (hi:i<n):DataW.trod enc Tryz.prog w 0 spare held m e ((cs.drop (i*c)).take c)=xs[i]?:=by
 subst hk
 exact hf i hi
theorem zHD {n:Nat} {cs:List Value} {x:DataW H × List MemPlace} (hl:cs.length=4) (h:DataW.trod enc Tryz.prog w 0 spare held n 125 cs=some x): ∃c:Cls,cs=[.int .u64 c.w0.toNat,.int .u64 c.w1.toNat,.int .u64 c.w2.toNat,.int .u64 c.w3.toNat]:=by
 obtain⟨c0,c1,c2,c3,rfl⟩:=zE4 hl
 obtain⟨xs,m,_,_,_,hx,hf⟩:=DataW.trod_array Tryz.underlying125 h
 obtain⟨y0,y1,y2,y3,rfl⟩:=zE4 hx
 have e1:Tryz.prog.cellsOf 123=1:=by kernel_rfl
 have h0:=zLC hf e1 (i:=0) (by decide)
 have h1:=zLC hf e1 (i:=1) (by decide)
 have h2:=zLC hf e1 (i:=2) (by decide)
 have h3:=zLC hf e1 (i:=3) (by decide)
 obtain⟨b0,rfl⟩:=zCf h0
 obtain⟨b1,rfl⟩:=zCf h1
 obtain⟨b2,rfl⟩:=zCf h2
 obtain⟨b3,rfl⟩:=zCf h3
 exact⟨⟨b0,b1,b2,b3⟩,rfl⟩
theorem zIF {n:Nat} {cs:List Value} {x:DataW H × List MemPlace} (h:DataW.trod enc Tryz.prog w 0 spare held n 127 cs=some x): ∃m:Nd,zLD m∧cs=(zAY m).toList:=by
 obtain⟨xs,n',_,_,hl,hx,hf⟩:=DataW.trod_struct Tryz.underlying127 h
 have hl2:cs.length=9:=hl.trans (by kernel_rfl)
 obtain⟨c0,c1,c2,c3,c4,c5,c6,c7,c8,rfl⟩:=zIW hl2
 obtain⟨x0,x1,x2,x3,x4,x5,rfl⟩:=zJT hx
 have h0:=fld hf (i:=0) (ty:=63) (off:=0) (k:=1) rfl rfl rfl (by kernel_rfl)
 have h1:=fld hf (i:=1) (ty:=125) (off:=1) (k:=4) rfl rfl rfl (by kernel_rfl)
 have h2:=fld hf (i:=2) (ty:=3) (off:=5) (k:=1) rfl rfl rfl (by kernel_rfl)
 have h3:=fld hf (i:=3) (ty:=3) (off:=6) (k:=1) rfl rfl rfl (by kernel_rfl)
 have h4:=fld hf (i:=4) (ty:=3) (off:=7) (k:=1) rfl rfl rfl (by kernel_rfl)
 have h5:=fld hf (i:=5) (ty:=3) (off:=8) (k:=1) rfl rfl rfl (by kernel_rfl)
 simp only[List.drop_zero,List.take_succ_cons,List.take_zero,List.drop_succ_cons,List.getElem?_cons_zero,List.getElem?_cons_succ]at h0 h1 h2 h3 h4 h5
 obtain⟨a0,e0,_,w0⟩:=DataW.trod_int Tryz.underlying63 h0
 obtain⟨k,e1⟩:=zHD rfl h1
 obtain⟨a2,e2,_,w2⟩:=DataW.trod_int Tryz.underlying3 h2
 obtain⟨a3,e3,_,w3⟩:=DataW.trod_int Tryz.underlying3 h3
 obtain⟨a4,e4,_,w4⟩:=DataW.trod_int Tryz.underlying3 h4
 obtain⟨a5,e5,_,w5⟩:=DataW.trod_int Tryz.underlying3 h5
 simp only[List.cons.injEq,and_true]at e0 e1 e2 e3 e4 e5
 obtain⟨f1,f2,f3,f4⟩:=e1
 subst e0 e2 e3 e4 e5 f1 f2 f3 f4
 exact⟨⟨a0,k,a2,a3,a4,a5⟩,⟨bounds_i8 w0,bounds_i64 w2,bounds_i64 w3,bounds_i64 w4,bounds_i64 w5⟩,rfl⟩
theorem zDx {t:TypeId} {v:Value} {d:DataW H} {p:List MemPlace} (ht:Tryz.prog.underlying t=some (.slice 127)) (h:DataW.Trod enc Tryz.prog w 0 spare held t v d p) {oa:Option Addr} {len cap:Nat} (hv:v= .slice oa len cap):
  ∃L:List Nd,L.length=len∧NdW w oa cap L∧(L.length=0∨ ∃el sp,d= .slice el sp∧el.length=L.length):=by
 subst hv
 obtain⟨fuel,hf⟩:=h
 rcases open_slice ht hf with ⟨h0,_⟩|⟨a,len2,cap2,m,n',D,Pl,hcs,hb,hl,hmx,hmm,hx,hi⟩
 ·have h0':[Value.slice oa len cap]=[.slice none 0 0]:=h0
  simp only[List.cons.injEq,and_true,Value.slice.injEq]at h0'
  obtain⟨rfl,rfl,rfl⟩:=h0'
  exact⟨[],rfl,⟨fun _=>⟨rfl,rfl⟩,zMA _,fun x hx=>absurd hx (by simp),fun h=>absurd h (by simp)⟩,.inl rfl⟩
 ·have hcs':[Value.slice oa len cap]=[.slice (some a) len2 cap2]:=hcs
  simp only[List.cons.injEq,and_true,Value.slice.injEq]at hcs'
  obtain⟨rfl,rfl,rfl⟩:=hcs'
  have e9:Tryz.prog.cellsOf 127=9:=by kernel_rfl
  rw[e9]at hi
  have hlm:len≤m:=by rw[hmm];split<;>omega
  obtain⟨f,hff⟩:=choose_lt (α:=Int × (BitVec 64 × BitVec 64 × BitVec 64 × BitVec 64) × Int × Int × Int × Int) (n:=len) (p:=fun i q=>zLD ⟨q.1,⟨q.2.1.1,q.2.1.2.1,q.2.1.2.2.1,q.2.1.2.2.2⟩,q.2.2.1,q.2.2.2.1,q.2.2.2.2.1,q.2.2.2.2.2⟩∧ ∀j,j<9→w.cell? (a.add (i*9+j))=(zAY ⟨q.1,⟨q.2.1.1,q.2.1.2.1,q.2.1.2.2.1,q.2.1.2.2.2⟩,q.2.2.1,q.2.2.2.1,q.2.2.2.2.1,q.2.2.2.2.2⟩)[j]?) (fun i hil=>by
   obtain⟨cs',hc,ht'⟩:=hi i (by omega)
   obtain⟨x,hx,rfl⟩:=zIF ht'
   obtain⟨_,_,hat⟩:=World.cells?_some hc
   refine⟨(x.op,(x.set.w0,x.set.w1,x.set.w2,x.set.w3),x.n,x.min,x.max,x.kids),hx,fun j hj=>?_⟩
   have:=hat j hj
   rw[add_add]at this
   rw[this]
   simp)
  have hL:((List.range len).map fun i=>(⟨(f i).1,⟨(f i).2.1.1,(f i).2.1.2.1,(f i).2.1.2.2.1,(f i).2.1.2.2.2⟩,(f i).2.2.1,(f i).2.2.2.1,(f i).2.2.2.2.1,(f i).2.2.2.2.2⟩:Nd)).length=len:=by simp
  refine⟨(List.range len).map fun i=>⟨(f i).1,⟨(f i).2.1.1,(f i).2.1.2.1,(f i).2.1.2.2.1,(f i).2.1.2.2.2⟩,(f i).2.2.1,(f i).2.2.2.1,(f i).2.2.2.2.1,(f i).2.2.2.2.2⟩,hL,⟨fun h=>(by cases h),by rw[hL];exact hl,fun x hx=>?_,fun hp=>?_⟩,?_⟩
  ·simp only[List.mem_map,List.mem_range]at hx
   obtain⟨i,hi2,rfl⟩:=hx
   exact(hff i hi2).1
  ·rw[hL]at hp
   obtain⟨b,off,spot⟩:=a
   have c0:=(hff 0 hp).2 0 (by decide)
   have hspot:spot=none:=by simpa [Addr.add]using World.cell?_spot c0
   subst hspot
   have hadd: ∀k,(⟨b,off,none⟩:Addr).add k=⟨b,off+k,none⟩:=fun k=>by unfold Addr.add;split<;>simp_all
   refine⟨b,off,rfl,zIo c0,fun i hil j hj=>?_⟩
   rw[hL]at hil
   have h1:=(hff i hil).2 j hj
   rw[hadd,←Nat.add_assoc]at h1
   rw[h1]
   simp[List.getD_eq_getElem?_getD,hil]
  ·right
   simp only[Prod.mk.injEq]at hx
   exact⟨_,_,hx.1,by simp⟩
end
end
section
open Go.RowKit Go.ChangeShapes Go.WideShapes Go.Deep
theorem zF6 (x:Nd) (w:World):(binOp .eql 127 (ndV x) (ndV x)).run Tryz.prog w= .ok (.bool true) w:=by
 obtain⟨op,⟨x0,x1,x2,x3⟩,xn,xmin,xmax,xk⟩:=x
 rw[ndV,run_eql_struct]
 have hcl:=zJx x0.toNat x1.toNat x2.toNat x3.toNat x0.toNat x1.toNat x2.toNat x3.toNat w
 simp[go_sem,hcl]
theorem Nds.pre {w:World} {base g n cap:Nat} {l r:List Nd} (h:Nds w base (.slice (some ⟨g,0,none⟩) n cap) (l++r)) (hn:(l++r).length=n) (hl:l.length≤4294967296) (hk: ∀x∈l,x.kids≤9223372036854775807):zCm w g 0 l:=
 ⟨(h.lt g rfl).2,hl,fun i hi j=>by
  by_cases hj:j<9
  ·left
   have hlen:(l++r).length=l.length+r.length:=zMS
   unfold Nds at h
   rw[hn]at h
   rw[Nat.zero_add,zMX h _ (by omega),zBH (l++r) i j (by omega) hj]
   congr 2
   rw[zMH,zMH,zMT hi]
  ·right;omega,hk⟩
theorem Nds.preV {w:World} {base g n cap:Nat} {l r:List Nd} (h:Nds w base (.slice (some ⟨g,0,none⟩) n cap) (l++r)) (hn:(l++r).length=n) (hl:l.length≤4294967296) (hk: ∀x∈l,x.kids≤9223372036854775807):NdV w (some ⟨g,0,none⟩) l:=
 ⟨hl,fun _=>⟨g,0,rfl,h.pre hn hl hk⟩⟩
theorem NdV.srcAt {w:World} {a:Addr} {cap:Nat} {re:List Nd} (h:NdV w (some a) re):Src w (.slice (some a) re.length cap) re.length (zBb re):=by
 by_cases hp:0<re.length
 ·exact h.src hp
 ·have:re=[]:=zMg (by omega)
  subst this
  exact .inr ⟨a,cap,rfl,fun j u hu=>by simp[zBb]at hu⟩
end
section
open Go.RowKit
theorem Src.below {w w':World} {v:Value} {m:Nat} {xs:List Value} (h:Src w v m xs) (hb:Below w.heap.size w w'):Src w' v m xs:=by
 rcases h with h|⟨a,c,h,hj⟩
 ·exact .inl h
 ·exact .inr ⟨a,c,h,fun j u hu=>(hb.cell (zMf w _ (hj j u hu))).trans (hj j u hu)⟩
section
variable {w:World} {oa:Option Addr} {cap:Nat} {re:List Nd} {T:List Nat}
theorem NdW.src (h:NdW w oa cap re) (hl:re.length≤4294967296):Src w (.slice oa re.length cap) re.length (zBb re):=by
 cases oa with
 |none=>
  obtain⟨rfl,rfl⟩:=h.no rfl
  exact .inl ⟨rfl,rfl,rfl⟩
 |some a=>exact NdV.srcAt (h.toV hl)
end
end
section
open Go.RowKit
theorem zBt (a b:Int) {w:World} (ha:0≤a) (ha2:a≤1000) (hb:0≤b) (hb2:b≤281474976710656):
  Calls Tryz.prog 54 #[.int .i64 a,.int .i64 b] w fun e w'=>e= .returned (.int .i64 (1048576*a+b+1))∧w=w':=by
 go_enter Tryz.func54,Tryz.ntmps54
 go_wp2_with fail
 go_ret
 exact⟨rfl,rfl⟩
theorem zDp {re:List Nd} {oa:Option Addr} {cap:Nat} {w:World} (hv:NdU w oa re) (hl:re.length≤1954687338269):
  Calls Tryz.prog 102 #[.slice oa re.length cap] w fun e w'=>(∃g,e= .returned (.slice (some ⟨g,0,none⟩) re.length (re.length+64))∧Nds w' w.heap.size (.slice (some ⟨g,0,none⟩) (re.length+64) (re.length+64)) (re++zA7 re.length))∧Below w.heap.size w w':=by
 have HV:=zL8 hv
 have HL:=zL8 hl
 have hl1:(re.length:Int)≤1954687338269:=by omega
 clear hv hl
 obtain⟨i0,hi,hz0,hz1,hz2⟩:=info_parts (zLi).hi
 go_enter Tryz.func102,Tryz.ntmps102
 go_wp2_with (at_make;refine wpList_make_full _ rfl _ _ 64 rfl w.heap.size 127 i0 _ 9 Tryz.underlying64 hi hz0 hz1 .i64 .i64 ((re.length:Int)+64) ((re.length:Int)+64) (re.length+64) rfl rfl (by omega) (by omega) (by rw[hz2];have:=HL.out;omega) (by unfold maxLen;have:=HL.out;omega) (Nat.le_refl _) ?_)
 intro w1 hown hgr
 have hN1:Nds w1 w.heap.size (.slice (some ⟨w.heap.size,0,none⟩) (re.length+64) (re.length+64)) (zDK (re++zA7 re.length) (re.length+64) 0):=by
  unfold Nds zDK
  rw[List.take_zero,List.nil_append,Nat.sub_zero,List.length_replicate,←zIO]
  exact hown
 have HN1:=zL8 hN1
 have HB1:=zL8 ((zL9 w.heap.size w).grown hgr (zMA _) (fun k hk=>by cases hk))
 have HF:=zL8 (show(re++zA7 re.length).length=re.length+64 by rw[zMS];simp[zA7])
 have hg1:w.heap.size<w1.heap.size:=(hN1.lt _ rfl).2
 clear hown hgr hN1 hi hz0 hz1 hz2
 go_wp2_with fail
 go_loopg [4] (re.length+64) (fun n iv wr=> ∃d:Nat,iv= .int .i64 (d:Nat)∧n=re.length+64 - d∧d≤re.length+64∧Nds wr w.heap.size (.slice (some ⟨w.heap.size,0,none⟩) (re.length+64) (re.length+64)) (zDK (re++zA7 re.length) (re.length+64) d)∧Below w.heap.size w wr)
 case atStart=>exact⟨0,rfl,by omega,by omega,HN1.out,HB1.out⟩
 case round=>
  obtain⟨d,rfl,hg2,hd,hn,hb⟩:=hrel
  have HG:=zL8 hg2
  have HNN:=zL8 hn
  have HB:=zL8 hb
  have hgw:w.heap.size<wr.heap.size:=(hn.lt _ rfl).2
  have hsl:=zEb HF.out hd
  by_cases hlt:d<re.length+64
  ·have hlt':(d:Int)<(re.length:Int)+64:=by omega
   obtain⟨z0,z1,z2,z3,z4,z5,z6,z7,z8,zf⟩:=hn.nine hsl hlt (zGu HF.out hlt)
   have HSL:=zL8 hsl
   clear hg2 hn hb hsl
   by_cases hin:d<re.length
   ·have hin':(d:Int)<(re.length:Int):=by omega
    obtain⟨x,hx⟩: ∃x,re[d]?=some x:=⟨_,zMP hin⟩
    have HX:=zL8 (show(re++zA7 re.length)[d]?=some x by rw[zMT hin];exact hx)
    obtain⟨nb,no,hoa,nbl,hnd⟩:=(HV.out.below HB.out) (by omega)
    obtain⟨n0,n1,n2,n3,n4,n5,n6,n7,n8⟩:=NdU.cells hnd hx
    subst hoa
    clear hnd hx
    go_wp2_with fail
    go_roundg (re.length+64 - (d+1))
    case measure=>have:=HG.out;omega
    case rel=>exact⟨d+1,by go_num,rfl,by omega,by rw[←zEa HF.out hlt HX.out];exact Nds.put HNN.out HSL.out hlt x,HB.out.trans (zDy (zMA _) d x)⟩
   ·have hin': ¬(d:Int)<(re.length:Int):=by omega
    have HX:=zL8 (show(re++zA7 re.length)[d]?=some (zDr d)by
     rw[zMU (by omega),zA7,List.getElem?_map,List.getElem?_range (by omega),Option.map_some,show re.length+(d - re.length)=d by omega])
    go_wp2_with fail
    refine(zBt 9 (d:Int) (by decide) (by decide) (by omega) (by omega)).mono ?_;rintro e w3 ⟨rfl,rfl⟩
    go_wp2_with fail
    go_roundg (re.length+64 - (d+1))
    case measure=>have:=HG.out;omega
    case rel=>exact⟨d+1,by go_num,rfl,by omega,by rw[←zEa HF.out hlt HX.out];exact Nds.put HNN.out HSL.out hlt (zDr d),HB.out.trans (zDy (zMA _) d (zDr d))⟩
  ·have hlt': ¬(d:Int)<(re.length:Int)+64:=by omega
   have hde:d=re.length+64:=by omega
   subst hde
   have HFin:=zL8 (show Nds wr w.heap.size (.slice (some ⟨w.heap.size,0,none⟩) (re.length+64) (re.length+64)) (re++zA7 re.length)by
    have h:=HNN.out
    unfold zDK at h
    rw[List.take_of_length_le (by have:=HF.out;omega),Nat.sub_self,List.replicate_zero,List.append_nil]at h
    exact h)
   clear hg2 hn hb hsl
   go_wp2_with fail
   go_ret
   exact⟨⟨w.heap.size,rfl,HFin.out⟩,HB.out⟩
theorem zCN {l:List Nd} {n g base:Nat} {w:World} (hn:Nds w base (.slice (some ⟨g,0,none⟩) (n+64) (n+64)) (l++zA7 n)) (hl:l.length=n) (hb:n≤1954687338269):
  Calls Tryz.prog 137 #[.slice (some ⟨g,0,none⟩) n (n+64)] w fun e w'=>e= .returned (.bool true)∧Below w.heap.size w w':=by
 have HN:=zL8 hn
 have HL:=zL8 hl
 have hgw:g<w.heap.size:=(hn.lt _ rfl).2
 clear hn hl
 go_enter Tryz.func137,Tryz.ntmps137
 go_wp2_with fail
 go_loopg [4] 64 (fun m iv wr=> ∃d:Nat,iv= .int .i64 ((n+d:Nat):Int)∧m=64 - d∧d≤64∧Below w.heap.size w wr)
 case atStart=>exact⟨0,rfl,by omega,by omega,zL9 _ _⟩
 case round=>
  obtain⟨d,rfl,hg,hd,hbe⟩:=hrel
  have HG:=zL8 hg
  have HB:=zL8 hbe
  have HNR:=zL8 (HN.out.below hbe)
  have hgr:g<wr.heap.size:=zMB hgw hbe.size
  clear hg hbe
  obtain⟨k,hk⟩: ∃k,k=n+d:=⟨_,rfl⟩
  rw[←hk]
  by_cases hlt:d<64
  ·have hlt':(k:Int)<(n:Int)+64:=by omega
   obtain⟨z0,z1,z2,z3,z4,z5,z6,z7,z8,_⟩:=HNR.out.nine (by rw[zMS,HL.out];simp[zA7]) (show k<n+64 by omega) (show(l++zA7 n).getD k Nd.zero=zDr k by
    rw[zMH,zMU (by have:=HL.out;omega),zA7,List.getElem?_map,List.getElem?_range (by have:=HL.out;omega),Option.map_some,HL.out,show n+(k - n)=k by omega]
    rfl)
   have z5':wr.cell? ⟨g,k*9+5,none⟩=some (.int .i64 (9437184+(k:Int)+1)):=z5
   have hq:=zF6 ⟨0,Cls.zero,9437184+(k:Int)+1,-7,0,0⟩
   simp only[zDr,Cls.zero]at z0 z1 z2 z3 z4 z6 z7 z8
   have hq': ∀w,(binOp .eql 127 (.agg #[.int .i8 0,.int .u64 0,.int .u64 0,.int .u64 0,.int .u64 0,.int .i64 (9437184+(k:Int)+1),.int .i64 (-7),.int .i64 0,.int .i64 0]) (.agg #[.int .i8 0,.int .u64 0,.int .u64 0,.int .u64 0,.int .u64 0,.int .i64 (9437184+(k:Int)+1),.int .i64 (-7),.int .i64 0,.int .i64 0])).run Tryz.prog w= .ok (.bool true) w:=hq
   have HKK:=zL8 hk
   have hkb:(k:Int)≤1954687338400:=by omega
   clear hq z5 hk
   go_wp2_with fail
   refine zAA (X:=none) 9 [([0,1,2,3,4],5)] [6,7,8] (by kernel_rfl) (by kernel_rfl) rfl (fun _ _ _ _ _ h=>h) ?_
   simp only[zAJ,zAC,zAG,zAD,zAB,List.getD_cons_zero,List.getD_cons_succ,List.drop_succ_cons,List.drop_nil]
   repeat (go_big_quiet_step (fail))
   refine wpQuiet_nil ?_
   go_wp2_with fail
   refine(zBt 9 (k:Int) (by decide) (by decide) (by omega) (by omega)).mono ?_;rintro e w3 ⟨rfl,rfl⟩
   go_wp2_with fail
   refine⟨zAP.refl _,?_⟩
   repeat (go_big_quiet_step (fail))
   refine wpQuiet_nil ?_
   go_wp2_with fail
   go_roundg (64 - (d+1))
   case measure=>have:=HG.out;omega
   case rel=>exact⟨d+1,by have:=HKK.out;rw[show n+(d+1)=k+1 by omega];go_num,rfl,by omega,HB.out.drew⟩
  ·have hlt': ¬(k:Int)<(n:Int)+64:=by omega
   have HKK:=zL8 hk
   clear hk
   go_wp2_with fail
   go_ret
   exact⟨rfl,HB.out⟩
end
section
open Go.RowKit Go.ChangeShapes Go.WideShapes Go.Deep
theorem zB4 {re:List Nd} {oa:Option Addr} {cap:Nat} {w:World} (hs:Src w (.slice oa re.length cap) re.length (zBb re)) (hl:re.length*72≤140737488355328):
  Calls Tryz.prog 168 #[.slice oa re.length cap] w fun e w'=>(∃v,e= .returned v∧Nds w' w.heap.size v re)∧Below w.heap.size w w':=by
 have HV:=zL8 hs
 clear hs
 go_enter Tryz.func168,Tryz.ntmps168
 go_wp2_with (at_builtin;refine zAN zLi rfl _ _ rfl w.heap.size rfl (Nds.nil w w.heap.size) rfl HV.out (zAi re) (zEJ re) (by simp only[List.length_nil];unfold maxLen;omega) (by simp only[List.length_nil];omega) (zMA _) ?_)
 intro v1 w2 hm2 hgr2 hblk2
 have HM:=zL8 (show Nds w2 w.heap.size v1 re by unfold Nds;simpa [zBb]using hm2)
 have HB:=zL8 ((zL9 w.heap.size w).grown hgr2 (zMA _) (fun k hk=>by cases hk))
 clear hm2 hgr2 hblk2
 go_wp2_with fail
 go_ret
 exact⟨⟨_,rfl,HM.out⟩,HB.out⟩
end
end Go.Proofs.YtfcemodgopdkkaaGreatDoor
