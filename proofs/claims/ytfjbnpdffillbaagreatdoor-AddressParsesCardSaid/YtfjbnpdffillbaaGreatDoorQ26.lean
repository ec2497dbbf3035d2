/- Parts: Th Km Tk. -/
import Derived.Test.YtfjbnpdffillbaaGreatDoorQ17
import Derived.Deep.Slices
import Derived.OpenShut
namespace Go.Proofs.YtfjbnpdffillbaaGreatDoor
section
open Go.RowKit Go.ChangeShapes Go.WideShapes Go.Deep
structure MkV (w:World) (oa:Option Addr) (cap:Nat) (L:List Mk):Prop where
 u: ∀i,i<L.length→(zAH L i).b<256
 no:oa=none→L=[]∧cap=0
 cp:L.length≤cap
 at_:0<L.length→ ∃mb mo,oa=some ⟨mb,mo,none⟩∧mb<w.heap.size∧ ∀i,i<L.length→w.cell? ⟨mb,mo+i*2,none⟩=some (.int .u8 ((zAH L i).b:Nat))∧w.cell? ⟨mb,mo+i*2+1,none⟩=some (.bool (zAH L i).p)
theorem MkV.below {w w':World} {oa:Option Addr} {cap:Nat} {L:List Mk} (h:MkV w oa cap L) (hb:Below w.heap.size w w'):MkV w' oa cap L:=
 ⟨h.u,h.no,h.cp,fun hp=>by
  obtain⟨mb,mo,h1,h2,h3⟩:=h.at_ hp
  exact⟨mb,mo,h1,zPi h2 hb.size,fun i hi=>⟨(hb.cell (p:=⟨mb,mo+i*2,none⟩) h2).trans (h3 i hi).1,(hb.cell (p:=⟨mb,mo+i*2+1,none⟩) h2).trans (h3 i hi).2⟩⟩⟩
theorem MkV.arg {w:World} {oa:Option Addr} {cap:Nat} {L:List Mk} (h:MkV w oa cap L):0<L.length→L.length≤4096→ ∃mb mo,oa=some ⟨mb,mo,none⟩∧zE8 w mb mo L:=fun hn hl=>by
 obtain⟨mb,mo,h1,h2,h3⟩:=h.at_ hn
 exact⟨mb,mo,h1,h2,hl,fun i hi=>(h3 i hi).1,fun i hi=>(h3 i hi).2,h.u⟩
theorem zNO (L:List Mk) (j:Nat) (u:Value) (h:(zDW L)[j]?=some u): ∃i,i<L.length∧(j=i*2∧u= .int .u8 ((zAH L i).b:Nat)∨j=i*2+1∧u= .bool (zAH L i).p):=by
 have hj:j<(zDW L).length:=(zPm.1 h).1
 rw[zCN]at hj
 refine⟨j / 2,by omega,?_⟩
 obtain⟨h1,h2⟩:=zCY L (j / 2) (by omega)
 by_cases hm:j % 2=0
 ·left
  have e:j=j / 2*2:=by omega
  rw[←e,h]at h1
  exact⟨e,zQB h1⟩
 ·right
  have e:j=j / 2*2+1:=by omega
  rw[←e,h]at h2
  exact⟨e,zQB h2⟩
theorem MkV.src {w:World} {oa:Option Addr} {cap:Nat} {L:List Mk} (h:MkV w oa cap L):Src w (.slice oa L.length cap) L.length (zDW L):=by
 cases oa with
 |none=>
  obtain⟨rfl,rfl⟩:=h.no rfl
  exact Src.nil w
 |some a=>
  refine .inr ⟨a,cap,rfl,fun j u hu=>?_⟩
  obtain⟨i,hi,hj⟩:=zNO L j u hu
  obtain⟨mb,mo,ha,_,h3⟩:=h.at_ (by omega)
  cases ha
  have hadd: ∀k,(⟨mb,mo,none⟩:Addr).add k=⟨mb,mo+k,none⟩:=fun k=>by unfold Addr.add;split<;>simp_all
  rw[hadd]
  rcases hj with ⟨rfl,rfl⟩|⟨rfl,rfl⟩
  ·exact(h3 i hi).1
  ·rw[←Nat.add_assoc];exact(h3 i hi).2
theorem Mks.toV {w:World} {base:Nat} {v:Value} {L:List Mk} (h:Mks w base v L) (hu: ∀i,i<L.length→(zAH L i).b<256): ∃oa cap,v= .slice oa L.length cap∧MkV w oa cap L:=by
 rcases h.2 with ⟨rfl,h0⟩|⟨g,cp,cur,rfl,hg1,hg2,hcp,_⟩
 ·have:L=[]:=zQE h0
  subst this
  exact⟨none,0,rfl,hu,fun _=>⟨rfl,rfl⟩,zPh _,fun h=>absurd h (by simp)⟩
 ·refine⟨_,_,rfl,hu,(fun h=>by cases h),hcp,fun _=>⟨g,0,rfl,(zPn.1 hg2).1,fun i hi=>?_⟩⟩
  have hadd: ∀j,(⟨g,0,none⟩:Addr).add j=⟨g,j,none⟩:=fun j=>by unfold Addr.add;split<;>simp_all
  have hc: ∀j u,(zDW L)[j]?=some u→w.cell? ⟨g,j,none⟩=some u:=fun j u hu=>by
   rw[←hadd];exact World.ownsRow.cells h rfl j u hu
  rw[Nat.zero_add]
  exact⟨hc _ _ (zCY L i hi).1,hc _ _ (zCY L i hi).2⟩
theorem zMM (n:Int) {w:World} :Calls Tryz.prog 10 #[.int .i64 n] w fun e w'=>e= .returned (.bool (decide (2147483647<n)))∧w=w':=by
 go_enter Tryz.func10,Tryz.ntmps10
 go_wp2_with fail
 go_ret
 exact⟨rfl,rfl⟩
theorem MkV.take {w:World} {oa:Option Addr} {cap:Nat} {L:List Mk} (h:MkV w oa cap L) {n:Nat} (hn:n≤L.length):MkV w oa cap (L.take n):=by
 have hl:(L.take n).length=n:=by rw[List.length_take];omega
 have hm: ∀i,i<n→zAH (L.take n) i=zAH L i:=fun i hi=>by
  unfold zAH
  rw[zPo,zPo,List.getElem?_take_of_lt hi]
 refine⟨fun i hi=>?_,fun h0=>?_,by rw[hl];exact zP2 hn h.cp,fun hp=>?_⟩
 ·rw[hl]at hi;rw[hm i hi];exact h.u i (by omega)
 ·obtain⟨rfl,hc⟩:=h.no h0;exact⟨by simp,hc⟩
 ·rw[hl]at hp
  obtain⟨mb,mo,h1,h2,h3⟩:=h.at_ (by omega)
  refine⟨mb,mo,h1,h2,fun i hi=>?_⟩
  rw[hl]at hi
  rw[hm i hi]
  exact h3 i (by omega)
section
variable {H:Type} {enc:TypeId × Value→H} {w:World} {spare:Nat→Bool} {held:Bool}
theorem fld {n':Nat} {fs:Array Field} {cs:List Value} {xs:List (DataW H × List MemPlace)} (hf: ∀(i:Nat) (f:Field),fs[i]?=some f→DataW.trod enc Tryz.prog w 0 spare held n' f.type ((cs.drop f.offset).take (Tryz.prog.cellsOf f.type))=xs[i]?)
  {i ty off k:Nat} {f:Field} (hi:fs[i]?=some f) (h1:f.type=ty) (h2:f.offset=off) (h3:Tryz.prog.cellsOf ty=k):DataW.trod enc Tryz.prog w 0 spare held n' ty ((cs.drop off).take k)=xs[i]?:=by
 subst h1 h2 h3
 exact hf i f hi
end
end
section
open Go.RowKit
theorem zLC (n:Nat):(madeCells #[Value.int .u8 0,.bool false] (n*2)).toList=zDW (List.replicate n ⟨0,false⟩):=by
 refine List.ext_getElem? fun j=>?_
 by_cases hj:j<n*2
 ·have h1:=zCY (List.replicate n ⟨0,false⟩) (j / 2) (by rw[List.length_replicate];omega)
  have hg:zAH (List.replicate n ⟨0,false⟩) (j / 2)=⟨0,false⟩:=by
   unfold zAH
   rw[zPo,List.getElem?_replicate]
   split<;>rfl
  rw[hg]at h1
  have e: ∀k,j % 2=k→(madeCells #[Value.int .u8 0,.bool false] (n*2)).toList[j]?=some (#[Value.int .u8 0,.bool false][k]!):=fun k hk=>by
   simp only[madeCells,Array.toList_map,Array.toList_range,List.getElem?_map,List.getElem?_range hj,Option.map_some]
   rw[show(#[Value.int .u8 0,.bool false]:Array Value).size=2 from rfl,hk]
  by_cases h0:j % 2=0
  ·rw[e 0 h0]
   have:=h1.1
   rw[show j / 2*2=j by omega]at this
   rw[this];rfl
  ·rw[e 1 (by omega)]
   have:=h1.2
   rw[show j / 2*2+1=j by omega]at this
   rw[this];rfl
 ·rw[zQH (by rw[Array.length_toList,size_madeCells];omega),zQH (by rw[zCN,List.length_replicate];omega)]
theorem zH7: ∀(L:List Mk) (i:Nat) (x:Mk),i<L.length→zDW (L.set i x)=((zDW L).set (i*2) (.int .u8 (x.b:Nat))).set (i*2+1) (.bool x.p)
 |[],i,x,h=>by simp at h
 |y::l,0,x,_=>rfl
 |y::l,i+1,x,h=>by
  have h1:=zH7 l i x (by simpa using h)
  have h2: ∀(z:Mk) (l:List Mk),zDW (z::l)= .int .u8 (z.b:Nat):: .bool z.p::zDW l:=fun _ _=>rfl
  rw[List.set_cons_succ,h2,h2,h1,show(i+1)*2=i*2+1+1 by omega]
  rfl
theorem zMK {L:List Mk} {i:Nat} (hi:i<L.length) (b:Nat):zDW (L.set i ⟨b,(zAH L i).p⟩)=(zDW L).set (i*2) (.int .u8 (b:Nat)):=by
 rw[zH7 L i _ hi]
 have h1:=(zCY L i hi).2
 refine List.ext_getElem? fun j=>?_
 rw[List.getElem?_set]
 split
 ·rename_i hj
  subst hj
  rw[List.length_set,zCN,if_pos (by omega),List.getElem?_set,if_neg (by omega),h1]
 ·rfl
theorem zMJ {L:List Mk} {i:Nat} (hi:i<L.length) (p:Bool):zDW (L.set i ⟨(zAH L i).b,p⟩)=(zDW L).set (i*2+1) (.bool p):=by
 rw[zH7 L i _ hi]
 have h1:=(zCY L i hi).1
 refine List.ext_getElem? fun j=>?_
 rw[List.getElem?_set,List.getElem?_set,List.getElem?_set]
 by_cases hj:i*2+1=j
 ·subst hj
  rw[if_pos rfl,if_pos rfl,List.length_set]
 ·rw[if_neg hj,if_neg hj]
  split
  ·rename_i hk
   subst hk
   rw[zCN,if_pos (by omega),h1]
  ·rfl
theorem Mks.putB {w:World} {base g n cap i:Nat} {L:List Mk} (h:Mks w base (.slice (some ⟨g,0,none⟩) n cap) L) (hn:L.length=n) (hi:i<n) (b:Nat):
  Mks (w.setCell ⟨g,i*2,none⟩ (.int .u8 (b:Nat))) base (.slice (some ⟨g,0,none⟩) n cap) (L.set i ⟨b,(zAH L i).p⟩):=by
 unfold Mks at h ⊢
 rw[List.length_set,zMK (by omega),hn]
 rw[hn]at h
 exact(zP3 h _ _).1
theorem Mks.putP {w:World} {base g n cap i:Nat} {L:List Mk} (h:Mks w base (.slice (some ⟨g,0,none⟩) n cap) L) (hn:L.length=n) (hi:i<n) (p:Bool):
  Mks (w.setCell ⟨g,i*2+1,none⟩ (.bool p)) base (.slice (some ⟨g,0,none⟩) n cap) (L.set i ⟨(zAH L i).b,p⟩):=by
 unfold Mks at h ⊢
 rw[List.length_set,zMJ (by omega),hn]
 rw[hn]at h
 exact(zP3 h _ _).1
theorem Mks.two {w:World} {base g n cap i:Nat} {L:List Mk} (h:Mks w base (.slice (some ⟨g,0,none⟩) n cap) L) (hn:L.length=n) (hi:i<n) {x:Mk} (hx:zAH L i=x):
  w.cell? ⟨g,i*2,none⟩=some (.int .u8 (x.b:Nat))∧w.cell? ⟨g,i*2+1,none⟩=some (.bool x.p)∧ ∀o,w.frozen? ⟨g,o,none⟩=false:=by
 subst hx
 unfold Mks at h
 rw[hn]at h
 have:=zCY L i (by omega)
 exact⟨(zP4 h _ (by omega)).trans this.1,(zP4 h _ (by omega)).trans this.2,fun o=>zP5 h o⟩
def zDh (full:List Mk) (n d:Nat):List Mk:=full.take d++List.replicate (n - d) ⟨0,false⟩
theorem zHs {full:List Mk} {n d:Nat} (hf:full.length=n) (hd:d≤n):(zDh full n d).length=n:=by
 rw[zDh,zPz,List.length_take,List.length_replicate];omega
theorem zKm {full:List Mk} {n d:Nat} {x:Mk} (hf:full.length=n) (hd:d<n) (hx:full[d]?=some x):(zDh full n d).set d x=zDh full n (d+1):=by
 unfold zDh
 have hl:(full.take d).length=d:=by rw[List.length_take];omega
 rw[List.set_append_right _ _ (by omega),hl,Nat.sub_self,List.take_add_one,hx,show n - d=(n - (d+1))+1 by omega,List.replicate_succ,List.set_cons_zero]
 simp
theorem zIU {full:List Mk} {n d:Nat} (hf:full.length=n) (hd:d<n):zAH (zDh full n d) d=⟨0,false⟩:=by
 unfold zDh zAH
 have hl:(full.take d).length=d:=by rw[List.length_take];omega
 rw[zPo,zP1 (by omega),List.getElem?_replicate]
 split<;>rfl
theorem zJQ {full:List Mk} {n:Nat} (hf:full.length=n):zDh full n n=full:=by
 unfold zDh
 rw[List.take_of_length_le (by omega),Nat.sub_self,List.replicate_zero,List.append_nil]
end
section
open Go.RowKit
theorem zOr {w:World} {nb no cap:Nat} {re:List Nd} (h:zG1 w nb no re) (k:Nat) (hk:k≤re.length):Src w (.slice (some ⟨nb,no+k*9,none⟩) (re.drop k).length cap) (re.drop k).length (zG8 (re.drop k)):=by
 refine .inr ⟨_,_,rfl,fun j u hu=>?_⟩
 have hj:j<(zG8 (re.drop k)).length:=(zPm.1 hu).1
 rw[zET]at hj
 have hadd:(⟨nb,no+k*9,none⟩:Addr).add j=⟨nb,no+k*9+j,none⟩:=by unfold Addr.add;split<;>simp_all
 have hc:=zH6 (re.drop k) (j / 9) (j % 9) (by omega) (by omega)
 rw[show j / 9*9+j % 9=j by omega,hu]at hc
 rw[List.length_drop]at hj
 have h1:=(h.c (k+j / 9) (by omega) (j % 9)).resolve_right (by omega)
 have hg:(re.drop k).getD (j / 9) Nd.zero=re.getD (k+j / 9) Nd.zero:=by simp[List.getD_eq_getElem?_getD,List.getElem?_drop]
 rw[hg]at hc
 rw[hadd,show no+k*9+j=no+(k+j / 9)*9+j % 9 by omega,h1,←hc]
theorem NdV.src {w:World} {oa:Option Addr} {cap:Nat} {re:List Nd} (h:NdV w oa re) (hp:0<re.length):Src w (.slice oa re.length cap) re.length (zG8 re):=by
 obtain⟨nb,no,rfl,hn⟩:=h.at_ hp
 have:=zOr (cap:=cap) hn 0 (by omega)
 simpa using this
theorem Nds.toV2 {w:World} {base:Nat} {v:Value} {re:List Nd} (h:Nds w base v re) (hl:re.length≤4294967296) (hk: ∀x∈re,x.kids≤9223372036854775807): ∃oa cp,v= .slice oa re.length cp∧re.length≤cp∧NdV w oa re:=by
 rcases h.2 with ⟨rfl,h0⟩|⟨g,cp,cur,rfl,hg1,hg2,hcp,_⟩
 ·exact⟨none,0,by rw[h0],by omega,hl,fun h=>by omega⟩
 ·refine⟨_,_,rfl,hcp,hl,fun hn=>⟨g,0,rfl,(zPn.1 hg2).1,hl,fun i hi j=>?_,hk⟩⟩
  by_cases hj:j<9
  ·left
   have hc:=zP4 h (i*9+j) (by omega)
   rw[show 0+i*9+j=i*9+j by omega,hc,zH6 re i j hi hj]
  ·right;omega
end
end Go.Proofs.YtfjbnpdffillbaaGreatDoor
