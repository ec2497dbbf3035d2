/- Parts: Th Km Tk Uf Ug Ur Uh Ue. -/
import Derived.Test.YtfjbnpdffillbaaGreatDoorQ18
import Derived.Test.YtfjbnpdffillbaaGreatDoorQ5
import Derived.Deep.Slices
import Derived.OpenShut
namespace Go.Proofs.YtfjbnpdffillbaaGreatDoor
open Go.RowKit Go.ChangeShapes Go.WideShapes Go.Deep
structure MkV (w:World) (oa:Option Addr) (cap:Nat) (L:List Mk):Prop where
 u: ∀i,i<L.length→(markAt L i).b<256
 no:oa=none→L=[]∧cap=0
 cp:L.length≤cap
 at_:0<L.length→ ∃mb mo,oa=some ⟨mb,mo,none⟩∧mb<w.heap.size∧ ∀i,i<L.length→w.cell? ⟨mb,mo+i*2,none⟩=some (.int .u8 ((markAt L i).b:Nat))∧w.cell? ⟨mb,mo+i*2+1,none⟩=some (.bool (markAt L i).p)
theorem MkV.below {w w':World} {oa:Option Addr} {cap:Nat} {L:List Mk} (h:MkV w oa cap L) (hb:Below w.heap.size w w'):MkV w' oa cap L:=
 ⟨h.u,h.no,h.cp,fun hp=>by
  obtain⟨mb,mo,h1,h2,h3⟩:=h.at_ hp
  exact⟨mb,mo,h1,Nat.lt_of_lt_of_le h2 hb.size,fun i hi=>⟨(hb.cell (p:=⟨mb,mo+i*2,none⟩) h2).trans (h3 i hi).1,(hb.cell (p:=⟨mb,mo+i*2+1,none⟩) h2).trans (h3 i hi).2⟩⟩⟩
theorem MkV.arg {w:World} {oa:Option Addr} {cap:Nat} {L:List Mk} (h:MkV w oa cap L):0<L.length→L.length≤4096→ ∃mb mo,oa=some ⟨mb,mo,none⟩∧MkAt w mb mo L:=fun hn hl=>by
 obtain⟨mb,mo,h1,h2,h3⟩:=h.at_ hn
 exact⟨mb,mo,h1,h2,hl,fun i hi=>(h3 i hi).1,fun i hi=>(h3 i hi).2,h.u⟩
theorem mksC_get (L:List Mk) (j:Nat) (u:Value) (h:(mksC L)[j]?=some u): ∃i,i<L.length∧(j=i*2∧u= .int .u8 ((markAt L i).b:Nat)∨j=i*2+1∧u= .bool (markAt L i).p):=by
 have hj:j<(mksC L).length:=(List.getElem?_eq_some_iff.1 h).1
 rw[mksC_length]at hj
 refine⟨j / 2,by omega,?_⟩
 obtain⟨h1,h2⟩:=mksC_at L (j / 2) (by omega)
 by_cases hm:j % 2=0
 ·left
  have e:j=j / 2*2:=by omega
  rw[←e,h]at h1
  exact⟨e,Option.some.inj h1⟩
 ·right
  have e:j=j / 2*2+1:=by omega
  rw[←e,h]at h2
  exact⟨e,Option.some.inj h2⟩
theorem MkV.src {w:World} {oa:Option Addr} {cap:Nat} {L:List Mk} (h:MkV w oa cap L):Src w (.slice oa L.length cap) L.length (mksC L):=by
 cases oa with
 |none=>
  obtain⟨rfl,rfl⟩:=h.no rfl
  exact Src.nil w
 |some a=>
  refine .inr ⟨a,cap,rfl,fun j u hu=>?_⟩
  obtain⟨i,hi,hj⟩:=mksC_get L j u hu
  obtain⟨mb,mo,ha,_,h3⟩:=h.at_ (by omega)
  cases ha
  have hadd: ∀k,(⟨mb,mo,none⟩:Addr).add k=⟨mb,mo+k,none⟩:=fun k=>by unfold Addr.add;split<;>simp_all
  rw[hadd]
  rcases hj with ⟨rfl,rfl⟩|⟨rfl,rfl⟩
  ·exact(h3 i hi).1
  ·rw[←Nat.add_assoc];exact(h3 i hi).2
theorem Mks.toV {w:World} {base:Nat} {v:Value} {L:List Mk} (h:Mks w base v L) (hu: ∀i,i<L.length→(markAt L i).b<256): ∃oa cap,v= .slice oa L.length cap∧MkV w oa cap L:=by
 rcases h.2 with ⟨rfl,h0⟩|⟨g,cp,cur,rfl,hg1,hg2,hcp,_⟩
 ·have:L=[]:=List.eq_nil_of_length_eq_zero h0
  subst this
  exact⟨none,0,rfl,hu,fun _=>⟨rfl,rfl⟩,Nat.le_refl _,fun h=>absurd h (by simp)⟩
 ·refine⟨_,_,rfl,hu,(fun h=>by cases h),hcp,fun _=>⟨g,0,rfl,(Array.getElem?_eq_some_iff.1 hg2).1,fun i hi=>?_⟩⟩
  have hadd: ∀j,(⟨g,0,none⟩:Addr).add j=⟨g,j,none⟩:=fun j=>by unfold Addr.add;split<;>simp_all
  have hc: ∀j u,(mksC L)[j]?=some u→w.cell? ⟨g,j,none⟩=some u:=fun j u hu=>by
   rw[←hadd];exact World.ownsRow.cells h rfl j u hu
  rw[Nat.zero_add]
  exact⟨hc _ _ (mksC_at L i hi).1,hc _ _ (mksC_at L i hi).2⟩
theorem long_call (n:Int) {w:World} :Calls Tryz.prog 10 #[.int .i64 n] w fun e w'=>e= .returned (.bool (decide (2147483647<n)))∧w=w':=by
 go_enter Tryz.func10,Tryz.ntmps10
 go_wp2_with fail
 go_ret
 exact⟨rfl,rfl⟩
theorem cell_lt {w:World} {a:Addr} {v:Value} (h:w.cell? a=some v):a.block<w.heap.size:=by
 rcases Nat.lt_or_ge a.block w.heap.size with h'|h'
 ·exact h'
 ·simp[World.cell?,Array.getElem?_eq_none h']at h
theorem MkV.take {w:World} {oa:Option Addr} {cap:Nat} {L:List Mk} (h:MkV w oa cap L) {n:Nat} (hn:n≤L.length):MkV w oa cap (L.take n):=by
 have hl:(L.take n).length=n:=by rw[List.length_take];omega
 have hm: ∀i,i<n→markAt (L.take n) i=markAt L i:=fun i hi=>by
  unfold markAt
  rw[List.getD_eq_getElem?_getD,List.getD_eq_getElem?_getD,List.getElem?_take_of_lt hi]
 refine⟨fun i hi=>?_,fun h0=>?_,by rw[hl];exact Nat.le_trans hn h.cp,fun hp=>?_⟩
 ·rw[hl]at hi;rw[hm i hi];exact h.u i (by omega)
 ·obtain⟨rfl,hc⟩:=h.no h0;exact⟨by simp,hc⟩
 ·rw[hl]at hp
  obtain⟨mb,mo,h1,h2,h3⟩:=h.at_ (by omega)
  refine⟨mb,mo,h1,h2,fun i hi=>?_⟩
  rw[hl]at hi
  rw[hm i hi]
  exact h3 i (by omega)
section
variable {H:Type} {enc:TypeId × Value→H} {w:World} {spare:Nat→Bool} {held:Bool}
theorem fld {n':Nat} {fs:Array Field} {cs:List Value} {xs:List (DataW H × List MemPlace)} (hf: ∀(i:Nat) (f:Field),fs[i]?=some f→DataW.trod enc Tryz.prog w 0 spare held n' f.type ((cs.drop f.offset).take (Tryz.prog.cellsOf f.type))=xs[i]?)
  {i ty off k:Nat} {f:Field} (hi:fs[i]?=some f) (h1:f.type=ty) (h2:f.offset=off) (h3:Tryz.prog.cellsOf ty=k):DataW.trod enc Tryz.prog w 0 spare held n' ty ((cs.drop off).take k)=xs[i]?:=by
 subst h1 h2 h3
 exact hf i f hi
end
end Go.Proofs.YtfjbnpdffillbaaGreatDoor
namespace Go.Proofs.YtfjbnpdffillbaaGreatDoor
open Go.RowKit
theorem made_zeroM (n:Nat):(madeCells #[Value.int .u8 0,.bool false] (n*2)).toList=mksC (List.replicate n ⟨0,false⟩):=by
 refine List.ext_getElem? fun j=>?_
 by_cases hj:j<n*2
 ·have h1:=mksC_at (List.replicate n ⟨0,false⟩) (j / 2) (by rw[List.length_replicate];omega)
  have hg:markAt (List.replicate n ⟨0,false⟩) (j / 2)=⟨0,false⟩:=by
   unfold markAt
   rw[List.getD_eq_getElem?_getD,List.getElem?_replicate]
   split<;>rfl
  rw[hg]at h1
  have e: ∀k,j % 2=k→(madeCells #[Value.int .u8 0,.bool false] (n*2)).toList[j]?=some (#[Value.int .u8 0,.bool false][k]!):=fun k hk=>by
   simp only[madeCells,Array.toList_map,Array.toList_range,List.getElem?_map,List.getElem?_range hj,Option.map_some]
   rw[show(#[Value.int .u8 0,.bool false]:Array Value).size=2 from rfl,hk]
  by_cases h0:j % 2=0
  ·rw[e 0 h0]
   have:=h1.1
   rw[show j / 2*2=j by omega]at this
   rw[this];rfl
  ·rw[e 1 (by omega)]
   have:=h1.2
   rw[show j / 2*2+1=j by omega]at this
   rw[this];rfl
 ·rw[List.getElem?_eq_none (by rw[Array.length_toList,size_madeCells];omega),List.getElem?_eq_none (by rw[mksC_length,List.length_replicate];omega)]
theorem mksC_set: ∀(L:List Mk) (i:Nat) (x:Mk),i<L.length→mksC (L.set i x)=((mksC L).set (i*2) (.int .u8 (x.b:Nat))).set (i*2+1) (.bool x.p)
 |[],i,x,h=>by simp at h
 |y::l,0,x,_=>rfl
 |y::l,i+1,x,h=>by
  have h1:=mksC_set l i x (by simpa using h)
  have h2: ∀(z:Mk) (l:List Mk),mksC (z::l)= .int .u8 (z.b:Nat):: .bool z.p::mksC l:=fun _ _=>rfl
  rw[List.set_cons_succ,h2,h2,h1,show(i+1)*2=i*2+1+1 by omega]
  rfl
theorem mksC_setB {L:List Mk} {i:Nat} (hi:i<L.length) (b:Nat):mksC (L.set i ⟨b,(markAt L i).p⟩)=(mksC L).set (i*2) (.int .u8 (b:Nat)):=by
 rw[mksC_set L i _ hi]
 have h1:=(mksC_at L i hi).2
 refine List.ext_getElem? fun j=>?_
 rw[List.getElem?_set]
 split
 ·rename_i hj
  subst hj
  rw[List.length_set,mksC_length,if_pos (by omega),List.getElem?_set,if_neg (by omega),h1]
 ·rfl
theorem mksC_setP {L:List Mk} {i:Nat} (hi:i<L.length) (p:Bool):mksC (L.set i ⟨(markAt L i).b,p⟩)=(mksC L).set (i*2+1) (.bool p):=by
 rw[mksC_set L i _ hi]
 have h1:=(mksC_at L i hi).1
 refine List.ext_getElem? fun j=>?_
 rw[List.getElem?_set,List.getElem?_set,List.getElem?_set]
 by_cases hj:i*2+1=j
 ·subst hj
  rw[if_pos rfl,if_pos rfl,List.length_set]
 ·rw[if_neg hj,if_neg hj]
  split
  ·rename_i hk
   subst hk
   rw[mksC_length,if_pos (by omega),h1]
  ·rfl
theorem Mks.putB {w:World} {base g n cap i:Nat} {L:List Mk} (h:Mks w base (.slice (some ⟨g,0,none⟩) n cap) L) (hn:L.length=n) (hi:i<n) (b:Nat):
  Mks (w.setCell ⟨g,i*2,none⟩ (.int .u8 (b:Nat))) base (.slice (some ⟨g,0,none⟩) n cap) (L.set i ⟨b,(markAt L i).p⟩):=by
 unfold Mks at h ⊢
 rw[List.length_set,mksC_setB (by omega),hn]
 rw[hn]at h
 exact(World.ownsRow.stored h _ _).1
theorem Mks.putP {w:World} {base g n cap i:Nat} {L:List Mk} (h:Mks w base (.slice (some ⟨g,0,none⟩) n cap) L) (hn:L.length=n) (hi:i<n) (p:Bool):
  Mks (w.setCell ⟨g,i*2+1,none⟩ (.bool p)) base (.slice (some ⟨g,0,none⟩) n cap) (L.set i ⟨(markAt L i).b,p⟩):=by
 unfold Mks at h ⊢
 rw[List.length_set,mksC_setP (by omega),hn]
 rw[hn]at h
 exact(World.ownsRow.stored h _ _).1
theorem Mks.two {w:World} {base g n cap i:Nat} {L:List Mk} (h:Mks w base (.slice (some ⟨g,0,none⟩) n cap) L) (hn:L.length=n) (hi:i<n) {x:Mk} (hx:markAt L i=x):
  w.cell? ⟨g,i*2,none⟩=some (.int .u8 (x.b:Nat))∧w.cell? ⟨g,i*2+1,none⟩=some (.bool x.p)∧ ∀o,w.frozen? ⟨g,o,none⟩=false:=by
 subst hx
 unfold Mks at h
 rw[hn]at h
 have:=mksC_at L i (by omega)
 exact⟨(World.ownsRow.cellAt h _ (by omega)).trans this.1,(World.ownsRow.cellAt h _ (by omega)).trans this.2,fun o=>World.ownsRow.frozenAt h o⟩
def soFarM (full:List Mk) (n d:Nat):List Mk:=full.take d++List.replicate (n - d) ⟨0,false⟩
theorem soFarM_length {full:List Mk} {n d:Nat} (hf:full.length=n) (hd:d≤n):(soFarM full n d).length=n:=by
 rw[soFarM,List.length_append,List.length_take,List.length_replicate];omega
theorem soFarM_set {full:List Mk} {n d:Nat} {x:Mk} (hf:full.length=n) (hd:d<n) (hx:full[d]?=some x):(soFarM full n d).set d x=soFarM full n (d+1):=by
 unfold soFarM
 have hl:(full.take d).length=d:=by rw[List.length_take];omega
 rw[List.set_append_right _ _ (by omega),hl,Nat.sub_self,List.take_add_one,hx,show n - d=(n - (d+1))+1 by omega,List.replicate_succ,List.set_cons_zero]
 simp
theorem soFarM_at {full:List Mk} {n d:Nat} (hf:full.length=n) (hd:d<n):markAt (soFarM full n d) d=⟨0,false⟩:=by
 unfold soFarM markAt
 have hl:(full.take d).length=d:=by rw[List.length_take];omega
 rw[List.getD_eq_getElem?_getD,List.getElem?_append_right (by omega),List.getElem?_replicate]
 split<;>rfl
theorem soFarM_full {full:List Mk} {n:Nat} (hf:full.length=n):soFarM full n n=full:=by
 unfold soFarM
 rw[List.take_of_length_le (by omega),Nat.sub_self,List.replicate_zero,List.append_nil]
end Go.Proofs.YtfjbnpdffillbaaGreatDoor
namespace Go.Proofs.YtfjbnpdffillbaaGreatDoor
open Go.RowKit
theorem nd_src {w:World} {nb no cap:Nat} {re:List Nd} (h:NdAt w nb no re) (k:Nat) (hk:k≤re.length):Src w (.slice (some ⟨nb,no+k*9,none⟩) (re.drop k).length cap) (re.drop k).length (ndsC (re.drop k)):=by
 refine .inr ⟨_,_,rfl,fun j u hu=>?_⟩
 have hj:j<(ndsC (re.drop k)).length:=(List.getElem?_eq_some_iff.1 hu).1
 rw[ndsC_length]at hj
 have hadd:(⟨nb,no+k*9,none⟩:Addr).add j=⟨nb,no+k*9+j,none⟩:=by unfold Addr.add;split<;>simp_all
 have hc:=ndsC_at (re.drop k) (j / 9) (j % 9) (by omega) (by omega)
 rw[show j / 9*9+j % 9=j by omega,hu]at hc
 rw[List.length_drop]at hj
 have h1:=(h.c (k+j / 9) (by omega) (j % 9)).resolve_right (by omega)
 have hg:(re.drop k).getD (j / 9) Nd.zero=re.getD (k+j / 9) Nd.zero:=by simp[List.getD_eq_getElem?_getD,List.getElem?_drop]
 rw[hg]at hc
 rw[hadd,show no+k*9+j=no+(k+j / 9)*9+j % 9 by omega,h1,←hc]
theorem NdV.src {w:World} {oa:Option Addr} {cap:Nat} {re:List Nd} (h:NdV w oa re) (hp:0<re.length):Src w (.slice oa re.length cap) re.length (ndsC re):=by
 obtain⟨nb,no,rfl,hn⟩:=h.at_ hp
 have:=nd_src (cap:=cap) hn 0 (by omega)
 simpa using this
theorem Nds.toV2 {w:World} {base:Nat} {v:Value} {re:List Nd} (h:Nds w base v re) (hl:re.length≤4294967296) (hk: ∀x∈re,x.kids≤9223372036854775807): ∃oa cp,v= .slice oa re.length cp∧re.length≤cp∧NdV w oa re:=by
 rcases h.2 with ⟨rfl,h0⟩|⟨g,cp,cur,rfl,hg1,hg2,hcp,_⟩
 ·exact⟨none,0,by rw[h0],by omega,hl,fun h=>by omega⟩
 ·refine⟨_,_,rfl,hcp,hl,fun hn=>⟨g,0,rfl,(Array.getElem?_eq_some_iff.1 hg2).1,hl,fun i hi j=>?_,hk⟩⟩
  by_cases hj:j<9
  ·left
   have hc:=World.ownsRow.cellAt h (i*9+j) (by omega)
   rw[show 0+i*9+j=i*9+j by omega,hc,ndsC_at re i j hi hj]
  ·right;omega
end Go.Proofs.YtfjbnpdffillbaaGreatDoor
namespace Go.Proofs.YtfjbnpdffillbaaGreatDoor
open Go.RowKit
structure NdW (w:World) (oa:Option Addr) (cap:Nat) (re:List Nd):Prop where
 no:oa=none→re=[]∧cap=0
 cp:re.length≤cap
 wf: ∀x∈re,(-128≤x.op∧x.op≤127)∧(-9223372036854775808≤x.n∧x.n≤9223372036854775807)∧(-9223372036854775808≤x.min∧x.min≤9223372036854775807)∧(-9223372036854775808≤x.max∧x.max≤9223372036854775807)∧(-9223372036854775808≤x.kids∧x.kids≤9223372036854775807)
 at_:0<re.length→ ∃nb no,oa=some ⟨nb,no,none⟩∧nb<w.heap.size∧ ∀i,i<re.length→ ∀j,j<9→w.cell? ⟨nb,no+i*9+j,none⟩=(ndCells (re.getD i Nd.zero))[j]?
theorem NdW.below {w w':World} {oa:Option Addr} {cap:Nat} {re:List Nd} (h:NdW w oa cap re) (hb:Below w.heap.size w w'):NdW w' oa cap re:=
 ⟨h.no,h.cp,h.wf,fun hp=>by
  obtain⟨nb,no,h1,h2,h3⟩:=h.at_ hp
  exact⟨nb,no,h1,Nat.lt_of_lt_of_le h2 hb.size,fun i hi j hj=>(hb.cell (p:=⟨nb,no+i*9+j,none⟩) h2).trans (h3 i hi j hj)⟩⟩
theorem NdW.toV {w:World} {oa:Option Addr} {cap:Nat} {re:List Nd} (h:NdW w oa cap re) (hl:re.length≤4294967296):NdV w oa re:=
 ⟨hl,fun hp=>by
  obtain⟨nb,no,h1,h2,h3⟩:=h.at_ hp
  exact⟨nb,no,h1,h2,hl,fun i hi j=>if hj:j<9 then .inl (h3 i hi j hj)else .inr (by omega),fun x hx=>(h.wf x hx).2.2.2.2.2⟩⟩
theorem NdW.op {w:World} {oa:Option Addr} {cap:Nat} {re:List Nd} (h:NdW w oa cap re):Hid (∀x∈re,-128≤x.op∧x.op≤127):=fun x hx=>(h.wf x hx).1
theorem NdW.kids {w:World} {oa:Option Addr} {cap:Nat} {re:List Nd} (h:NdW w oa cap re) {i:Nat} {x:Nd} (hx:re[i]?=some x): ∃nb no,oa=some ⟨nb,no,none⟩∧nb<w.heap.size∧w.cell? ⟨nb,no+i*9+8,none⟩=some (.int .i64 x.kids):=by
 have hi:i<re.length:=(List.getElem?_eq_some_iff.1 hx).1
 obtain⟨nb,no,h1,h2,h3⟩:=h.at_ (by omega)
 have hg:re.getD i Nd.zero=x:=by simp[List.getD_eq_getElem?_getD,hx]
 have:=h3 i hi 8 (by decide)
 rw[hg]at this
 exact⟨nb,no,h1,h2,this⟩
theorem elInt:ElT Tryz.prog 126 3 1 8 (.int .i64 0):=⟨Tryz.underlying126,by kernel_rfl,rfl,by decide⟩
def Ins (w:World) (base:Nat) (v:Value) (xs:List Int):Prop:=w.ownsRow base 3 1 v xs.length (xs.map (.int .i64))
theorem Ins.nil (w:World) (base:Nat):Ins w base (.slice none 0 0) []:=World.ownsRow_nil _ _ _ _
theorem Ins.lt {w:World} {base:Nat} {v:Value} {xs:List Int} (h:Ins w base v xs): ∀g,v.ownBlock=some g→base≤g∧g<w.heap.size:=World.ownsRow.lt h
theorem Ins.row {w:World} {base:Nat} {v:Value} {xs:List Int} (h:Ins w base v xs) (hn:0<xs.length): ∃g cp,v= .slice (some ⟨g,0,none⟩) xs.length cp∧base≤g∧g<w.heap.size∧xs.length≤cp:=by
 rcases h.2 with ⟨_,h2⟩|⟨g,cp,_,h1,h3,h4,h5,_⟩
 ·omega
 ·exact⟨g,cp,h1,h3,(Array.getElem?_eq_some_iff.1 h4).1,h5⟩
theorem Ins.form {w:World} {base:Nat} {v:Value} {xs:List Int} (h:Ins w base v xs): ∃o c,v= .slice o xs.length c:=by
 rcases h.2 with ⟨h1,h2⟩|⟨g,cp,_,h1,_⟩
 ·exact⟨none,0,by rw[h1,h2]⟩
 ·exact⟨_,_,h1⟩
def SomeB (w:World) (e:Ending) (w':World):Prop:=(∃b,e= .returned (.bool b))∧Below w.heap.size w w'
theorem Ins.snoc {w:World} {base:Nat} {v:Value} {xs:List Int} {x:Int} (h:w.ownsRow base 3 1 v (xs.length+1) (xs.map (.int .i64)++[.int .i64 x])):Ins w base v (xs++[x]):=by
 unfold Ins
 rw[List.length_append,List.map_append]
 exact h
theorem Ins.alloc {w:World} {base:Nat} {v:Value} {xs:List Int} (h:Ins w base v xs) (o:Obj):w.alloc o |>.ownsRow base 3 1 v xs.length (xs.map (.int .i64)):=World.ownsRow.alloc h o
theorem list_last {α:Type} (l:List α):l=[]∨ ∃z x,l=z++[x]:=by
 rcases List.eq_nil_or_concat l with h|⟨z,x,h⟩
 ·exact .inl h
 ·exact .inr ⟨z,x,by simpa using h⟩
set_option maxRecDepth 100000 in
set_option maxHeartbeats 1600000 in
theorem beyond_call {re:List Nd} {oa:Option Addr} {cap:Nat} {w:World} (hv:NdW w oa cap re) (z:re.length*72≤140737488351232):
  Calls Tryz.prog 24 #[.slice oa re.length cap] w (SomeB w):=by
 have HV:=Lib.hid hv
 clear hv
 go_enter Tryz.func24,Tryz.ntmps24
 go_wp2_with fail
 go_loopg [3,4] re.length (fun n sv iv wr=> ∃(d:Nat) (xs:List Int),iv= .int .i64 (d:Nat)∧n=re.length - d∧d≤re.length∧Ins wr w.heap.size sv xs∧xs.length≤65536∧Below w.heap.size w wr)
 case atStart=>exact⟨0,[],rfl,by omega,by omega,Ins.nil _ _,by simp,Below.refl _ _⟩
 case round=>
  obtain⟨d,xs,rfl,hg,hd,hx,hxl,hb⟩:=hrel
  have HG:=Lib.hid hg
  have HX:=Lib.hid hx
  have HB:=Lib.hid hb
  clear hg hx hb
  by_cases hlt:d<re.length
  ·have hlt':(d:Int)<(re.length:Int):=by omega
   obtain⟨x,hxd⟩: ∃x,re[d]?=some x:=⟨_,List.getElem?_eq_getElem hlt⟩
   obtain⟨nb,no,hoa,hnl,_⟩:=HV.out.kids hxd
   have HKC:=Lib.hid (fun W (hW:Below w.heap.size w W)=>(HV.out.below hW).kids hxd)
   subst hoa
   obtain⟨wo,rfl⟩: ∃wo:World,wo=wr:=⟨_,rfl⟩
   generalize x.kids=xk at*
   clear hxd
   go_wp2_with fail
   go_loopg [3] xs.length (fun m sv wi=> ∃ys:List Int,m=ys.length∧Ins wi w.heap.size sv ys∧ys.length≤65536∧Below w.heap.size w wi)
   case atStart=>exact⟨xs,rfl,HX.out,hxl,HB.out⟩
   case round=>
    obtain⟨ys,hm,hy,hyl,hbi⟩:=hrel
    have HM:=Lib.hid hm
    have HBI:=Lib.hid hbi
    have hbs:=hbi.size
    obtain⟨nb2,no2,he2,hnl2,hkc⟩:=HKC.out _ hbi
    cases he2
    clear hm hbi
    rcases list_last ys with rfl|⟨zs,z,rfl⟩
    ·obtain⟨o,c,rfl⟩:=hy.form
     have HY:=Lib.hid (hy.alloc (.cells #[.int .i64 xk] 3))
     clear hy
     go_wp2_with (at_builtin;refine wpList_app elInt rfl _ _ rfl w.heap.size rfl HY.out rfl (Src.new wr [.int .i64 xk] _ _ _) rfl (by simp[Value.oneCell']) (by simp[maxLen]) (by simp) (by rw[World.size_alloc];omega) ?_)
     intro v1 w2 hown2 hgr2 hblk2
     have HI:=Lib.hid (show Ins w2 w.heap.size v1 [xk]from hown2)
     have HB2:=Lib.hid ((HBI.out.alloc HBI.out.size (.cells #[.int .i64 xk] 3)).grown hgr2 (by rw[World.size_alloc];omega) (fun k hk=>(HY.out.lt k hk).1))
     obtain⟨o3,c3,rfl⟩:=HI.out.form
     clear hown2 hgr2 hblk2
     go_wp2_with fail
     go_roundg (re.length - (d+1))
     case measure=>have:=HG.out;omega
     case rel=>exact⟨d+1,[xk],by go_num,rfl,by omega,HI.out,by simp,HB2.out⟩
    ·obtain⟨g,cp,hsv,hg1,hg2,hcp⟩:=hy.row (by simp)
     rw[List.length_append,List.length_singleton]at hsv hyl hcp
     subst hsv
     have hO:wr.ownsRow w.heap.size 3 1 (.slice (some ⟨g,0,none⟩) (zs.length+1) cp) (zs.length+1) (zs.map (.int .i64)++[.int .i64 z]):=by
      unfold Ins at hy
      rw[List.length_append,List.map_append]at hy
      exact hy
     have hcell:wr.cell? ⟨g,zs.length,none⟩=some (.int .i64 z):=by
      rw[World.ownsRow.cellAt hO _ (by omega),List.getElem?_append_right (by simp)]
      simp
     have hfz:=World.ownsRow.frozenAt hO zs.length
     have hm1:(zs.length:Int)+1 - 1=(zs.length:Int):=by omega
     have HOW:=Lib.hid hO
     have HHM:=HM.out
     rw[List.length_append,List.length_singleton]at HHM
     have HMM:=Lib.hid HHM
     clear hy hO HM HHM
     by_cases hz:z≤0
     ·have hz':decide (z≤0)=true:=decide_eq_true hz
      go_wp2_with fail
      go_roundg zs.length
      case measure=>have:=HMM.out;omega
      case rel=>exact⟨zs,rfl,ownsRow_pop (by simp) HOW.out,by omega,HBI.out⟩
     ·have hz':decide (z≤0)=false:=decide_eq_false hz
      go_upto_region 9 with fail
      have hst:=(World.ownsRow.stored HOW.out zs.length (.int .i64 (wrap64 (z - 1)))).1
      have hset:(zs.map (fun n=>Value.int .i64 n)++[Value.int .i64 z]).set zs.length (Value.int .i64 (wrap64 (z - 1)))=zs.map (fun n=>Value.int .i64 n)++[Value.int .i64 (wrap64 (z - 1))]:=by
       rw[List.set_append_right _ _ (by simp)]
       simp
      rw[hset]at hst
      clear hset
      have HST:=Lib.hid hst
      have HB3:=Lib.hid (HBI.out.setCell (p:=⟨g,zs.length,none⟩) hg1 (.int .i64 (wrap64 (z - 1))))
      have hgs:w.heap.size≤(wr.setCell ⟨g,zs.length,none⟩ (.int .i64 (wrap64 (z - 1)))).heap.size:=by simpa using hbs
      clear hst hcell hfz HOW hkc hnl2
      revert HST HB3 hgs
      generalize wr.setCell ⟨g,zs.length,none⟩ (.int .i64 (wrap64 (z - 1)))=W2
      generalize wrap64 (z - 1)=u
      intro HST HB3 hgs
      obtain⟨nb3,no3,he3,hnl3,hkc⟩:=HKC.out _ HB3.out
      cases he3
      have HY:=Lib.hid (HST.out.alloc (.cells #[.int .i64 xk] 3))
      go_wp2_with (at_builtin;refine wpList_app elInt rfl _ _ rfl w.heap.size rfl HY.out rfl (Src.new W2 [.int .i64 xk] _ _ _) rfl (by simp[Value.oneCell']) (by unfold maxLen;omega) (by omega) (by rw[World.size_alloc];omega) ?_)
      intro v1 w2 hown2 hgr2 hblk2
      have HI:=Lib.hid (show Ins w2 w.heap.size v1 (zs++[u]++[xk])from by
       refine Ins.snoc ?_
       rw[List.length_append,List.length_singleton,List.map_append,List.append_assoc]
       exact hown2)
      have HB4:=Lib.hid ((HB3.out.alloc HB3.out.size (.cells #[.int .i64 xk] 3)).grown hgr2 (by rw[World.size_alloc];omega) (fun k hk=>(HY.out.lt k hk).1))
      obtain⟨o3,c3,hv1⟩:=HI.out.form
      rw[show(zs++[u]++[xk]).length=zs.length+1+1 by simp]at hv1
      subst hv1
      clear hown2 hgr2 hblk2 hkc hnl3
      by_cases hbig:65536<zs.length+1+1
      ·have hbig':decide ((65536:Int)<(zs.length:Int)+1+1)=true:=decide_eq_true (by omega)
       go_wp2_with fail
       go_ret
       exact⟨⟨_,rfl⟩,HB4.out⟩
      ·have hbig':decide ((65536:Int)<(zs.length:Int)+1+1)=false:=decide_eq_false (by omega)
       go_wp2_with fail
       go_roundg (re.length - (d+1))
       case measure=>have:=HG.out;omega
       case rel=>exact⟨d+1,zs++[u]++[xk],by go_num,rfl,by omega,HI.out,by simp;omega,HB4.out⟩
  ·have hlt': ¬(d:Int)<(re.length:Int):=by omega
   go_wp2_with fail
   go_ret
   exact⟨⟨_,rfl⟩,HB.out⟩
end Go.Proofs.YtfjbnpdffillbaaGreatDoor
namespace Go.Proofs.YtfjbnpdffillbaaGreatDoor
open Go.RowKit
def spareN (i:Nat):Nd:=⟨0,Cls.zero,1048576*9+(i:Int)+1,-7,0,0⟩
def spareL (n:Nat):List Nd:=(List.range 64).map fun k=>spareN (n+k)
def put9 (w:World) (g i:Nat) (x:Nd):World:=((((((((w.setCell ⟨g,i*9,none⟩ (.int .i8 x.op)).setCell ⟨g,i*9+1,none⟩ (.int .u64 x.set.w0.toNat)).setCell ⟨g,i*9+2,none⟩ (.int .u64 x.set.w1.toNat)).setCell ⟨g,i*9+3,none⟩ (.int .u64 x.set.w2.toNat)).setCell ⟨g,i*9+4,none⟩ (.int .u64 x.set.w3.toNat)).setCell ⟨g,i*9+5,none⟩ (.int .i64 x.n)).setCell ⟨g,i*9+6,none⟩ (.int .i64 x.min)).setCell ⟨g,i*9+7,none⟩ (.int .i64 x.max)).setCell ⟨g,i*9+8,none⟩ (.int .i64 x.kids)
theorem made_zero (n:Nat):(madeCells #[Value.int .i8 0,.int .u64 0,.int .u64 0,.int .u64 0,.int .u64 0,.int .i64 0,.int .i64 0,.int .i64 0,.int .i64 0] (n*9)).toList=ndsC (List.replicate n Nd.zero):=by
 refine List.ext_getElem? fun j=>?_
 by_cases hj:j<n*9
 ·have h1:=ndsC_at (List.replicate n Nd.zero) (j / 9) (j % 9) (by rw[List.length_replicate];omega) (by omega)
  rw[show j / 9*9+j % 9=j by omega]at h1
  rw[h1]
  have hg:(List.replicate n Nd.zero).getD (j / 9) Nd.zero=Nd.zero:=by
   rw[List.getD_eq_getElem?_getD,List.getElem?_replicate]
   split<;>rfl
  rw[hg]
  have h9:j % 9<9:=by omega
  simp only[madeCells,Array.toList_map,Array.toList_range,List.getElem?_map,List.getElem?_range hj,Option.map_some]
  generalize j % 9=k at h9
  have:k=0∨k=1∨k=2∨k=3∨k=4∨k=5∨k=6∨k=7∨k=8:=by omega
  rcases this with rfl|rfl|rfl|rfl|rfl|rfl|rfl|rfl|rfl<;>rfl
 ·rw[List.getElem?_eq_none (by rw[Array.length_toList,size_madeCells];omega),List.getElem?_eq_none (by rw[ndsC_length,List.length_replicate];omega)]
def soFar (full:List Nd) (n d:Nat):List Nd:=full.take d++List.replicate (n - d) Nd.zero
theorem soFar_length {full:List Nd} {n d:Nat} (hf:full.length=n) (hd:d≤n):(soFar full n d).length=n:=by
 rw[soFar,List.length_append,List.length_take,List.length_replicate];omega
theorem soFar_set {full:List Nd} {n d:Nat} {x:Nd} (hf:full.length=n) (hd:d<n) (hx:full[d]?=some x):(soFar full n d).set d x=soFar full n (d+1):=by
 unfold soFar
 have hl:(full.take d).length=d:=by rw[List.length_take];omega
 rw[List.set_append_right _ _ (by omega),hl,Nat.sub_self,List.take_add_one,hx,show n - d=(n - (d+1))+1 by omega,List.replicate_succ,List.set_cons_zero]
 simp
theorem soFar_getD {full:List Nd} {n d:Nat} (hf:full.length=n) (hd:d<n):(soFar full n d).getD d Nd.zero=Nd.zero:=by
 unfold soFar
 have hl:(full.take d).length=d:=by rw[List.length_take];omega
 rw[List.getD_eq_getElem?_getD,List.getElem?_append_right (by omega),List.getElem?_replicate]
 split<;>rfl
theorem ndsC_set (l:List Nd) (i:Nat) (x:Nd) (hi:i<l.length):ndsC (l.set i x)=((((((((((ndsC l).set (i*9) (.int .i8 x.op)).set (i*9+1) (.int .u64 x.set.w0.toNat)).set (i*9+2) (.int .u64 x.set.w1.toNat)).set (i*9+3) (.int .u64 x.set.w2.toNat)).set (i*9+4) (.int .u64 x.set.w3.toNat)).set (i*9+5) (.int .i64 x.n)).set (i*9+6) (.int .i64 x.min)).set (i*9+7) (.int .i64 x.max)).set (i*9+8) (.int .i64 x.kids)):=by
 refine List.ext_getElem? fun j=>?_
 simp only[List.getElem?_set,List.length_set,ndsC_length]
 by_cases hj:j<l.length*9
 ·have h1:=ndsC_at (l.set i x) (j / 9) (j % 9) (by rw[List.length_set];omega) (by omega)
  rw[show j / 9*9+j % 9=j by omega]at h1
  rw[h1]
  have h2:=ndsC_at l (j / 9) (j % 9) (by omega) (by omega)
  rw[show j / 9*9+j % 9=j by omega]at h2
  by_cases hji:j / 9=i
  ·have hg:(l.set i x).getD (j / 9) Nd.zero=x:=by rw[hji,List.getD_eq_getElem?_getD,List.getElem?_set];simp[hi]
   rw[hg]
   have hj2:j=i*9+j % 9:=by omega
   have h9:j % 9<9:=by omega
   generalize j % 9=k at*
   subst hj2
   have:k=0∨k=1∨k=2∨k=3∨k=4∨k=5∨k=6∨k=7∨k=8:=by omega
   rcases this with rfl|rfl|rfl|rfl|rfl|rfl|rfl|rfl|rfl<;>simp[ndCells]<;>omega
  ·have hg:(l.set i x).getD (j / 9) Nd.zero=l.getD (j / 9) Nd.zero:=by rw[List.getD_eq_getElem?_getD,List.getD_eq_getElem?_getD,List.getElem?_set,if_neg (fun h=>hji h.symm)]
   rw[hg,←h2]
   repeat rw[if_neg (by omega)]
 ·rw[List.getElem?_eq_none (by rw[ndsC_length,List.length_set];omega),List.getElem?_eq_none (by rw[ndsC_length];omega)]
  repeat' (split)
  all_goals first|rfl|omega
theorem Nds.put {w:World} {base g n cap i:Nat} {l:List Nd} (h:Nds w base (.slice (some ⟨g,0,none⟩) n cap) l) (hn:l.length=n) (hi:i<n) (x:Nd):Nds (put9 w g i x) base (.slice (some ⟨g,0,none⟩) n cap) (l.set i x):=by
 unfold Nds at h ⊢
 rw[List.length_set,ndsC_set l i x (by omega),hn]
 rw[hn]at h
 unfold put9
 have s:=fun {w:World} {xs:List Value} (h:w.ownsRow base 78 9 (.slice (some ⟨g,0,none⟩) n cap) n xs) (j:Nat) (u:Value)=>(World.ownsRow.stored h j u).1
 exact s (s (s (s (s (s (s (s (s h _ _) _ _) _ _) _ _) _ _) _ _) _ _) _ _) _ _
theorem put9_below {w:World} {g k:Nat} (h:k≤g) (i:Nat) (x:Nd):Below k w (put9 w g i x):=
 ((((((((((Below.refl k w).setCell (p:=⟨g,i*9,none⟩) h _).setCell (p:=⟨g,i*9+1,none⟩) h _).setCell (p:=⟨g,i*9+2,none⟩) h _).setCell (p:=⟨g,i*9+3,none⟩) h _).setCell (p:=⟨g,i*9+4,none⟩) h _).setCell (p:=⟨g,i*9+5,none⟩) h _).setCell (p:=⟨g,i*9+6,none⟩) h _).setCell (p:=⟨g,i*9+7,none⟩) h _).setCell (p:=⟨g,i*9+8,none⟩) h _)
theorem Nds.nine {w:World} {base g n cap i:Nat} {l:List Nd} (h:Nds w base (.slice (some ⟨g,0,none⟩) n cap) l) (hn:l.length=n) (hi:i<n) {x:Nd} (hx:l.getD i Nd.zero=x):
  w.cell? ⟨g,i*9,none⟩=some (.int .i8 x.op)∧w.cell? ⟨g,i*9+1,none⟩=some (.int .u64 x.set.w0.toNat)∧w.cell? ⟨g,i*9+2,none⟩=some (.int .u64 x.set.w1.toNat)∧w.cell? ⟨g,i*9+3,none⟩=some (.int .u64 x.set.w2.toNat)∧w.cell? ⟨g,i*9+4,none⟩=some (.int .u64 x.set.w3.toNat)∧
  w.cell? ⟨g,i*9+5,none⟩=some (.int .i64 x.n)∧w.cell? ⟨g,i*9+6,none⟩=some (.int .i64 x.min)∧w.cell? ⟨g,i*9+7,none⟩=some (.int .i64 x.max)∧w.cell? ⟨g,i*9+8,none⟩=some (.int .i64 x.kids)∧ ∀o,w.frozen? ⟨g,o,none⟩=false:=by
 unfold Nds at h
 rw[hn]at h
 have hc: ∀j,j<9→w.cell? ⟨g,i*9+j,none⟩=(ndCells x)[j]?:=fun j hj=>by
  rw[World.ownsRow.cellAt h _ (by omega),ndsC_at l i j (by omega) hj,hx]
 exact⟨hc 0 (by decide),hc 1 (by decide),hc 2 (by decide),hc 3 (by decide),hc 4 (by decide),hc 5 (by decide),hc 6 (by decide),hc 7 (by decide),hc 8 (by decide),fun o=>World.ownsRow.frozenAt h o⟩
end Go.Proofs.YtfjbnpdffillbaaGreatDoor
namespace Go.Proofs.YtfjbnpdffillbaaGreatDoor
open Go.RowKit Go.ChangeShapes Go.WideShapes Go.Deep
section
variable {H:Type} {enc:TypeId × Value→H} {w:World} {spare:Nat→Bool} {held:Bool}
theorem list_four {α:Type} {l:List α} (h:l.length=4): ∃a b c d,l=[a,b,c,d]:=by
 match l,h with
 |[a,b,c,d],_=>exact⟨a,b,c,d,rfl⟩
theorem list_six {α:Type} {l:List α} (h:l.length=6): ∃a b c d e f,l=[a,b,c,d,e,f]:=by
 match l,h with
 |[a,b,c,d,e,f],_=>exact⟨a,b,c,d,e,f,rfl⟩
theorem list_nine {α:Type} {l:List α} (h:l.length=9): ∃a b c d e f g i j,l=[a,b,c,d,e,f,g,i,j]:=by
 match l,h with
 |[a,b,c,d,e,f,g,i,j],_=>exact⟨a,b,c,d,e,f,g,i,j,rfl⟩
def NdFit (x:Nd):Prop:=(-128≤x.op∧x.op≤127)∧(-9223372036854775808≤x.n∧x.n≤9223372036854775807)∧(-9223372036854775808≤x.min∧x.min≤9223372036854775807)∧(-9223372036854775808≤x.max∧x.max≤9223372036854775807)∧(-9223372036854775808≤x.kids∧x.kids≤9223372036854775807)
theorem u64_bv {a:Int} (h:0≤a∧a≤18446744073709551615): ∃b:BitVec 64,a=((b.toNat:Nat):Int):=⟨BitVec.ofNat 64 a.toNat,by
 rw[BitVec.toNat_ofNat,Nat.mod_eq_of_lt (by omega)]
 omega⟩
theorem open_word {n:Nat} {v:Value} {x:DataW H × List MemPlace} (h:DataW.trod enc Tryz.prog w 0 spare held n 74 [v]=some x): ∃b:BitVec 64,v= .int .u64 ((b.toNat:Nat):Int):=by
 obtain⟨a,ha,_,wa⟩:=DataW.trod_int Tryz.underlying74 h
 obtain⟨b,hb⟩:=u64_bv (bounds_u64 wa)
 simp only[List.cons.injEq,and_true]at ha
 exact⟨b,by rw[ha,hb]⟩
theorem afld {c m n e:Nat} {cs:List Value} {xs:List (DataW H × List MemPlace)} (hf: ∀i,i<n→DataW.trod enc Tryz.prog w 0 spare held m e ((cs.drop (i*Tryz.prog.cellsOf e)).take (Tryz.prog.cellsOf e))=xs[i]?) (hk:Tryz.prog.cellsOf e=c) {i:Nat} (hi:i<n):DataW.trod enc Tryz.prog w 0 spare held m e ((cs.drop (i*c)).take c)=xs[i]?:=by
 subst hk
 exact hf i hi
theorem open_class {n:Nat} {cs:List Value} {x:DataW H × List MemPlace} (hl:cs.length=4) (h:DataW.trod enc Tryz.prog w 0 spare held n 76 cs=some x): ∃c:Cls,cs=[.int .u64 c.w0.toNat,.int .u64 c.w1.toNat,.int .u64 c.w2.toNat,.int .u64 c.w3.toNat]:=by
 obtain⟨c0,c1,c2,c3,rfl⟩:=list_four hl
 obtain⟨xs,m,_,_,_,hx,hf⟩:=DataW.trod_array Tryz.underlying76 h
 obtain⟨y0,y1,y2,y3,rfl⟩:=list_four hx
 have e1:Tryz.prog.cellsOf 74=1:=by kernel_rfl
 have h0:=afld hf e1 (i:=0) (by decide)
 have h1:=afld hf e1 (i:=1) (by decide)
 have h2:=afld hf e1 (i:=2) (by decide)
 have h3:=afld hf e1 (i:=3) (by decide)
 obtain⟨b0,rfl⟩:=open_word h0
 obtain⟨b1,rfl⟩:=open_word h1
 obtain⟨b2,rfl⟩:=open_word h2
 obtain⟨b3,rfl⟩:=open_word h3
 exact⟨⟨b0,b1,b2,b3⟩,rfl⟩
theorem open_node {n:Nat} {cs:List Value} {x:DataW H × List MemPlace} (h:DataW.trod enc Tryz.prog w 0 spare held n 78 cs=some x): ∃m:Nd,NdFit m∧cs=(ndCells m).toList:=by
 obtain⟨xs,n',_,_,hl,hx,hf⟩:=DataW.trod_struct Tryz.underlying78 h
 have hl2:cs.length=9:=hl.trans (by kernel_rfl)
 obtain⟨c0,c1,c2,c3,c4,c5,c6,c7,c8,rfl⟩:=list_nine hl2
 obtain⟨x0,x1,x2,x3,x4,x5,rfl⟩:=list_six hx
 have h0:=fld hf (i:=0) (ty:=51) (off:=0) (k:=1) rfl rfl rfl (by kernel_rfl)
 have h1:=fld hf (i:=1) (ty:=76) (off:=1) (k:=4) rfl rfl rfl (by kernel_rfl)
 have h2:=fld hf (i:=2) (ty:=3) (off:=5) (k:=1) rfl rfl rfl (by kernel_rfl)
 have h3:=fld hf (i:=3) (ty:=3) (off:=6) (k:=1) rfl rfl rfl (by kernel_rfl)
 have h4:=fld hf (i:=4) (ty:=3) (off:=7) (k:=1) rfl rfl rfl (by kernel_rfl)
 have h5:=fld hf (i:=5) (ty:=3) (off:=8) (k:=1) rfl rfl rfl (by kernel_rfl)
 simp only[List.drop_zero,List.take_succ_cons,List.take_zero,List.drop_succ_cons,List.getElem?_cons_zero,List.getElem?_cons_succ]at h0 h1 h2 h3 h4 h5
 obtain⟨a0,e0,_,w0⟩:=DataW.trod_int Tryz.underlying51 h0
 obtain⟨k,e1⟩:=open_class rfl h1
 obtain⟨a2,e2,_,w2⟩:=DataW.trod_int Tryz.underlying3 h2
 obtain⟨a3,e3,_,w3⟩:=DataW.trod_int Tryz.underlying3 h3
 obtain⟨a4,e4,_,w4⟩:=DataW.trod_int Tryz.underlying3 h4
 obtain⟨a5,e5,_,w5⟩:=DataW.trod_int Tryz.underlying3 h5
 simp only[List.cons.injEq,and_true]at e0 e1 e2 e3 e4 e5
 obtain⟨f1,f2,f3,f4⟩:=e1
 subst e0 e2 e3 e4 e5 f1 f2 f3 f4
 exact⟨⟨a0,k,a2,a3,a4,a5⟩,⟨bounds_i8 w0,bounds_i64 w2,bounds_i64 w3,bounds_i64 w4,bounds_i64 w5⟩,rfl⟩
theorem read_nodes {t:TypeId} {v:Value} {d:DataW H} {p:List MemPlace} (ht:Tryz.prog.underlying t=some (.slice 78)) (h:DataW.Trod enc Tryz.prog w 0 spare held t v d p) {oa:Option Addr} {len cap:Nat} (hv:v= .slice oa len cap):
  ∃L:List Nd,L.length=len∧NdW w oa cap L∧(L.length=0∨ ∃el sp,d= .slice el sp∧el.length=L.length):=by
 subst hv
 obtain⟨fuel,hf⟩:=h
 rcases open_slice ht hf with ⟨h0,_⟩|⟨a,len2,cap2,m,n',D,Pl,hcs,hb,hl,hmx,hmm,hx,hi⟩
 ·have h0':[Value.slice oa len cap]=[.slice none 0 0]:=h0
  simp only[List.cons.injEq,and_true,Value.slice.injEq]at h0'
  obtain⟨rfl,rfl,rfl⟩:=h0'
  exact⟨[],rfl,⟨fun _=>⟨rfl,rfl⟩,Nat.le_refl _,fun x hx=>absurd hx (by simp),fun h=>absurd h (by simp)⟩,.inl rfl⟩
 ·have hcs':[Value.slice oa len cap]=[.slice (some a) len2 cap2]:=hcs
  simp only[List.cons.injEq,and_true,Value.slice.injEq]at hcs'
  obtain⟨rfl,rfl,rfl⟩:=hcs'
  have e9:Tryz.prog.cellsOf 78=9:=by kernel_rfl
  rw[e9]at hi
  have hlm:len≤m:=by rw[hmm];split<;>omega
  obtain⟨f,hff⟩:=choose_lt (α:=Int × (BitVec 64 × BitVec 64 × BitVec 64 × BitVec 64) × Int × Int × Int × Int) (n:=len) (p:=fun i q=>NdFit ⟨q.1,⟨q.2.1.1,q.2.1.2.1,q.2.1.2.2.1,q.2.1.2.2.2⟩,q.2.2.1,q.2.2.2.1,q.2.2.2.2.1,q.2.2.2.2.2⟩∧ ∀j,j<9→w.cell? (a.add (i*9+j))=(ndCells ⟨q.1,⟨q.2.1.1,q.2.1.2.1,q.2.1.2.2.1,q.2.1.2.2.2⟩,q.2.2.1,q.2.2.2.1,q.2.2.2.2.1,q.2.2.2.2.2⟩)[j]?) (fun i hil=>by
   obtain⟨cs',hc,ht'⟩:=hi i (by omega)
   obtain⟨x,hx,rfl⟩:=open_node ht'
   obtain⟨_,_,hat⟩:=World.cells?_some hc
   refine⟨(x.op,(x.set.w0,x.set.w1,x.set.w2,x.set.w3),x.n,x.min,x.max,x.kids),hx,fun j hj=>?_⟩
   have:=hat j hj
   rw[add_add]at this
   rw[this]
   simp)
  have hL:((List.range len).map fun i=>(⟨(f i).1,⟨(f i).2.1.1,(f i).2.1.2.1,(f i).2.1.2.2.1,(f i).2.1.2.2.2⟩,(f i).2.2.1,(f i).2.2.2.1,(f i).2.2.2.2.1,(f i).2.2.2.2.2⟩:Nd)).length=len:=by simp
  refine⟨(List.range len).map fun i=>⟨(f i).1,⟨(f i).2.1.1,(f i).2.1.2.1,(f i).2.1.2.2.1,(f i).2.1.2.2.2⟩,(f i).2.2.1,(f i).2.2.2.1,(f i).2.2.2.2.1,(f i).2.2.2.2.2⟩,hL,⟨fun h=>(by cases h),by rw[hL];exact hl,fun x hx=>?_,fun hp=>?_⟩,?_⟩
  ·simp only[List.mem_map,List.mem_range]at hx
   obtain⟨i,hi2,rfl⟩:=hx
   exact(hff i hi2).1
  ·rw[hL]at hp
   obtain⟨b,off,spot⟩:=a
   have c0:=(hff 0 hp).2 0 (by decide)
   have hspot:spot=none:=by simpa [Addr.add]using World.cell?_spot c0
   subst hspot
   have hadd: ∀k,(⟨b,off,none⟩:Addr).add k=⟨b,off+k,none⟩:=fun k=>by unfold Addr.add;split<;>simp_all
   refine⟨b,off,rfl,cell_lt c0,fun i hil j hj=>?_⟩
   rw[hL]at hil
   have h1:=(hff i hil).2 j hj
   rw[hadd,←Nat.add_assoc]at h1
   rw[h1]
   simp[List.getD_eq_getElem?_getD,hil]
  ·right
   simp only[Prod.mk.injEq]at hx
   exact⟨_,_,hx.1,by simp⟩
end
end Go.Proofs.YtfjbnpdffillbaaGreatDoor
namespace Go.Proofs.YtfjbnpdffillbaaGreatDoor
open Go.RowKit Go.ChangeShapes Go.WideShapes Go.Deep
theorem eql_nd_same (x:Nd) (w:World):(binOp .eql 78 (ndV x) (ndV x)).run Tryz.prog w= .ok (.bool true) w:=by
 obtain⟨op,⟨x0,x1,x2,x3⟩,xn,xmin,xmax,xk⟩:=x
 rw[ndV,run_eql_struct]
 have hcl:=cls_eq x0.toNat x1.toNat x2.toNat x3.toNat x0.toNat x1.toNat x2.toNat x3.toNat w
 simp[go_sem,hcl]
set_option maxRecDepth 100000 in
set_option maxHeartbeats 1600000 in
theorem copyNodesS_call {re:List Nd} {oa:Option Addr} {cap:Nat} {w:World} (hs:Src w (.slice oa re.length cap) re.length (ndsC re)) (hl:re.length*72≤140737488355328):
  Calls Tryz.prog 87 #[.slice oa re.length cap] w fun e w'=>(∃v,e= .returned v∧Nds w' w.heap.size v re)∧Below w.heap.size w w':=by
 have HV:=Lib.hid hs
 clear hs
 go_enter Tryz.func87,Tryz.ntmps87
 go_wp2_with (at_builtin;refine wpList_app elNd rfl _ _ rfl w.heap.size rfl (Nds.nil w w.heap.size) rfl HV.out (ndsC_length re) (ndsC_one re) (by simp only[List.length_nil];unfold maxLen;omega) (by simp only[List.length_nil];omega) (Nat.le_refl _) ?_)
 intro v1 w2 hm2 hgr2 hblk2
 have HM:=Lib.hid (show Nds w2 w.heap.size v1 re by unfold Nds;simpa [ndsC]using hm2)
 have HB:=Lib.hid ((Below.refl w.heap.size w).grown hgr2 (Nat.le_refl _) (fun k hk=>by cases hk))
 clear hm2 hgr2 hblk2
 go_wp2_with fail
 go_ret
 exact⟨⟨_,rfl,HM.out⟩,HB.out⟩
theorem Nds.pre {w:World} {base g n cap:Nat} {l r:List Nd} (h:Nds w base (.slice (some ⟨g,0,none⟩) n cap) (l++r)) (hn:(l++r).length=n) (hl:l.length≤4294967296) (hk: ∀x∈l,x.kids≤9223372036854775807):NdAt w g 0 l:=
 ⟨(h.lt g rfl).2,hl,fun i hi j=>by
  by_cases hj:j<9
  ·left
   have hlen:(l++r).length=l.length+r.length:=List.length_append
   unfold Nds at h
   rw[hn]at h
   rw[Nat.zero_add,World.ownsRow.cellAt h _ (by omega),ndsC_at (l++r) i j (by omega) hj]
   congr 2
   rw[List.getD_eq_getElem?_getD,List.getD_eq_getElem?_getD,List.getElem?_append_left hi]
  ·right;omega,hk⟩
theorem Nds.preV {w:World} {base g n cap:Nat} {l r:List Nd} (h:Nds w base (.slice (some ⟨g,0,none⟩) n cap) (l++r)) (hn:(l++r).length=n) (hl:l.length≤4294967296) (hk: ∀x∈l,x.kids≤9223372036854775807):NdV w (some ⟨g,0,none⟩) l:=
 ⟨hl,fun _=>⟨g,0,rfl,h.pre hn hl hk⟩⟩
theorem NdV.srcAt {w:World} {a:Addr} {cap:Nat} {re:List Nd} (h:NdV w (some a) re):Src w (.slice (some a) re.length cap) re.length (ndsC re):=by
 by_cases hp:0<re.length
 ·exact h.src hp
 ·have:re=[]:=List.eq_nil_of_length_eq_zero (by omega)
  subst this
  exact .inr ⟨a,cap,rfl,fun j u hu=>by simp[ndsC]at hu⟩
end Go.Proofs.YtfjbnpdffillbaaGreatDoor
namespace Go.Proofs.YtfjbnpdffillbaaGreatDoor
open Go.RowKit
theorem kidsW_any {g:Nat→Option (Int × Nat)} : ∀(k:Nat) (s:Int) (i:Nat) (r:Int) (j:Nat),kidsW g k s i=some (r,j)→ ∀s',∃r',kidsW g k s' i=some (r',j)
 |0,s,i,r,j,h,s'=>by
  simp only[kidsW,Option.some.injEq,Prod.mk.injEq]at h
  exact⟨s',by simp only[kidsW];rw[h.2]⟩
 |k+1,s,i,r,j,h,s'=>by
  unfold kidsW at h ⊢
  split at h
  ·cases h
  ·exact kidsW_any k _ _ _ _ h _
theorem kidsW_add (g:Nat→Option (Int × Nat)): ∀(m n:Nat) (s:Int) (i:Nat) (r:Int) (j:Nat),kidsW g m s i=some (r,j)→kidsW g (m+n) s i=kidsW g n r j
 |0,n,s,i,r,j,h=>by
  simp only[kidsW,Option.some.injEq,Prod.mk.injEq]at h
  rw[h.1,h.2,Nat.zero_add]
 |m+1,n,s,i,r,j,h=>by
  rw[kidsW]at h
  rw[show m+1+n=(m+n)+1 by omega,kidsW]
  split at h
  ·cases h
  ·exact kidsW_add g m n _ _ _ _ h
theorem kidsW_len {re:List Nd} {g:Nat→Option (Int × Nat)} (hg: ∀i r,g i=some r→i<r.2∧r.2≤re.length): ∀(k:Nat) (s:Int) (i:Nat) (r:Int × Nat),i≤re.length→kidsW g k s i=some r→i+k≤r.2∧r.2≤re.length
 |0,s,i,r,hi,h=>by
  simp only[kidsW,Option.some.injEq]at h
  subst h
  exact⟨Nat.le_refl _,hi⟩
 |k+1,s,i,r,hi,h=>by
  unfold kidsW at h
  split at h
  ·cases h
  ·rename_i w nx hx
   have h1:=hg _ _ hx
   simp only at h1
   have h2:=kidsW_len hg k _ _ _ h1.2 h
   omega
theorem kidsW_step {re:List Nd} {F l p z:Nat} {s r:Int} (h:kidsW (weighN re F) (l+1) s p=some (r,z)): ∃x F' s' r',re[p]?=some x∧kidsW (weighN re F') (x.kids.toNat+l) s' (p+1)=some (r',z):=by
 unfold kidsW at h
 split at h
 ·cases h
 ·rename_i w nx hx
  cases F with
  |zero=>simp[weighN]at hx
  |succ F=>
   have hx2:=hx
   rw[weighN]at hx2
   split at hx2
   ·cases hx2
   ·rename_i x hre
    split at hx2
    ·cases hx2
    ·rename_i sm nx2 hk
     simp only[Option.some.injEq,Prod.mk.injEq]at hx2
     rw[hx2.2]at hk
     have hk2:=kidsW_mono (fun i r=>weighN_succ re F i r) _ _ _ _ hk
     obtain⟨r',hr'⟩:=kidsW_any _ _ _ _ _ h sm
     exact⟨x,F+1,0,r',hre,by rw[kidsW_add _ _ _ _ _ _ _ hk2];exact hr'⟩
theorem shapedN_good {re:List Nd} (h:shapedN re=true): ∀x∈re,0≤x.kids:=fun x hx=>by
 unfold shapedN at h
 split at h
 ·cases h
 ·rename_i j en hn
  simp only[Bool.and_eq_true,decide_eq_true_eq]at h
  obtain⟨p,hp⟩:=List.mem_iff_getElem?.1 hx
  obtain⟨y,hy,hg⟩:=(nodeN_good re _ _ _ _ _ hn).2.2 p (Nat.zero_le _) (by have:=(List.getElem?_eq_some_iff.1 hp).1;simp only;omega)
  rw[hp]at hy
  cases hy
  have hg1:=hg.1
  simp only[goodN,Bool.and_eq_true]at hg1
  have h5:=hg1.2
  split at h5
  ·simp only[beq_iff_eq]at h5;omega
  ·split at h5
   ·simp only[decide_eq_true_eq]at h5;omega
   ·split at h5
    ·simp only[Bool.or_eq_true,beq_iff_eq,decide_eq_true_eq]at h5;omega
    ·simp only[beq_iff_eq]at h5;omega
set_option maxRecDepth 100000 in
set_option maxHeartbeats 1600000 in
theorem rbehind_call {re:List Nd} {oa:Option Addr} {cap:Nat} {w:World} (HOP:Hid (∀x∈re,-128≤x.op∧x.op≤127)) (i:Int) (h:NdV w oa re):
  Calls Tryz.prog 207 #[.slice oa re.length cap,.int .i64 i] w fun e w'=>e= .returned (.int .i64 (behindN re i))∧Below w.heap.size w w':=by
 have hs:=rshaped_call (cap:=cap) HOP h
 have hlen:=h.len
 have HV:=Lib.hid h
 clear h
 cases hsh:shapedN re with
 |false=>
  have HW:Hid (behindN re i= -1):=by rw[Hid,behindN,hsh];rfl
  rw[hsh]at hs
  have HS:=Lib.hid hs
  clear hs
  go_enter Tryz.func207,Tryz.ntmps207
  go_wp2_with fail
  refine HS.out.mono ?_;rintro e w1 ⟨rfl,hb1⟩
  have HB:=Lib.hid hb1
  clear hb1 HS
  go_wp2_with fail
  go_ret
  exact⟨by rw[HW.out];rfl,HB.out⟩
 |true=>
  rw[hsh]at hs
  have HS:=Lib.hid hs
  clear hs
  by_cases h1:i<0
  ·have HW:Hid (behindN re i= -1):=by rw[Hid,behindN,hsh];simp;omega
   have h1':decide (i<0)=true:=by simpa using h1
   go_enter Tryz.func207,Tryz.ntmps207
   go_wp2_with fail
   refine HS.out.mono ?_;rintro e w1 ⟨rfl,hb1⟩
   have HB:=Lib.hid hb1
   clear hb1 HS
   go_wp2_with fail
   go_ret
   exact⟨by rw[HW.out];rfl,HB.out⟩
  have h1':decide (i<0)=false:=by simpa using h1
  by_cases h2:(re.length:Int)≤i
  ·have HW:Hid (behindN re i= -1):=by rw[Hid,behindN,hsh];simp;omega
   have h2':decide ((re.length:Int)≤i)=true:=by simpa using h2
   go_enter Tryz.func207,Tryz.ntmps207
   go_wp2_with fail
   refine HS.out.mono ?_;rintro e w1 ⟨rfl,hb1⟩
   have HB:=Lib.hid hb1
   clear hb1 HS
   go_wp2_with fail
   go_ret
   exact⟨by rw[HW.out];rfl,HB.out⟩
  have h2':decide ((re.length:Int)≤i)=false:=by simpa using h2
  obtain⟨p0,rfl⟩: ∃p0:Nat,i=(p0:Int):=⟨i.toNat,by omega⟩
  have hp:p0<re.length:=by omega
  have h2n:decide (re.length≤p0)=false:=decide_eq_false (by omega)
  obtain⟨hok,hall⟩:=shapedN_spec hsh
  obtain⟨⟨W,nx⟩,hw⟩:=hall p0 hp
  have HWT:Hid (behindN re (p0:Int)=(nx:Int)):=by
   rw[Hid,behindN,hsh,Int.toNat_natCast,hw]
   simp only[Bool.true_and,Bool.and_eq_true,decide_eq_true_eq]
   rw[if_pos ⟨by omega,by omega⟩]
  have HK0:=Lib.hid (show∃r,kidsW (weighN re 260) 1 0 p0=some (r,nx)from⟨min (0+W) 16385,by simp only[kidsW,hw]⟩)
  have HGD:=Lib.hid (shapedN_good hsh)
  have HBD:=Lib.hid (fun F i r=>weighN_bounds hok F i r)
  obtain⟨nb,no,rfl,hn⟩:=HV.out.at_ (by omega)
  have HN:=Lib.hid hn
  clear hn hw hall hok
  go_enter Tryz.func207,Tryz.ntmps207
  go_wp2_with fail
  refine HS.out.mono ?_;rintro e w1 ⟨rfl,hb1⟩
  have HB:=Lib.hid hb1
  clear hb1 HS
  go_wp2_with fail
  go_loopg [1,5] (re.length - p0) (fun n pv lv wr=> ∃(p l:Nat),pv= .int .i64 (p:Nat)∧lv= .int .i64 (l:Nat)∧n=re.length - p∧p≤re.length∧l≤re.length∧Hid (∃F s r,kidsW (weighN re F) l s p=some (r,nx))∧Below w.heap.size w wr)
  case atStart=>
   obtain⟨r,hr⟩:=HK0.out
   exact⟨p0,1,rfl,by go_num,by omega,by omega,by omega,⟨260,0,r,hr⟩,HB.out⟩
  case round=>
   obtain⟨p,l,rfl,rfl,hg,hpl,hll,HK,hb2⟩:=hrel
   have HG:=Lib.hid hg
   have HB2:=Lib.hid hb2
   clear hg hb2
   by_cases hl0:0<l
   ·obtain⟨l,rfl⟩: ∃m,l=m+1:=⟨l - 1,by omega⟩
    obtain⟨F,s,r,hk⟩:=HK.out
    obtain⟨x,F',s',r',hx,hk'⟩:=kidsW_step hk
    have hpx:p<re.length:=(List.getElem?_eq_some_iff.1 hx).1
    have hx0:=HGD.out x (List.mem_of_getElem? hx)
    have hlb:=kidsW_len (re:=re) (fun i r h=>by have:=HBD.out F' i r h;omega) _ _ _ _ (by omega) hk'
    simp only at hlb
    have hnr:=HN.out.below HB2.out
    obtain⟨n0,n1,n2,n3,n4,n5,n6,n7,n8⟩:=hnr.cells hx
    have nbl:=hnr.lt
    obtain⟨k,hxk⟩: ∃k:Nat,x.kids=(k:Int):=⟨x.kids.toNat,by omega⟩
    rw[hxk]at n8 hk' hlb
    rw[Int.toNat_natCast]at hk' hlb
    have HK2:=Lib.hid hk'
    have hpx':(p:Int)<(re.length:Int):=by omega
    clear hk hk' hxk hx0 hx hnr HK n0 n1 n2 n3 n4 n5 n6 n7
    go_wp2_with fail
    go_roundg (re.length - (p+1))
    case measure=>have:=HG.out;omega
    case rel=>exact⟨p+1,k+l,by go_num,by rw[show((l:Int)+(k:Int))=((k+l:Nat):Int)by omega],rfl,by omega,by omega,⟨F',s',r',HK2.out⟩,HB2.out⟩
   ·have hl1:l=0:=by omega
    subst hl1
    obtain⟨F,s,r,hk⟩:=HK.out
    simp only[kidsW,Option.some.injEq,Prod.mk.injEq]at hk
    have hpn:=hk.2
    subst hpn
    clear hk HK
    go_wp2_with fail
    go_ret
    exact⟨by rw[HWT.out];rfl,HB2.out⟩
end Go.Proofs.YtfjbnpdffillbaaGreatDoor
