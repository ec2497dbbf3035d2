/- Parts: Th. -/
import Derived.Test.YtmaagpbjahjmhaaGreatDoorQ28
import Derived.Deep.Slices
import Derived.OpenShut
namespace Go.Proofs.YtmaagpbjahjmhaaGreatDoor
open Go.RowKit Go.ChangeShapes Go.WideShapes Go.Deep
structure MkV (w:World) (oa:Option Addr) (cap:Nat) (L:List Mk):Prop where
 u: ∀i,i<L.length→(zAH L i).b<256
 no:oa=none→L=[]∧cap=0
 cp:L.length≤cap
 at_:0<L.length→ ∃mb mo,oa=some ⟨mb,mo,none⟩∧mb<w.heap.size∧ ∀i,i<L.length→w.cell? ⟨mb,mo+i*2,none⟩=some (.int .u8 ((zAH L i).b:Nat))∧w.cell? ⟨mb,mo+i*2+1,none⟩=some (.bool (zAH L i).p)
theorem MkV.below {w w':World} {oa:Option Addr} {cap:Nat} {L:List Mk} (h:MkV w oa cap L) (hb:Below w.heap.size w w'):MkV w' oa cap L:=
 ⟨h.u,h.no,h.cp,fun hp=>by
  obtain⟨mb,mo,h1,h2,h3⟩:=h.at_ hp
  exact⟨mb,mo,h1,Nat.lt_of_lt_of_le h2 hb.size,fun i hi=>⟨(hb.cell (p:=⟨mb,mo+i*2,none⟩) h2).trans (h3 i hi).1,(hb.cell (p:=⟨mb,mo+i*2+1,none⟩) h2).trans (h3 i hi).2⟩⟩⟩
theorem MkV.arg {w:World} {oa:Option Addr} {cap:Nat} {L:List Mk} (h:MkV w oa cap L):0<L.length→L.length≤4096→ ∃mb mo,oa=some ⟨mb,mo,none⟩∧zI7 w mb mo L:=fun hn hl=>by
 obtain⟨mb,mo,h1,h2,h3⟩:=h.at_ hn
 exact⟨mb,mo,h1,h2,hl,fun i hi=>(h3 i hi).1,fun i hi=>(h3 i hi).2,h.u⟩
theorem zN6 (L:List Mk) (j:Nat) (u:Value) (h:(zGI L)[j]?=some u): ∃i,i<L.length∧(j=i*2∧u= .int .u8 ((zAH L i).b:Nat)∨j=i*2+1∧u= .bool (zAH L i).p):=by
 have hj:j<(zGI L).length:=(List.getElem?_eq_some_iff.1 h).1
 rw[zEX]at hj
 refine⟨j / 2,by omega,?_⟩
 obtain⟨h1,h2⟩:=zFG L (j / 2) (by omega)
 by_cases hm:j % 2=0
 ·left
  have e:j=j / 2*2:=by omega
  rw[←e,h]at h1
  exact⟨e,Option.some.inj h1⟩
 ·right
  have e:j=j / 2*2+1:=by omega
  rw[←e,h]at h2
  exact⟨e,Option.some.inj h2⟩
theorem MkV.src {w:World} {oa:Option Addr} {cap:Nat} {L:List Mk} (h:MkV w oa cap L):Src w (.slice oa L.length cap) L.length (zGI L):=by
 cases oa with
 |none=>
  obtain⟨rfl,rfl⟩:=h.no rfl
  exact Src.nil w
 |some a=>
  refine .inr ⟨a,cap,rfl,fun j u hu=>?_⟩
  obtain⟨i,hi,hj⟩:=zN6 L j u hu
  obtain⟨mb,mo,ha,_,h3⟩:=h.at_ (by omega)
  cases ha
  have hadd: ∀k,(⟨mb,mo,none⟩:Addr).add k=⟨mb,mo+k,none⟩:=fun k=>by unfold Addr.add;split<;>simp_all
  rw[hadd]
  rcases hj with ⟨rfl,rfl⟩|⟨rfl,rfl⟩
  ·exact(h3 i hi).1
  ·rw[←Nat.add_assoc];exact(h3 i hi).2
theorem Mks.toV {w:World} {base:Nat} {v:Value} {L:List Mk} (h:Mks w base v L) (hu: ∀i,i<L.length→(zAH L i).b<256): ∃oa cap,v= .slice oa L.length cap∧MkV w oa cap L:=by
 rcases h.2 with ⟨rfl,h0⟩|⟨g,cp,cur,rfl,hg1,hg2,hcp,_⟩
 ·have:L=[]:=List.eq_nil_of_length_eq_zero h0
  subst this
  exact⟨none,0,rfl,hu,fun _=>⟨rfl,rfl⟩,Nat.le_refl _,fun h=>absurd h (by simp)⟩
 ·refine⟨_,_,rfl,hu,(fun h=>by cases h),hcp,fun _=>⟨g,0,rfl,(Array.getElem?_eq_some_iff.1 hg2).1,fun i hi=>?_⟩⟩
  have hadd: ∀j,(⟨g,0,none⟩:Addr).add j=⟨g,j,none⟩:=fun j=>by unfold Addr.add;split<;>simp_all
  have hc: ∀j u,(zGI L)[j]?=some u→w.cell? ⟨g,j,none⟩=some u:=fun j u hu=>by
   rw[←hadd];exact World.ownsRow.cells h rfl j u hu
  rw[Nat.zero_add]
  exact⟨hc _ _ (zFG L i hi).1,hc _ _ (zFG L i hi).2⟩
theorem MkV.take {w:World} {oa:Option Addr} {cap:Nat} {L:List Mk} (h:MkV w oa cap L) {n:Nat} (hn:n≤L.length):MkV w oa cap (L.take n):=by
 have hl:(L.take n).length=n:=by rw[List.length_take];omega
 have hm: ∀i,i<n→zAH (L.take n) i=zAH L i:=fun i hi=>by
  unfold zAH
  rw[List.getD_eq_getElem?_getD,List.getD_eq_getElem?_getD,List.getElem?_take_of_lt hi]
 refine⟨fun i hi=>?_,fun h0=>?_,by rw[hl];exact Nat.le_trans hn h.cp,fun hp=>?_⟩
 ·rw[hl]at hi;rw[hm i hi];exact h.u i (by omega)
 ·obtain⟨rfl,hc⟩:=h.no h0;exact⟨by simp,hc⟩
 ·rw[hl]at hp
  obtain⟨mb,mo,h1,h2,h3⟩:=h.at_ (by omega)
  refine⟨mb,mo,h1,h2,fun i hi=>?_⟩
  rw[hl]at hi
  rw[hm i hi]
  exact h3 i (by omega)
section
variable {H:Type} {enc:TypeId × Value→H} {w:World} {spare:Nat→Bool} {held:Bool}
theorem fld {n':Nat} {fs:Array Field} {cs:List Value} {xs:List (DataW H × List MemPlace)} (hf: ∀(i:Nat) (f:Field),fs[i]?=some f→DataW.trod enc Tryz.prog w 0 spare held n' f.type ((cs.drop f.offset).take (Tryz.prog.cellsOf f.type))=xs[i]?)
  {i ty off k:Nat} {f:Field} (hi:fs[i]?=some f) (h1:f.type=ty) (h2:f.offset=off) (h3:Tryz.prog.cellsOf ty=k):DataW.trod enc Tryz.prog w 0 spare held n' ty ((cs.drop off).take k)=xs[i]?:=by
 subst h1 h2 h3
 exact hf i f hi
end
end Go.Proofs.YtmaagpbjahjmhaaGreatDoor
