/- Parts: Jj. -/
import Derived.Test.YtfjbnpdffillbaaGreatDoorQ36
import Derived.Test.YtfjbnpdffillbaaGreatDoorQ7
import Derived.Test.YtfjbnpdffillbaaGreatDoorQ10
import Derived.Test.YtfjbnpdffillbaaGreatDoorQ17
import Derived.Test.YtfjbnpdffillbaaGreatDoorQ26
import Derived.ChangeSlices
import Derived.Lib.SmallJoins
import Derived.SizedLaws
import Derived.OpenShut
namespace Go.Proofs.YtfjbnpdffillbaaGreatDoor
open Go.RowKit
structure BtA (w:World) (ob:Option Addr) (cb:Nat) (T:List Nat):Prop where
 no:ob=none→T=[]∧cb=0
 at_:0<T.length→ ∃g o,ob=some ⟨g,o,none⟩∧g<w.heap.size∧ ∀j,j<T.length→w.cell? ⟨g,o+j,none⟩=some (.int .u8 (T.getD j 0:Nat))
 u: ∀j,T.getD j 0<256
theorem BtA.below {w w':World} {ob:Option Addr} {cb:Nat} {T:List Nat} (h:BtA w ob cb T) (hb:Below w.heap.size w w'):BtA w' ob cb T:=
 ⟨h.no,fun hp=>by
  obtain⟨g,o,h1,h2,h3⟩:=h.at_ hp
  exact⟨g,o,h1,zPi h2 hb.size,fun j hj=>(hb.cell (p:=⟨g,o+j,none⟩) h2).trans (h3 j hj)⟩,h.u⟩
theorem BtA.src {w:World} {ob:Option Addr} {cb:Nat} {T:List Nat} (h:BtA w ob cb T):Src w (.slice ob T.length cb) T.length (u8s T):=by
 cases ob with
 |none=>
  obtain⟨rfl,rfl⟩:=h.no rfl
  exact .inl ⟨rfl,rfl,rfl⟩
 |some a=>
  refine .inr ⟨a,cb,rfl,fun j u hu=>?_⟩
  have hj:j<T.length:=by simpa [u8s]using (zPm.1 hu).1
  obtain⟨g,o,h1,_,h3⟩:=h.at_ (by omega)
  injection h1 with h1
  subst h1
  rw[zDf,h3 j hj]
  simpa [u8s,hj,List.getD_eq_getElem?_getD]using hu
theorem zOn {w:World} {base:Nat} {v:Value} {T:List Nat} (h:w.ownsRow base 5 1 v T.length (u8s T)): ∃o c,v= .slice o T.length c∧zO2 w o T∧ ∀g x s,o≠some ⟨g,x,some s⟩:=by
 have h0:=h
 rcases h.2 with ⟨rfl,hn⟩|⟨g,cap,cur,rfl,hb,hg,_⟩
 ·exact⟨none,0,by rw[hn],fun hp=>by omega,fun g x s e=>by cases e⟩
 ·refine⟨_,cap,rfl,fun _=>⟨g,0,rfl,fun j hj=>?_⟩,fun g x s e=>by injection e with e;injection e with _ _ e;cases e⟩
  rw[←zDf]
  refine h0.cells (g:=g) rfl j _ ?_
  simp[u8s,hj,List.getD_eq_getElem?_getD]
open Go.ChangeShapes Go.WideShapes Go.ChangeAt Go.RowKit Go.Joins Go.WideMaps Go.WideElems Go.Deep
theorem zPD {z:Int} (h:(Lit.int .u8 z).wf=true):0≤z∧z<256:=by
 have:=bounds_u8 h
 omega
section
variable {H:Type} {enc:TypeId × Value→H} {w:World} {spare:Nat→Bool} {held:Bool} {base:Nat}
theorem zNG {t:TypeId} {v:Value} {d:DataW H} {p:List MemPlace} (ht:Tryz.prog.underlying t=some (.slice 5)) (h:DataW.Trod enc Tryz.prog w base spare held t v d p) {ob:Option Addr} {len cap:Nat} (hv:v= .slice ob len cap):
  ∃T:List Nat,T.length=len∧BtA w ob cap T:=by
 subst hv
 obtain⟨fuel,hf⟩:=h
 rcases open_ints ht Tryz.underlying5 (by kernel_rfl) hf with ⟨h0,_⟩|⟨a,len2,cap2,zs,hcs,_,hl,_,hz,_,hc,hw⟩
 ·have h0':[Value.slice ob len cap]=[.slice none 0 0]:=h0
  simp only[List.cons.injEq,and_true,Value.slice.injEq]at h0'
  obtain⟨rfl,rfl,rfl⟩:=h0'
  exact⟨[],rfl,⟨fun _=>⟨rfl,rfl⟩,fun h=>absurd h (by simp),fun j=>by simp⟩⟩
 ·have hcs':[Value.slice ob len cap]=[.slice (some a) len2 cap2]:=hcs
  simp only[List.cons.injEq,and_true,Value.slice.injEq]at hcs'
  obtain⟨rfl,rfl,rfl⟩:=hcs'
  have hzl:len≤zs.length:=by rw[hz];split<;>omega
  have hb: ∀j,0≤zs.getD j 0∧zs.getD j 0<256:=fun j=>by
   rw[zPo]
   cases hj:zs[j]? with
   |none=>decide
   |some x=>exact zPD (hw x (zP9 hj))
  have hT:((zs.take len).map Int.toNat).length=len:=by simp;omega
  have hg: ∀j,j<len→(((zs.take len).map Int.toNat).getD j 0:Int)=zs.getD j 0:=fun j hj=>by
   have h1:=(hb j).1
   have e:zs[j]?=some zs[j]:=zPw (by omega)
   simp only[List.getD_eq_getElem?_getD,e,Option.getD_some]at h1 ⊢
   simp[hj,e]
   omega
  refine⟨(zs.take len).map Int.toNat,hT,⟨fun h=>(by cases h),fun hp=>?_,fun j=>?_⟩⟩
  ·rw[hT]at hp
   obtain⟨b,off,spot⟩:=a
   have c0:=hc 0 (by omega)
   have hspot:spot=none:=by simpa [Addr.add]using World.cell?_spot c0
   subst hspot
   refine⟨b,off,rfl,by have:=zQC w _ c0;simpa [zDf]using this,fun j hj=>?_⟩
   rw[hT]at hj
   have:=hc j (by omega)
   rw[zDf]at this
   rw[this,hg j hj]
  ·by_cases hj:j<len
   ·have h1:=hg j hj
    have h2:=(hb j).2
    omega
   ·rw[zPo,zQH (by rw[hT];omega)]
    decide
end
end Go.Proofs.YtfjbnpdffillbaaGreatDoor
