/- Parts: Sa. -/
import Derived.Test.YtfcemodgopdkkaaGreatDoorQ10
import Derived.Test.YtfcemodgopdkkaaGreatDoorQ14
import Derived.Test.YtfcemodgopdkkaaGreatDoorQ29
import Derived.Test.YtfcemodgopdkkaaGreatDoorQ13
import Derived.Test.YtfcemodgopdkkaaGreatDoorQ2
import Derived.Test.YtfcemodgopdkkaaGreatDoorQ3
import Derived.Test.YtfcemodgopdkkaaGreatDoorQ9
import Derived.Test.YtfcemodgopdkkaaGreatDoorQ8
import Derived.Test.YtfcemodgopdkkaaGreatDoorQ0
import Derived.Lib.Hide
import Derived.LoopN
import Derived.Maps.AppendAt
import Derived.Laws.AppendOwnNone
import Derived.Laws.BytesArg
import Derived.Deep.WholeRow
import Derived.Deep.MidRow
import Derived.Laws.OwnMore
import Derived.Shelf.Bytes.SlClone
import Derived.ChangeSlices
import Derived.SizedLaws
import Derived.OpenShut
import Derived.Deep.Slices
namespace Go.Proofs.YtfcemodgopdkkaaGreatDoor
open Go.ChangeShapes Go.WideShapes Go.RowKit Go.Deep
structure Lin where
 ob:Option Addr
 cb:Nat
 T:List Nat
def LnM (w:World) (oa:Option Addr) (LL:List Lin):Prop:=
 0<LL.length→ ∃nb no,oa=some ⟨nb,no,none⟩∧nb<w.heap.size∧ ∀i l,LL[i]?=some l→w.cell? ⟨nb,no+i,none⟩=some (.slice l.ob l.T.length l.cb)∧BtM w l.ob l.T∧l.T.length≤140737488355328∧(∀b∈l.T,b<256)∧Src w (.slice l.ob l.T.length l.cb) l.T.length (u8s l.T)
theorem LnM.below {w w':World} {oa:Option Addr} {LL:List Lin} (h:LnM w oa LL) (hb:Below w.heap.size w w'):LnM w' oa LL:=fun hp=>by
 obtain⟨nb,no,h1,h2,h3⟩:=h hp
 refine⟨nb,no,h1,zMB h2 hb.size,fun i l hl=>?_⟩
 obtain⟨e1,e2,e3,e4,e5⟩:=h3 i l hl
 exact⟨(hb.cell (p:=⟨nb,no+i,none⟩) h2).trans e1,e2.below hb,e3,e4,e5.below hb⟩
theorem zBl {α:Type} {n:Nat} {R:Nat→α→Prop} (h: ∀i,i<n→ ∃p,R i p): ∃L:List α,L.length=n∧ ∀i p,L[i]?=some p→R i p:=by
 refine⟨List.ofFn (fun i:Fin n=>Classical.choose (h i.1 i.2)),by simp,fun i p hp=>?_⟩
 have hi:i<n:=by simpa using (zMF.1 hp).1
 rw[List.getElem?_ofFn]at hp
 simp only[hi,↓reduceDIte,Option.some.injEq]at hp
 rw[←hp]
 exact Classical.choose_spec (h i hi)
section
variable {H:Type} {enc:TypeId × Value→H} {w:World} {spare:Nat→Bool} {held:Bool}
theorem zID {t:TypeId} {fuel:Nat} {cs:List Value} {x:DataW H × List MemPlace} (ht:Tryz.prog.underlying t=some (.slice 46)) (h:DataW.trod enc Tryz.prog w 0 spare held fuel t cs=some x) (hz:Sz t x.1): ∃o len cap,cs=[.slice o len cap]∧len*24≤140737488355328∧ ∃LL:List Lin,LL.length=len∧LnM w o LL:=by
 obtain⟨o,len,cap,rfl⟩:=zAj ht h
 have hlen:=zBI ht h hz
 rw[show Tryz.prog.bytesOf 46=24 by kernel_rfl]at hlen
 have hlen2:len*24≤140737488355328:=zMV hlen (by decide)
 refine⟨o,len,cap,rfl,hlen2,?_⟩
 rcases open_slice ht h with ⟨h0,_⟩|⟨a,len2,cap2,m,n',D,Pl,hcs,hb,hl,hmx,hmm,rfl,hi⟩
 ·simp only[List.cons.injEq,and_true,Value.slice.injEq]at h0
  obtain⟨rfl,rfl,rfl⟩:=h0
  exact⟨[],rfl,fun hp=>absurd hp (by simp)⟩
 ·simp only[List.cons.injEq,and_true,Value.slice.injEq]at hcs
  obtain⟨rfl,rfl,rfl⟩:=hcs
  have hlm:len≤m:=by rw[hmm];split<;>omega
  have hel:=(Sz.slice ht hz).2
  rw[show Tryz.prog.cellsOf 46=1 by kernel_rfl]at hi
  have hall: ∀i,i<len→ ∃l:Lin,w.cell? (a.add i)=some (.slice l.ob l.T.length l.cb)∧BtM w l.ob l.T∧l.T.length≤140737488355328∧(∀b∈l.T,b<256)∧Src w (.slice l.ob l.T.length l.cb) l.T.length (u8s l.T):=fun i hil=>by
   obtain⟨cs',hc,ht'⟩:=hi i (by omega)
   obtain⟨_,hl2,hat⟩:=World.cells?_some hc
   have hd:=hel (D i) (List.mem_map.2 ⟨i,List.mem_range.2 hil,rfl⟩)
   obtain⟨ob,lb,cb,rfl,T,rfl,hs,hz',hlo⟩:=zCq Tryz.underlying46 ht' hd
   refine⟨⟨ob,cb,T⟩,?_,BtM.of_src hs,hz',hlo,hs⟩
   have:=hat 0 (by decide)
   rw[add_add,Nat.mul_one,Nat.add_zero]at this
   simpa using this
  obtain⟨LL,hL,hLL⟩:=zBl hall
  refine⟨LL,hL,fun hp=>?_⟩
  obtain⟨b,off,spot⟩:=a
  obtain⟨l0,k0,_⟩:=hall 0 (by omega)
  have hspot:spot=none:=by simpa [Addr.add]using World.cell?_spot k0
  subst hspot
  refine⟨b,off,rfl,by rw[zAq]at k0;exact zMf _ _ k0,fun i l hl=>?_⟩
  obtain⟨e1,e2,e3,e4,e5⟩:=hLL i l hl
  rw[zAq]at e1
  exact⟨e1,e2,e3,e4,e5⟩
end
end Go.Proofs.YtfcemodgopdkkaaGreatDoor
