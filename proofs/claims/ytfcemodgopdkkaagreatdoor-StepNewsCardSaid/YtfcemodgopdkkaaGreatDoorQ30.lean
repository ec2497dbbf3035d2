/- Parts: Xka Xb. -/
import Derived.Test.YtfcemodgopdkkaaGreatDoorQ2
import Derived.Test.YtfcemodgopdkkaaGreatDoorQ3
import Derived.Test.YtfcemodgopdkkaaGreatDoorQ9
import Derived.Test.YtfcemodgopdkkaaGreatDoorQ13
import Derived.Test.YtfcemodgopdkkaaGreatDoorQ8
import Derived.Test.YtfcemodgopdkkaaGreatDoorQ0
import Derived.Test.YtfcemodgopdkkaaGreatDoorQ11
import Derived.Test.YtfcemodgopdkkaaGreatDoorQ27
import Derived.Test.YtfcemodgopdkkaaGreatDoorQ15
import Derived.Lib.Hide
import Derived.LoopN
import Derived.Maps.AppendAt
import Derived.Laws.AppendOwnNone
import Derived.Laws.BytesArg
import Derived.Deep.WholeRow
import Derived.Deep.MidRow
import Derived.Laws.OwnMore
import Derived.ChangeKeysEq
import Derived.Laws.StructEq
import Derived.Test.YtfcemodgopdkkaaGreatDoorChecked
import Derived.Deep.LoopGhost
import Derived.Deep.Cut
set_option maxHeartbeats 1600000
set_option maxRecDepth 100000
namespace Go.Proofs.YtfcemodgopdkkaaGreatDoor
section
open Go.RowKit
def Kb (base:Nat) (w w':World):Prop:=w.heap.size≤w'.heap.size∧ ∀k,base≤k→k<w.heap.size→w'.heap[k]?=w.heap[k]?
section
variable {w w' W:World} {base b:Nat}
theorem Kb.below (h:Below w.heap.size w w'):Kb base w w':=⟨h.size,fun k _ hk=>h.block k hk⟩
theorem Kb.set (hb:b<base) (o:Nat) (v:Value):Kb base w (w.setCell ⟨b,o,none⟩ v):=⟨by simp[World.setCell],fun k hk _=>zMI _ _ _ _ (by show k≠b;omega)⟩
theorem Kb.row (hb:b<base) (r:Array Value):Kb base w (w.setRow b r):=⟨by simp[World.setRow],fun k hk _=>by simp[World.setRow,Array.getElem?_modify,show b≠k by omega]⟩
theorem Kb.trans (h:Kb base w W) (k:Kb base W w'):Kb base w w':=⟨zMV h.1 k.1,fun i hi hl=>(k.2 i hi (zMB hl h.1)).trans (h.2 i hi hl)⟩
theorem Kb.mono {base':Nat} (h:Kb base w w') (hb:base≤base'):Kb base' w w':=⟨h.1,fun k hk=>h.2 k (zMV hb hk)⟩
theorem zAQ {e size n:Nat} {v:Value} {xs:List Value} (h:w.ownsRow base e size v n xs) (k:Kb base w w'):w'.ownsRow base e size v n xs:=zAK h fun g hg=>k.2 g (World.ownsRow.lt h g hg).1 (World.ownsRow.lt h g hg).2
def zCl (t:TypeId) (w w':World):Prop:= ∀(g:Nat) (cs:Array Value) (e:TypeId),e≠t→w.heap[g]?=some (.cells cs e (0,0))→w'.heap[g]?=w.heap[g]?
theorem zAc {t e:TypeId} {size n:Nat} {v:Value} {xs:List Value} (h:w.ownsRow base e size v n xs) (he:e≠t) (k:zCl t w w'):w'.ownsRow base e size v n xs:=zAK h fun g hg=>by
 rcases h.2 with ⟨rfl,_⟩|⟨g2,cap,cur,rfl,_,h2,_⟩
 ·cases hg
 ·cases hg
  exact k _ _ _ he h2
theorem zCl.below {t:TypeId} (h:Below w.heap.size w w'):zCl t w w':=fun g _ _ _ hg=>h.block g (zMG.1 hg).1
theorem zCl.trans {t:TypeId} (h:zCl t w W) (k:zCl t W w'):zCl t w w':=fun g cs e he hg=>by
 have h1:=h g cs e he hg
 exact(k g cs e he (h1.trans hg)).trans h1
theorem zCl.grown {t size n:Nat} {v:Value} {xs:List Value} (h:w.ownsRow base t size v n xs) (hg:w.grownBy w' v.ownBlock):zCl t w w':=fun g cs e he hc=>by
 refine hg.block g (zMG.1 hc).1 fun hk=>?_
 rcases h.2 with ⟨rfl,_⟩|⟨g2,cap,cur,rfl,_,h2,_⟩
 ·cases hk
 ·simp only[Value.ownBlock,Option.some.injEq]at hk
  subst hk
  rw[hc]at h2
  cases h2
  exact he rfl
theorem zCl.set {t:TypeId} {g:Nat} {cs:Array Value} {f:Nat × Nat} (h:w.heap[g]?=some (.cells cs t f)) (o:Nat) (v:Value):zCl t w (w.setCell ⟨g,o,none⟩ v):=fun k ds e he hk=>zMI _ _ _ _ (by
 intro hh
 have hh':k=g:=hh
 subst hh'
 rw[h]at hk
 cases hk
 exact he rfl)
end
end
section
open Go.RowKit
section
variable {w w':World} {l:List Value}
theorem zDR {nm:Nat} {wr:Bool} (hc:zBc l) (h7:l[7]?=some (.int .u8 (nm:Nat))) (h15:l[15]?=some (.bool wr)):Calls Tryz.prog 60 #[.agg l.toArray] w fun e w'=>e= .returned (.bool (nm==119||(nm==115&&wr)))∧Below w.heap.size w w':=by
 have hb:=CmB.new hc w
 have c7:(w.alloc (.cells l.toArray 71)).cell? ⟨w.heap.size,7,none⟩=some (.int .u8 (nm:Nat)):=(hb.cell 7).trans h7
 have c15:(w.alloc (.cells l.toArray 71)).cell? ⟨w.heap.size,15,none⟩=some (.bool wr):=(hb.cell 15).trans h15
 have HB:=zL8 ((zL9 w.heap.size w).alloc (zMA _) (.cells l.toArray 71))
 have hl:=(CmB.new hc w).lt
 clear h7 h15 hc hb
 obtain⟨R,hR⟩: ∃R,(nm==119||(nm==115&&wr))=R:=⟨_,rfl⟩
 rw[hR]
 have HR:=zL8 hR
 clear hR
 go_enter Tryz.func60,Tryz.ntmps60
 go_upto_region 1 with fail
 obtain⟨W,hW⟩: ∃W,w.alloc (.cells l.toArray 71)=W:=⟨_,rfl⟩
 rw[hW]at HB c7 c15 hl ⊢
 clear hW
 obtain⟨b,hbz⟩: ∃b,w.heap.size=b:=⟨_,rfl⟩
 rw[hbz]at c7 c15 hl ⊢
 have HZ:=zL8 hbz
 clear hbz
 by_cases h1:nm=119
 ·subst h1
  go_wp2_with fail
  go_ret
  exact⟨by rw[←HR.out];rfl,HB.out⟩
 ·have hq1:((nm:Int)==119)=false:=by simp;omega
  by_cases h2:nm=115
  ·subst h2
   go_wp2_with fail
   go_ret
   exact⟨by rw[←HR.out];cases wr<;>rfl,HB.out⟩
  ·have hq2:((nm:Int)==115)=false:=by simp;omega
   go_wp2_with fail
   go_ret
   exact⟨by rw[←HR.out];simp[h1,h2],HB.out⟩
end
end
end Go.Proofs.YtfcemodgopdkkaaGreatDoor
