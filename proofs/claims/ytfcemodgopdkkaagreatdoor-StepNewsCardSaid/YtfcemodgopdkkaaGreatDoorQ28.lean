/- Parts: Lj Kv. -/
import Derived.Test.YtfcemodgopdkkaaGreatDoorQ7
import Derived.Test.YtfcemodgopdkkaaGreatDoorQ1
import Derived.Test.YtfcemodgopdkkaaGreatDoorQ6
import Derived.Test.YtfcemodgopdkkaaGreatDoorQ16
import Derived.Test.YtfcemodgopdkkaaGreatDoorQ2
import Derived.Test.YtfcemodgopdkkaaGreatDoorQ8
import Derived.Test.YtfcemodgopdkkaaGreatDoorQ0
import Derived.Lib.ItoaNum
import Derived.Sort.CutIn
import Derived.Lib.IndexLaws
import Derived.Maps.AppendAt
import Derived.RangeFuncNested
import Derived.RangeFuncBound
import Derived.RangeFuncCalls
import Derived.RangeFuncLeaves
import Derived.Shelf.Abstract
import Derived.Shelf.RegionOpen
import Derived.OwnWalkIn
import Derived.TacticsInMore
import Derived.LoopNIn
import Derived.LoopIn
import Derived.Shelf.Spec.TrailingZeros
import Derived.Deep.DeepCutAuto
import Derived.OrdersIn
set_option maxHeartbeats 1600000
set_option maxRecDepth 100000
namespace Go.Proofs.YtfcemodgopdkkaaGreatDoor
section
open Go.RowKit
theorem zHY {w:World} (k:Nat) (os:Array Obj):Below w.heap.size w (Go.Sort.grow (w.drewN k) os):=
 ⟨rfl,rfl,rfl,by show w.heap.size≤(w.heap++os).size;rw[Array.size_append];omega,fun j hj=>by show(w.heap++os)[j]?=_;rw[Array.getElem?_append_left hj]⟩
def zBn (w:World):Prop:=Lib.TabIs Tryz.prog w "internal/strconv.uint64pow10" .u64 Lib.pow10Tab
theorem zBn.below {w w':World} (h:zBn w) (hb:Below w.heap.size w w'):zBn w':=by
 unfold zBn Lib.TabIs World.var? at h ⊢
 generalize Tryz.prog.globalNamed "internal/strconv.uint64pow10" =og at h ⊢
 cases og with
 |none=>simp at h
 |some g=>
  simp only[Option.bind_some]at h ⊢
  have hlt:g<w.heap.size:=by
   by_cases hlt:g<w.heap.size
   ·exact hlt
   ·rw[Array.getElem?_eq_none (by omega)]at h;cases h
  rw[hb.block g hlt]
  exact h
theorem zIa {n:Int} (h0: -9223372036854775808≤n) (h1:n≤9223372036854775807) {w:World} (ht:zBn w):
  Calls Tryz.prog 104 #[.int .i64 n] w fun e w'=>e= .returned (.string ⟨(Lib.itoa n).toArray⟩)∧Below w.heap.size w w':=
 (shl.strconv_Itoa n h0 h1 w ht).mono fun _ _ ⟨he,k,os,hw⟩=>⟨he,hw▸zHY k os⟩
end
section
open Go.RowKit
structure zKX (w:World) (oa:Option Addr) (L:List Nat):Prop where
 len:L.length≤4294967296
 at_:0<L.length→ ∃g o,oa=some ⟨g,o,none⟩∧g<w.heap.size∧ ∀i b,L[i]?=some b→w.cell? ⟨g,o+i,none⟩=some (.int .u8 (b:Nat))
theorem zKX.below {w w':World} {oa:Option Addr} {L:List Nat} (h:zKX w oa L) (hb:Below w.heap.size w w'):zKX w' oa L:=
 ⟨h.len,fun hp=>by
  obtain⟨g,o,h1,h2,h3⟩:=h.at_ hp
  exact⟨g,o,h1,zMB h2 hb.size,fun i b hi=>(hb.cell (p:=⟨g,o+i,none⟩) h2).trans (h3 i b hi)⟩⟩
theorem zI1 {a b:List Nat} {d:Nat} {x y:Nat} (hx:a[d]?=some x) (hy:b[d]?=some y) (h: ¬x=y): ¬a=b:=fun e=>by subst e;rw[hx]at hy;cases hy;exact h rfl
theorem zFB {a b:List Nat} {oa ob:Option Addr} {ca cb:Nat} {w:World} (ha:zKX w oa a) (hb:zKX w ob b):
  Calls Tryz.prog 52 #[.slice oa a.length ca,.slice ob b.length cb] w fun e w'=>e= .returned (.bool (decide (a=b)))∧Below w.heap.size w w':=by
 have hla:=ha.len
 have hlb:=hb.len
 have HA:=zL8 ha
 have HB:=zL8 hb
 clear ha hb
 by_cases hl:a.length=b.length
 ·have hl':((a.length:Int) !=(b.length:Int))=false:=by simp[hl]
  rw[←hl]
  rw[←hl]at hlb
  have HL:=zL8 hl
  clear hl hl'
  go_enter Tryz.func52,Tryz.ntmps52
  go_wp2_with fail
  go_loopg [5] a.length (fun n iv wr=> ∃d:Nat,iv= .int .i64 (d:Nat)∧n=a.length - d∧d≤a.length∧Hid (a.take d=b.take d)∧Below w.heap.size w wr)
  case atStart=>exact⟨0,rfl,by omega,by omega,rfl,zL9 _ _⟩
  case round=>
   obtain⟨d,rfl,hg,hd,HT,hbe⟩:=hrel
   have HG:=zL8 hg
   have HBE:=zL8 hbe
   clear hg
   by_cases hlt:d<a.length
   ·have hlt':(d:Int)<(a.length:Int):=by omega
    obtain⟨na,oo,rfl,nal,hna⟩:=(HA.out.below hbe).at_ (by omega)
    obtain⟨nb,ob',rfl,nbl,hnb⟩:=(HB.out.below hbe).at_ (by have:=HL.out;omega)
    obtain⟨x,hx⟩: ∃x,a[d]?=some x:=⟨_,zMP hlt⟩
    obtain⟨y,hy⟩: ∃y,b[d]?=some y:=⟨_,zMP (by have:=HL.out;omega)⟩
    have n0:=hna d x hx
    have m0:=hnb d y hy
    have HX:=zL8 hx
    have HY:=zL8 hy
    clear hna hnb hbe hx hy
    by_cases hxy:x=y
    ·subst hxy
     have HT1:Hid (a.take (d+1)=b.take (d+1)):=by rw[Hid,List.take_add_one,List.take_add_one,HT.out,HX.out,HY.out]
     have e1:((x:Int) !=(x:Int))=false:=by simp
     go_wp2_with fail
     refine zAA (X:=none) 9 [] [0,1,2,3,4,5,6,7,8] (by kernel_rfl) (by kernel_rfl) rfl (fun _ _ _ _ _ h=>h) ?_
     simp only[zAJ,zAC,zAD,zAB,List.getD_cons_zero,List.getD_cons_succ,List.drop_succ_cons,List.drop_nil]
     repeat (go_big_quiet_step (fail))
     refine wpQuiet_nil ?_
     go_wp2_with fail
     go_roundg (a.length - (d+1))
     case measure=>have:=HG.out;omega
     case rel=>exact⟨d+1,by go_num,rfl,by omega,HT1,HBE.out.drew⟩
    ·have HF:Hid (decide (a=b)=false):=by rw[Hid,zMK (zI1 HX.out HY.out hxy)]
     have e1:((x:Int) !=(y:Int))=true:=by simp[bne];omega
     clear hxy
     go_wp2_with fail
     refine zAA (X:=none) 9 [] [0,1,2,3,4,5,6,7,8] (by kernel_rfl) (by kernel_rfl) rfl (fun _ _ _ _ _ h=>h) ?_
     simp only[zAJ,zAC,zAD,zAB,List.getD_cons_zero,List.getD_cons_succ,List.drop_succ_cons,List.drop_nil]
     repeat (go_big_quiet_step (fail))
     refine wpQuiet_nil ?_
     go_wp2_with fail
     go_ret
     exact⟨by rw[HF.out];rfl,HBE.out.drew⟩
   ·have hlt': ¬(d:Int)<(a.length:Int):=by omega
    have hde:d=a.length:=by omega
    subst hde
    have HF:Hid (decide (a=b)=true):=by
     have h:=HT.out
     rw[List.take_length,HL.out,List.take_length]at h
     rw[Hid,zMJ h]
    go_wp2_with fail
    go_ret
    exact⟨by rw[HF.out];rfl,HBE.out⟩
 ·have hl':((a.length:Int) !=(b.length:Int))=true:=by simp[bne];omega
  have HF:Hid (decide (a=b)=false):=by rw[Hid,zMK (fun e=>hl (by rw[e]))]
  clear hl
  go_enter Tryz.func52,Tryz.ntmps52
  go_wp2_with fail
  go_ret
  exact⟨by rw[HF.out];rfl,zL9 _ _⟩
end
end Go.Proofs.YtfcemodgopdkkaaGreatDoor
