/- Parts: Gj. -/
import Derived.Test.YtfcemodgopdkkaaGreatDoorQ28
import Derived.Test.YtfcemodgopdkkaaGreatDoorQ3
import Derived.Test.YtfcemodgopdkkaaGreatDoorQ16
import Derived.Test.YtfcemodgopdkkaaGreatDoorQ13
import Derived.Test.YtfcemodgopdkkaaGreatDoorQ6
import Derived.Test.YtfcemodgopdkkaaGreatDoorQ1
import Derived.Test.YtfcemodgopdkkaaGreatDoorQ7
import Derived.Test.YtfcemodgopdkkaaGreatDoorQ2
import Derived.Test.YtfcemodgopdkkaaGreatDoorQ8
import Derived.Test.YtfcemodgopdkkaaGreatDoorQ0
import Derived.Test.YtfcemodgopdkkaaGreatDoorQ11
import Derived.Shelf.LaysM
import Derived.Shelf.Strconv.AppendUint10
import Derived.Shelf.Strconv.AppendInt10
import Derived.Shelf.Strconv.AppendIntPublic10
import Derived.Test.YtfcemodgopdkkaaGreatDoorChecked
import Derived.Shelf.Small.Utf8
import Derived.Shelf.Small.Strs
import Derived.OneCell
import Derived.WalkMore
import Derived.LoopN
import Derived.Lib.ItoaNum
import Derived.Sort.CutIn
import Derived.Lib.IndexLaws
import Derived.Maps.AppendAt
import Derived.RangeFuncNested
import Derived.RangeFuncBound
import Derived.RangeFuncCalls
import Derived.RangeFuncLeaves
import Derived.Shelf.Abstract
import Derived.Shelf.RegionOpen
import Derived.OwnWalkIn
import Derived.TacticsInMore
import Derived.LoopNIn
import Derived.LoopIn
import Derived.Shelf.Spec.TrailingZeros
import Derived.Deep.DeepCutAuto
import Derived.OrdersIn
import Derived.Shelf.Strings.Search1
import Derived.Shelf.Strings.Runes
import Derived.Laws.EntriesVeiled
import Derived.Deep.WholeRow
import Derived.Lib.SlBytesConst
set_option maxHeartbeats 1600000
set_option maxRecDepth 100000
namespace Go.Proofs.YtfcemodgopdkkaaGreatDoor
open Go.RowKit
section
variable {w:World} {oa:Option Addr} {cap:Nat} {re:List Nd} {T:List Nat}
theorem zBh (hs:Src w (.slice oa T.length cap) T.length (u8s T)) (hl:T.length≤140737488355328):
  Calls Tryz.prog 167 #[.slice oa T.length cap] w fun e w'=>(∃v,e= .returned v∧w'.ownsRow w.heap.size 5 1 v T.length (u8s T))∧Below w.heap.size w w':=by
 have HS:=zL8 hs
 clear hs
 go_enter Tryz.func167,Tryz.ntmps167
 go_wp2_with (at_builtin;refine zAN zK7 rfl _ _ rfl w.heap.size (n:=0) (m:=T.length) (news:=u8s T) rfl (zMO w w.heap.size _ _) rfl HS.out (by simp[u8s]) (zD9 T) (by unfold maxLen;omega) (by omega) (Nat.le_refl _) ?_)
 intro v1 w1 hown hgr _
 have HO:=zL8 hown
 have HB:=zL8 ((zL9 w.heap.size w).grown hgr (zMA _) (fun k hk=>by cases hk))
 clear hown hgr
 go_wp2_with fail
 go_ret
 exact⟨⟨_,rfl,by have h:=HO.out;simpa using h⟩,HB.out⟩
theorem zCk (k n:Int) (hs:Src w (.slice oa re.length cap) re.length (zBb re)) (hl:re.length*72≤140737488355328):
  Calls Tryz.prog 166 #[.agg #[.int .i8 k,.int .i64 n,.slice oa re.length cap]] w fun e w'=>
   (∃o c,e= .returned (.agg #[.int .i8 k,.int .i64 n,.slice o re.length c])∧Nds w' w.heap.size (.slice o re.length c) re)∧Below w.heap.size w w':=by
 have HC:=zL8 (fun W (h:Src W (.slice oa re.length cap) re.length (zBb re))=>zB4 (w:=W) h hl)
 have HS:=zL8 hs
 have HA:=zL8 (AdB.new w (.int .i8 k) (.int .i64 n) (.slice oa re.length cap))
 have hb1:=(zL9 w.heap.size w).alloc (zMA _) (.cells #[.int .i8 k,.int .i64 n,.slice oa re.length cap] 66)
 have HB1:=zL8 hb1
 have hsz:(w.alloc (.cells #[.int .i8 k,.int .i64 n,.slice oa re.length cap] 66)).heap.size=w.heap.size+1:=by simp
 have hsrc1:Src (w.alloc (.cells #[.int .i8 k,.int .i64 n,.slice oa re.length cap] 66)) (.slice oa re.length cap) re.length (zBb re):=by
  rcases hs with h|⟨a,c,h,hj⟩
  ·exact .inl h
  ·exact .inr ⟨a,c,h,fun j u hu=>zIT (hj j u hu) _⟩
 clear hs hb1
 go_enter Tryz.func166,Tryz.ntmps166
 go_upto_region 1 with fail
 obtain⟨W1,hW1⟩: ∃W,w.alloc (.cells #[.int .i8 k,.int .i64 n,.slice oa re.length cap] 66)=W:=⟨_,rfl⟩
 rw[hW1]at HA HB1 hsz hsrc1 ⊢
 have HA2:=zL8 (HA.out.below ((zL9 _ _).alloc (zMA _) (.cells #[.int .i8 0,.int .i64 0,.slice none 0 0] 66)))
 have HZ:=zL8 (AdB.new W1 (.int .i8 0) (.int .i64 0) (.slice none 0 0))
 have HB2:=zL8 (HB1.out.alloc HB1.out.size (.cells #[.int .i8 0,.int .i64 0,.slice none 0 0] 66))
 have hsrc2:Src (W1.alloc (.cells #[.int .i8 0,.int .i64 0,.slice none 0 0] 66)) (.slice oa re.length cap) re.length (zBb re):=by
  rcases hsrc1 with h|⟨a,c,h,hj⟩
  ·exact .inl h
  ·exact .inr ⟨a,c,h,fun j u hu=>zIT (hj j u hu) _⟩
 have hsz2:(W1.alloc (.cells #[.int .i8 0,.int .i64 0,.slice none 0 0] 66)).heap.size=w.heap.size+1+1:=by simp[hsz]
 obtain⟨W2,hW2⟩: ∃W,W1.alloc (.cells #[.int .i8 0,.int .i64 0,.slice none 0 0] 66)=W:=⟨_,rfl⟩
 rw[hW2]at HA2 HZ HB2 hsrc2 hsz2 ⊢
 rw[hsz]at HZ
 clear hW1 hW2 HA HB1 hsrc1
 have k0:=HA2.out.c0
 have k1:=HA2.out.c1
 have k2:=HA2.out.c2
 have HX:=zL8 (HC.out W2 hsrc2)
 clear hsrc2
 go_wp2_with fail
 refine HX.out.mono ?_;rintro e w3 ⟨⟨v3,rfl,hn3⟩,hb3⟩
 obtain⟨o3,c3,rfl⟩:=hn3.form
 have HA3:=zL8 (HA2.out.below hb3)
 have HZ3:=zL8 (HZ.out.below hb3)
 have HB3:=zL8 (HB2.out.trans (hb3.mono HB2.out.size))
 have hblk:=hn3.lt
 have HN3:=zL8 hn3
 have HBK:=zL8 hblk
 clear hb3 hn3 hblk k0 k1 k2 HX HC HA2 HZ HB2
 have k0:=HA3.out.c0
 have k1:=HA3.out.c1
 have k2:=HA3.out.c2
 have f0:=HA3.out.fz
 have z0:=HZ3.out.c0
 have z1:=HZ3.out.c1
 have z2:=HZ3.out.c2
 have g0:=HZ3.out.fz
 have hne: ¬w.heap.size+1=w.heap.size:=by omega
 go_wp2_with fail
 refine zEt (p:=2) (b:=w.heap.size+1) rfl rfl rfl ((HZ3.out.other (by omega) _ _).set (.int .i8 k) (.int .i64 n) (.slice o3 re.length c3)) ⟨⟨o3,c3,rfl,?_⟩,?_⟩
 ·refine zAH (zAK HN3.out fun g hg=>?_) (by omega)
  have:=(HBK.out g hg).1
  exact((zMI _ _ _ _ (by show g≠w.heap.size+1;omega)).trans ((zMI _ _ _ _ (by show g≠w.heap.size+1;omega)).trans ((zMI _ _ _ _ (by show g≠w.heap.size+1;omega)).trans (zMI _ _ _ _ (by show g≠w.heap.size;omega)))))
 ·exact(((HB3.out.setCell (zMA _) _).setCell (by show w.heap.size≤w.heap.size+1;omega) _).setCell (by show w.heap.size≤w.heap.size+1;omega) _).setCell (by show w.heap.size≤w.heap.size+1;omega) _
end
end Go.Proofs.YtfcemodgopdkkaaGreatDoor
