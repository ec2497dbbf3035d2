/- Parts: Sc Sh. -/
import Derived.Test.YtfcemodgopdkkaaGreatDoorQ13
import Derived.Test.YtfcemodgopdkkaaGreatDoorQ10
import Derived.Test.YtfcemodgopdkkaaGreatDoorQ29
import Derived.Test.YtfcemodgopdkkaaGreatDoorQ2
import Derived.Test.YtfcemodgopdkkaaGreatDoorQ3
import Derived.Test.YtfcemodgopdkkaaGreatDoorQ9
import Derived.Test.YtfcemodgopdkkaaGreatDoorQ8
import Derived.Test.YtfcemodgopdkkaaGreatDoorQ0
import Derived.Lib.Hide
import Derived.LoopN
import Derived.Maps.AppendAt
import Derived.Laws.AppendOwnNone
import Derived.Laws.BytesArg
import Derived.Deep.WholeRow
import Derived.Deep.MidRow
import Derived.Laws.OwnMore
import Derived.Shelf.Bytes.SlClone
import Derived.Test.YtfcemodgopdkkaaGreatDoorChecked
set_option maxHeartbeats 3200000
set_option maxRecDepth 100000
namespace Go.Proofs.YtfcemodgopdkkaaGreatDoor
section
open Go.RowKit
structure zFK (w:World) (sb:Nat) (T:List Nat) (pk:Option Nat):Prop where
 lt:sb<w.heap.size
 c0: ∃v,w.cell? ⟨sb,0,none⟩=some v∧w.ownsRow 0 5 1 v T.length (u8s T)∧v.ownBlock=pk
 c1: ∃v,w.cell? ⟨sb,1,none⟩=some v
 c2:w.cell? ⟨sb,2,none⟩=some (.int .i64 1048576)
 c3:w.cell? ⟨sb,3,none⟩=some (.bool true)
 fz: ∀o,w.frozen? ⟨sb,o,none⟩=false
 tl:T.length≤1048576
section
variable {w w':World} {sb:Nat} {pk:Option Nat} {T X:List Nat} {oa:Option Addr} {cap:Nat}
theorem zFK.keep (h:zFK w sb T pk) {S:Nat→Prop} (hk:zAb w w' S) (h1: ¬S sb) (h2: ∀x,pk=some x→ ¬S x):zFK w' sb T pk where
 lt:=zMB h.lt hk.size
 c0:=by obtain⟨v,e1,e2,e3⟩:=h.c0;exact⟨v,(hk.cell (p:=⟨sb,0,none⟩) h.lt h1).trans e1,hk.row e2 fun x hx=>h2 x (e3.symm.trans hx),e3⟩
 c1:=by obtain⟨v,e⟩:=h.c1;exact⟨v,(hk.cell (p:=⟨sb,1,none⟩) h.lt h1).trans e⟩
 c2:=(hk.cell (p:=⟨sb,2,none⟩) h.lt h1).trans h.c2
 c3:=(hk.cell (p:=⟨sb,3,none⟩) h.lt h1).trans h.c3
 fz:=fun o=>(zMD (w:=w) (a:=⟨sb,o,none⟩) (hk.block sb h.lt h1)).trans (h.fz o)
 tl:=h.tl
theorem zFK.pkLt (h:zFK w sb T pk) {x:Nat} (hx:pk=some x):x<w.heap.size:=by
 obtain⟨v,_,e2,e3⟩:=h.c0
 exact(e2.lt x (e3.trans hx)).2
theorem zFK.below (h:zFK w sb T pk) (hb:Below w.heap.size w w'):zFK w' sb T pk:=
 h.keep (zAb.of_below hb (fun k=>w.heap.size≤k) fun _ e _=>e) (by have:=h.lt;omega) fun x hx=>by have:=h.pkLt hx;omega
theorem zDt (h:zFK w sb T pk):Calls Tryz.prog 93 #[.pointer (some ⟨sb,0,none⟩)] w fun e w'=>e= .returned (.bool false)∧w=w':=by
 have c3:=h.c3
 have hl:=h.lt
 clear h
 go_enter Tryz.func93,Tryz.ntmps93
 go_wp2_with fail
 go_ret
 exact⟨rfl,rfl⟩
theorem zBo (h:zFK w sb T pk):Calls Tryz.prog 48 #[.pointer (some ⟨sb,0,none⟩)] w fun e w'=>(∃v,e= .returned v∧w'.ownsRow w.heap.size 5 1 v T.length (u8s T))∧Below w.heap.size w w':=by
 obtain⟨v,c0,hv,_⟩:=h.c0
 have hl:=h.lt
 have HN:=zL8 (zDt h)
 have htx: ∃o c,v= .slice o T.length c∧zBU w o T∧ ∀g p s,o≠some ⟨g,p,some s⟩:=by
  rcases hv.2 with ⟨rfl,hn⟩|⟨g,cp,cur,rfl,_⟩
  ·exact⟨none,0,by rw[hn],fun hp=>by omega,fun _ _ _ e=>by cases e⟩
  ·refine⟨_,cp,rfl,fun hp=>⟨g,0,rfl,fun j hj=>?_⟩,fun _ _ _ e=>by injection e with e;injection e with _ _ e;cases e⟩
   rw[←zAq]
   refine hv.cells (g:=g) rfl j _ ?_
   simp[u8s,hj,List.getD_eq_getElem?_getD]
 obtain⟨o,c,rfl,htx,hs⟩:=htx
 have HC:=zL8 (zBT (cap:=c) htx (by have:=h.tl;omega) hs)
 clear h hv htx hs
 go_enter Tryz.func48,Tryz.ntmps48
 go_wp2_with fail
 refine HN.out.mono ?_;rintro e wq ⟨rfl,rfl⟩
 go_wp2_with fail
 refine HC.out.mono ?_;rintro e w1 ⟨v1,rfl,hv1,hb1⟩
 have HV:=zL8 hv1
 have HB:=zL8 hb1
 clear hv1 hb1
 go_wp2_with fail
 go_ret
 exact⟨⟨_,rfl,HV.out⟩,HB.out⟩
theorem zHq (h:zFK w sb T pk) (hx:zBU w oa X) (hs: ∀g o s,oa≠some ⟨g,o,some s⟩) (hl:X.length≤1048576):
  Calls Tryz.prog 44 #[.pointer (some ⟨sb,0,none⟩),.slice oa X.length cap] w fun e w'=>e= .returned (.int .i64 0)∧(∃pk',zFK w' sb X pk'∧ ∀x,pk'=some x→w.heap.size≤x)∧zAb w w' (fun k=>k=sb):=by
 have HN:=zL8 (zDt h)
 have HC:=zL8 (zBT (cap:=cap) hx (by omega) hs)
 have HS:=zL8 h
 have HL:=zL8 hl
 have c2:=h.c2
 have hlt:=h.lt
 have hln: ¬(1048576:Int)<(X.length:Int):=by omega
 clear h hx hs hl
 go_enter Tryz.func44,Tryz.ntmps44
 go_wp2_with fail
 refine HN.out.mono ?_;rintro e wq ⟨rfl,rfl⟩
 go_wp2_with fail
 refine HC.out.mono ?_;rintro e w1 ⟨v1,rfl,hv1,hb1⟩
 obtain⟨o1,k1,rfl⟩: ∃o k,v1= .slice o X.length k:=by
  rcases hv1.2 with ⟨rfl,hn⟩|⟨g,cp,cur,rfl,_⟩
  ·exact⟨none,0,by rw[hn]⟩
  ·exact⟨_,_,rfl⟩
 have HV:=zL8 hv1
 have HB:=zL8 hb1
 have hS1:=HS.out.below hb1
 have HS1:=zL8 hS1
 obtain⟨v0,k0,_,_⟩:=hS1.c0
 have z0:=hS1.fz 0
 have hlt1:=hS1.lt
 clear hv1 hb1 hS1 c2 hlt hln
 go_wp2_with fail
 go_ret
 have hne: ∀k,(Value.slice o1 X.length k1).ownBlock=some k→k≠sb:=fun k hk=>by have:=(HV.out.lt k hk).1;have:=HS.out.lt;omega
 have hk:zAb w1 (w1.setCell ⟨sb,0,none⟩ (.slice o1 X.length k1)) (fun k=>k=sb):=zAb.setCell _ _ _
 have hcell: ∀o,o≠0→(w1.setCell ⟨sb,0,none⟩ (.slice o1 X.length k1)).cell? ⟨sb,o,none⟩=w1.cell? ⟨sb,o,none⟩:=fun o ho=>zMQ _ _ _ _ (by intro e;cases e;exact ho rfl)
 exact⟨rfl,⟨_,⟨zMB HS1.out.lt hk.size,⟨_,zMR _ _ _ k0,zAH (hk.row HV.out hne) (Nat.zero_le _),rfl⟩,by obtain⟨v,h1⟩:=HS1.out.c1;exact⟨v,(hcell 1 (by decide)).trans h1⟩,(hcell 2 (by decide)).trans HS1.out.c2,(hcell 3 (by decide)).trans HS1.out.c3,fun o=>(World.frozen?_setCell _ _ _ _).trans (HS1.out.fz o),HL.out⟩,fun x hx=>(HV.out.lt x hx).1⟩,
  (zAb.of_below HB.out _ (fun j hj hj2=>absurd hj2 (by omega))).trans hk fun _ _ e=>e⟩
end
end
section
open Go.RowKit
section
variable {w:World} {X:List Nat} {ox:Option Addr} {cx:Nat}
theorem zGv (hX:Src w (.slice ox X.length cx) X.length (u8s X)) (hl:X.length≤1048576):
  Calls Tryz.prog 129 #[.slice ox X.length cx] w fun e w'=>(∃v,e= .returned v∧w'.ownsRow w.heap.size 5 1 v (X++[10]).length (u8s (X++[10])))∧Below w.heap.size w w':=by
 have HX:=zL8 hX
 have HL:=zL8 hl
 have hl1:(X.length:Int)≤1048576:=by omega
 clear hX hl
 obtain⟨i0,hi,hz0,hz1,hz2⟩:=info_parts (zK7).hi
 go_enter Tryz.func129,Tryz.ntmps129
 go_wp2_with (at_make;refine wpList_make_own _ rfl _ _ 46 rfl w.heap.size 5 i0 _ 1 Tryz.underlying46 hi hz0 hz1 .i64 .i64 ((X.length:Int)+1) (X.length+1) rfl rfl (by omega) (by rw[hz2];have:=HL.out;omega) (by unfold maxLen;have:=HL.out;omega) (Nat.le_refl _) ?_)
 intro w1 hown hgr
 have hb1:Below w.heap.size w w1:=(zL9 _ _).grown hgr (zMA _) (fun k hk=>by cases hk)
 have HO1:=zL8 hown
 have HB1:=zL8 hb1
 have HX1:=zL8 (Src.below HX.out hb1)
 clear hown hgr hb1
 go_wp2_with (at_builtin;refine zAN (n:=0) (m:=X.length) (xs:=[]) (news:=u8s X) zK7 rfl _ _ rfl w.heap.size rfl HO1.out rfl HX1.out (by simp[u8s]) (zD9 X) (by have:=HL.out;unfold maxLen;omega) (by have:=HL.out;omega) HB1.out.size ?_)
 intro v2 w2 ho2 hg2 _
 have ho2':w2.ownsRow w.heap.size 5 1 v2 X.length (u8s X):=by simpa using ho2
 have hb2:Below w.heap.size w w2:=Below.grown HB1.out hg2 HB1.out.size (fun k hk=>(HO1.out.lt k hk).1)
 have HO2:=zL8 ho2'
 have HB2:=zL8 hb2
 clear ho2 ho2' hg2 hb2
 go_wp2_with (at_builtin;refine zAN (n:=X.length) (m:=1) (news:=[.int .u8 ((10:Nat):Nat)]) zK7 rfl _ _ rfl w.heap.size rfl (zAK HO2.out fun k hk=>zMM _ _ (HO2.out.lt k hk).2) rfl (Src.new w2 [.int .u8 ((10:Nat):Nat)] _ _ _) rfl (by simp[Value.oneCell']) (by have:=HL.out;unfold maxLen;omega) (by have:=HL.out;omega) (by have:=HB2.out.size;simp;omega) ?_)
 intro v3 w3 ho3 hg3 _
 have hb3:Below w.heap.size w w3:=Below.grown (zMZ HB2.out HB2.out.size _) hg3 (by have:=HB2.out.size;simp;omega) (fun k hk=>(HO2.out.lt k hk).1)
 have HO3:=zL8 ho3
 have HB3:=zL8 hb3
 clear ho3 hg3 hb3
 go_wp2_with fail
 go_ret
 exact⟨⟨_,rfl,by rw[zMS,show u8s (X++[10])=u8s X++[.int .u8 ((10:Nat):Nat)]by simp[u8s]];exact HO3.out⟩,HB3.out⟩
end
end
end Go.Proofs.YtfcemodgopdkkaaGreatDoor
