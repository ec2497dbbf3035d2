/- Parts: Wc. -/
import Derived.Test.YtmaagpbjahjmhaaGreatDoorQ2
import Derived.Test.YtmaagpbjahjmhaaGreatDoorQ3
import Derived.Deep.DeepCutAuto
import Derived.Deep.RegionHeld3
set_option maxHeartbeats 8000000
set_option maxRecDepth 100000
namespace Go.Proofs.YtmaagpbjahjmhaaGreatDoor
open Go.RowKit
def zBy (w:World) (B:Nat) (c:Cls):Prop:=w.heap[B]?=some (.cells (zA5 c) 99 (0,0))
theorem zBy.lt {w:World} {B:Nat} {c:Cls} (h:zBy w B c):B<w.heap.size:=(zQz.1 h).1
theorem zBy.below {w w':World} {B:Nat} {c:Cls} (h:zBy w B c) (hb:Below w.heap.size w w'):zBy w' B c:=(hb.block B h.lt).trans h
theorem zBy.cells {w:World} {B:Nat} {c:Cls} (h:zBy w B c):
  w.cell? ⟨B,0,none⟩=some (.int .u64 c.w0.toNat)∧w.cell? ⟨B,1,none⟩=some (.int .u64 c.w1.toNat)∧w.cell? ⟨B,2,none⟩=some (.int .u64 c.w2.toNat)∧w.cell? ⟨B,3,none⟩=some (.int .u64 c.w3.toNat):=
 ⟨zAd h 0 (by omega),zAd h 1 (by omega),zAd h 2 (by omega),zAd h 3 (by omega)⟩
abbrev zOc (w:World) (B:Nat) (d:Cls):World:=
 (((w.setCell ⟨B,0,none⟩ (.int .u64 d.w0.toNat)).setCell ⟨B,1,none⟩ (.int .u64 d.w1.toNat)).setCell ⟨B,2,none⟩ (.int .u64 d.w2.toNat)).setCell ⟨B,3,none⟩ (.int .u64 d.w3.toNat)
theorem zCf {w:World} {B:Nat} {c:Cls} (h:zBy w B c) (d:Cls):zBy (zOc w B d) B d:=
 zEu (zEu (zEu (zEu h 0 (by omega) d.w0) 1 (by omega) d.w1) 2 (by omega) d.w2) 3 (by omega) d.w3
theorem zB1 {w:World} {B k:Nat} (h:k≤B) (d:Cls):Below k w (zOc w B d):=
 ((((zQs k w).setCell (p:=⟨B,0,none⟩) h _).setCell (p:=⟨B,1,none⟩) h _).setCell (p:=⟨B,2,none⟩) h _).setCell (p:=⟨B,3,none⟩) h _
theorem zAs {s:ByteArray} {l:List UInt8} (h:(s.toList==l)=true):zAg s=l.map (·.toNat):=by
 have h1:s.toList=l:=by simpa using h
 rw[zAg,←ByteArray.toList_eq,h1]
theorem zAh {s:ByteArray} {l:List UInt8} (h:(s.toList==l)=false):zAg s≠l.map (·.toNat):=by
 intro h1
 have h2:s.toList=l:=by
  rw[zAg,←ByteArray.toList_eq]at h1
  exact(List.map_inj_right (fun a b hab=>UInt8.toNat_inj.1 hab)).1 h1
 rw[h2]at h
 simp at h
theorem zEd (l:List Nat) (cs:Array Value) (hcs:cs=(l.map fun b=>Value.int .u8 (b:Nat)).toArray) (hl: ∀i,i<l.length→l.getD i 0<256) (hll:l.length≤65536) (w:World):
  Calls Tryz.prog 249 #[.slice (some ⟨w.heap.size,0,none⟩) l.length l.length] (w.alloc (.cells cs 5)) fun e w'=>
   e= .returned (zDQ (Cls.of l))∧Below (w.alloc (.cells cs 5)).heap.size (w.alloc (.cells cs 5)) w':=by
 refine zPl l _ _ _ hl hll _ (fun i hi=>?_) (by simp)
 rw[zQ6 _ _ _ _ _ (0,0) (zQ4 w _),hcs]
 simp[List.getD_eq_getElem?_getD,hi]
structure Nm (w wx:World) (b4 b5 b6:Nat):Prop where
 z:zBy wx w.heap.size Cls.zero
 u:zBy wx b4 zDU
 l:zBy wx b5 zDc
 d:zBy wx b6 zDg
 b:Below w.heap.size w wx
theorem Nm.mono {w wx wy:World} {b4 b5 b6:Nat} (h:Nm w wx b4 b5 b6) {k:Nat} (hk:w.heap.size<k) (h4:b4<k) (h5:b5<k) (h6:b6<k) (hb:Below k wx wy):Nm w wy b4 b5 b6:=
 ⟨(hb.block _ hk).trans h.z,(hb.block _ h4).trans h.u,(hb.block _ h5).trans h.l,(hb.block _ h6).trans h.d,h.b.trans (hb.mono (by omega))⟩
theorem Nm.below {w wx wy:World} {b4 b5 b6:Nat} (h:Nm w wx b4 b5 b6) (hb:Below wx.heap.size wx wy):Nm w wy b4 b5 b6:=
 ⟨h.z.below hb,h.u.below hb,h.l.below hb,h.d.below hb,h.b.trans (hb.mono h.b.size)⟩
theorem zMT (s:ByteArray) (w:World):
  Calls Tryz.prog 280 #[.string s] w fun e w'=>e= .returned (.tuple #[zDQ ((zA7 (zAg s)).getD Cls.zero),.bool (zA7 (zAg s)).isSome])∧Below w.heap.size w w':=by
 go_enter Tryz.func280,Tryz.ntmps280
 go_wp2_with fail
 refine(zBB _ _ (by omega) (by omega) (by omega) (by omega) _).mono ?_;rintro e wa ⟨rfl,ha⟩
 go_wp2_with fail
 refine(zBB _ _ (by omega) (by omega) (by omega) (by omega) _).mono ?_;rintro e wb ⟨rfl,hb⟩
 go_wp2_with fail
 refine(zBB _ _ (by omega) (by omega) (by omega) (by omega) _).mono ?_;rintro e wc ⟨rfl,hc⟩
 have hz:zBy wc w.heap.size Cls.zero:=by
  have h0:zBy (w.alloc (.cells #[.int .u64 0,.int .u64 0,.int .u64 0,.int .u64 0] 99)) w.heap.size Cls.zero:=zQ4 _ _
  exact((h0.below ha).below hb).below hc
 have hbw:Below w.heap.size w wc:=by
  have h1:=ha.size
  have h2:=hb.size
  rw[World.size_alloc]at h1
  exact(((zQs _ _).alloc (zQt _) _).trans (ha.mono (by simp))).trans ((hb.mono (by omega)).trans (hc.mono (by omega)))
 clear ha hb hc
 go_upto_region 2 with (fail)
 go_cut [4,5,6,7] (fun s4 s5 s6 s7 wx=> ∃b4 b5 b6 b7:Nat,s4= .pointer (some ⟨b4,0,none⟩)∧s5= .pointer (some ⟨b5,0,none⟩)∧s6= .pointer (some ⟨b6,0,none⟩)∧s7= .pointer (some ⟨b7,0,none⟩)∧
  Nm w wx b4 b5 b6∧zBy wx b7 zDl)
 case first=>
  obtain⟨wd,hwd⟩: ∃wd:World,((wc.alloc (.cells (zA5 zDU) 99)).alloc (.cells (zA5 zDc) 99)).alloc (.cells (zA5 zDg) 99)=wd:=⟨_,rfl⟩
  have h4:zBy wd wc.heap.size zDU:=by rw[←hwd];exact(zQ5 _ _ (by simp;omega)).trans ((zQ5 _ _ (by simp)).trans (zQ4 _ _))
  have h5:zBy wd (wc.heap.size+1) zDc:=by rw[←hwd];exact(zQ5 _ _ (by simp)).trans (zFA (by simp))
  have h6:zBy wd (wc.heap.size+1+1) zDg:=by rw[←hwd];exact zFA (by simp)
  have hbd:Below w.heap.size w wd:=by have:=hbw.size;rw[←hwd];exact(by repeat (first|exact zQs _ _|assumption|refine zRK ?_|refine zRI ?_ (by first|(simp;done)|(simp;omega)|omega) _|refine zRJ ?_ (by first|(simp;done)|(simp;omega)|omega) _))
  have hzd:zBy wd w.heap.size Cls.zero:=by have:=hz.lt;rw[←hwd];exact hz.below (by repeat (first|exact zQs _ _|assumption|refine zRK ?_|refine zRI ?_ (by first|(simp;done)|(simp;omega)|omega) _|refine zRJ ?_ (by first|(simp;done)|(simp;omega)|omega) _))
  change Code.wp _ _ _ _ (((wc.alloc (.cells (zA5 zDU) 99)).alloc (.cells (zA5 zDc) 99)).alloc (.cells (zA5 zDg) 99))
  rw[hwd]
  have k4:=h4.lt
  have k5:=h5.lt
  have k6:=h6.lt
  obtain⟨p0,p1,p2,p3⟩:=h4.cells
  obtain⟨q0,q1,q2,q3⟩:=h5.cells
  obtain⟨r0,r1,r2,r3⟩:=h6.cells
  have HN:Nm w wd wc.heap.size (wc.heap.size+1) (wc.heap.size+1+1):=⟨hzd,h4,h5,h6,hbd⟩
  clear hwd h4 h5 h6 hz hbw hzd hbd
  generalize wc.heap.size=b4 at*
  refine zBv (X:=none) 6 5 [([0,1,3],2),([],4)] [] (by kernel_rfl) (by kernel_rfl) rfl (fun _ _ _ _ _ h=>h) ?_
  simp only[zDS,zAK,zAC,zAE,zAD,zAB,List.getD_cons_zero,List.getD_cons_succ,List.drop_succ_cons,List.drop_zero]
  repeat (go_big_quiet_step (fail))
  refine wpQuiet_nil ?_
  refine⟨?_,?_⟩
  ·go_wp2_with fail
   refine(zCZ _ _ _).mono ?_;rintro e w1 ⟨rfl,hb1⟩
   go_wp2_with fail
   refine⟨zAJ.of_below hb1,wpQuiet_nil ⟨?_,?_⟩⟩
   ·go_wp2_with fail
    refine(zCZ _ _ _).mono ?_;rintro e w2 ⟨rfl,hb2⟩
    go_wp2_with fail
    refine⟨zAJ.of_below hb2,wpQuiet_nil ?_⟩
    go_wp2_with fail
    refine⟨zAc _ _,wpQuiet_nil ?_⟩
    go_wp2_with fail
    go_meet
    exact⟨b4,b4+1,b4+1+1,w2.heap.size,rfl,rfl,rfl,rfl,((HN.below (zQs _ _).drew).below hb1).below (hb2.trans ((zQs _ _).alloc hb2.size _)),zQ4 _ _⟩
   ·go_wp2_with fail
    refine⟨zAc _ _,wpQuiet_nil ?_⟩
    go_wp2_with fail
    refine(zCZ _ _ _).mono ?_;rintro e w2 ⟨rfl,hb2⟩
    have hk2:=zAJ.of_below (X:=none) hb2
    have hz2:zBy w2 w1.heap.size Cls.zero:=zBy.below (w:=w1.alloc (.cells #[.int .u64 0,.int .u64 0,.int .u64 0,.int .u64 0] 99)) (zQ4 _ _) hb2
    have HZ2:=zQr hz2
    have hn2:=(((HN.below (zQs _ _).drew).below hb1).below ((zQs _ _).alloc (zQt _) _)).below hb2
    have hs1:=hb1.size
    simp only[World.size_drew]at hs1
    have z0:=zAd hz2 0 (by omega)
    have z1:=zAd hz2 1 (by omega)
    have z2:=zAd hz2 2 (by omega)
    have z3:=zAd hz2 3 (by omega)
    have f0:=zAF hz2
    simp only[Cls.word]at z0 z1 z2 z3
    clear hz2 hb1 hb2
    go_wp2_with fail
    refine⟨hk2,wpQuiet_nil ?_⟩
    go_wp2_with fail
    go_meet
    have hlt:=HN.z.lt
    exact⟨b4,b4+1,b4+1+1,w1.heap.size,rfl,rfl,rfl,rfl,hn2.mono (k:=w1.heap.size) (by omega) (by omega) (by omega) (by omega) (zB1 (zQt _) zDl),zCf HZ2.out zDl⟩
  ·go_wp2_with fail
   refine⟨zAn (zAc _ _),wpQuiet_nil ?_⟩
   go_wp2_with fail
   refine(zCZ _ _ _).mono ?_;rintro e w1 ⟨rfl,hb1⟩
   go_wp2_with fail
   refine⟨zAJ.of_below hb1,wpQuiet_nil ?_⟩
   go_wp2_with fail
   refine(zCZ _ _ _).mono ?_;rintro e w2 ⟨rfl,hb2⟩
   have hk2:=zAJ.of_below (X:=none) hb2
   have hz2:zBy w2 wd.heap.size Cls.zero:=(zBy.below (w:=(wd.alloc (.cells #[.int .u64 0,.int .u64 0,.int .u64 0,.int .u64 0] 99)).drew) (B:=wd.heap.size) (c:=Cls.zero) (zQ4 wd _) hb1).below hb2
   have HZ2:=zQr hz2
   have hn2:=((HN.below ((zQs _ _).alloc (zQt _) _).drew).below hb1).below hb2
   have z0:=zAd hz2 0 (by omega)
   have z1:=zAd hz2 1 (by omega)
   have z2:=zAd hz2 2 (by omega)
   have z3:=zAd hz2 3 (by omega)
   have f0:=zAF hz2
   simp only[Cls.word]at z0 z1 z2 z3
   clear hz2 hb1 hb2
   go_wp2_with fail
   refine⟨hk2,wpQuiet_nil ?_⟩
   go_wp2_with fail
   go_meet
   have hlt:=HN.z.lt
   exact⟨b4,b4+1,b4+1+1,wd.heap.size,rfl,rfl,rfl,rfl,hn2.mono (k:=wd.heap.size) (by omega) (by omega) (by omega) (by omega) (zB1 (zQt _) zDl),zCf HZ2.out zDl⟩
 case rest=>
  obtain⟨b4,b5,b6,b7,rfl,rfl,rfl,rfl,hn,h7⟩:=hcut
  have k4:=hn.u.lt
  have k5:=hn.l.lt
  have k6:=hn.d.lt
  have k7:=h7.lt
  have kz:=hn.z.lt
  obtain⟨p0,p1,p2,p3⟩:=hn.u.cells
  obtain⟨q0,q1,q2,q3⟩:=hn.l.cells
  obtain⟨r0,r1,r2,r3⟩:=hn.d.cells
  obtain⟨t0,t1,t2,t3⟩:=h7.cells
  obtain⟨z0,z1,z2,z3⟩:=hn.z.cells
  have f0:=zAF hn.z
  have HBE:=hn.b
  have HZ:=zQr hn.z
  have HN:=hn
  clear hn h7 hz hbw HBE HZ
  go_wp2_with (first
   |(go_at_call 229;refine(zBB _ _ (by omega) (by omega) (by omega) (by omega) _).mono ?_;rintro e w2 ⟨rfl,hb2⟩;have HN:=(HN.below (by repeat (first|exact zQs _ _|assumption|refine zRK ?_|refine zRI ?_ (by first|(simp;done)|(simp;omega)|omega) _|refine zRJ ?_ (by first|(simp;done)|(simp;omega)|omega) _))).below hb2;obtain⟨z0,z1,z2,z3⟩:=HN.z.cells;have f0:=zAF HN.z;have kz:=HN.z.lt;clear hb2)
   |(go_at_call 247;refine(zCZ _ _ _).mono ?_;rintro e w2 ⟨rfl,hb2⟩;have HN:=(HN.below (by repeat (first|exact zQs _ _|assumption|refine zRK ?_|refine zRI ?_ (by first|(simp;done)|(simp;omega)|omega) _|refine zRJ ?_ (by first|(simp;done)|(simp;omega)|omega) _))).below hb2;obtain⟨z0,z1,z2,z3⟩:=HN.z.cells;have f0:=zAF HN.z;have kz:=HN.z.lt;clear hb2))
  ·have hs1:(s.toList==[97,108,110,117,109])=true:=by assumption
   have HBE:=HN.b
   refine zRQ (v:= .tuple #[zDQ zDl,.bool true]) (by simp[results,Tryz.results280,go_sem, *]) rfl ⟨?_,(by repeat (first|exact zQs _ _|assumption|refine zRK ?_|refine zRI ?_ (by first|(simp;done)|(simp;omega)|omega) _|refine zRJ ?_ (by first|(simp;done)|(simp;omega)|omega) _))⟩
   rw[(congrArg zA7 (zAs hs1)).trans zIZ];simp only[Option.getD_some,Option.isSome_some]
  ·have hs1:(s.toList==[97,108,112,104,97])=true:=by assumption
   have HBE:=HN.b
   refine zRQ (v:= .tuple #[zDQ (zDU.or zDc),.bool true]) (by simp[results,Tryz.results280,go_sem, *]) rfl ⟨?_,(by repeat (first|exact zQs _ _|assumption|refine zRK ?_|refine zRI ?_ (by first|(simp;done)|(simp;omega)|omega) _|refine zRJ ?_ (by first|(simp;done)|(simp;omega)|omega) _))⟩
   rw[(congrArg zA7 (zAs hs1)).trans zIY];simp only[Option.getD_some,Option.isSome_some]
  ·have hs1:(s.toList==[98,108,97,110,107])=true:=by assumption
   refine(zEd [32,9] #[.int .u8 32,.int .u8 9] rfl (by decide) (by simp) _).mono ?_;rintro e w2 ⟨rfl,hb2⟩;have HN:=(HN.below (by repeat (first|exact zQs _ _|assumption|refine zRK ?_|refine zRI ?_ (by first|(simp;done)|(simp;omega)|omega) _|refine zRJ ?_ (by first|(simp;done)|(simp;omega)|omega) _))).below hb2;obtain⟨z0,z1,z2,z3⟩:=HN.z.cells;have f0:=zAF HN.z;have kz:=HN.z.lt;clear hb2
   go_wp2_with (first
    |(go_at_call 229;refine(zBB _ _ (by omega) (by omega) (by omega) (by omega) _).mono ?_;rintro e w2 ⟨rfl,hb2⟩;have HN:=(HN.below (by repeat (first|exact zQs _ _|assumption|refine zRK ?_|refine zRI ?_ (by first|(simp;done)|(simp;omega)|omega) _|refine zRJ ?_ (by first|(simp;done)|(simp;omega)|omega) _))).below hb2;obtain⟨z0,z1,z2,z3⟩:=HN.z.cells;have f0:=zAF HN.z;have kz:=HN.z.lt;clear hb2)
    |(go_at_call 247;refine(zCZ _ _ _).mono ?_;rintro e w2 ⟨rfl,hb2⟩;have HN:=(HN.below (by repeat (first|exact zQs _ _|assumption|refine zRK ?_|refine zRI ?_ (by first|(simp;done)|(simp;omega)|omega) _|refine zRJ ?_ (by first|(simp;done)|(simp;omega)|omega) _))).below hb2;obtain⟨z0,z1,z2,z3⟩:=HN.z.cells;have f0:=zAF HN.z;have kz:=HN.z.lt;clear hb2)
    |(go_at_call 283;refine(zGO _ _ _).mono ?_;rintro e w2 ⟨rfl,hb2⟩;have HN:=(HN.below (by repeat (first|exact zQs _ _|assumption|refine zRK ?_|refine zRI ?_ (by first|(simp;done)|(simp;omega)|omega) _|refine zRJ ?_ (by first|(simp;done)|(simp;omega)|omega) _))).below hb2;obtain⟨z0,z1,z2,z3⟩:=HN.z.cells;have f0:=zAF HN.z;have kz:=HN.z.lt;clear hb2)
    |(go_at_call 248;refine(zE6 _ _).mono ?_;rintro e w2 ⟨rfl,hb2⟩;have HN:=(HN.below (by repeat (first|exact zQs _ _|assumption|refine zRK ?_|refine zRI ?_ (by first|(simp;done)|(simp;omega)|omega) _|refine zRJ ?_ (by first|(simp;done)|(simp;omega)|omega) _))).below hb2;obtain⟨z0,z1,z2,z3⟩:=HN.z.cells;have f0:=zAF HN.z;have kz:=HN.z.lt;clear hb2))
   have HBE:=HN.b
   refine zRQ (v:= .tuple #[zDQ (Cls.of [32,9]),.bool true]) (by simp[results,Tryz.results280,go_sem, *]) rfl ⟨?_,(by repeat (first|exact zQs _ _|assumption|refine zRK ?_|refine zRI ?_ (by first|(simp;done)|(simp;omega)|omega) _|refine zRJ ?_ (by first|(simp;done)|(simp;omega)|omega) _))⟩
   rw[(congrArg zA7 (zAs hs1)).trans zIX];simp only[Option.getD_some,Option.isSome_some]
  ·have hs1:(s.toList==[99,110,116,114,108])=true:=by assumption
   refine(zEd [127] #[.int .u8 127] rfl (by decide) (by simp) _).mono ?_;rintro e w2 ⟨rfl,hb2⟩;have HN:=(HN.below (by repeat (first|exact zQs _ _|assumption|refine zRK ?_|refine zRI ?_ (by first|(simp;done)|(simp;omega)|omega) _|refine zRJ ?_ (by first|(simp;done)|(simp;omega)|omega) _))).below hb2;obtain⟨z0,z1,z2,z3⟩:=HN.z.cells;have f0:=zAF HN.z;have kz:=HN.z.lt;clear hb2
   go_wp2_with (first
    |(go_at_call 229;refine(zBB _ _ (by omega) (by omega) (by omega) (by omega) _).mono ?_;rintro e w2 ⟨rfl,hb2⟩;have HN:=(HN.below (by repeat (first|exact zQs _ _|assumption|refine zRK ?_|refine zRI ?_ (by first|(simp;done)|(simp;omega)|omega) _|refine zRJ ?_ (by first|(simp;done)|(simp;omega)|omega) _))).below hb2;obtain⟨z0,z1,z2,z3⟩:=HN.z.cells;have f0:=zAF HN.z;have kz:=HN.z.lt;clear hb2)
    |(go_at_call 247;refine(zCZ _ _ _).mono ?_;rintro e w2 ⟨rfl,hb2⟩;have HN:=(HN.below (by repeat (first|exact zQs _ _|assumption|refine zRK ?_|refine zRI ?_ (by first|(simp;done)|(simp;omega)|omega) _|refine zRJ ?_ (by first|(simp;done)|(simp;omega)|omega) _))).below hb2;obtain⟨z0,z1,z2,z3⟩:=HN.z.cells;have f0:=zAF HN.z;have kz:=HN.z.lt;clear hb2)
    |(go_at_call 283;refine(zGO _ _ _).mono ?_;rintro e w2 ⟨rfl,hb2⟩;have HN:=(HN.below (by repeat (first|exact zQs _ _|assumption|refine zRK ?_|refine zRI ?_ (by first|(simp;done)|(simp;omega)|omega) _|refine zRJ ?_ (by first|(simp;done)|(simp;omega)|omega) _))).below hb2;obtain⟨z0,z1,z2,z3⟩:=HN.z.cells;have f0:=zAF HN.z;have kz:=HN.z.lt;clear hb2)
    |(go_at_call 248;refine(zE6 _ _).mono ?_;rintro e w2 ⟨rfl,hb2⟩;have HN:=(HN.below (by repeat (first|exact zQs _ _|assumption|refine zRK ?_|refine zRI ?_ (by first|(simp;done)|(simp;omega)|omega) _|refine zRJ ?_ (by first|(simp;done)|(simp;omega)|omega) _))).below hb2;obtain⟨z0,z1,z2,z3⟩:=HN.z.cells;have f0:=zAF HN.z;have kz:=HN.z.lt;clear hb2))
   have HBE:=HN.b
   refine zRQ (v:= .tuple #[zDQ ((Cls.range 0 31).or (Cls.of [127])),.bool true]) (by simp[results,Tryz.results280,go_sem, *]) rfl ⟨?_,(by repeat (first|exact zQs _ _|assumption|refine zRK ?_|refine zRI ?_ (by first|(simp;done)|(simp;omega)|omega) _|refine zRJ ?_ (by first|(simp;done)|(simp;omega)|omega) _))⟩
   rw[(congrArg zA7 (zAs hs1)).trans zIW];simp only[Option.getD_some,Option.isSome_some]
  ·have hs1:(s.toList==[100,105,103,105,116])=true:=by assumption
   have HBE:=HN.b
   refine zRQ (v:= .tuple #[zDQ zDg,.bool true]) (by simp[results,Tryz.results280,go_sem, *]) rfl ⟨?_,(by repeat (first|exact zQs _ _|assumption|refine zRK ?_|refine zRI ?_ (by first|(simp;done)|(simp;omega)|omega) _|refine zRJ ?_ (by first|(simp;done)|(simp;omega)|omega) _))⟩
   rw[(congrArg zA7 (zAs hs1)).trans zIV];simp only[Option.getD_some,Option.isSome_some]
  ·have hs1:(s.toList==[103,114,97,112,104])=true:=by assumption
   have HBE:=HN.b
   refine zRQ (v:= .tuple #[zDQ (Cls.range 33 126),.bool true]) (by simp[results,Tryz.results280,go_sem, *]) rfl ⟨?_,(by repeat (first|exact zQs _ _|assumption|refine zRK ?_|refine zRI ?_ (by first|(simp;done)|(simp;omega)|omega) _|refine zRJ ?_ (by first|(simp;done)|(simp;omega)|omega) _))⟩
   rw[(congrArg zA7 (zAs hs1)).trans zIU];simp only[Option.getD_some,Option.isSome_some]
  ·have hs1:(s.toList==[108,111,119,101,114])=true:=by assumption
   have HBE:=HN.b
   refine zRQ (v:= .tuple #[zDQ zDc,.bool true]) (by simp[results,Tryz.results280,go_sem, *]) rfl ⟨?_,(by repeat (first|exact zQs _ _|assumption|refine zRK ?_|refine zRI ?_ (by first|(simp;done)|(simp;omega)|omega) _|refine zRJ ?_ (by first|(simp;done)|(simp;omega)|omega) _))⟩
   rw[(congrArg zA7 (zAs hs1)).trans zIT];simp only[Option.getD_some,Option.isSome_some]
  ·have hs1:(s.toList==[112,114,105,110,116])=true:=by assumption
   have HBE:=HN.b
   refine zRQ (v:= .tuple #[zDQ (Cls.range 32 126),.bool true]) (by simp[results,Tryz.results280,go_sem, *]) rfl ⟨?_,(by repeat (first|exact zQs _ _|assumption|refine zRK ?_|refine zRI ?_ (by first|(simp;done)|(simp;omega)|omega) _|refine zRJ ?_ (by first|(simp;done)|(simp;omega)|omega) _))⟩
   rw[(congrArg zA7 (zAs hs1)).trans zIS];simp only[Option.getD_some,Option.isSome_some]
  ·have hs1:(s.toList==[112,117,110,99,116])=true:=by assumption
   refine zAA (X:=none) 2 [([1],0)] [] (by kernel_rfl) (by kernel_rfl) rfl (fun _ _ _ _ _ h=>h) ?_
   simp only[zAK,zAC,zAE,zAD,zAB,List.getD_cons_zero,List.getD_cons_succ,List.drop_succ_cons,List.drop_zero]
   repeat (go_big_quiet_step (fail))
   refine wpQuiet_nil ?_
   go_wp2_with fail
   refine(zBB _ _ (by omega) (by omega) (by omega) (by omega) _).mono ?_;rintro e w2 ⟨rfl,hb2⟩;have hkp:=zAJ.of_below (X:=none) hb2;have HN:=(HN.below (by repeat (first|exact zQs _ _|assumption|refine zRK ?_|refine zRI ?_ (by first|(simp;done)|(simp;omega)|omega) _|refine zRJ ?_ (by first|(simp;done)|(simp;omega)|omega) _))).below hb2;obtain⟨z0,z1,z2,z3⟩:=HN.z.cells;have f0:=zAF HN.z;have kz:=HN.z.lt;clear hb2
   go_wp2_with fail
   refine⟨hkp,wpQuiet_nil ?_⟩
   clear hkp
   go_wp2_with (first
    |(go_at_call 229;refine(zBB _ _ (by omega) (by omega) (by omega) (by omega) _).mono ?_;rintro e w2 ⟨rfl,hb2⟩;have HN:=(HN.below (by repeat (first|exact zQs _ _|assumption|refine zRK ?_|refine zRI ?_ (by first|(simp;done)|(simp;omega)|omega) _|refine zRJ ?_ (by first|(simp;done)|(simp;omega)|omega) _))).below hb2;obtain⟨z0,z1,z2,z3⟩:=HN.z.cells;have f0:=zAF HN.z;have kz:=HN.z.lt;clear hb2)
    |(go_at_call 247;refine(zCZ _ _ _).mono ?_;rintro e w2 ⟨rfl,hb2⟩;have HN:=(HN.below (by repeat (first|exact zQs _ _|assumption|refine zRK ?_|refine zRI ?_ (by first|(simp;done)|(simp;omega)|omega) _|refine zRJ ?_ (by first|(simp;done)|(simp;omega)|omega) _))).below hb2;obtain⟨z0,z1,z2,z3⟩:=HN.z.cells;have f0:=zAF HN.z;have kz:=HN.z.lt;clear hb2)
    |(go_at_call 283;refine(zGO _ _ _).mono ?_;rintro e w2 ⟨rfl,hb2⟩;have HN:=(HN.below (by repeat (first|exact zQs _ _|assumption|refine zRK ?_|refine zRI ?_ (by first|(simp;done)|(simp;omega)|omega) _|refine zRJ ?_ (by first|(simp;done)|(simp;omega)|omega) _))).below hb2;obtain⟨z0,z1,z2,z3⟩:=HN.z.cells;have f0:=zAF HN.z;have kz:=HN.z.lt;clear hb2)
    |(go_at_call 248;refine(zE6 _ _).mono ?_;rintro e w2 ⟨rfl,hb2⟩;have HN:=(HN.below (by repeat (first|exact zQs _ _|assumption|refine zRK ?_|refine zRI ?_ (by first|(simp;done)|(simp;omega)|omega) _|refine zRJ ?_ (by first|(simp;done)|(simp;omega)|omega) _))).below hb2;obtain⟨z0,z1,z2,z3⟩:=HN.z.cells;have f0:=zAF HN.z;have kz:=HN.z.lt;clear hb2))
   have HBE:=HN.b
   refine zRQ (v:= .tuple #[zDQ ((Cls.range 33 126).and zDl.not),.bool true]) (by simp[results,Tryz.results280,go_sem, *]) rfl ⟨?_,(by repeat (first|exact zQs _ _|assumption|refine zRK ?_|refine zRI ?_ (by first|(simp;done)|(simp;omega)|omega) _|refine zRJ ?_ (by first|(simp;done)|(simp;omega)|omega) _))⟩
   rw[(congrArg zA7 (zAs hs1)).trans zIR];simp only[Option.getD_some,Option.isSome_some]
  ·have hs1:(s.toList==[115,112,97,99,101])=true:=by assumption
   refine(zEd [32] #[.int .u8 32] rfl (by decide) (by simp) _).mono ?_;rintro e w2 ⟨rfl,hb2⟩;have HN:=(HN.below (by repeat (first|exact zQs _ _|assumption|refine zRK ?_|refine zRI ?_ (by first|(simp;done)|(simp;omega)|omega) _|refine zRJ ?_ (by first|(simp;done)|(simp;omega)|omega) _))).below hb2;obtain⟨z0,z1,z2,z3⟩:=HN.z.cells;have f0:=zAF HN.z;have kz:=HN.z.lt;clear hb2
   go_wp2_with (first
    |(go_at_call 229;refine(zBB _ _ (by omega) (by omega) (by omega) (by omega) _).mono ?_;rintro e w2 ⟨rfl,hb2⟩;have HN:=(HN.below (by repeat (first|exact zQs _ _|assumption|refine zRK ?_|refine zRI ?_ (by first|(simp;done)|(simp;omega)|omega) _|refine zRJ ?_ (by first|(simp;done)|(simp;omega)|omega) _))).below hb2;obtain⟨z0,z1,z2,z3⟩:=HN.z.cells;have f0:=zAF HN.z;have kz:=HN.z.lt;clear hb2)
    |(go_at_call 247;refine(zCZ _ _ _).mono ?_;rintro e w2 ⟨rfl,hb2⟩;have HN:=(HN.below (by repeat (first|exact zQs _ _|assumption|refine zRK ?_|refine zRI ?_ (by first|(simp;done)|(simp;omega)|omega) _|refine zRJ ?_ (by first|(simp;done)|(simp;omega)|omega) _))).below hb2;obtain⟨z0,z1,z2,z3⟩:=HN.z.cells;have f0:=zAF HN.z;have kz:=HN.z.lt;clear hb2)
    |(go_at_call 283;refine(zGO _ _ _).mono ?_;rintro e w2 ⟨rfl,hb2⟩;have HN:=(HN.below (by repeat (first|exact zQs _ _|assumption|refine zRK ?_|refine zRI ?_ (by first|(simp;done)|(simp;omega)|omega) _|refine zRJ ?_ (by first|(simp;done)|(simp;omega)|omega) _))).below hb2;obtain⟨z0,z1,z2,z3⟩:=HN.z.cells;have f0:=zAF HN.z;have kz:=HN.z.lt;clear hb2)
    |(go_at_call 248;refine(zE6 _ _).mono ?_;rintro e w2 ⟨rfl,hb2⟩;have HN:=(HN.below (by repeat (first|exact zQs _ _|assumption|refine zRK ?_|refine zRI ?_ (by first|(simp;done)|(simp;omega)|omega) _|refine zRJ ?_ (by first|(simp;done)|(simp;omega)|omega) _))).below hb2;obtain⟨z0,z1,z2,z3⟩:=HN.z.cells;have f0:=zAF HN.z;have kz:=HN.z.lt;clear hb2))
   have HBE:=HN.b
   refine zRQ (v:= .tuple #[zDQ ((Cls.range 9 13).or (Cls.of [32])),.bool true]) (by simp[results,Tryz.results280,go_sem, *]) rfl ⟨?_,(by repeat (first|exact zQs _ _|assumption|refine zRK ?_|refine zRI ?_ (by first|(simp;done)|(simp;omega)|omega) _|refine zRJ ?_ (by first|(simp;done)|(simp;omega)|omega) _))⟩
   rw[(congrArg zA7 (zAs hs1)).trans zIQ];simp only[Option.getD_some,Option.isSome_some]
  ·have hs1:(s.toList==[117,112,112,101,114])=true:=by assumption
   have HBE:=HN.b
   refine zRQ (v:= .tuple #[zDQ zDU,.bool true]) (by simp[results,Tryz.results280,go_sem, *]) rfl ⟨?_,(by repeat (first|exact zQs _ _|assumption|refine zRK ?_|refine zRI ?_ (by first|(simp;done)|(simp;omega)|omega) _|refine zRJ ?_ (by first|(simp;done)|(simp;omega)|omega) _))⟩
   rw[(congrArg zA7 (zAs hs1)).trans zIP];simp only[Option.getD_some,Option.isSome_some]
  ·have hs1:(s.toList==[120,100,105,103,105,116])=true:=by assumption
   refine zAA (X:=none) 4 [([0],1),([],2),([],3)] [] (by kernel_rfl) (by kernel_rfl) rfl (fun _ _ _ _ _ h=>h) ?_
   simp only[zAK,zAC,zAE,zAD,zAB,List.getD_cons_zero,List.getD_cons_succ,List.drop_succ_cons,List.drop_zero]
   repeat (go_big_quiet_step (fail))
   refine wpQuiet_nil ?_
   go_wp2_with fail
   refine(zBB _ _ (by omega) (by omega) (by omega) (by omega) _).mono ?_;rintro e w2 ⟨rfl,hb2⟩;have hkp:=zAJ.of_below (X:=none) hb2;have HN:=(HN.below (by repeat (first|exact zQs _ _|assumption|refine zRK ?_|refine zRI ?_ (by first|(simp;done)|(simp;omega)|omega) _|refine zRJ ?_ (by first|(simp;done)|(simp;omega)|omega) _))).below hb2;obtain⟨z0,z1,z2,z3⟩:=HN.z.cells;have f0:=zAF HN.z;have kz:=HN.z.lt;clear hb2
   go_wp2_with fail
   refine⟨hkp,wpQuiet_nil ?_⟩
   clear hkp
   go_wp2_with fail
   refine(zBB _ _ (by omega) (by omega) (by omega) (by omega) _).mono ?_;rintro e w2 ⟨rfl,hb2⟩;have hkp:=zAJ.of_below (X:=none) hb2;have HN:=(HN.below (by repeat (first|exact zQs _ _|assumption|refine zRK ?_|refine zRI ?_ (by first|(simp;done)|(simp;omega)|omega) _|refine zRJ ?_ (by first|(simp;done)|(simp;omega)|omega) _))).below hb2;obtain⟨z0,z1,z2,z3⟩:=HN.z.cells;have f0:=zAF HN.z;have kz:=HN.z.lt;clear hb2
   go_wp2_with fail
   refine⟨hkp,wpQuiet_nil ?_⟩
   clear hkp
   go_wp2_with fail
   refine(zCZ _ _ _).mono ?_;rintro e w2 ⟨rfl,hb2⟩;have hkp:=zAJ.of_below (X:=none) hb2;have HN:=(HN.below (by repeat (first|exact zQs _ _|assumption|refine zRK ?_|refine zRI ?_ (by first|(simp;done)|(simp;omega)|omega) _|refine zRJ ?_ (by first|(simp;done)|(simp;omega)|omega) _))).below hb2;obtain⟨z0,z1,z2,z3⟩:=HN.z.cells;have f0:=zAF HN.z;have kz:=HN.z.lt;clear hb2
   go_wp2_with fail
   refine⟨hkp,wpQuiet_nil ?_⟩
   clear hkp
   go_wp2_with (first
    |(go_at_call 229;refine(zBB _ _ (by omega) (by omega) (by omega) (by omega) _).mono ?_;rintro e w2 ⟨rfl,hb2⟩;have HN:=(HN.below (by repeat (first|exact zQs _ _|assumption|refine zRK ?_|refine zRI ?_ (by first|(simp;done)|(simp;omega)|omega) _|refine zRJ ?_ (by first|(simp;done)|(simp;omega)|omega) _))).below hb2;obtain⟨z0,z1,z2,z3⟩:=HN.z.cells;have f0:=zAF HN.z;have kz:=HN.z.lt;clear hb2)
    |(go_at_call 247;refine(zCZ _ _ _).mono ?_;rintro e w2 ⟨rfl,hb2⟩;have HN:=(HN.below (by repeat (first|exact zQs _ _|assumption|refine zRK ?_|refine zRI ?_ (by first|(simp;done)|(simp;omega)|omega) _|refine zRJ ?_ (by first|(simp;done)|(simp;omega)|omega) _))).below hb2;obtain⟨z0,z1,z2,z3⟩:=HN.z.cells;have f0:=zAF HN.z;have kz:=HN.z.lt;clear hb2)
    |(go_at_call 283;refine(zGO _ _ _).mono ?_;rintro e w2 ⟨rfl,hb2⟩;have HN:=(HN.below (by repeat (first|exact zQs _ _|assumption|refine zRK ?_|refine zRI ?_ (by first|(simp;done)|(simp;omega)|omega) _|refine zRJ ?_ (by first|(simp;done)|(simp;omega)|omega) _))).below hb2;obtain⟨z0,z1,z2,z3⟩:=HN.z.cells;have f0:=zAF HN.z;have kz:=HN.z.lt;clear hb2)
    |(go_at_call 248;refine(zE6 _ _).mono ?_;rintro e w2 ⟨rfl,hb2⟩;have HN:=(HN.below (by repeat (first|exact zQs _ _|assumption|refine zRK ?_|refine zRI ?_ (by first|(simp;done)|(simp;omega)|omega) _|refine zRJ ?_ (by first|(simp;done)|(simp;omega)|omega) _))).below hb2;obtain⟨z0,z1,z2,z3⟩:=HN.z.cells;have f0:=zAF HN.z;have kz:=HN.z.lt;clear hb2))
   have HBE:=HN.b
   refine zRQ (v:= .tuple #[zDQ (zDg.or ((Cls.range 65 70).or (Cls.range 97 102))),.bool true]) (by simp[results,Tryz.results280,go_sem, *]) rfl ⟨?_,(by repeat (first|exact zQs _ _|assumption|refine zRK ?_|refine zRI ?_ (by first|(simp;done)|(simp;omega)|omega) _|refine zRJ ?_ (by first|(simp;done)|(simp;omega)|omega) _))⟩
   rw[(congrArg zA7 (zAs hs1)).trans zHa];simp only[Option.getD_some,Option.isSome_some]
  ·have HBE:=HN.b
   have hno:zA7 (zAg s)=none:=zJf (zAh (by assumption:(s.toList==[97,108,110,117,109])=false)) (zAh (by assumption:(s.toList==[97,108,112,104,97])=false)) (zAh (by assumption:(s.toList==[98,108,97,110,107])=false)) (zAh (by assumption:(s.toList==[99,110,116,114,108])=false)) (zAh (by assumption:(s.toList==[100,105,103,105,116])=false)) (zAh (by assumption:(s.toList==[103,114,97,112,104])=false)) (zAh (by assumption:(s.toList==[108,111,119,101,114])=false)) (zAh (by assumption:(s.toList==[112,114,105,110,116])=false)) (zAh (by assumption:(s.toList==[112,117,110,99,116])=false)) (zAh (by assumption:(s.toList==[115,112,97,99,101])=false)) (zAh (by assumption:(s.toList==[117,112,112,101,114])=false)) (zAh (by assumption:(s.toList==[120,100,105,103,105,116])=false))
   refine zRQ (v:= .tuple #[zDQ Cls.zero,.bool false]) (by simp[results,Tryz.results280,go_sem,Cls.zero, *]) rfl ⟨?_,(by repeat (first|exact zQs _ _|assumption|refine zRK ?_|refine zRI ?_ (by first|(simp;done)|(simp;omega)|omega) _|refine zRJ ?_ (by first|(simp;done)|(simp;omega)|omega) _))⟩
   rw[hno];simp only[Option.getD_none,Option.isSome_none]
end Go.Proofs.YtmaagpbjahjmhaaGreatDoor
