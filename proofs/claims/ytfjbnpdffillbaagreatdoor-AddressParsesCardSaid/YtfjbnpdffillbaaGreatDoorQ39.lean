/- Parts: Cb Da Db Dc Dh. -/
import Derived.Test.YtfjbnpdffillbaaGreatDoorQ37
import Derived.Test.YtfjbnpdffillbaaGreatDoorQ25
import Derived.Test.YtfjbnpdffillbaaGreatDoorQ26
import Derived.Test.YtfjbnpdffillbaaGreatDoorQ18
import Derived.Test.YtfjbnpdffillbaaGreatDoorQ38
import Derived.Test.YtfjbnpdffillbaaGreatDoorQ0
import Derived.Test.YtfjbnpdffillbaaGreatDoorQ5
import Derived.Test.YtfjbnpdffillbaaGreatDoorQ11
set_option maxHeartbeats 12800000
set_option maxRecDepth 100000
namespace Go.Proofs.YtfjbnpdffillbaaGreatDoor
section
open Go.RowKit
theorem zK0 (lo n:Nat):Cls.of (List.range' lo (n+1))=(Cls.of (List.range' lo n)).add (lo+n):=by
 unfold Cls.of
 rw[List.range'_concat,List.foldl_append]
 simp
theorem zGN (lo hi:Nat) (hlo:lo<256) (hhi:hi<256) {w:World} :
  Calls Tryz.prog 224 #[.int .u8 (lo:Nat),.int .u8 (hi:Nat)] w fun e w'=>e= .returned (zBE (Cls.range lo hi))∧Below w.heap.size w w':=by
 go_enter Tryz.func224,Tryz.ntmps224
 go_upto_region 2 with fail
 have hR:zAc ((w.alloc (.cells #[.int .u64 0,.int .u64 0,.int .u64 0,.int .u64 0] 76)).alloc (.cells #[.int .u64 0,.int .u64 0,.int .u64 0,.int .u64 0] 76)) w.heap.size Cls.zero:=(zPt _ _ (by simp)).trans (zBc (by simp))
 have hZ:zAc ((w.alloc (.cells #[.int .u64 0,.int .u64 0,.int .u64 0,.int .u64 0] 76)).alloc (.cells #[.int .u64 0,.int .u64 0,.int .u64 0,.int .u64 0] 76)) (w.heap.size+1) Cls.zero:=zBc (by simp)
 have hB:Below w.heap.size w ((w.alloc (.cells #[.int .u64 0,.int .u64 0,.int .u64 0,.int .u64 0] 76)).alloc (.cells #[.int .u64 0,.int .u64 0,.int .u64 0,.int .u64 0] 76)):=(by repeat (first|exact zPg _ _|assumption|refine zP8 ?_|refine zP6 ?_ (by first|(simp;done)|(simp;omega)|omega) _|refine zP7 ?_ (by first|(simp;done)|(simp;omega)|omega) _))
 revert hR hZ hB
 generalize (w.alloc (.cells #[.int .u64 0,.int .u64 0,.int .u64 0,.int .u64 0] 76)).alloc (.cells #[.int .u64 0,.int .u64 0,.int .u64 0,.int .u64 0] 76)=wx
 intro hR hZ hB
 have HR:=zPf hR
 have HZ:=zPf hZ
 have HB:=zPf hB
 clear hR hZ hB
 go_wp2_with fail
 go_loopg [6] (hi+1 - lo) (fun k iv wr=> ∃n:Nat,iv= .int .i64 ((lo+n:Nat):Int)∧k=hi+1 - lo - n∧n≤hi+1 - lo∧zAc wr w.heap.size Cls.zero∧zAc wr (w.heap.size+1) (Cls.of (List.range' lo n))∧Below w.heap.size w wr)
 case atStart=>exact⟨0,rfl,by omega,by omega,HR.out,HZ.out,HB.out⟩
 case round=>
  obtain⟨n,rfl,hg,hn,hR,hZ,hB⟩:=hrel
  have HG:=zPf hg
  have HR:=zPf hR
  have HZ:=zPf hZ
  have HB:=zPf hB
  have HN:=zPf (zK0 lo n)
  clear hg hB
  obtain⟨b,hb⟩: ∃b,b=lo+n:=⟨_,rfl⟩
  rw[←hb]
  have HBB:=zPf hb
  by_cases hlt:n<hi+1 - lo
  ·have hlt':(b:Int)≤(hi:Int):=by omega
   have hb256:b<256:=by omega
   have hmod:(b:Int) % 256=(b:Int):=by omega
   obtain⟨d,hd⟩: ∃d,d=Cls.of (List.range' lo n):=⟨_,rfl⟩
   rw[←hd]at hZ
   have HD:=zPf hd
   have hzl:=hZ.lt
   obtain⟨z0,z1,z2,z3⟩:=hZ.cells
   have HZ2:=zPf hZ
   clear hd hZ hR hb
   go_wp2_with fail
   refine(zCn d hb256).mono ?_;rintro e w2 ⟨rfl,hb2⟩
   have HR2:=zPf (HR.out.below hb2)
   have HZ3:=zPf (HZ2.out.below hb2)
   have HB2:=zPf (HB.out.trans (hb2.mono HB.out.size))
   clear hb2 z0 z1 z2 z3 hzl
   obtain⟨q,hq⟩: ∃q,q=d.add b:=⟨_,rfl⟩
   rw[←hq]
   have HQ:=zPf hq
   clear hq
   have hzl:=HZ3.out.lt
   obtain⟨z0,z1,z2,z3⟩:=HZ3.out.cells
   have f0:=zAE HZ3.out
   go_wp2_with fail
   go_roundg (hi+1 - lo - (n+1))
   case measure=>have:=HG.out;omega
   case rel=>exact⟨n+1,by have:=HBB.out;rw[show lo+(n+1)=b+1 by omega];go_num,rfl,by omega,(zBe (by omega) q).trans HR2.out,by rw[HN.out,←HD.out,←HBB.out,←HQ.out];exact zAu HZ3.out q,zAd (by omega) q HB2.out⟩
  ·have hlt': ¬(b:Int)≤(hi:Int):=by omega
   obtain⟨d,hd⟩: ∃d,d=Cls.range lo hi:=⟨_,rfl⟩
   have hz:zAc wr (w.heap.size+1) d:=by rw[hd,Cls.range,show hi+1 - lo=n by omega];exact hZ
   have HD:=zPf hd
   obtain⟨z0,z1,z2,z3⟩:=hz.cells
   obtain⟨y0,y1,y2,y3⟩:=hR.cells
   have hzl:=hz.lt
   have hrl:=hR.lt
   have f0:=zAE hR
   clear hR hZ hz hd
   go_wp2_with fail
   exact zQG (v:=zBE d) (by simp[results,Tryz.results224,go_sem, *]) rfl ⟨by rw[HD.out],zAd (by omega) d HB.out⟩
end
section
open Go.RowKit
theorem zBx (a b:Cls) {w:World} :
  Calls Tryz.prog 213 #[zBE a,zBE b] w fun e w'=>e= .returned (zBE (a.or b))∧Below w.heap.size w w':=by
 have HF:=zPf (zHq (fun i=>a.has i||b.has i) (c:=a.or b) (fun i _=>zOw a b i))
 go_enter Tryz.func213,Tryz.ntmps213
 go_upto_region 2 with fail
 have hA:zAc ((((w.alloc (.cells #[.int .u64 a.w0.toNat,.int .u64 a.w1.toNat,.int .u64 a.w2.toNat,.int .u64 a.w3.toNat] 76)).alloc (.cells #[.int .u64 b.w0.toNat,.int .u64 b.w1.toNat,.int .u64 b.w2.toNat,.int .u64 b.w3.toNat] 76)).alloc (.cells #[.int .u64 0,.int .u64 0,.int .u64 0,.int .u64 0] 76)).alloc (.cells #[.int .u64 0,.int .u64 0,.int .u64 0,.int .u64 0] 76)) w.heap.size a:=(zPt _ _ (by simp;omega)).trans ((zPt _ _ (by simp;omega)).trans ((zPt _ _ (by simp)).trans (zPs _ _)))
 have hD:zAc ((((w.alloc (.cells #[.int .u64 a.w0.toNat,.int .u64 a.w1.toNat,.int .u64 a.w2.toNat,.int .u64 a.w3.toNat] 76)).alloc (.cells #[.int .u64 b.w0.toNat,.int .u64 b.w1.toNat,.int .u64 b.w2.toNat,.int .u64 b.w3.toNat] 76)).alloc (.cells #[.int .u64 0,.int .u64 0,.int .u64 0,.int .u64 0] 76)).alloc (.cells #[.int .u64 0,.int .u64 0,.int .u64 0,.int .u64 0] 76)) (w.heap.size+1) b:=(zPt _ _ (by first|(simp;done)|(simp;omega))).trans ((zPt _ _ (by simp)).trans (zBc (by simp)))
 have hR:zAc ((((w.alloc (.cells #[.int .u64 a.w0.toNat,.int .u64 a.w1.toNat,.int .u64 a.w2.toNat,.int .u64 a.w3.toNat] 76)).alloc (.cells #[.int .u64 b.w0.toNat,.int .u64 b.w1.toNat,.int .u64 b.w2.toNat,.int .u64 b.w3.toNat] 76)).alloc (.cells #[.int .u64 0,.int .u64 0,.int .u64 0,.int .u64 0] 76)).alloc (.cells #[.int .u64 0,.int .u64 0,.int .u64 0,.int .u64 0] 76)) (w.heap.size+1+1) Cls.zero:=(zPt _ _ (by simp)).trans (zBc (by simp))
 have hZ:zAc ((((w.alloc (.cells #[.int .u64 a.w0.toNat,.int .u64 a.w1.toNat,.int .u64 a.w2.toNat,.int .u64 a.w3.toNat] 76)).alloc (.cells #[.int .u64 b.w0.toNat,.int .u64 b.w1.toNat,.int .u64 b.w2.toNat,.int .u64 b.w3.toNat] 76)).alloc (.cells #[.int .u64 0,.int .u64 0,.int .u64 0,.int .u64 0] 76)).alloc (.cells #[.int .u64 0,.int .u64 0,.int .u64 0,.int .u64 0] 76)) (w.heap.size+1+1+1) Cls.zero:=zBc (by simp)
 have hB:Below w.heap.size w ((((w.alloc (.cells #[.int .u64 a.w0.toNat,.int .u64 a.w1.toNat,.int .u64 a.w2.toNat,.int .u64 a.w3.toNat] 76)).alloc (.cells #[.int .u64 b.w0.toNat,.int .u64 b.w1.toNat,.int .u64 b.w2.toNat,.int .u64 b.w3.toNat] 76)).alloc (.cells #[.int .u64 0,.int .u64 0,.int .u64 0,.int .u64 0] 76)).alloc (.cells #[.int .u64 0,.int .u64 0,.int .u64 0,.int .u64 0] 76)):=(by repeat (first|exact zPg _ _|assumption|refine zP8 ?_|refine zP6 ?_ (by first|(simp;done)|(simp;omega)|omega) _|refine zP7 ?_ (by first|(simp;done)|(simp;omega)|omega) _))
 revert hA hD hR hZ hB
 generalize ((((w.alloc (.cells #[.int .u64 a.w0.toNat,.int .u64 a.w1.toNat,.int .u64 a.w2.toNat,.int .u64 a.w3.toNat] 76)).alloc (.cells #[.int .u64 b.w0.toNat,.int .u64 b.w1.toNat,.int .u64 b.w2.toNat,.int .u64 b.w3.toNat] 76)).alloc (.cells #[.int .u64 0,.int .u64 0,.int .u64 0,.int .u64 0] 76)).alloc (.cells #[.int .u64 0,.int .u64 0,.int .u64 0,.int .u64 0] 76))=wx
 intro hA hD hR hZ hB
 have HA:=zPf hA
 have HDD:=zPf hD
 have HR:=zPf hR
 have HZ:=zPf hZ
 have HB:=zPf hB
 clear hA hD hR hZ hB
 go_wp2_with fail
 go_loopg [6] 256 (fun k iv wr=> ∃i:Nat,iv= .int .i64 (i:Nat)∧k=256 - i∧i≤256∧zAc wr w.heap.size a∧zAc wr (w.heap.size+1) b∧zAc wr (w.heap.size+1+1) Cls.zero∧zAc wr (w.heap.size+1+1+1) (upC (fun i=>a.has i||b.has i) i)∧Below w.heap.size w wr)
 case atStart=>exact⟨0,rfl,by omega,by omega,HA.out,HDD.out,HR.out,HZ.out,HB.out⟩
 case round=>
  obtain⟨i,rfl,hg,hi,hA,hD,hR,hZ,hB⟩:=hrel
  have HG:=zPf hg
  have HA:=zPf hA
  have HDD:=zPf hD
  have HR:=zPf hR
  have HZ:=zPf hZ
  have HB:=zPf hB
  clear hg hB
  by_cases hlt:i<256
  ·have hlt':(i:Int)<256:=by omega
   obtain⟨z0,z1,z2,z3⟩:=hA.cells
   have hl:=hA.lt
   have hmod:(i:Int) % 256=(i:Int):=by omega
   have HN:=zPf (zHp (fun i=>a.has i||b.has i) i)
   clear hA hD hR hZ
   go_wp2_with fail
   refine(zDK a hlt).mono ?_;rintro e w1 ⟨rfl,hb1⟩
   have HA1:=zPf (HA.out.below hb1)
   have HD1:=zPf (HDD.out.below hb1)
   have HR1:=zPf (HR.out.below hb1)
   have HZ1:=zPf (HZ.out.below hb1)
   have HB1:=zPf (HB.out.trans (hb1.mono HB.out.size))
   clear hb1 z0 z1 z2 z3 hl HA HDD HR HZ HB
   cases hh:a.has i with
   |true=>
    have HNT:=zPf (show upC (fun i=>a.has i||b.has i) (i+1)=(upC (fun i=>a.has i||b.has i) i).add i by rw[HN.out,if_pos (by simp[hh])])
    obtain⟨d,hd⟩: ∃d,d=upC (fun i=>a.has i||b.has i) i:=⟨_,rfl⟩
    have hz:=HZ1.out
    rw[←hd]at hz
    have HDE:=zPf hd
    have hzl:=hz.lt
    obtain⟨z0,z1,z2,z3⟩:=hz.cells
    have HZ7:=zPf hz
    clear hh hd hz
    go_wp2_with fail
    refine(zCn d hlt).mono ?_;rintro e w8 ⟨rfl,hb8⟩
    have HA8:=zPf (HA1.out.below hb8)
    have HD8:=zPf (HD1.out.below hb8)
    have HR8:=zPf (HR1.out.below hb8)
    have HZ8:=zPf (HZ7.out.below hb8)
    have HB8:=zPf (HB1.out.trans (hb8.mono HB1.out.size))
    clear hb8 z0 z1 z2 z3 hzl
    obtain⟨q,hq⟩: ∃q,q=d.add i:=⟨_,rfl⟩
    rw[←hq]
    have HQ:=zPf hq
    clear hq
    have hzl:=HZ8.out.lt
    obtain⟨z0,z1,z2,z3⟩:=HZ8.out.cells
    have f0:=zAE HZ8.out
    go_wp2_with fail
    go_roundg (256 - (i+1))
    case measure=>have:=HG.out;omega
    case rel=>
     have hne: ∀B,B≠w.heap.size+1+1+1→(zCA w8 (w.heap.size+1+1+1) q).heap[B]?=w8.heap[B]?:=fun B hB=>zBe hB q
     exact⟨i+1,by go_num,rfl,by omega,(hne _ (by omega)).trans HA8.out,(hne _ (by omega)).trans HD8.out,(hne _ (by omega)).trans HR8.out,by rw[HNT.out,←HDE.out,←HQ.out];exact zAu HZ8.out q,zAd (by omega) q HB8.out⟩
   |false=>
    obtain⟨z0,z1,z2,z3⟩:=HD1.out.cells
    have hl:=HD1.out.lt
    go_wp2_with fail
    refine(zDK b hlt).mono ?_;rintro e w2 ⟨rfl,hb2⟩
    have HA2:=zPf (HA1.out.below hb2)
    have HD2:=zPf (HD1.out.below hb2)
    have HR2:=zPf (HR1.out.below hb2)
    have HZ2:=zPf (HZ1.out.below hb2)
    have HB2:=zPf (HB1.out.trans (hb2.mono HB1.out.size))
    clear hb2 z0 z1 z2 z3 hl
    cases hk:b.has i with
    |true=>
     have HNT:=zPf (show upC (fun i=>a.has i||b.has i) (i+1)=(upC (fun i=>a.has i||b.has i) i).add i by rw[HN.out,if_pos (by simp[hh,hk])])
     obtain⟨d,hd⟩: ∃d,d=upC (fun i=>a.has i||b.has i) i:=⟨_,rfl⟩
     have hz:=HZ2.out
     rw[←hd]at hz
     have HDE:=zPf hd
     have hzl:=hz.lt
     obtain⟨z0,z1,z2,z3⟩:=hz.cells
     have HZ7:=zPf hz
     clear hh hk hd hz
     go_wp2_with fail
     refine(zCn d hlt).mono ?_;rintro e w8 ⟨rfl,hb8⟩
     have HA8:=zPf (HA2.out.below hb8)
     have HD8:=zPf (HD2.out.below hb8)
     have HR8:=zPf (HR2.out.below hb8)
     have HZ8:=zPf (HZ7.out.below hb8)
     have HB8:=zPf (HB2.out.trans (hb8.mono HB2.out.size))
     clear hb8 z0 z1 z2 z3 hzl
     obtain⟨q,hq⟩: ∃q,q=d.add i:=⟨_,rfl⟩
     rw[←hq]
     have HQ:=zPf hq
     clear hq
     have hzl:=HZ8.out.lt
     obtain⟨z0,z1,z2,z3⟩:=HZ8.out.cells
     have f0:=zAE HZ8.out
     go_wp2_with fail
     go_roundg (256 - (i+1))
     case measure=>have:=HG.out;omega
     case rel=>
      have hne: ∀B,B≠w.heap.size+1+1+1→(zCA w8 (w.heap.size+1+1+1) q).heap[B]?=w8.heap[B]?:=fun B hB=>zBe hB q
      exact⟨i+1,by go_num,rfl,by omega,(hne _ (by omega)).trans HA8.out,(hne _ (by omega)).trans HD8.out,(hne _ (by omega)).trans HR8.out,by rw[HNT.out,←HDE.out,←HQ.out];exact zAu HZ8.out q,zAd (by omega) q HB8.out⟩
    |false=>
     have HNT:=zPf (show upC (fun i=>a.has i||b.has i) (i+1)=upC (fun i=>a.has i||b.has i) i by rw[HN.out,if_neg (by simp[hh,hk])])
     clear hh hk
     go_wp2_with fail
     go_roundg (256 - (i+1))
     case measure=>have:=HG.out;omega
     case rel=>exact⟨i+1,by go_num,rfl,by omega,HA2.out,HD2.out,HR2.out,by rw[HNT.out];exact HZ2.out,HB2.out⟩
  ·obtain rfl:i=256:=by omega
   have hz:=hZ
   rw[HF.out]at hz
   obtain⟨d,hd⟩: ∃d,d=a.or b:=⟨_,rfl⟩
   rw[←hd]at hz
   have HDE:=zPf hd
   obtain⟨z0,z1,z2,z3⟩:=hz.cells
   obtain⟨y0,y1,y2,y3⟩:=hR.cells
   have hzl:=hz.lt
   have hrl:=hR.lt
   have f0:=zAE hR
   clear hA hD hR hZ hz hd
   go_wp2_with fail
   exact zQG (v:=zBE d) (by simp[results,Tryz.results213,go_sem, *]) rfl ⟨by rw[HDE.out],zAd (by omega) d HB.out⟩
theorem zDr (a b:Cls) {w:World} :
  Calls Tryz.prog 235 #[zBE a,zBE b] w fun e w'=>e= .returned (zBE (a.and b))∧Below w.heap.size w w':=by
 have HF:=zPf (zHq (fun i=>a.has i&&b.has i) (c:=a.and b) (fun i _=>zOR a b i))
 go_enter Tryz.func235,Tryz.ntmps235
 go_upto_region 2 with fail
 have hA:zAc ((((w.alloc (.cells #[.int .u64 a.w0.toNat,.int .u64 a.w1.toNat,.int .u64 a.w2.toNat,.int .u64 a.w3.toNat] 76)).alloc (.cells #[.int .u64 b.w0.toNat,.int .u64 b.w1.toNat,.int .u64 b.w2.toNat,.int .u64 b.w3.toNat] 76)).alloc (.cells #[.int .u64 0,.int .u64 0,.int .u64 0,.int .u64 0] 76)).alloc (.cells #[.int .u64 0,.int .u64 0,.int .u64 0,.int .u64 0] 76)) w.heap.size a:=(zPt _ _ (by simp;omega)).trans ((zPt _ _ (by simp;omega)).trans ((zPt _ _ (by simp)).trans (zPs _ _)))
 have hD:zAc ((((w.alloc (.cells #[.int .u64 a.w0.toNat,.int .u64 a.w1.toNat,.int .u64 a.w2.toNat,.int .u64 a.w3.toNat] 76)).alloc (.cells #[.int .u64 b.w0.toNat,.int .u64 b.w1.toNat,.int .u64 b.w2.toNat,.int .u64 b.w3.toNat] 76)).alloc (.cells #[.int .u64 0,.int .u64 0,.int .u64 0,.int .u64 0] 76)).alloc (.cells #[.int .u64 0,.int .u64 0,.int .u64 0,.int .u64 0] 76)) (w.heap.size+1) b:=(zPt _ _ (by first|(simp;done)|(simp;omega))).trans ((zPt _ _ (by simp)).trans (zBc (by simp)))
 have hR:zAc ((((w.alloc (.cells #[.int .u64 a.w0.toNat,.int .u64 a.w1.toNat,.int .u64 a.w2.toNat,.int .u64 a.w3.toNat] 76)).alloc (.cells #[.int .u64 b.w0.toNat,.int .u64 b.w1.toNat,.int .u64 b.w2.toNat,.int .u64 b.w3.toNat] 76)).alloc (.cells #[.int .u64 0,.int .u64 0,.int .u64 0,.int .u64 0] 76)).alloc (.cells #[.int .u64 0,.int .u64 0,.int .u64 0,.int .u64 0] 76)) (w.heap.size+1+1) Cls.zero:=(zPt _ _ (by simp)).trans (zBc (by simp))
 have hZ:zAc ((((w.alloc (.cells #[.int .u64 a.w0.toNat,.int .u64 a.w1.toNat,.int .u64 a.w2.toNat,.int .u64 a.w3.toNat] 76)).alloc (.cells #[.int .u64 b.w0.toNat,.int .u64 b.w1.toNat,.int .u64 b.w2.toNat,.int .u64 b.w3.toNat] 76)).alloc (.cells #[.int .u64 0,.int .u64 0,.int .u64 0,.int .u64 0] 76)).alloc (.cells #[.int .u64 0,.int .u64 0,.int .u64 0,.int .u64 0] 76)) (w.heap.size+1+1+1) Cls.zero:=zBc (by simp)
 have hB:Below w.heap.size w ((((w.alloc (.cells #[.int .u64 a.w0.toNat,.int .u64 a.w1.toNat,.int .u64 a.w2.toNat,.int .u64 a.w3.toNat] 76)).alloc (.cells #[.int .u64 b.w0.toNat,.int .u64 b.w1.toNat,.int .u64 b.w2.toNat,.int .u64 b.w3.toNat] 76)).alloc (.cells #[.int .u64 0,.int .u64 0,.int .u64 0,.int .u64 0] 76)).alloc (.cells #[.int .u64 0,.int .u64 0,.int .u64 0,.int .u64 0] 76)):=(by repeat (first|exact zPg _ _|assumption|refine zP8 ?_|refine zP6 ?_ (by first|(simp;done)|(simp;omega)|omega) _|refine zP7 ?_ (by first|(simp;done)|(simp;omega)|omega) _))
 revert hA hD hR hZ hB
 generalize ((((w.alloc (.cells #[.int .u64 a.w0.toNat,.int .u64 a.w1.toNat,.int .u64 a.w2.toNat,.int .u64 a.w3.toNat] 76)).alloc (.cells #[.int .u64 b.w0.toNat,.int .u64 b.w1.toNat,.int .u64 b.w2.toNat,.int .u64 b.w3.toNat] 76)).alloc (.cells #[.int .u64 0,.int .u64 0,.int .u64 0,.int .u64 0] 76)).alloc (.cells #[.int .u64 0,.int .u64 0,.int .u64 0,.int .u64 0] 76))=wx
 intro hA hD hR hZ hB
 have HA:=zPf hA
 have HDD:=zPf hD
 have HR:=zPf hR
 have HZ:=zPf hZ
 have HB:=zPf hB
 clear hA hD hR hZ hB
 go_wp2_with fail
 go_loopg [6] 256 (fun k iv wr=> ∃i:Nat,iv= .int .i64 (i:Nat)∧k=256 - i∧i≤256∧zAc wr w.heap.size a∧zAc wr (w.heap.size+1) b∧zAc wr (w.heap.size+1+1) Cls.zero∧zAc wr (w.heap.size+1+1+1) (upC (fun i=>a.has i&&b.has i) i)∧Below w.heap.size w wr)
 case atStart=>exact⟨0,rfl,by omega,by omega,HA.out,HDD.out,HR.out,HZ.out,HB.out⟩
 case round=>
  obtain⟨i,rfl,hg,hi,hA,hD,hR,hZ,hB⟩:=hrel
  have HG:=zPf hg
  have HA:=zPf hA
  have HDD:=zPf hD
  have HR:=zPf hR
  have HZ:=zPf hZ
  have HB:=zPf hB
  clear hg hB
  by_cases hlt:i<256
  ·have hlt':(i:Int)<256:=by omega
   obtain⟨z0,z1,z2,z3⟩:=hA.cells
   have hl:=hA.lt
   have hmod:(i:Int) % 256=(i:Int):=by omega
   have HN:=zPf (zHp (fun i=>a.has i&&b.has i) i)
   clear hA hD hR hZ
   go_wp2_with fail
   refine(zDK a hlt).mono ?_;rintro e w1 ⟨rfl,hb1⟩
   have HA1:=zPf (HA.out.below hb1)
   have HD1:=zPf (HDD.out.below hb1)
   have HR1:=zPf (HR.out.below hb1)
   have HZ1:=zPf (HZ.out.below hb1)
   have HB1:=zPf (HB.out.trans (hb1.mono HB.out.size))
   clear hb1 z0 z1 z2 z3 hl HA HDD HR HZ HB
   cases hh:a.has i with
   |false=>
    have HNT:=zPf (show upC (fun i=>a.has i&&b.has i) (i+1)=upC (fun i=>a.has i&&b.has i) i by rw[HN.out,if_neg (by simp[hh])])
    clear hh
    go_wp2_with fail
    go_roundg (256 - (i+1))
    case measure=>have:=HG.out;omega
    case rel=>exact⟨i+1,by go_num,rfl,by omega,HA1.out,HD1.out,HR1.out,by rw[HNT.out];exact HZ1.out,HB1.out⟩
   |true=>
    obtain⟨z0,z1,z2,z3⟩:=HD1.out.cells
    have hl:=HD1.out.lt
    go_wp2_with fail
    refine(zDK b hlt).mono ?_;rintro e w2 ⟨rfl,hb2⟩
    have HA2:=zPf (HA1.out.below hb2)
    have HD2:=zPf (HD1.out.below hb2)
    have HR2:=zPf (HR1.out.below hb2)
    have HZ2:=zPf (HZ1.out.below hb2)
    have HB2:=zPf (HB1.out.trans (hb2.mono HB1.out.size))
    clear hb2 z0 z1 z2 z3 hl
    cases hk:b.has i with
    |true=>
     have HNT:=zPf (show upC (fun i=>a.has i&&b.has i) (i+1)=(upC (fun i=>a.has i&&b.has i) i).add i by rw[HN.out,if_pos (by simp[hh,hk])])
     obtain⟨d,hd⟩: ∃d,d=upC (fun i=>a.has i&&b.has i) i:=⟨_,rfl⟩
     have hz:=HZ2.out
     rw[←hd]at hz
     have HDE:=zPf hd
     have hzl:=hz.lt
     obtain⟨z0,z1,z2,z3⟩:=hz.cells
     have HZ7:=zPf hz
     clear hh hk hd hz
     go_wp2_with fail
     refine(zCn d hlt).mono ?_;rintro e w8 ⟨rfl,hb8⟩
     have HA8:=zPf (HA2.out.below hb8)
     have HD8:=zPf (HD2.out.below hb8)
     have HR8:=zPf (HR2.out.below hb8)
     have HZ8:=zPf (HZ7.out.below hb8)
     have HB8:=zPf (HB2.out.trans (hb8.mono HB2.out.size))
     clear hb8 z0 z1 z2 z3 hzl
     obtain⟨q,hq⟩: ∃q,q=d.add i:=⟨_,rfl⟩
     rw[←hq]
     have HQ:=zPf hq
     clear hq
     have hzl:=HZ8.out.lt
     obtain⟨z0,z1,z2,z3⟩:=HZ8.out.cells
     have f0:=zAE HZ8.out
     go_wp2_with fail
     go_roundg (256 - (i+1))
     case measure=>have:=HG.out;omega
     case rel=>
      have hne: ∀B,B≠w.heap.size+1+1+1→(zCA w8 (w.heap.size+1+1+1) q).heap[B]?=w8.heap[B]?:=fun B hB=>zBe hB q
      exact⟨i+1,by go_num,rfl,by omega,(hne _ (by omega)).trans HA8.out,(hne _ (by omega)).trans HD8.out,(hne _ (by omega)).trans HR8.out,by rw[HNT.out,←HDE.out,←HQ.out];exact zAu HZ8.out q,zAd (by omega) q HB8.out⟩
    |false=>
     have HNT:=zPf (show upC (fun i=>a.has i&&b.has i) (i+1)=upC (fun i=>a.has i&&b.has i) i by rw[HN.out,if_neg (by simp[hh,hk])])
     clear hh hk
     go_wp2_with fail
     go_roundg (256 - (i+1))
     case measure=>have:=HG.out;omega
     case rel=>exact⟨i+1,by go_num,rfl,by omega,HA2.out,HD2.out,HR2.out,by rw[HNT.out];exact HZ2.out,HB2.out⟩
  ·obtain rfl:i=256:=by omega
   have hz:=hZ
   rw[HF.out]at hz
   obtain⟨d,hd⟩: ∃d,d=a.and b:=⟨_,rfl⟩
   rw[←hd]at hz
   have HDE:=zPf hd
   obtain⟨z0,z1,z2,z3⟩:=hz.cells
   obtain⟨y0,y1,y2,y3⟩:=hR.cells
   have hzl:=hz.lt
   have hrl:=hR.lt
   have f0:=zAE hR
   clear hA hD hR hZ hz hd
   go_wp2_with fail
   exact zQG (v:=zBE d) (by simp[results,Tryz.results235,go_sem, *]) rfl ⟨by rw[HDE.out],zAd (by omega) d HB.out⟩
theorem zOI {l:List Nat} {n:Nat} (h:n<l.length):Cls.of (l.take (n+1))=(Cls.of (l.take n)).add (l.getD n 0):=by
 unfold Cls.of
 rw[List.take_add_one,List.foldl_append]
 simp[List.getD_eq_getElem?_getD,h]
theorem zKJ (l:List Nat) {ob oo cap:Nat} {w:World} (hl: ∀i,i<l.length→l.getD i 0<256) (hll:l.length≤65536) (hb:ob<w.heap.size) (hc: ∀i,i<l.length→w.cell? ⟨ob,oo+i,none⟩=some (.int .u8 (l.getD i 0:Nat))):
  Calls Tryz.prog 232 #[.slice (some ⟨ob,oo,none⟩) l.length cap] w fun e w'=>e= .returned (zBE (Cls.of l))∧Below w.heap.size w w':=by
 have HC:=zPf hc
 clear hc
 go_enter Tryz.func232,Tryz.ntmps232
 go_upto_region 2 with fail
 have hR:zAc ((w.alloc (.cells #[.int .u64 0,.int .u64 0,.int .u64 0,.int .u64 0] 76)).alloc (.cells #[.int .u64 0,.int .u64 0,.int .u64 0,.int .u64 0] 76)) w.heap.size Cls.zero:=(zPt _ _ (by simp)).trans (zBc (by simp))
 have hZ:zAc ((w.alloc (.cells #[.int .u64 0,.int .u64 0,.int .u64 0,.int .u64 0] 76)).alloc (.cells #[.int .u64 0,.int .u64 0,.int .u64 0,.int .u64 0] 76)) (w.heap.size+1) Cls.zero:=zBc (by simp)
 have hB:Below w.heap.size w ((w.alloc (.cells #[.int .u64 0,.int .u64 0,.int .u64 0,.int .u64 0] 76)).alloc (.cells #[.int .u64 0,.int .u64 0,.int .u64 0,.int .u64 0] 76)):=(by repeat (first|exact zPg _ _|assumption|refine zP8 ?_|refine zP6 ?_ (by first|(simp;done)|(simp;omega)|omega) _|refine zP7 ?_ (by first|(simp;done)|(simp;omega)|omega) _))
 revert hR hZ hB
 generalize (w.alloc (.cells #[.int .u64 0,.int .u64 0,.int .u64 0,.int .u64 0] 76)).alloc (.cells #[.int .u64 0,.int .u64 0,.int .u64 0,.int .u64 0] 76)=wx
 intro hR hZ hB
 have HR:=zPf hR
 have HZ:=zPf hZ
 have HB:=zPf hB
 clear hR hZ hB
 go_wp2_with fail
 go_loopg [4] l.length (fun k iv wr=> ∃n:Nat,iv= .int .i64 (n:Nat)∧k=l.length - n∧n≤l.length∧zAc wr w.heap.size Cls.zero∧zAc wr (w.heap.size+1) (Cls.of (l.take n))∧Below w.heap.size w wr)
 case atStart=>exact⟨0,rfl,by omega,by omega,HR.out,HZ.out,HB.out⟩
 case round=>
  obtain⟨n,rfl,hg,hn,hR,hZ,hB⟩:=hrel
  have HG:=zPf hg
  have HR:=zPf hR
  have HB:=zPf hB
  clear hg
  by_cases hlt:n<l.length
  ·have hlt':(n:Int)<(l.length:Int):=by omega
   have HN:=zPf (zOI hlt)
   have hc:=(zPj (w:=w) (a:=⟨ob,oo+n,none⟩) (hB.block ob hb)).trans (HC.out n hlt)
   have hbl:ob<wr.heap.size:=zPi hb hB.size
   have h256:=hl n hlt
   obtain⟨x,hx⟩: ∃x,x=l.getD n 0:=⟨_,rfl⟩
   rw[←hx]at hc h256 HN
   obtain⟨d,hd⟩: ∃d,d=Cls.of (l.take n):=⟨_,rfl⟩
   rw[←hd]at hZ HN
   have hzl:=hZ.lt
   obtain⟨z0,z1,z2,z3⟩:=hZ.cells
   have HZ2:=zPf hZ
   clear hd hZ hR hx hB hlt hl
   go_wp2_with fail
   refine zAA (X:=none) 5 [] [0,1,2,3,4] (by kernel_rfl) (by kernel_rfl) rfl (fun _ _ _ _ _ h=>h) ?_
   simp only[zAI,zAC,zAD,zAB,List.getD_cons_zero,List.getD_cons_succ,List.drop_succ_cons,List.drop_zero]
   repeat (go_big_quiet_step (fail))
   refine wpQuiet_nil ?_
   go_wp2_with fail
   refine(zCn d h256).mono ?_;rintro e w2 ⟨rfl,hb2⟩
   have hdr:Below wr.heap.size wr w2:=(zPg _ wr).drew.trans hb2
   have HR2:=zPf (HR.out.below hdr)
   have HZ3:=zPf (HZ2.out.below hdr)
   have HB2:=zPf (HB.out.trans (hdr.mono HB.out.size))
   clear hb2 hdr z0 z1 z2 z3 hzl hc hbl
   obtain⟨q,hq⟩: ∃q,q=d.add x:=⟨_,rfl⟩
   rw[←hq]at HN ⊢
   clear hq
   have hzl:=HZ3.out.lt
   obtain⟨z0,z1,z2,z3⟩:=HZ3.out.cells
   have f0:=zAE HZ3.out
   go_wp2_with fail
   go_roundg (l.length - (n+1))
   case measure=>have:=HG.out;omega
   case rel=>exact⟨n+1,by go_num,rfl,by omega,(zBe (by omega) q).trans HR2.out,by rw[HN.out];exact zAu HZ3.out q,zAd (by omega) q HB2.out⟩
  ·obtain rfl:n=l.length:=by omega
   have hlt': ¬(l.length:Int)<(l.length:Int):=by omega
   rw[List.take_length]at hZ
   obtain⟨d,hd⟩: ∃d,d=Cls.of l:=⟨_,rfl⟩
   rw[←hd]at hZ
   have HD:=zPf hd
   obtain⟨z0,z1,z2,z3⟩:=hZ.cells
   obtain⟨y0,y1,y2,y3⟩:=hR.cells
   have hzl:=hZ.lt
   have hrl:=hR.lt
   have f0:=zAE hR
   clear hR hZ hd hB
   go_wp2_with fail
   exact zQG (v:=zBE d) (by simp[results,Tryz.results232,go_sem, *]) rfl ⟨by rw[HD.out],zAd (by omega) d HB.out⟩
theorem zHy (l:List Nat) (cs:Array Value) (hcs:cs=(l.map fun b=>Value.int .u8 (b:Nat)).toArray) (hl: ∀i,i<l.length→l.getD i 0<256) (hll:l.length≤65536) (w:World):
  Calls Tryz.prog 232 #[.slice (some ⟨w.heap.size,0,none⟩) l.length l.length] (w.alloc (.cells cs 5)) fun e w'=>
   e= .returned (zBE (Cls.of l))∧Below (w.alloc (.cells cs 5)).heap.size (w.alloc (.cells cs 5)) w':=by
 refine zKJ l hl hll (by simp) fun i hi=>?_
 rw[zPu _ _ _ _ _ (0,0) (zPs w _),hcs]
 simp[List.getD_eq_getElem?_getD,hi]
theorem zBR (lo hi:Int) (h0:0≤lo) (h1:lo<256) (h2:0≤hi) (h3:hi<256) (w:World):
  Calls Tryz.prog 224 #[.int .u8 lo,.int .u8 hi] w fun e w'=>e= .returned (zBE (Cls.range lo.toNat hi.toNat))∧Below w.heap.size w w':=by
 obtain⟨a,rfl⟩:=Int.eq_ofNat_of_zero_le h0
 obtain⟨b,rfl⟩:=Int.eq_ofNat_of_zero_le h2
 exact zGN a b (by omega) (by omega)
theorem zJe (s:ByteArray) {w:World} :
  Calls Tryz.prog 231 #[.string s] w fun e w'=>e= .returned (.tuple #[zBE ((zAn (zAW s)).getD Cls.zero),.bool (zAn (zAW s)).isSome])∧Below w.heap.size w w':=by
 go_enter Tryz.func231,Tryz.ntmps231
 go_wp2_with fail
 refine(zBR _ _ (by omega) (by omega) (by omega) (by omega) _).mono ?_;rintro e wa ⟨rfl,ha⟩
 have HZA:=zPf (show zAc wa w.heap.size Cls.zero from zAc.below (w:=w.alloc (.cells #[.int .u64 0,.int .u64 0,.int .u64 0,.int .u64 0] 76)) (zPs w _) ha)
 have HBA:=zPf (show Below w.heap.size w wa from((zPg _ w).alloc (zPh _) _).trans (ha.mono (by simp)))
 clear ha
 go_wp2_with fail
 refine(zBR _ _ (by omega) (by omega) (by omega) (by omega) _).mono ?_;rintro e wb ⟨rfl,hb⟩
 have HUB:=zPf (show zAc wb wa.heap.size zCb from zAc.below (w:=wa.alloc (.cells (zAS zCb) 76)) (zPs wa _) hb)
 have HDB:=zPf (show Below wa.heap.size wa wb from((zPg _ wa).alloc (zPh _) _).trans (hb.mono (by simp)))
 clear hb
 go_wp2_with fail
 refine(zBR _ _ (by omega) (by omega) (by omega) (by omega) _).mono ?_;rintro e wc ⟨rfl,hc⟩
 have HLC:=zPf (show zAc wc wb.heap.size zCf from zAc.below (w:=wb.alloc (.cells (zAS zCf) 76)) (zPs wb _) hc)
 have HDC:=zPf (show Below wb.heap.size wb wc from((zPg _ wb).alloc (zPh _) _).trans (hc.mono (by simp)))
 clear hc
 go_upto_region 4 with (fail)
 go_cut [4,5,6,7] (fun s4 s5 s6 s7 wx=> ∃b4 b5 b6 b7:Nat,s4= .pointer (some ⟨b4,0,none⟩)∧s5= .pointer (some ⟨b5,0,none⟩)∧s6= .pointer (some ⟨b6,0,none⟩)∧s7= .pointer (some ⟨b7,0,none⟩)∧
  Nm w wx b4 b5 b6∧zAc wx b7 zCI)
 case first=>
  have hab:=HDB.out.size
  have hbc:=HDC.out.size
  have hza:=HZA.out.lt
  have hsa:=HBA.out.size
  have hul:=HUB.out.lt
  have hll:=HLC.out.lt
  obtain⟨wd,hwd⟩: ∃wd:World,wc.alloc (.cells (zAS zCg) 76)=wd:=⟨_,rfl⟩
  have hdd:Below wc.heap.size wc wd:=by rw[←hwd];exact(zPg _ wc).alloc (zPh _) _
  have h4:zAc wd wa.heap.size zCb:=(HUB.out.below (HDC.out)).below hdd
  have h5:zAc wd wb.heap.size zCf:=HLC.out.below hdd
  have h6:zAc wd wc.heap.size zCg:=by rw[←hwd];exact zPs wc _
  have hbd:Below w.heap.size w wd:=((HBA.out.trans (HDB.out.mono hsa)).trans (HDC.out.mono (by omega))).trans (hdd.mono (by omega))
  have hzd:zAc wd w.heap.size Cls.zero:=((HZA.out.below HDB.out).below HDC.out).below hdd
  change Code.wp _ _ _ _ (wc.alloc (.cells (zAS zCg) 76))
  rw[hwd]
  have k4:=h4.lt
  have k5:=h5.lt
  have k6:=h6.lt
  obtain⟨p0,p1,p2,p3⟩:=h4.cells
  obtain⟨q0,q1,q2,q3⟩:=h5.cells
  obtain⟨r0,r1,r2,r3⟩:=h6.cells
  have HN:Nm w wd wa.heap.size wb.heap.size wc.heap.size:=⟨hzd,h4,h5,h6,hbd⟩
  clear hwd h4 h5 h6 hbd hzd hdd HZA HBA HUB HDB HLC HDC hab hbc hza hsa hul hll
  generalize wa.heap.size=b4 at*
  generalize wb.heap.size=b5 at*
  generalize wc.heap.size=b6 at*
  refine zBX (X:=none) 6 5 [([0,1,3],2),([],4)] [] (by kernel_rfl) (by kernel_rfl) rfl (fun _ _ _ _ _ h=>h) ?_
  simp only[zDG,zAI,zAC,zAF,zAD,zAB,List.getD_cons_zero,List.getD_cons_succ,List.drop_succ_cons,List.drop_zero]
  repeat (go_big_quiet_step (fail))
  refine wpQuiet_nil ?_
  refine⟨?_,?_⟩
  ·go_wp2_with fail
   refine(zBx _ _).mono ?_;rintro e w1 ⟨rfl,hb1⟩
   go_wp2_with fail
   refine⟨zAJ.of_below hb1,wpQuiet_nil ⟨?_,?_⟩⟩
   ·go_wp2_with fail
    refine(zBx _ _).mono ?_;rintro e w2 ⟨rfl,hb2⟩
    go_wp2_with fail
    refine⟨zAJ.of_below hb2,wpQuiet_nil ?_⟩
    go_wp2_with fail
    refine⟨zAR _ _,wpQuiet_nil ?_⟩
    go_wp2_with fail
    go_meet
    exact⟨b4,b5,b6,w2.heap.size,rfl,rfl,rfl,rfl,((HN.below (zPg _ _).drew).below hb1).below (hb2.trans ((zPg _ _).alloc hb2.size _)),zPs _ _⟩
   ·go_wp2_with fail
    refine⟨zAR _ _,wpQuiet_nil ?_⟩
    go_wp2_with fail
    refine(zBx _ _).mono ?_;rintro e w2 ⟨rfl,hb2⟩
    have hk2:=zAJ.of_below (X:=none) hb2
    have hz2:zAc w2 w1.heap.size Cls.zero:=zAc.below (w:=w1.alloc (.cells #[.int .u64 0,.int .u64 0,.int .u64 0,.int .u64 0] 76)) (zPs _ _) hb2
    have HZ2:=zPf hz2
    have hn2:=(((HN.below (zPg _ _).drew).below hb1).below ((zPg _ _).alloc (zPh _) _)).below hb2
    have hs1:=hb1.size
    simp only[World.size_drew]at hs1
    have z0:=zAX hz2 0 (by omega)
    have z1:=zAX hz2 1 (by omega)
    have z2:=zAX hz2 2 (by omega)
    have z3:=zAX hz2 3 (by omega)
    have f0:=zAE hz2
    simp only[Cls.word]at z0 z1 z2 z3
    clear hz2 hb1 hb2
    go_wp2_with fail
    refine⟨hk2,wpQuiet_nil ?_⟩
    go_wp2_with fail
    go_meet
    have hlt:=HN.z.lt
    exact⟨b4,b5,b6,w1.heap.size,rfl,rfl,rfl,rfl,hn2.mono (k:=w1.heap.size) (by omega) (by omega) (by omega) (by omega) (zBC (zPh _) zCI),zAu HZ2.out zCI⟩
  ·go_wp2_with fail
   refine⟨zAa (zAR _ _),wpQuiet_nil ?_⟩
   go_wp2_with fail
   refine(zBx _ _).mono ?_;rintro e w1 ⟨rfl,hb1⟩
   go_wp2_with fail
   refine⟨zAJ.of_below hb1,wpQuiet_nil ?_⟩
   go_wp2_with fail
   refine(zBx _ _).mono ?_;rintro e w2 ⟨rfl,hb2⟩
   have hk2:=zAJ.of_below (X:=none) hb2
   have hz2:zAc w2 wd.heap.size Cls.zero:=(zAc.below (w:=(wd.alloc (.cells #[.int .u64 0,.int .u64 0,.int .u64 0,.int .u64 0] 76)).drew) (B:=wd.heap.size) (c:=Cls.zero) (zPs wd _) hb1).below hb2
   have HZ2:=zPf hz2
   have hn2:=((HN.below ((zPg _ _).alloc (zPh _) _).drew).below hb1).below hb2
   have z0:=zAX hz2 0 (by omega)
   have z1:=zAX hz2 1 (by omega)
   have z2:=zAX hz2 2 (by omega)
   have z3:=zAX hz2 3 (by omega)
   have f0:=zAE hz2
   simp only[Cls.word]at z0 z1 z2 z3
   clear hz2 hb1 hb2
   go_wp2_with fail
   refine⟨hk2,wpQuiet_nil ?_⟩
   go_wp2_with fail
   go_meet
   have hlt:=HN.z.lt
   exact⟨b4,b5,b6,wd.heap.size,rfl,rfl,rfl,rfl,hn2.mono (k:=wd.heap.size) (by omega) (by omega) (by omega) (by omega) (zBC (zPh _) zCI),zAu HZ2.out zCI⟩
 case rest=>
  obtain⟨b4,b5,b6,b7,rfl,rfl,rfl,rfl,hn,h7⟩:=hcut
  have k4:=hn.u.lt
  have k5:=hn.l.lt
  have k6:=hn.d.lt
  have k7:=h7.lt
  have kz:=hn.z.lt
  obtain⟨p0,p1,p2,p3⟩:=hn.u.cells
  obtain⟨q0,q1,q2,q3⟩:=hn.l.cells
  obtain⟨r0,r1,r2,r3⟩:=hn.d.cells
  obtain⟨t0,t1,t2,t3⟩:=h7.cells
  obtain⟨z0,z1,z2,z3⟩:=hn.z.cells
  have f0:=zAE hn.z
  have HN:=hn
  clear hn h7 HZA HBA HUB HDB HLC HDC
  go_wp2_with (first
   |(go_at_call 224;refine(zBR _ _ (by omega) (by omega) (by omega) (by omega) _).mono ?_;rintro e w2 ⟨rfl,hb2⟩;have HN:=(HN.below (by repeat (first|exact zPg _ _|assumption|refine zP8 ?_|refine zP6 ?_ (by first|(simp;done)|(simp;omega)|omega) _|refine zP7 ?_ (by first|(simp;done)|(simp;omega)|omega) _))).below hb2;obtain⟨z0,z1,z2,z3⟩:=HN.z.cells;have f0:=zAE HN.z;have kz:=HN.z.lt;clear hb2)
   |(go_at_call 213;refine(zBx _ _).mono ?_;rintro e w2 ⟨rfl,hb2⟩;have HN:=(HN.below (by repeat (first|exact zPg _ _|assumption|refine zP8 ?_|refine zP6 ?_ (by first|(simp;done)|(simp;omega)|omega) _|refine zP7 ?_ (by first|(simp;done)|(simp;omega)|omega) _))).below hb2;obtain⟨z0,z1,z2,z3⟩:=HN.z.cells;have f0:=zAE HN.z;have kz:=HN.z.lt;clear hb2))
  ·have hs1:(s.toList==[117,112,112,101,114])=true:=by assumption
   have HBE:=HN.b
   refine zQG (v:= .tuple #[zBE zCb,.bool true]) (by simp[results,Tryz.results231,go_sem, *]) rfl ⟨?_,(by repeat (first|exact zPg _ _|assumption|refine zP8 ?_|refine zP6 ?_ (by first|(simp;done)|(simp;omega)|omega) _|refine zP7 ?_ (by first|(simp;done)|(simp;omega)|omega) _))⟩
   rw[(congrArg zAn (zAV hs1)).trans zFa];simp only[Option.getD_some,Option.isSome_some]
  ·have hs1:(s.toList==[108,111,119,101,114])=true:=by assumption
   have HBE:=HN.b
   refine zQG (v:= .tuple #[zBE zCf,.bool true]) (by simp[results,Tryz.results231,go_sem, *]) rfl ⟨?_,(by repeat (first|exact zPg _ _|assumption|refine zP8 ?_|refine zP6 ?_ (by first|(simp;done)|(simp;omega)|omega) _|refine zP7 ?_ (by first|(simp;done)|(simp;omega)|omega) _))⟩
   rw[(congrArg zAn (zAV hs1)).trans zFe];simp only[Option.getD_some,Option.isSome_some]
  ·have hs1:(s.toList==[97,108,112,104,97])=true:=by assumption
   have HBE:=HN.b
   refine zQG (v:= .tuple #[zBE (zCb.or zCf),.bool true]) (by simp[results,Tryz.results231,go_sem, *]) rfl ⟨?_,(by repeat (first|exact zPg _ _|assumption|refine zP8 ?_|refine zP6 ?_ (by first|(simp;done)|(simp;omega)|omega) _|refine zP7 ?_ (by first|(simp;done)|(simp;omega)|omega) _))⟩
   rw[(congrArg zAn (zAV hs1)).trans zFj];simp only[Option.getD_some,Option.isSome_some]
  ·have hs1:(s.toList==[100,105,103,105,116])=true:=by assumption
   have HBE:=HN.b
   refine zQG (v:= .tuple #[zBE zCg,.bool true]) (by simp[results,Tryz.results231,go_sem, *]) rfl ⟨?_,(by repeat (first|exact zPg _ _|assumption|refine zP8 ?_|refine zP6 ?_ (by first|(simp;done)|(simp;omega)|omega) _|refine zP7 ?_ (by first|(simp;done)|(simp;omega)|omega) _))⟩
   rw[(congrArg zAn (zAV hs1)).trans zFg];simp only[Option.getD_some,Option.isSome_some]
  ·have hs1:(s.toList==[97,108,110,117,109])=true:=by assumption
   have HBE:=HN.b
   refine zQG (v:= .tuple #[zBE zCI,.bool true]) (by simp[results,Tryz.results231,go_sem, *]) rfl ⟨?_,(by repeat (first|exact zPg _ _|assumption|refine zP8 ?_|refine zP6 ?_ (by first|(simp;done)|(simp;omega)|omega) _|refine zP7 ?_ (by first|(simp;done)|(simp;omega)|omega) _))⟩
   rw[(congrArg zAn (zAV hs1)).trans zFk];simp only[Option.getD_some,Option.isSome_some]
  ·have hs1:(s.toList==[120,100,105,103,105,116])=true:=by assumption
   refine zAA (X:=none) 4 [([0],1),([],2),([],3)] [] (by kernel_rfl) (by kernel_rfl) rfl (fun _ _ _ _ _ h=>h) ?_
   simp only[zAI,zAC,zAF,zAD,zAB,List.getD_cons_zero,List.getD_cons_succ,List.drop_succ_cons,List.drop_zero]
   repeat (go_big_quiet_step (fail))
   refine wpQuiet_nil ?_
   go_wp2_with fail
   refine(zBR _ _ (by omega) (by omega) (by omega) (by omega) _).mono ?_;rintro e w2 ⟨rfl,hb2⟩;have hkp:=zAJ.of_below (X:=none) hb2;have HN:=(HN.below (by repeat (first|exact zPg _ _|assumption|refine zP8 ?_|refine zP6 ?_ (by first|(simp;done)|(simp;omega)|omega) _|refine zP7 ?_ (by first|(simp;done)|(simp;omega)|omega) _))).below hb2;obtain⟨z0,z1,z2,z3⟩:=HN.z.cells;have f0:=zAE HN.z;have kz:=HN.z.lt;clear hb2
   go_wp2_with fail
   refine⟨hkp,wpQuiet_nil ?_⟩
   clear hkp
   go_wp2_with fail
   refine(zBR _ _ (by omega) (by omega) (by omega) (by omega) _).mono ?_;rintro e w2 ⟨rfl,hb2⟩;have hkp:=zAJ.of_below (X:=none) hb2;have HN:=(HN.below (by repeat (first|exact zPg _ _|assumption|refine zP8 ?_|refine zP6 ?_ (by first|(simp;done)|(simp;omega)|omega) _|refine zP7 ?_ (by first|(simp;done)|(simp;omega)|omega) _))).below hb2;obtain⟨z0,z1,z2,z3⟩:=HN.z.cells;have f0:=zAE HN.z;have kz:=HN.z.lt;clear hb2
   go_wp2_with fail
   refine⟨hkp,wpQuiet_nil ?_⟩
   clear hkp
   go_wp2_with fail
   refine(zBx _ _).mono ?_;rintro e w2 ⟨rfl,hb2⟩;have hkp:=zAJ.of_below (X:=none) hb2;have HN:=(HN.below (by repeat (first|exact zPg _ _|assumption|refine zP8 ?_|refine zP6 ?_ (by first|(simp;done)|(simp;omega)|omega) _|refine zP7 ?_ (by first|(simp;done)|(simp;omega)|omega) _))).below hb2;obtain⟨z0,z1,z2,z3⟩:=HN.z.cells;have f0:=zAE HN.z;have kz:=HN.z.lt;clear hb2
   go_wp2_with fail
   refine⟨hkp,wpQuiet_nil ?_⟩
   clear hkp
   go_wp2_with (first
    |(go_at_call 224;refine(zBR _ _ (by omega) (by omega) (by omega) (by omega) _).mono ?_;rintro e w2 ⟨rfl,hb2⟩;have HN:=(HN.below (by repeat (first|exact zPg _ _|assumption|refine zP8 ?_|refine zP6 ?_ (by first|(simp;done)|(simp;omega)|omega) _|refine zP7 ?_ (by first|(simp;done)|(simp;omega)|omega) _))).below hb2;obtain⟨z0,z1,z2,z3⟩:=HN.z.cells;have f0:=zAE HN.z;have kz:=HN.z.lt;clear hb2)
    |(go_at_call 213;refine(zBx _ _).mono ?_;rintro e w2 ⟨rfl,hb2⟩;have HN:=(HN.below (by repeat (first|exact zPg _ _|assumption|refine zP8 ?_|refine zP6 ?_ (by first|(simp;done)|(simp;omega)|omega) _|refine zP7 ?_ (by first|(simp;done)|(simp;omega)|omega) _))).below hb2;obtain⟨z0,z1,z2,z3⟩:=HN.z.cells;have f0:=zAE HN.z;have kz:=HN.z.lt;clear hb2)
    |(go_at_call 235;refine(zDr _ _).mono ?_;rintro e w2 ⟨rfl,hb2⟩;have HN:=(HN.below (by repeat (first|exact zPg _ _|assumption|refine zP8 ?_|refine zP6 ?_ (by first|(simp;done)|(simp;omega)|omega) _|refine zP7 ?_ (by first|(simp;done)|(simp;omega)|omega) _))).below hb2;obtain⟨z0,z1,z2,z3⟩:=HN.z.cells;have f0:=zAE HN.z;have kz:=HN.z.lt;clear hb2)
    |(go_at_call 214;refine(zDJ _).mono ?_;rintro e w2 ⟨rfl,hb2⟩;have HN:=(HN.below (by repeat (first|exact zPg _ _|assumption|refine zP8 ?_|refine zP6 ?_ (by first|(simp;done)|(simp;omega)|omega) _|refine zP7 ?_ (by first|(simp;done)|(simp;omega)|omega) _))).below hb2;obtain⟨z0,z1,z2,z3⟩:=HN.z.cells;have f0:=zAE HN.z;have kz:=HN.z.lt;clear hb2))
   have HBE:=HN.b
   refine zQG (v:= .tuple #[zBE (zCg.or ((Cls.range 65 70).or (Cls.range 97 102))),.bool true]) (by simp[results,Tryz.results231,go_sem, *]) rfl ⟨?_,(by repeat (first|exact zPg _ _|assumption|refine zP8 ?_|refine zP6 ?_ (by first|(simp;done)|(simp;omega)|omega) _|refine zP7 ?_ (by first|(simp;done)|(simp;omega)|omega) _))⟩
   rw[(congrArg zAn (zAV hs1)).trans zEx];simp only[Option.getD_some,Option.isSome_some]
  ·have hs1:(s.toList==[98,108,97,110,107])=true:=by assumption
   refine(zHy [9,32] #[.int .u8 9,.int .u8 32] rfl (by decide) (by simp) _).mono ?_;rw[show Cls.of [9,32]=Cls.of [32,9]from rfl];rintro e w2 ⟨rfl,hb2⟩;have HN:=(HN.below (by repeat (first|exact zPg _ _|assumption|refine zP8 ?_|refine zP6 ?_ (by first|(simp;done)|(simp;omega)|omega) _|refine zP7 ?_ (by first|(simp;done)|(simp;omega)|omega) _))).below hb2;obtain⟨z0,z1,z2,z3⟩:=HN.z.cells;have f0:=zAE HN.z;have kz:=HN.z.lt;clear hb2
   go_wp2_with (first
    |(go_at_call 224;refine(zBR _ _ (by omega) (by omega) (by omega) (by omega) _).mono ?_;rintro e w2 ⟨rfl,hb2⟩;have HN:=(HN.below (by repeat (first|exact zPg _ _|assumption|refine zP8 ?_|refine zP6 ?_ (by first|(simp;done)|(simp;omega)|omega) _|refine zP7 ?_ (by first|(simp;done)|(simp;omega)|omega) _))).below hb2;obtain⟨z0,z1,z2,z3⟩:=HN.z.cells;have f0:=zAE HN.z;have kz:=HN.z.lt;clear hb2)
    |(go_at_call 213;refine(zBx _ _).mono ?_;rintro e w2 ⟨rfl,hb2⟩;have HN:=(HN.below (by repeat (first|exact zPg _ _|assumption|refine zP8 ?_|refine zP6 ?_ (by first|(simp;done)|(simp;omega)|omega) _|refine zP7 ?_ (by first|(simp;done)|(simp;omega)|omega) _))).below hb2;obtain⟨z0,z1,z2,z3⟩:=HN.z.cells;have f0:=zAE HN.z;have kz:=HN.z.lt;clear hb2)
    |(go_at_call 235;refine(zDr _ _).mono ?_;rintro e w2 ⟨rfl,hb2⟩;have HN:=(HN.below (by repeat (first|exact zPg _ _|assumption|refine zP8 ?_|refine zP6 ?_ (by first|(simp;done)|(simp;omega)|omega) _|refine zP7 ?_ (by first|(simp;done)|(simp;omega)|omega) _))).below hb2;obtain⟨z0,z1,z2,z3⟩:=HN.z.cells;have f0:=zAE HN.z;have kz:=HN.z.lt;clear hb2)
    |(go_at_call 214;refine(zDJ _).mono ?_;rintro e w2 ⟨rfl,hb2⟩;have HN:=(HN.below (by repeat (first|exact zPg _ _|assumption|refine zP8 ?_|refine zP6 ?_ (by first|(simp;done)|(simp;omega)|omega) _|refine zP7 ?_ (by first|(simp;done)|(simp;omega)|omega) _))).below hb2;obtain⟨z0,z1,z2,z3⟩:=HN.z.cells;have f0:=zAE HN.z;have kz:=HN.z.lt;clear hb2))
   have HBE:=HN.b
   refine zQG (v:= .tuple #[zBE (Cls.of [32,9]),.bool true]) (by simp[results,Tryz.results231,go_sem, *]) rfl ⟨?_,(by repeat (first|exact zPg _ _|assumption|refine zP8 ?_|refine zP6 ?_ (by first|(simp;done)|(simp;omega)|omega) _|refine zP7 ?_ (by first|(simp;done)|(simp;omega)|omega) _))⟩
   rw[(congrArg zAn (zAV hs1)).trans zFi];simp only[Option.getD_some,Option.isSome_some]
  ·have hs1:(s.toList==[115,112,97,99,101])=true:=by assumption
   refine(zHy [32] #[.int .u8 32] rfl (by decide) (by simp) _).mono ?_;rintro e w2 ⟨rfl,hb2⟩;have HN:=(HN.below (by repeat (first|exact zPg _ _|assumption|refine zP8 ?_|refine zP6 ?_ (by first|(simp;done)|(simp;omega)|omega) _|refine zP7 ?_ (by first|(simp;done)|(simp;omega)|omega) _))).below hb2;obtain⟨z0,z1,z2,z3⟩:=HN.z.cells;have f0:=zAE HN.z;have kz:=HN.z.lt;clear hb2
   go_wp2_with (first
    |(go_at_call 224;refine(zBR _ _ (by omega) (by omega) (by omega) (by omega) _).mono ?_;rintro e w2 ⟨rfl,hb2⟩;have HN:=(HN.below (by repeat (first|exact zPg _ _|assumption|refine zP8 ?_|refine zP6 ?_ (by first|(simp;done)|(simp;omega)|omega) _|refine zP7 ?_ (by first|(simp;done)|(simp;omega)|omega) _))).below hb2;obtain⟨z0,z1,z2,z3⟩:=HN.z.cells;have f0:=zAE HN.z;have kz:=HN.z.lt;clear hb2)
    |(go_at_call 213;refine(zBx _ _).mono ?_;rintro e w2 ⟨rfl,hb2⟩;have HN:=(HN.below (by repeat (first|exact zPg _ _|assumption|refine zP8 ?_|refine zP6 ?_ (by first|(simp;done)|(simp;omega)|omega) _|refine zP7 ?_ (by first|(simp;done)|(simp;omega)|omega) _))).below hb2;obtain⟨z0,z1,z2,z3⟩:=HN.z.cells;have f0:=zAE HN.z;have kz:=HN.z.lt;clear hb2)
    |(go_at_call 235;refine(zDr _ _).mono ?_;rintro e w2 ⟨rfl,hb2⟩;have HN:=(HN.below (by repeat (first|exact zPg _ _|assumption|refine zP8 ?_|refine zP6 ?_ (by first|(simp;done)|(simp;omega)|omega) _|refine zP7 ?_ (by first|(simp;done)|(simp;omega)|omega) _))).below hb2;obtain⟨z0,z1,z2,z3⟩:=HN.z.cells;have f0:=zAE HN.z;have kz:=HN.z.lt;clear hb2)
    |(go_at_call 214;refine(zDJ _).mono ?_;rintro e w2 ⟨rfl,hb2⟩;have HN:=(HN.below (by repeat (first|exact zPg _ _|assumption|refine zP8 ?_|refine zP6 ?_ (by first|(simp;done)|(simp;omega)|omega) _|refine zP7 ?_ (by first|(simp;done)|(simp;omega)|omega) _))).below hb2;obtain⟨z0,z1,z2,z3⟩:=HN.z.cells;have f0:=zAE HN.z;have kz:=HN.z.lt;clear hb2))
   have HBE:=HN.b
   refine zQG (v:= .tuple #[zBE ((Cls.range 9 13).or (Cls.of [32])),.bool true]) (by simp[results,Tryz.results231,go_sem, *]) rfl ⟨?_,(by repeat (first|exact zPg _ _|assumption|refine zP8 ?_|refine zP6 ?_ (by first|(simp;done)|(simp;omega)|omega) _|refine zP7 ?_ (by first|(simp;done)|(simp;omega)|omega) _))⟩
   rw[(congrArg zAn (zAV hs1)).trans zFb];simp only[Option.getD_some,Option.isSome_some]
  ·have hs1:(s.toList==[99,110,116,114,108])=true:=by assumption
   refine(zHy [127] #[.int .u8 127] rfl (by decide) (by simp) _).mono ?_;rintro e w2 ⟨rfl,hb2⟩;have HN:=(HN.below (by repeat (first|exact zPg _ _|assumption|refine zP8 ?_|refine zP6 ?_ (by first|(simp;done)|(simp;omega)|omega) _|refine zP7 ?_ (by first|(simp;done)|(simp;omega)|omega) _))).below hb2;obtain⟨z0,z1,z2,z3⟩:=HN.z.cells;have f0:=zAE HN.z;have kz:=HN.z.lt;clear hb2
   go_wp2_with (first
    |(go_at_call 224;refine(zBR _ _ (by omega) (by omega) (by omega) (by omega) _).mono ?_;rintro e w2 ⟨rfl,hb2⟩;have HN:=(HN.below (by repeat (first|exact zPg _ _|assumption|refine zP8 ?_|refine zP6 ?_ (by first|(simp;done)|(simp;omega)|omega) _|refine zP7 ?_ (by first|(simp;done)|(simp;omega)|omega) _))).below hb2;obtain⟨z0,z1,z2,z3⟩:=HN.z.cells;have f0:=zAE HN.z;have kz:=HN.z.lt;clear hb2)
    |(go_at_call 213;refine(zBx _ _).mono ?_;rintro e w2 ⟨rfl,hb2⟩;have HN:=(HN.below (by repeat (first|exact zPg _ _|assumption|refine zP8 ?_|refine zP6 ?_ (by first|(simp;done)|(simp;omega)|omega) _|refine zP7 ?_ (by first|(simp;done)|(simp;omega)|omega) _))).below hb2;obtain⟨z0,z1,z2,z3⟩:=HN.z.cells;have f0:=zAE HN.z;have kz:=HN.z.lt;clear hb2)
    |(go_at_call 235;refine(zDr _ _).mono ?_;rintro e w2 ⟨rfl,hb2⟩;have HN:=(HN.below (by repeat (first|exact zPg _ _|assumption|refine zP8 ?_|refine zP6 ?_ (by first|(simp;done)|(simp;omega)|omega) _|refine zP7 ?_ (by first|(simp;done)|(simp;omega)|omega) _))).below hb2;obtain⟨z0,z1,z2,z3⟩:=HN.z.cells;have f0:=zAE HN.z;have kz:=HN.z.lt;clear hb2)
    |(go_at_call 214;refine(zDJ _).mono ?_;rintro e w2 ⟨rfl,hb2⟩;have HN:=(HN.below (by repeat (first|exact zPg _ _|assumption|refine zP8 ?_|refine zP6 ?_ (by first|(simp;done)|(simp;omega)|omega) _|refine zP7 ?_ (by first|(simp;done)|(simp;omega)|omega) _))).below hb2;obtain⟨z0,z1,z2,z3⟩:=HN.z.cells;have f0:=zAE HN.z;have kz:=HN.z.lt;clear hb2))
   have HBE:=HN.b
   refine zQG (v:= .tuple #[zBE ((Cls.range 0 31).or (Cls.of [127])),.bool true]) (by simp[results,Tryz.results231,go_sem, *]) rfl ⟨?_,(by repeat (first|exact zPg _ _|assumption|refine zP8 ?_|refine zP6 ?_ (by first|(simp;done)|(simp;omega)|omega) _|refine zP7 ?_ (by first|(simp;done)|(simp;omega)|omega) _))⟩
   rw[(congrArg zAn (zAV hs1)).trans zFh];simp only[Option.getD_some,Option.isSome_some]
  ·have hs1:(s.toList==[103,114,97,112,104])=true:=by assumption
   have HBE:=HN.b
   refine zQG (v:= .tuple #[zBE (Cls.range 33 126),.bool true]) (by simp[results,Tryz.results231,go_sem, *]) rfl ⟨?_,(by repeat (first|exact zPg _ _|assumption|refine zP8 ?_|refine zP6 ?_ (by first|(simp;done)|(simp;omega)|omega) _|refine zP7 ?_ (by first|(simp;done)|(simp;omega)|omega) _))⟩
   rw[(congrArg zAn (zAV hs1)).trans zFf];simp only[Option.getD_some,Option.isSome_some]
  ·have hs1:(s.toList==[112,114,105,110,116])=true:=by assumption
   have HBE:=HN.b
   refine zQG (v:= .tuple #[zBE (Cls.range 32 126),.bool true]) (by simp[results,Tryz.results231,go_sem, *]) rfl ⟨?_,(by repeat (first|exact zPg _ _|assumption|refine zP8 ?_|refine zP6 ?_ (by first|(simp;done)|(simp;omega)|omega) _|refine zP7 ?_ (by first|(simp;done)|(simp;omega)|omega) _))⟩
   rw[(congrArg zAn (zAV hs1)).trans zFd];simp only[Option.getD_some,Option.isSome_some]
  ·have hs1:(s.toList==[112,117,110,99,116])=true:=by assumption
   refine zAA (X:=none) 2 [([1],0)] [] (by kernel_rfl) (by kernel_rfl) rfl (fun _ _ _ _ _ h=>h) ?_
   simp only[zAI,zAC,zAF,zAD,zAB,List.getD_cons_zero,List.getD_cons_succ,List.drop_succ_cons,List.drop_zero]
   repeat (go_big_quiet_step (fail))
   refine wpQuiet_nil ?_
   go_wp2_with fail
   refine(zBR _ _ (by omega) (by omega) (by omega) (by omega) _).mono ?_;rintro e w2 ⟨rfl,hb2⟩;have hkp:=zAJ.of_below (X:=none) hb2;have HN:=(HN.below (by repeat (first|exact zPg _ _|assumption|refine zP8 ?_|refine zP6 ?_ (by first|(simp;done)|(simp;omega)|omega) _|refine zP7 ?_ (by first|(simp;done)|(simp;omega)|omega) _))).below hb2;obtain⟨z0,z1,z2,z3⟩:=HN.z.cells;have f0:=zAE HN.z;have kz:=HN.z.lt;clear hb2
   go_wp2_with fail
   refine⟨hkp,wpQuiet_nil ?_⟩
   clear hkp
   go_wp2_with (first
    |(go_at_call 224;refine(zBR _ _ (by omega) (by omega) (by omega) (by omega) _).mono ?_;rintro e w2 ⟨rfl,hb2⟩;have HN:=(HN.below (by repeat (first|exact zPg _ _|assumption|refine zP8 ?_|refine zP6 ?_ (by first|(simp;done)|(simp;omega)|omega) _|refine zP7 ?_ (by first|(simp;done)|(simp;omega)|omega) _))).below hb2;obtain⟨z0,z1,z2,z3⟩:=HN.z.cells;have f0:=zAE HN.z;have kz:=HN.z.lt;clear hb2)
    |(go_at_call 213;refine(zBx _ _).mono ?_;rintro e w2 ⟨rfl,hb2⟩;have HN:=(HN.below (by repeat (first|exact zPg _ _|assumption|refine zP8 ?_|refine zP6 ?_ (by first|(simp;done)|(simp;omega)|omega) _|refine zP7 ?_ (by first|(simp;done)|(simp;omega)|omega) _))).below hb2;obtain⟨z0,z1,z2,z3⟩:=HN.z.cells;have f0:=zAE HN.z;have kz:=HN.z.lt;clear hb2)
    |(go_at_call 235;refine(zDr _ _).mono ?_;rintro e w2 ⟨rfl,hb2⟩;have HN:=(HN.below (by repeat (first|exact zPg _ _|assumption|refine zP8 ?_|refine zP6 ?_ (by first|(simp;done)|(simp;omega)|omega) _|refine zP7 ?_ (by first|(simp;done)|(simp;omega)|omega) _))).below hb2;obtain⟨z0,z1,z2,z3⟩:=HN.z.cells;have f0:=zAE HN.z;have kz:=HN.z.lt;clear hb2)
    |(go_at_call 214;refine(zDJ _).mono ?_;rintro e w2 ⟨rfl,hb2⟩;have HN:=(HN.below (by repeat (first|exact zPg _ _|assumption|refine zP8 ?_|refine zP6 ?_ (by first|(simp;done)|(simp;omega)|omega) _|refine zP7 ?_ (by first|(simp;done)|(simp;omega)|omega) _))).below hb2;obtain⟨z0,z1,z2,z3⟩:=HN.z.cells;have f0:=zAE HN.z;have kz:=HN.z.lt;clear hb2))
   have HBE:=HN.b
   refine zQG (v:= .tuple #[zBE ((Cls.range 33 126).and zCI.not),.bool true]) (by simp[results,Tryz.results231,go_sem, *]) rfl ⟨?_,(by repeat (first|exact zPg _ _|assumption|refine zP8 ?_|refine zP6 ?_ (by first|(simp;done)|(simp;omega)|omega) _|refine zP7 ?_ (by first|(simp;done)|(simp;omega)|omega) _))⟩
   rw[(congrArg zAn (zAV hs1)).trans zFc];simp only[Option.getD_some,Option.isSome_some]
  ·have HBE:=HN.b
   have hno:zAn (zAW s)=none:=zGX (zAQ (by assumption:(s.toList==[97,108,110,117,109])=false)) (zAQ (by assumption:(s.toList==[97,108,112,104,97])=false)) (zAQ (by assumption:(s.toList==[98,108,97,110,107])=false)) (zAQ (by assumption:(s.toList==[99,110,116,114,108])=false)) (zAQ (by assumption:(s.toList==[100,105,103,105,116])=false)) (zAQ (by assumption:(s.toList==[103,114,97,112,104])=false)) (zAQ (by assumption:(s.toList==[108,111,119,101,114])=false)) (zAQ (by assumption:(s.toList==[112,114,105,110,116])=false)) (zAQ (by assumption:(s.toList==[112,117,110,99,116])=false)) (zAQ (by assumption:(s.toList==[115,112,97,99,101])=false)) (zAQ (by assumption:(s.toList==[117,112,112,101,114])=false)) (zAQ (by assumption:(s.toList==[120,100,105,103,105,116])=false))
   refine zQG (v:= .tuple #[zBE Cls.zero,.bool false]) (by simp[results,Tryz.results231,go_sem, *];exact⟨rfl,rfl,rfl,rfl⟩) rfl ⟨?_,(by repeat (first|exact zPg _ _|assumption|refine zP8 ?_|refine zP6 ?_ (by first|(simp;done)|(simp;omega)|omega) _|refine zP7 ?_ (by first|(simp;done)|(simp;omega)|omega) _))⟩
   rw[hno];simp only[Option.getD_none,Option.isSome_none]
end
section
open Go.RowKit
def zKB (w:World) (B:Nat):Prop:= ∃cs:Array Value,cs.size=10∧w.heap[B]?=some (.cells cs 280 (0,0))
theorem zKB.lt {w:World} {B:Nat} (h:zKB w B):B<w.heap.size:=by
 obtain⟨_,_,h⟩:=h
 exact(zPn.1 h).1
theorem zKB.below {w w':World} {B:Nat} (h:zKB w B) (hb:Below w.heap.size w w'):zKB w' B:=by
 obtain⟨cs,hs,hc⟩:=h
 exact⟨cs,hs,(hb.block B (zKB.lt ⟨cs,hs,hc⟩)).trans hc⟩
theorem zKB.block {w w':World} {B:Nat} (h:zKB w B) (hb:w'.heap[B]?=w.heap[B]?):zKB w' B:=by
 obtain⟨cs,hs,hc⟩:=h
 exact⟨cs,hs,hb.trans hc⟩
def zJY (w:World) (B:Nat) (a b:Int) (f g:Bool) (x s0 s1 s2 s3 e:Int):World:=((((((((((w).setCell ⟨B,0,none⟩ (.int .i64 a)).setCell ⟨B,1,none⟩ (.int .i64 b)).setCell ⟨B,2,none⟩ (.bool f)).setCell ⟨B,3,none⟩ (.bool g)).setCell ⟨B,4,none⟩ (.int .u8 x)).setCell ⟨B,5,none⟩ (.int .u64 s0)).setCell ⟨B,6,none⟩ (.int .u64 s1)).setCell ⟨B,7,none⟩ (.int .u64 s2)).setCell ⟨B,8,none⟩ (.int .u64 s3)).setCell ⟨B,9,none⟩ (.int .i64 e)
theorem zAp (w:World) (B:Nat) (a b:Int) (f g:Bool) (x s0 s1 s2 s3 e:Int):((((((((((w).setCell ⟨B,0,none⟩ (.int .i64 a)).setCell ⟨B,1,none⟩ (.int .i64 b)).setCell ⟨B,2,none⟩ (.bool f)).setCell ⟨B,3,none⟩ (.bool g)).setCell ⟨B,4,none⟩ (.int .u8 x)).setCell ⟨B,5,none⟩ (.int .u64 s0)).setCell ⟨B,6,none⟩ (.int .u64 s1)).setCell ⟨B,7,none⟩ (.int .u64 s2)).setCell ⟨B,8,none⟩ (.int .u64 s3)).setCell ⟨B,9,none⟩ (.int .i64 e)=zJY w B a b f g x s0 s1 s2 s3 e:=rfl
theorem zNA {w:World} {B:Nat} (h:zKB w B) (a b:Int) (f g:Bool) (x s0 s1 s2 s3 e:Int):(zJY w B a b f g x s0 s1 s2 s3 e).heap[B]?=some (.cells #[.int .i64 a,.int .i64 b,.bool f,.bool g,.int .u8 x,.int .u64 s0,.int .u64 s1,.int .u64 s2,.int .u64 s3,.int .i64 e] 280 (0,0)):=by
 obtain⟨cs,hs,h⟩:=h
 obtain⟨a0,a1,a2,a3,a4,a5,a6,a7,a8,a9,rfl⟩: ∃a0 a1 a2 a3 a4 a5 a6 a7 a8 a9,cs= #[a0,a1,a2,a3,a4,a5,a6,a7,a8,a9]:=by
  obtain⟨l⟩:=cs
  match l,hs with
  |[a0,a1,a2,a3,a4,a5,a6,a7,a8,a9],_=>exact⟨a0,a1,a2,a3,a4,a5,a6,a7,a8,a9,rfl⟩
 simp[zJY,World.setCell,Array.getElem?_modify,h]
theorem zJX {w:World} {B k:Nat} (h:k≤B) (a b:Int) (f g:Bool) (x s0 s1 s2 s3 e:Int):Below k w (zJY w B a b f g x s0 s1 s2 s3 e):=(((((((((((zPg k w).setCell (p:=⟨B,0,none⟩) h _).setCell (p:=⟨B,1,none⟩) h _).setCell (p:=⟨B,2,none⟩) h _).setCell (p:=⟨B,3,none⟩) h _).setCell (p:=⟨B,4,none⟩) h _).setCell (p:=⟨B,5,none⟩) h _).setCell (p:=⟨B,6,none⟩) h _).setCell (p:=⟨B,7,none⟩) h _).setCell (p:=⟨B,8,none⟩) h _).setCell (p:=⟨B,9,none⟩) h _)
theorem zHK {w:World} {B:Nat} (a b:Int) (f g:Bool) (x s0 s1 s2 s3 e:Int):(zJY w B a b f g x s0 s1 s2 s3 e).heap.size=w.heap.size:=by simp[zJY]
theorem zLE {w1:World} {B:Nat} {a b:Int} {f g:Bool} {x s0 s1 s2 s3 e:Int} (h1:w1.heap[B]?=some (.cells #[.int .i64 a,.int .i64 b,.bool f,.bool g,.int .u8 x,.int .u64 s0,.int .u64 s1,.int .u64 s2,.int .u64 s3,.int .i64 e] 280 (0,0))):
  (loadVar 280 ⟨B,0,none⟩).run Tryz.prog w1= .ok (.agg #[.int .i64 a,.int .i64 b,.bool f,.bool g,.int .u8 x,.int .u64 s0,.int .u64 s1,.int .u64 s2,.int .u64 s3,.int .i64 e]) w1:=by
 have hc: ∀j,w1.cell? ⟨B,j,none⟩=(#[.int .i64 a,.int .i64 b,.bool f,.bool g,.int .u8 x,.int .u64 s0,.int .u64 s1,.int .u64 s2,.int .u64 s3,.int .i64 e]:Array Value)[j]?:=fun j=>zPu w1 B j _ _ (0,0) h1
 have c0:=hc 0
 have c1:=hc 1
 have c2:=hc 2
 have c3:=hc 3
 have c4:=hc 4
 have c5:=hc 5
 have c6:=hc 6
 have c7:=hc 7
 have c8:=hc 8
 have c9:=hc 9
 simp only[List.getElem?_toArray,List.getElem?_cons_zero,List.getElem?_cons_succ]at c0 c1 c2 c3 c4 c5 c6 c7 c8 c9
 simp[go_sem,c0,c1,c2,c3,c4,c5,c6,c7,c8,c9]
theorem zB5 {fn:Func} {p:Tmp} (h:fn.results= #[.cell p 280]) {A:Act} {w W w0:World} {B:Nat} {a b:Int} {f g:Bool} {x s0 s1 s2 s3 e:Int} {R:Value→Prop}
  (ha:A.tmps.getD p undef= .pointer (some ⟨B,0,none⟩)) (hd:A.defers=[]) (his:zKB w B) (hW:Below (B+1) (zJY w B a b f g x s0 s1 s2 s3 e) W)
  (hx:R (.agg #[.int .i64 a,.int .i64 b,.bool f,.bool g,.int .u8 x,.int .u64 s0,.int .u64 s1,.int .u64 s2,.int .u64 s3,.int .i64 e])) (hb:Below w0.heap.size w0 w) (hB:w0.heap.size≤B):
  bodyPost Tryz.prog fn (fun e w'=>(∃v,e= .returned v∧R v)∧Below w0.heap.size w0 w') .ret A W:=by
 refine zQG (v:= .agg #[.int .i64 a,.int .i64 b,.bool f,.bool g,.int .u8 x,.int .u64 s0,.int .u64 s1,.int .u64 s2,.int .u64 s3,.int .i64 e]) ?_ hd ⟨⟨_,rfl,hx⟩,(hb.trans (zJX hB _ _ _ _ _ _ _ _ _ _)).trans (hW.mono (by omega))⟩
 rw[zCi h,ha]
 simp[asAddr,zLE ((hW.block B (Nat.lt_succ_self _)).trans (zNA his a b f g x s0 s1 s2 s3 e)),Result.andThen]
theorem zKB.cells {w:World} {B:Nat} (h:zKB w B): ∃a0 a1 a2 a3 a4 a5 a6 a7 a8 a9,w.cell? ⟨B,0,none⟩=some a0∧w.cell? ⟨B,1,none⟩=some a1∧w.cell? ⟨B,2,none⟩=some a2∧w.cell? ⟨B,3,none⟩=some a3∧w.cell? ⟨B,4,none⟩=some a4∧w.cell? ⟨B,5,none⟩=some a5∧w.cell? ⟨B,6,none⟩=some a6∧w.cell? ⟨B,7,none⟩=some a7∧w.cell? ⟨B,8,none⟩=some a8∧w.cell? ⟨B,9,none⟩=some a9∧(∀o,w.frozen? ⟨B,o,none⟩=false):=by
 obtain⟨cs,hs,h⟩:=h
 obtain⟨a0,a1,a2,a3,a4,a5,a6,a7,a8,a9,rfl⟩: ∃a0 a1 a2 a3 a4 a5 a6 a7 a8 a9,cs= #[a0,a1,a2,a3,a4,a5,a6,a7,a8,a9]:=by
  obtain⟨l⟩:=cs
  match l,hs with
  |[a0,a1,a2,a3,a4,a5,a6,a7,a8,a9],_=>exact⟨a0,a1,a2,a3,a4,a5,a6,a7,a8,a9,rfl⟩
 have hc: ∀j,w.cell? ⟨B,j,none⟩=(#[a0,a1,a2,a3,a4,a5,a6,a7,a8,a9]:Array Value)[j]?:=fun j=>zPu w B j _ _ (0,0) h
 exact⟨a0,a1,a2,a3,a4,a5,a6,a7,a8,a9,hc 0,hc 1,hc 2,hc 3,hc 4,hc 5,hc 6,hc 7,hc 8,hc 9,zAE h⟩
abbrev tgV (a b:Int) (f g:Bool) (x:Int) (c:Cls):Value:= .agg #[.int .i64 a,.int .i64 b,.bool f,.bool g,.int .u8 x,.int .u64 c.w0.toNat,.int .u64 c.w1.toNat,.int .u64 c.w2.toNat,.int .u64 c.w3.toNat,.int .i64 0]
abbrev tgE (a e:Int):Value:= .agg #[.int .i64 a,.int .i64 0,.bool false,.bool false,.int .u8 0,.int .u64 0,.int .u64 0,.int .u64 0,.int .u64 0,.int .i64 e]
def ThR (L:List Mk) (at0 i:Nat) (r:Th × Option (Nat × Nat)) (v:Value):Prop:=
 match r with
 |(a,none)=>v=tgV i a.next a.fin (signAt L i 45) a.b a.set
 |(_,some (e,p))=>v=tgE i e∧(e=31∧p=i∨e=32∧p=at0)
section
variable {mb mo cap:Nat} {L:List Mk} {w:World}
theorem zAg (hm:zE8 w mb mo L) {x:Int} (i:Nat) (hx:x=i) (_hi:i≤8192) {y:Int} (c:Nat) (hy:y=c):
  Calls Tryz.prog 211 #[.slice (some ⟨mb,mo,none⟩) L.length cap,.int .i64 x,.int .u8 y] w fun e w'=>e= .returned (.bool (signAt L i c))∧w=w':=by
 subst hx
 subst hy
 by_cases hlt:i<L.length
 ·have hlt':(i:Int)<(L.length:Int):=by omega
  have hb:=hm.b i hlt
  have hp:=hm.p i hlt
  have hml:=hm.lt
  have hl:=hm.len
  have HE:=zPf (show signAt L i c=((zAH L i).b==c&& !(zAH L i).p)by simp[signAt,hlt])
  generalize zAH L i=m at hb hp HE
  obtain⟨bb,pl⟩:=m
  simp only at hb hp
  clear hm hlt
  cases pl with
  |true=>
   have HE2:=zPf (show signAt L i c=false by rw[HE.out];simp)
   clear HE
   go_enter Tryz.func211,Tryz.ntmps211
   go_wp2_with fail
   go_ret
   exact⟨zAk HE2.out.symm,rfl⟩
  |false=>
   by_cases hq:bb=c
   ·subst hq
    have HE2:=zPf (show signAt L i bb=true by rw[HE.out];simp)
    clear HE
    go_enter Tryz.func211,Tryz.ntmps211
    go_wp2_with fail
    go_ret
    exact⟨zAk HE2.out.symm,rfl⟩
   ·have HE2:=zPf (show signAt L i c=false by rw[HE.out];simp[hq])
    have e1:((bb:Int)==(c:Int))=false:=zPl.2 (by omega)
    clear HE
    go_enter Tryz.func211,Tryz.ntmps211
    go_wp2_with fail
    go_ret
    exact⟨zAk HE2.out.symm,rfl⟩
 ·have hlt': ¬(i:Int)<(L.length:Int):=by omega
  have HE:=zPf (show signAt L i c=false by simp[signAt,hlt])
  clear hm
  go_enter Tryz.func211,Tryz.ntmps211
  go_wp2_with fail
  go_ret
  exact⟨zAk HE.out.symm,rfl⟩
theorem zNF (x:Nat) (hx:x<256) (W:World):Calls Tryz.prog 232 #[.slice (some ⟨W.heap.size,0,none⟩) 1 1] (W.alloc (.cells #[.int .u8 (x:Nat)] 5)).drew fun e w'=>e= .returned (zBE (Cls.of [x]))∧Below (W.alloc (.cells #[.int .u8 (x:Nat)] 5)).drew.heap.size (W.alloc (.cells #[.int .u8 (x:Nat)] 5)).drew w':=by
 refine zKJ [x] (cap:=1) (by simpa using hx) (by simp) (by show W.heap.size<(W.alloc _).heap.size;simp) fun i hi=>?_
 obtain rfl:i=0:=by simp at hi;omega
 exact(zPu (W.alloc (.cells #[.int .u8 (x:Nat)] 5)) _ _ _ _ (0,0) (zPs W _)).trans rfl
theorem zJP (L:List Mk) (at0 i:Nat):zAT L at0 i=if L.length≤i then(Th.zero,some (32,at0))
  else if signAt L i 91&&signAt L (i+1) 58 then zC9 L at0 i
  else if signAt L i 91&&(signAt L (i+1) 61||signAt L (i+1) 46)then zAf L at0 i (if signAt L (i+1) 61 then 61 else 46)
  else(⟨Cls.of [(zAH L i).b],(zAH L i).b,true,i+1⟩,none):=by
 unfold zAT
 by_cases h0:L.length≤i
 ·rw[if_pos h0,if_pos h0]
 ·rw[if_neg h0,if_neg h0]
  cases h1:signAt L i 91 with
  |false=>simp
  |true=>
   by_cases h2:i+1<L.length
   ·generalize hmk:zAH L (i+1)=m
    obtain⟨bb,pl⟩:=m
    cases pl with
    |true=>simp[signAt,h2,hmk]
    |false=>
     simp only[signAt,h2,hmk,decide_true,Bool.true_and,Bool.not_false,Bool.and_true]
     by_cases h3:bb=58
     ·simp[h3]
     ·by_cases h4:bb=61
      ·simp[h4]
      ·by_cases h5:bb=46
       ·simp[h5]
       ·simp[h3,h4,h5]
   ·simp[signAt,h2]
theorem zGM (hm:zE8 w mb mo L) (at0:Nat) {y:Int} (i:Nat) (hy:y=i) (hi:i≤8000):
  Calls Tryz.prog 223 #[.slice (some ⟨mb,mo,none⟩) L.length cap,.int .i64 y] w fun e w'=>(∃v,e= .returned v∧ThR L at0 i (zAT L at0 i) v)∧Below w.heap.size w w':=by
 subst hy
 have hL:=hm.len
 have hm0lt:=hm.lt
 have HSP:=zPf (zJP L at0 i)
 go_enter Tryz.func223,Tryz.ntmps223
 go_upto_region 1 with fail
 have hT:zKB (w.alloc (.cells #[.int .i64 0,.int .i64 0,.bool false,.bool false,.int .u8 0,.int .u64 0,.int .u64 0,.int .u64 0,.int .u64 0,.int .i64 0] 280)) w.heap.size:=⟨_,rfl,zPs w _⟩
 have hB:Below w.heap.size w (w.alloc (.cells #[.int .i64 0,.int .i64 0,.bool false,.bool false,.int .u8 0,.int .u64 0,.int .u64 0,.int .u64 0,.int .u64 0,.int .i64 0] 280)):=(by repeat (first|exact zPg _ _|assumption|refine zP8 ?_|refine zP6 ?_ (by first|(simp;done)|(simp;omega)|omega) _|refine zP7 ?_ (by first|(simp;done)|(simp;omega)|omega) _))
 revert hT hB
 generalize w.alloc (.cells #[.int .i64 0,.int .i64 0,.bool false,.bool false,.int .u8 0,.int .u64 0,.int .u64 0,.int .u64 0,.int .u64 0,.int .i64 0] 280)=wx
 intro hT hB
 have hsz:=hT.lt
 have HM:=zPf (hm.below hB)
 have HT:=zPf hT
 have HB:=zPf hB
 clear hm hB
 obtain⟨z0,z1,z2,z3,z4,z5,z6,z7,z8,z9,k0,k1,k2,k3,k4,k5,k6,k7,k8,k9,f0⟩:=hT.cells
 clear hT
 by_cases h1:L.length≤i
 ·have HE:=zPf (show zAT L at0 i=(Th.zero,some (32,at0))by rw[HSP.out,if_pos h1])
  have h1': ¬i<L.length:=by omega
  go_wp2_with fail
  rw[zAp]
  exact zB5 Tryz.results223 rfl rfl HT.out (zPg _ _) (R:=ThR L at0 i (zAT L at0 i)) (by rw[HE.out];exact⟨rfl,.inr ⟨rfl,rfl⟩⟩) HB.out (zPh _)
 have hlt:i<L.length:=by omega
 have HS1:=zPf (show zAT L at0 i=_ by rw[HSP.out,if_neg h1])
 clear HSP
 go_upto_region 3 with fail
 go_cut [25] (fun x wc=>x= .bool (signAt L i 91&&signAt L (i+1) 58)∧wx=wc)
 case first=>
  clear HS1
  cases e1:signAt L i 91 with
  |false=>
   go_wp2_with fail
   refine(zAg HM.out (i) (by omega) (by omega) 91 (by omega)).mono ?_;rintro e w1 ⟨rfl,rfl⟩
   rw[e1]
   go_wp2_with fail
   go_meet
   exact⟨by rw[e1];rfl,rfl⟩
  |true=>
   cases e2:signAt L (i+1) 58 with
   |false=>
    go_wp2_with fail
    refine(zAg HM.out (i) (by omega) (by omega) 91 (by omega)).mono ?_;rintro e w1 ⟨rfl,rfl⟩
    rw[e1]
    go_wp2_with fail
    refine(zAg HM.out (i+1) (by omega) (by omega) 58 (by omega)).mono ?_;rintro e w1 ⟨rfl,rfl⟩
    rw[e2]
    go_wp2_with fail
    go_meet
    exact⟨by rw[e1,e2];rfl,rfl⟩
   |true=>
    go_wp2_with fail
    refine(zAg HM.out (i) (by omega) (by omega) 91 (by omega)).mono ?_;rintro e w1 ⟨rfl,rfl⟩
    rw[e1]
    go_wp2_with fail
    refine(zAg HM.out (i+1) (by omega) (by omega) 58 (by omega)).mono ?_;rintro e w1 ⟨rfl,rfl⟩
    rw[e2]
    go_wp2_with fail
    go_meet
    exact⟨by rw[e1,e2];rfl,rfl⟩
 case rest=>
  obtain⟨hx,rfl⟩:=hcut
  cases hc:(signAt L i 91&&signAt L (i+1) 58)with
  |true=>
   have HS2:=zPf (show zAT L at0 i=zC9 L at0 i by rw[HS1.out,if_pos hc])
   have HN45:=zPf (show signAt L i 45=false by
    simp only[Bool.and_eq_true]at hc
    have h5:=hc.1
    simp only[signAt,Bool.and_eq_true,beq_iff_eq]at h5
    simp[signAt,h5.2.1])
   have hi2:i+2≤L.length:=by
    simp only[Bool.and_eq_true,signAt,decide_eq_true_eq]at hc
    omega
   rw[hc]at hx
   subst hx
   clear hc HS1 k0 k1 k2 k3 k4 k5 k6 k7 k8 k9 f0
   go_wp2_with fail
   go_loopg [5,6] (L.length - (i+2)) (fun gk v kv wr=> ∃(k:Nat) (s:List Nat),kv= .int .i64 (k:Nat)∧gk=L.length - k∧i+2≤k∧k≤L.length∧wr.ownsRow (w.heap.size+1) 5 1 v s.length (u8s s)∧s.length≤k∧(∀b∈s,b<256)∧
    Hid (zC9 L at0 i=zCj L at0 i (L.length - k) k s)∧wr.heap[w.heap.size]?=wx.heap[w.heap.size]?∧Below w.heap.size w wr∧zE8 wr mb mo L)
   case atStart=>exact⟨i+2,[],by go_num,by omega,by omega,by omega,zPv _ _ _ _,by simp,by simp,rfl,rfl,HB.out,HM.out⟩
   case round=>
    obtain⟨k,s,rfl,hg,hk0,hk,hown,hsl,hs256,HS,hz,hbe,hmm⟩:=hrel
    have HG:=zPf hg
    have HO:=zPf hown
    have HZ:=zPf hz
    have HBE:=zPf hbe
    have HM2:=zPf hmm
    have H256:=zPf hs256
    clear hg hown hz hbe hmm hs256 HM
    obtain⟨HM⟩:Nonempty (Hid (zE8 wr mb mo L)):=⟨HM2⟩
    by_cases hlk:k<L.length
    ·have hlk':(k:Int)<(L.length:Int):=by omega
     have hm1:=HM.out.b k hlk
     have hu:=HM.out.u k hlk
     have hmb:=HM.out.lt
     have hsW:w.heap.size<wr.heap.size:=by
      have h6:=HT.out.block HZ.out
      exact h6.lt
     cases hq:(signAt L k 58&&signAt L (k+1) 93)with
     |false=>
      have HON:=zPf (zMI (at0:=at0) (b0:=i) (n:=L.length - (k+1)) (s:=s) hq)
      obtain⟨x,hx⟩: ∃x,x=(zAH L k).b:=⟨_,rfl⟩
      rw[←hx]at hm1 hu HON
      clear hx
      go_upto_region 8 with fail
      go_cut [42] (fun x wc=>x= .bool false∧wr=wc)
      case first=>
       cases e1:signAt L k 58 with
       |false=>
        go_wp2_with fail
        refine(zAg HM.out (k) (by omega) (by omega) 58 (by omega)).mono ?_;rintro e w1 ⟨rfl,rfl⟩
        rw[e1]
        go_wp2_with fail
        go_meet
        exact⟨rfl,rfl⟩
       |true=>
        have e2:signAt L (k+1) 93=false:=by rw[e1]at hq;simpa using hq
        go_wp2_with fail
        refine(zAg HM.out (k) (by omega) (by omega) 58 (by omega)).mono ?_;rintro e w1 ⟨rfl,rfl⟩
        rw[e1]
        go_wp2_with fail
        refine(zAg HM.out (k+1) (by omega) (by omega) 93 (by omega)).mono ?_;rintro e w1 ⟨rfl,rfl⟩
        rw[e2]
        go_wp2_with fail
        go_meet
        exact⟨rfl,rfl⟩
      case rest=>
       obtain⟨hx2,rfl⟩:=hcut
       subst hx2
       go_wp2_with (at_builtin;refine zAt zMs rfl _ _ rfl (w.heap.size+1) rfl (HO.out.alloc _) rfl (Src.new wr [.int .u8 (x:Nat)] _ _ _) rfl (by simp[Value.oneCell']) (by unfold maxLen;omega) (by omega) (by simp;omega) ?_)
       intro v1 w1 hown1 hgr _
       have hb1:Below (w.heap.size+1) wr w1:=Below.grown (zP6 (zPg _ _) (by omega) _) hgr (by simp;omega) (fun k hk=>(HO.out.lt k hk).1)
       have hown2:w1.ownsRow (w.heap.size+1) 5 1 v1 (s++[x]).length (u8s (s++[x])):=by simpa [u8s]using hown1
       have hbb:mb≤w.heap.size:=Nat.le_of_lt hm0lt
       have HF:=zPf (show w1.ownsRow (w.heap.size+1) 5 1 v1 (s++[x]).length (u8s (s++[x]))∧(s++[x]).length≤k+1∧(∀b∈s++[x],b<256)∧
        Hid (zC9 L at0 i=zCj L at0 i (L.length - (k+1)) (k+1) (s++[x]))∧w1.heap[w.heap.size]?=wx.heap[w.heap.size]?∧Below w.heap.size w w1∧zE8 w1 mb mo L from
        ⟨hown2,by simp;omega,fun b hb=>(zQA.1 hb).elim (H256.out b) (fun h=>by simp at h;omega),HS.out.trans ((congrArg (fun m=>zCj L at0 i m k s) (show L.length - k=L.length - (k+1)+1 by omega)).trans HON.out),(hb1.block _ (by omega)).trans HZ.out,HBE.out.trans (hb1.mono (by omega)),
         ⟨zPi HM.out.lt hb1.size,HM.out.len,fun j hj=>(zPj (a:=⟨mb,mo+j*2,none⟩) (hb1.block mb (by omega))).trans (HM.out.b j hj),fun j hj=>(zPj (a:=⟨mb,mo+j*2+1,none⟩) (hb1.block mb (by omega))).trans (HM.out.p j hj),HM.out.u⟩⟩)
       clear hown1 hown2 hgr hb1 H256 hm1 HS HON HZ HBE HM HO HM2
       go_wp2_with fail
       obtain⟨f3,f4,f5,f6,f7,f8,f9⟩:=HF.out
       go_roundg (L.length - (k+1))
       case measure=>have:=HG.out;omega
       case rel=>exact⟨k+1,_,by go_num,rfl,by omega,by omega,f3,f4,f5,f6,f7,f8,f9⟩
     |true=>
      simp only[Bool.and_eq_true]at hq
      obtain⟨e1,e2⟩:=hq
      have HD:=zPf (zIs (at0:=at0) (b0:=i) (n:=L.length - (k+1)) (s:=s) e1 e2)
      have hconv:=zKW HO.out
      have hbs:=zDw s H256.out
      generalize hstr:strOfNums (s.map fun b:Nat=>(b:Int))=str at hconv hbs
      have hnm:=zJe str (w:=wr)
      rw[hbs]at hnm
      have HNM:=zPf hnm
      have hlen:L.length - k=L.length - (k+1)+1:=by omega
      have HT2:=zPf (HT.out.block HZ.out)
      clear hstr hm1 hnm hbs HO H256 HZ HT
      go_wp2_with fail
      refine(zAg HM.out (k) (by omega) (by omega) 58 (by omega)).mono ?_;rintro e w1 ⟨rfl,rfl⟩
      rw[e1]
      go_wp2_with fail
      refine(zAg HM.out (k+1) (by omega) (by omega) 93 (by omega)).mono ?_;rintro e w1 ⟨rfl,rfl⟩
      rw[e2]
      go_wp2_with fail
      cases e3:zAn s with
      |none=>
       have HE:Hid (zAT L at0 i=(Th.zero,some (31,i))):=by
        rw[hlen]at HS
        refine HS2.out.trans (HS.out.trans (HD.out.trans ?_))
        rw[e3]
       rw[e3]at HNM
       simp only[Option.getD_none,Option.isSome_none]at HNM
       clear HS HD e3 hlen HS2
       refine HNM.out.mono ?_;rintro e w1 ⟨rfl,hb1⟩
       have hs1:w.heap.size<w1.heap.size:=zPi hsW hb1.size
       have HT3:=zPf (HT2.out.below hb1)
       have HBE1:=zPf (HBE.out.trans (hb1.mono (by omega)))
       obtain⟨z0,z1,z2,z3,z4,z5,z6,z7,z8,z9,k0,k1,k2,k3,k4,k5,k6,k7,k8,k9,f0⟩:=HT3.out.cells
       clear hb1 HBE HNM
       go_wp2_with fail
       rw[zAp]
       exact zB5 Tryz.results223 rfl rfl HT3.out ((zPg _ _).alloc (by rw[zHK];omega) _) (R:=ThR L at0 i (zAT L at0 i)) (by rw[HE.out];exact⟨rfl,.inl ⟨rfl,rfl⟩⟩) HBE1.out (zPh _)
      |some c=>
       have HE:Hid (zAT L at0 i=(⟨c,0,false,k+2⟩,none)):=by
        rw[hlen]at HS
        refine HS2.out.trans (HS.out.trans (HD.out.trans ?_))
        rw[e3]
       rw[e3]at HNM
       simp only[Option.getD_some,Option.isSome_some]at HNM
       clear HS HD e3 hlen HS2
       refine HNM.out.mono ?_;rintro e w1 ⟨rfl,hb1⟩
       have hs1:w.heap.size<w1.heap.size:=zPi hsW hb1.size
       have HT3:=zPf (HT2.out.below hb1)
       have HBE1:=zPf (HBE.out.trans (hb1.mono (by omega)))
       obtain⟨z0,z1,z2,z3,z4,z5,z6,z7,z8,z9,k0,k1,k2,k3,k4,k5,k6,k7,k8,k9,f0⟩:=HT3.out.cells
       clear hb1 HBE HNM
       go_wp2_with fail
       rw[zAp]
       exact zB5 Tryz.results223 rfl rfl HT3.out ((zPg _ _).alloc (by rw[zHK];omega) _) (R:=ThR L at0 i (zAT L at0 i)) (by rw[HE.out];show _=tgV _ _ _ (signAt L i 45) _ _;rw[HN45.out];rfl) HBE1.out (zPh _)
    ·have hlk': ¬(k:Int)<(L.length:Int):=by omega
     have HE:Hid (zAT L at0 i=(Th.zero,some (32,at0))):=by
      refine HS2.out.trans (HS.out.trans ?_)
      rw[show L.length - k=0 by omega]
      rfl
     have HT3:=zPf (HT.out.block HZ.out)
     have hs1:=HT3.out.lt
     obtain⟨z0,z1,z2,z3,z4,z5,z6,z7,z8,z9,k0,k1,k2,k3,k4,k5,k6,k7,k8,k9,f0⟩:=HT3.out.cells
     clear HS HS2 HO
     go_wp2_with fail
     rw[zAp]
     exact zB5 Tryz.results223 rfl rfl HT3.out (zPg _ _) (R:=ThR L at0 i (zAT L at0 i)) (by rw[HE.out];exact⟨rfl,.inr ⟨rfl,rfl⟩⟩) HBE.out (zPh _)
  |false=>
   have HS2:=zPf (show zAT L at0 i=if signAt L i 91&&(signAt L (i+1) 61||signAt L (i+1) 46)then zAf L at0 i (if signAt L (i+1) 61 then 61 else 46)else(⟨Cls.of [(zAH L i).b],(zAH L i).b,true,i+1⟩,none)by rw[HS1.out,if_neg (by rw[hc];decide)])
   rw[hc]at hx
   subst hx
   clear HS1 hc
   go_upto_region 15 with fail
   go_cut [82] (fun x wc=>x= .bool (signAt L i 91&&(signAt L (i+1) 61||signAt L (i+1) 46))∧wx=wc)
   case first=>
    clear HS2
    cases e1:signAt L i 91 with
    |false=>
     go_wp2_with fail
     refine(zAg HM.out (i) (by omega) (by omega) 91 (by omega)).mono ?_;rintro e w1 ⟨rfl,rfl⟩
     rw[e1]
     go_wp2_with fail
     go_meet
     exact⟨by rw[e1];rfl,rfl⟩
    |true=>
     cases e3:signAt L (i+1) 61 with
     |true=>
      go_wp2_with fail
      refine(zAg HM.out (i) (by omega) (by omega) 91 (by omega)).mono ?_;rintro e w1 ⟨rfl,rfl⟩
      rw[e1]
      go_wp2_with fail
      refine(zAg HM.out (i+1) (by omega) (by omega) 61 (by omega)).mono ?_;rintro e w1 ⟨rfl,rfl⟩
      rw[e3]
      go_wp2_with fail
      go_meet
      exact⟨by rw[e1,e3];rfl,rfl⟩
     |false=>
      obtain⟨b4,e4⟩: ∃b4,signAt L (i+1) 46=b4:=⟨_,rfl⟩
      go_wp2_with fail
      refine(zAg HM.out (i) (by omega) (by omega) 91 (by omega)).mono ?_;rintro e w1 ⟨rfl,rfl⟩
      rw[e1]
      go_wp2_with fail
      refine(zAg HM.out (i+1) (by omega) (by omega) 61 (by omega)).mono ?_;rintro e w1 ⟨rfl,rfl⟩
      rw[e3]
      go_wp2_with fail
      refine(zAg HM.out (i+1) (by omega) (by omega) 46 (by omega)).mono ?_;rintro e w1 ⟨rfl,rfl⟩
      rw[e4]
      cases b4 with
      |true=>
       go_wp2_with fail
       go_meet
       exact⟨by rw[e1,e3,e4];rfl,rfl⟩
      |false=>
       go_wp2_with fail
       go_meet
       exact⟨by rw[e1,e3,e4];rfl,rfl⟩
   case rest=>
    obtain⟨hx,rfl⟩:=hcut
    cases hc:(signAt L i 91&&(signAt L (i+1) 61||signAt L (i+1) 46))with
    |true=>
     have hi2:i+1<L.length:=by
      simp only[Bool.and_eq_true,Bool.or_eq_true,signAt,decide_eq_true_eq]at hc
      rcases hc.2 with h5|h5<;>omega
     obtain⟨by_,hby,hby46,hmk⟩: ∃by_,(if signAt L (i+1) 61 then 61 else 46)=by_∧(by_=61∨by_=46)∧(zAH L (i+1)).b=by_:=by
      by_cases h5:signAt L (i+1) 61=true
      ·refine⟨61,by rw[if_pos h5],.inl rfl,?_⟩
       simp only[signAt,Bool.and_eq_true,beq_iff_eq]at h5
       exact h5.2.1
      ·refine⟨46,by rw[if_neg h5],.inr rfl,?_⟩
       have h6:signAt L (i+1) 46=true:=by
        simp only[Bool.and_eq_true,Bool.or_eq_true]at hc
        exact hc.2.resolve_left h5
       simp only[signAt,Bool.and_eq_true,beq_iff_eq]at h6
       exact h6.2.1
     have HN45:=zPf (show signAt L i 45=false by
      simp only[Bool.and_eq_true]at hc
      have h5:=hc.1
      simp only[signAt,Bool.and_eq_true,beq_iff_eq]at h5
      simp[signAt,h5.2.1])
     have HS3:=zPf (show zAT L at0 i=zAf L at0 i by_ by rw[HS2.out,if_pos hc,hby])
     rw[hc]at hx
     subst hx
     have hmb1:=HM.out.b (i+1) hi2
     rw[hmk]at hmb1
     have hml:=HM.out.lt
     rw[show mo+(i+1)*2=mo+(i+1)*2 from rfl]at hmb1
     have hi2':(i:Int)+1<(L.length:Int):=by omega
     have hn1:((i:Int)+1).toNat=i+1:=by omega
     clear HS2 hc hby hmk
     go_upto_region 17 with fail
     clear hmb1
     by_cases h3:i+3<L.length
     ·have h3':(i:Int)+3<(L.length:Int):=by omega
      cases e5:signAt L (i+3) by_ with
      |false=>
       have HE:=zPf (show zAT L at0 i=(Th.zero,some (31,i))by rw[HS3.out,zAf,if_neg (by omega),if_pos (by rw[e5];rfl)])
       go_wp2_with fail
       refine(zAg HM.out (i+3) (by omega) (by omega) by_ (by omega)).mono ?_;rintro e w1 ⟨rfl,rfl⟩
       rw[e5]
       go_wp2_with fail
       rw[zAp]
       exact zB5 Tryz.results223 rfl rfl HT.out (zPg _ _) (R:=ThR L at0 i (zAT L at0 i)) (by rw[HE.out];exact⟨rfl,.inl ⟨rfl,rfl⟩⟩) HB.out (zPh _)
      |true=>
       by_cases h4:i+4<L.length
       ·have h4':(i:Int)+4<(L.length:Int):=by omega
        cases e6:signAt L (i+4) 93 with
        |false=>
         have HE:=zPf (show zAT L at0 i=(Th.zero,some (31,i))by rw[HS3.out,zAf,if_neg (by omega),if_neg (by rw[e5];decide),if_neg (by omega),if_pos (by rw[e6];rfl)])
         go_wp2_with fail
         refine(zAg HM.out (i+3) (by omega) (by omega) by_ (by omega)).mono ?_;rintro e w1 ⟨rfl,rfl⟩
         rw[e5]
         go_wp2_with fail
         refine(zAg HM.out (i+4) (by omega) (by omega) 93 (by omega)).mono ?_;rintro e w1 ⟨rfl,rfl⟩
         rw[e6]
         go_wp2_with fail
         rw[zAp]
         exact zB5 Tryz.results223 rfl rfl HT.out (zPg _ _) (R:=ThR L at0 i (zAT L at0 i)) (by rw[HE.out];exact⟨rfl,.inl ⟨rfl,rfl⟩⟩) HB.out (zPh _)
        |true=>
         have HE0:=zPf (show zAT L at0 i=(⟨Cls.of [(zAH L (i+2)).b],(zAH L (i+2)).b,by_==46,i+5⟩,none)by rw[HS3.out,zAf,if_neg (by omega),if_neg (by rw[e5];decide),if_neg (by omega),if_neg (by rw[e6];decide)])
         have hmb2:=HM.out.b (i+2) (by omega)
         have hmu:=HM.out.u (i+2) (by omega)
         have hn2:((i:Int)+2).toNat=i+2:=by omega
         have hi3:(i:Int)+2<(L.length:Int):=by omega
         obtain⟨x,hx⟩: ∃x,x=(zAH L (i+2)).b:=⟨_,rfl⟩
         rw[←hx]at hmb2 hmu HE0
         have HOF:=zPf (fun W=>zHy [x] #[.int .u8 (x:Nat)] rfl (by simpa using hmu) (by simp) W)
         generalize Cls.of [x]=c at HE0 HOF
         obtain⟨c0,c1,c2,c3⟩:=c
         clear hx
         go_wp2_with fail
         refine(zAg HM.out (i+3) (by omega) (by omega) by_ (by omega)).mono ?_;rintro e w1 ⟨rfl,rfl⟩
         rw[e5]
         go_wp2_with fail
         refine(zAg HM.out (i+4) (by omega) (by omega) 93 (by omega)).mono ?_;rintro e w1 ⟨rfl,rfl⟩
         rw[e6]
         go_wp2_with fail
         refine(HOF.out _).mono ?_;rintro e w1 ⟨rfl,hb1⟩
         have hbx:Below wx.heap.size wx w1:=((zPg _ _).alloc (zPh _) _).trans (hb1.mono (by simp))
         have HBE1:=zPf (HB.out.trans (hbx.mono HB.out.size))
         have HT3:=zPf (HT.out.below hbx)
         have hs1:=HT3.out.lt
         clear k0 k1 k2 k3 k4 k5 k6 k7 k8 k9 f0 hb1 hbx HOF hmb2 HT HB HM
         obtain⟨z0,z1,z2,z3,z4,z5,z6,z7,z8,z9,k0,k1,k2,k3,k4,k5,k6,k7,k8,k9,f0⟩:=HT3.out.cells
         rcases hby46 with rfl|rfl
         all_goals
          go_wp2_with fail
          rw[zAp]
          exact zB5 Tryz.results223 rfl rfl HT3.out (zPg _ _) (R:=ThR L at0 i (zAT L at0 i)) (by rw[HE0.out];show _=tgV _ _ _ (signAt L i 45) _ _;rw[HN45.out];rfl) HBE1.out (zPh _)
       ·have h4': ¬(i:Int)+4<(L.length:Int):=by omega
        have h4'':(L.length:Int)≤(i:Int)+4:=by omega
        have HE:=zPf (show zAT L at0 i=(Th.zero,some (32,at0))by rw[HS3.out,zAf,if_neg (by omega),if_neg (by rw[e5];decide),if_pos (by omega)])
        go_wp2_with fail
        refine(zAg HM.out (i+3) (by omega) (by omega) by_ (by omega)).mono ?_;rintro e w1 ⟨rfl,rfl⟩
        rw[e5]
        go_wp2_with fail
        rw[zAp]
        exact zB5 Tryz.results223 rfl rfl HT.out (zPg _ _) (R:=ThR L at0 i (zAT L at0 i)) (by rw[HE.out];exact⟨rfl,.inr ⟨rfl,rfl⟩⟩) HB.out (zPh _)
     ·have h3': ¬(i:Int)+3<(L.length:Int):=by omega
      have h4': ¬(i:Int)+4<(L.length:Int):=by omega
      have h4'':(L.length:Int)≤(i:Int)+4:=by omega
      have HE:=zPf (show zAT L at0 i=(Th.zero,some (32,at0))by rw[HS3.out,zAf,if_pos (by omega)])
      go_wp2_with fail
      rw[zAp]
      exact zB5 Tryz.results223 rfl rfl HT.out (zPg _ _) (R:=ThR L at0 i (zAT L at0 i)) (by rw[HE.out];exact⟨rfl,.inr ⟨rfl,rfl⟩⟩) HB.out (zPh _)
    |false=>
     have HS3:=zPf (show zAT L at0 i=(⟨Cls.of [(zAH L i).b],(zAH L i).b,true,i+1⟩,none)by rw[HS2.out,if_neg (by rw[hc];decide)])
     rw[hc]at hx
     subst hx
     clear HS2 hc
     have hmb2:=HM.out.b i hlt
     have hmu:=HM.out.u i hlt
     have hml:=HM.out.lt
     have hi3:(i:Int)<(L.length:Int):=by omega
     obtain⟨x,hx⟩: ∃x,x=(zAH L i).b:=⟨_,rfl⟩
     rw[←hx]at hmb2 hmu HS3
     have HOF:=zPf (fun W=>zNF x hmu W)
     generalize Cls.of [x]=c at HS3 HOF
     obtain⟨c0,c1,c2,c3⟩:=c
     obtain⟨b45,hb45⟩: ∃b,signAt L i 45=b:=⟨_,rfl⟩
     have H45:=zPf hb45
     clear hx hb45 k0 k1 k2 k3 k4 k5 k6 k7 k8 k9 f0
     go_upto_region 23 with fail
     refine zF8 (X:=none) 18 5 [([0,1,2,3,4,6,7,8,9,10,11,12,13,14,15],16)] [([],17)] [] (by kernel_rfl) (by kernel_rfl) rfl (fun _ _ _ _ _ h=>h) ?_
     simp only[zHn,zAI,zAC,zAF,zAD,List.nil_append,zAB,List.getD_cons_zero,List.getD_cons_succ,List.drop_succ_cons,List.drop_zero]
     repeat (go_big_quiet_step (fail))
     refine wpQuiet_nil ?_
     refine⟨?_,?_⟩
     ·go_wp2_with fail
      refine⟨zAa (zAR _ _),wpQuiet_nil ?_⟩
      go_wp2_with fail
      refine(zAg (HM.out.below ((zPg _ _).alloc (zPh _) _).drew) i (by omega) (by omega) 45 (by omega)).mono ?_;rintro e w1 ⟨rfl,rfl⟩
      rw[H45.out]
      go_wp2_with fail
      refine⟨zAJ.refl _,wpQuiet_nil ?_⟩
      go_wp2_with fail
      refine(HOF.out wx).mono ?_;rintro e w1 ⟨rfl,hb1⟩
      have hbx:Below wx.heap.size wx w1:=((zPg _ _).alloc (zPh _) _).drew.trans (hb1.mono (by show wx.heap.size≤(wx.alloc _).heap.size;simp))
      have HBE1:=zPf (HB.out.trans (hbx.mono HB.out.size))
      have HT3:=zPf (HT.out.below hbx)
      have hs1:=HT3.out.lt
      have HKP:=zPf (zAJ.of_below (X:=none) hb1)
      clear hb1 hbx HOF hmb2 HT HB HM
      obtain⟨z0,z1,z2,z3,z4,z5,z6,z7,z8,z9,k0,k1,k2,k3,k4,k5,k6,k7,k8,k9,f0⟩:=HT3.out.cells
      go_wp2_with fail
      refine⟨HKP.out,wpQuiet_nil ?_⟩
      go_wp2_with fail
      rw[zAp]
      exact zB5 Tryz.results223 rfl rfl HT3.out (zPg _ _) (R:=ThR L at0 i (zAT L at0 i)) (by rw[HS3.out];show _=tgV _ _ _ (signAt L i 45) _ _;rw[H45.out];rfl) HBE1.out (zPh _)
     ·go_wp2_with fail
      refine(zAg (HM.out.below (zPg _ _).drew) i (by omega) (by omega) 45 (by omega)).mono ?_;rintro e w1 ⟨rfl,rfl⟩
      rw[H45.out]
      go_wp2_with fail
      refine⟨zAJ.refl _,wpQuiet_nil ?_⟩
      go_wp2_with fail
      refine⟨zAa (zAR _ _),wpQuiet_nil ?_⟩
      go_wp2_with fail
      refine(HOF.out wx).mono ?_;rintro e w1 ⟨rfl,hb1⟩
      have hbx:Below wx.heap.size wx w1:=((zPg _ _).alloc (zPh _) _).drew.trans (hb1.mono (by show wx.heap.size≤(wx.alloc _).heap.size;simp))
      have HBE1:=zPf (HB.out.trans (hbx.mono HB.out.size))
      have HT3:=zPf (HT.out.below hbx)
      have hs1:=HT3.out.lt
      have HKP:=zPf (zAJ.of_below (X:=none) hb1)
      clear hb1 hbx HOF hmb2 HT HB HM
      obtain⟨z0,z1,z2,z3,z4,z5,z6,z7,z8,z9,k0,k1,k2,k3,k4,k5,k6,k7,k8,k9,f0⟩:=HT3.out.cells
      go_wp2_with fail
      refine⟨HKP.out,wpQuiet_nil ?_⟩
      go_wp2_with fail
      rw[zAp]
      exact zB5 Tryz.results223 rfl rfl HT3.out (zPg _ _) (R:=ThR L at0 i (zAT L at0 i)) (by rw[HS3.out];show _=tgV _ _ _ (signAt L i 45) _ _;rw[H45.out];rfl) HBE1.out (zPh _)
end
end
section
open Go.RowKit
def zKj (w:World) (B:Nat) (a b:Int) (f g:Bool) (x s0 s1 s2 s3 e:Int):Prop:=w.heap[B]?=some (.cells #[.int .i64 a,.int .i64 b,.bool f,.bool g,.int .u8 x,.int .u64 s0,.int .u64 s1,.int .u64 s2,.int .u64 s3,.int .i64 e] 280 (0,0))
section
variable {w w':World} {B:Nat} {a b:Int} {f g:Bool} {x s0 s1 s2 s3 e:Int}
theorem zKj.lt (h:zKj w B a b f g x s0 s1 s2 s3 e):B<w.heap.size:=(zPn.1 h).1
theorem zKj.below (h:zKj w B a b f g x s0 s1 s2 s3 e) (hb:Below w.heap.size w w'):zKj w' B a b f g x s0 s1 s2 s3 e:=(hb.block B h.lt).trans h
theorem zKj.cells (h:zKj w B a b f g x s0 s1 s2 s3 e):w.cell? ⟨B,0,none⟩=some (.int .i64 a)∧w.cell? ⟨B,1,none⟩=some (.int .i64 b)∧w.cell? ⟨B,2,none⟩=some (.bool f)∧w.cell? ⟨B,3,none⟩=some (.bool g)∧w.cell? ⟨B,4,none⟩=some (.int .u8 x)∧w.cell? ⟨B,5,none⟩=some (.int .u64 s0)∧w.cell? ⟨B,6,none⟩=some (.int .u64 s1)∧w.cell? ⟨B,7,none⟩=some (.int .u64 s2)∧w.cell? ⟨B,8,none⟩=some (.int .u64 s3)∧w.cell? ⟨B,9,none⟩=some (.int .i64 e):=
 have hc: ∀j,w.cell? ⟨B,j,none⟩=(#[.int .i64 a,.int .i64 b,.bool f,.bool g,.int .u8 x,.int .u64 s0,.int .u64 s1,.int .u64 s2,.int .u64 s3,.int .i64 e]:Array Value)[j]?:=fun j=>zPu w B j _ _ (0,0) h
 ⟨hc 0,hc 1,hc 2,hc 3,hc 4,hc 5,hc 6,hc 7,hc 8,hc 9⟩
end
def ItR (at0:Nat) (r:Th × Option (Nat × Nat)) (v:Value):Prop:=
 match r with
 |(a,none)=> ∃(fr:Int) (fin bare:Bool) (x:Int),v=tgV fr a.next fin bare x a.set
 |(_,some (er,p))=> ∃fr:Nat,v=tgE fr er∧(er=32∧p=at0∨fr=p∧(er=30∨er=31))
theorem zLF (L:List Mk) (at0 i:Nat) (first:Bool):zAb L at0 i first=match zAT L at0 i with
 |(a,some f)=>(a,some f)
 |(a,none)=>
  if signAt L i 45&& !first&& !signAt L (i+1) 93 then
   if L.length≤i+1 then(a,some (32,at0))else(a,some (30,i))
  else if !signAt L a.next 45||decide (L.length≤a.next+1)||signAt L (a.next+1) 93 then(a,none)
  else if !a.fin then(a,some (30,i))
  else match zAT L at0 (a.next+1)with
   |(b,some f)=>(b,some f)
   |(b,none)=>if !b.fin||decide (b.b<a.b)then(b,some (30,i))else(⟨Cls.range a.b b.b,0,false,b.next⟩,none):=rfl
section
variable {mb mo cap:Nat} {L:List Mk} {w:World}
theorem zKv (hm:zE8 w mb mo L) (at0:Nat) {y:Int} (i:Nat) (hy:y=i) (hi:i≤5000) {z:Int} (fi:Nat) (hz:z=fi) (first:Bool) (hf:first=(i==fi)):
  Calls Tryz.prog 212 #[.slice (some ⟨mb,mo,none⟩) L.length cap,.int .i64 y,.int .i64 z] w fun e w'=>(∃v,e= .returned v∧ItR at0 (zAb L at0 i first) v)∧Below w.heap.size w w':=by
 subst hy
 subst hz
 have hL:=hm.len
 have HU:=zPf hm.u
 have HSP:=zPf (zLF L at0 i first)
 have HF:=zPf (show((i:Int) !=(fi:Int))= !first by rw[hf];rw[Bool.eq_iff_iff];simp;omega)
 clear hf
 go_enter Tryz.func212,Tryz.ntmps212
 go_upto_region 1 with fail
 have hT:zKB (w.alloc (.cells #[.int .i64 0,.int .i64 0,.bool false,.bool false,.int .u8 0,.int .u64 0,.int .u64 0,.int .u64 0,.int .u64 0,.int .i64 0] 280)) w.heap.size:=⟨_,rfl,zPs w _⟩
 have hB:Below w.heap.size w (w.alloc (.cells #[.int .i64 0,.int .i64 0,.bool false,.bool false,.int .u8 0,.int .u64 0,.int .u64 0,.int .u64 0,.int .u64 0,.int .i64 0] 280)):=(by repeat (first|exact zPg _ _|assumption|refine zP8 ?_|refine zP6 ?_ (by first|(simp;done)|(simp;omega)|omega) _|refine zP7 ?_ (by first|(simp;done)|(simp;omega)|omega) _))
 revert hT hB
 generalize w.alloc (.cells #[.int .i64 0,.int .i64 0,.bool false,.bool false,.int .u8 0,.int .u64 0,.int .u64 0,.int .u64 0,.int .u64 0,.int .i64 0] 280)=wx
 intro hT hB
 have hsz:=hT.lt
 have HM:=zPf (hm.below hB)
 have HT:=zPf hT
 have HB:=zPf hB
 clear hm hT hB
 go_wp2_with fail
 refine(zGM HM.out at0 i rfl (by omega)).mono ?_;rintro e w1 ⟨⟨v,rfl,hv⟩,hb1⟩
 have HT1:=zPf (HT.out.below hb1)
 have HM1:=zPf (HM.out.below hb1)
 have HB1:=zPf (HB.out.trans (hb1.mono HB.out.size))
 clear hb1 HT HM HB hsz
 cases hth:zAT L at0 i with
 |mk a f=>
 cases f with
 |some q=>
  obtain⟨er,p⟩:=q
  rw[hth]at hv
  obtain⟨rfl,hep⟩:=hv
  have HE:=zPf (show zAb L at0 i first=(a,some (er,p))by rw[HSP.out,hth])
  have hne:((er:Int) !=0)=true:=by rw[bne_iff_ne];omega
  have HEP:=zPf (show er=32∧p=at0∨i=p∧(er=30∨er=31)by omega)
  clear HSP hth hep
  go_upto_region 2 with fail
  have hA:zKj (w1.alloc (.cells #[.int .i64 (i:Nat),.int .i64 0,.bool false,.bool false,.int .u8 0,.int .u64 0,.int .u64 0,.int .u64 0,.int .u64 0,.int .i64 (er:Nat)] 280)) w1.heap.size i 0 false false 0 0 0 0 0 er:=zPs w1 _
  have hb2:Below w1.heap.size w1 (w1.alloc (.cells #[.int .i64 (i:Nat),.int .i64 0,.bool false,.bool false,.int .u8 0,.int .u64 0,.int .u64 0,.int .u64 0,.int .u64 0,.int .i64 (er:Nat)] 280)):=(by repeat (first|exact zPg _ _|assumption|refine zP8 ?_|refine zP6 ?_ (by first|(simp;done)|(simp;omega)|omega) _|refine zP7 ?_ (by first|(simp;done)|(simp;omega)|omega) _))
  revert hA hb2
  generalize w1.alloc (.cells #[.int .i64 (i:Nat),.int .i64 0,.bool false,.bool false,.int .u8 0,.int .u64 0,.int .u64 0,.int .u64 0,.int .u64 0,.int .i64 (er:Nat)] 280)=w2
  intro hA hb2
  have HT2:=zPf (HT1.out.below hb2)
  have HB2:=zPf (HB1.out.trans (hb2.mono HB1.out.size))
  have hsz:=HT2.out.lt
  have hal:=hA.lt
  clear hb2 HT1 HB1 HM1
  obtain⟨z0,z1,z2,z3,z4,z5,z6,z7,z8,z9,k0,k1,k2,k3,k4,k5,k6,k7,k8,k9,f0⟩:=HT2.out.cells
  obtain⟨a0,a1,a2,a3,a4,a5,a6,a7,a8,a9⟩:=hA.cells
  clear hA
  generalize w1.heap.size=B1 at*
  go_wp2_with fail
  rw[zAp]
  exact zB5 Tryz.results212 rfl rfl HT2.out (zPg _ _) (R:=ItR at0 (zAb L at0 i first)) (by rw[HE.out];exact⟨_,rfl,HEP.out⟩) HB2.out (zPh _)
 |none=>
  obtain⟨h1n,h2n,h256⟩:=zBd hth HU.out
  rw[hth]at hv
  have HSA:=zPf (show zAb L at0 i first=_ by rw[HSP.out,hth])
  obtain⟨⟨c0,c1,c2,c3⟩,ab,af,an⟩:=a
  obtain⟨b45,hb45⟩: ∃b,signAt L i 45=b:=⟨_,rfl⟩
  have hv2:v=tgV i an af b45 ab ⟨c0,c1,c2,c3⟩:=by rw[←hb45];exact hv
  subst hv2
  simp only at HSA h1n h2n h256
  rw[hb45]at HSA
  clear HSP hth hv hb45
  go_upto_region 2 with fail
  have hA:zKj (w1.alloc (.cells #[.int .i64 (i:Nat),.int .i64 (an:Nat),.bool af,.bool b45,.int .u8 (ab:Nat),.int .u64 c0.toNat,.int .u64 c1.toNat,.int .u64 c2.toNat,.int .u64 c3.toNat,.int .i64 0] 280)) w1.heap.size i an af b45 ab c0.toNat c1.toNat c2.toNat c3.toNat 0:=zPs w1 _
  have hb2:Below w1.heap.size w1 (w1.alloc (.cells #[.int .i64 (i:Nat),.int .i64 (an:Nat),.bool af,.bool b45,.int .u8 (ab:Nat),.int .u64 c0.toNat,.int .u64 c1.toNat,.int .u64 c2.toNat,.int .u64 c3.toNat,.int .i64 0] 280)):=(by repeat (first|exact zPg _ _|assumption|refine zP8 ?_|refine zP6 ?_ (by first|(simp;done)|(simp;omega)|omega) _|refine zP7 ?_ (by first|(simp;done)|(simp;omega)|omega) _))
  revert hA hb2
  generalize w1.alloc (.cells #[.int .i64 (i:Nat),.int .i64 (an:Nat),.bool af,.bool b45,.int .u8 (ab:Nat),.int .u64 c0.toNat,.int .u64 c1.toNat,.int .u64 c2.toNat,.int .u64 c3.toNat,.int .i64 0] 280)=w2
  intro hA hb2
  have HT2:=zPf (HT1.out.below hb2)
  have HM2:=zPf (HM1.out.below hb2)
  have HB2:=zPf (HB1.out.trans (hb2.mono HB1.out.size))
  have hsz:=HT2.out.lt
  have hal:=hA.lt
  clear hb2 HT1 HB1 HM1
  have HA:=zPf hA
  obtain⟨a0,a1,a2,a3,a4,a5,a6,a7,a8,a9⟩:=hA.cells
  clear hA
  generalize w1.heap.size=B1 at*
  go_upto_region 4 with fail
  go_cut [29] (fun x wc=>x= .bool (b45&& !first&& !signAt L (i+1) 93)∧w2=wc)
  case first=>
   clear HSA
   cases b45 with
   |false=>
    go_wp2_with fail
    go_meet
    exact⟨rfl,rfl⟩
   |true=>
    cases first with
    |true=>
     have e1:((i:Int) !=(fi:Int))=false:=HF.out
     go_wp2_with fail
     go_meet
     exact⟨rfl,rfl⟩
    |false=>
     have e1:((i:Int) !=(fi:Int))=true:=HF.out
     obtain⟨b9,e9⟩: ∃b,signAt L (i+1) 93=b:=⟨_,rfl⟩
     have H9:=zPf e9
     clear e9
     go_wp2_with fail
     refine(zAg HM2.out (i+1) (by omega) (by omega) 93 (by omega)).mono ?_;rintro e ww ⟨rfl,rfl⟩
     rw[H9.out]
     go_wp2_with fail
     go_meet
     exact⟨by rw[H9.out];cases b9<;>rfl,rfl⟩
  case rest=>
   obtain⟨hx,rfl⟩:=hcut
   cases hc:(b45&& !first&& !signAt L (i+1) 93)with
   |true=>
    have HS2:=zPf (show zAb L at0 i first=_ by rw[HSA.out,if_pos hc])
    rw[hc]at hx
    subst hx
    obtain⟨z0,z1,z2,z3,z4,z5,z6,z7,z8,z9,k0,k1,k2,k3,k4,k5,k6,k7,k8,k9,f0⟩:=HT2.out.cells
    clear HSA hc
    by_cases h3:L.length≤i+1
    ·have h3':(L.length:Int)≤(i:Int)+1:=by omega
     have HE:=zPf (show zAb L at0 i first=_ by rw[HS2.out,if_pos h3])
     go_wp2_with fail
     rw[zAp]
     exact zB5 Tryz.results212 rfl rfl HT2.out (zPg _ _) (R:=ItR at0 (zAb L at0 i first)) (by rw[HE.out];exact⟨_,rfl,.inl ⟨rfl,rfl⟩⟩) HB2.out (zPh _)
    ·have h3': ¬(L.length:Int)≤(i:Int)+1:=by omega
     have h3'':(i:Int)+1<(L.length:Int):=by omega
     have HE:=zPf (show zAb L at0 i first=_ by rw[HS2.out,if_neg h3])
     go_wp2_with fail
     rw[zAp]
     exact zB5 Tryz.results212 rfl rfl HT2.out (zPg _ _) (R:=ItR at0 (zAb L at0 i first)) (by rw[HE.out];exact⟨_,rfl,.inr ⟨rfl,.inl rfl⟩⟩) HB2.out (zPh _)
   |false=>
    have HS2:=zPf (show zAb L at0 i first=_ by rw[HSA.out,if_neg (by rw[hc];decide)])
    rw[hc]at hx
    subst hx
    clear HSA hc
    go_upto_region 8 with fail
    go_cut [58] (fun x wc=>x= .bool (!signAt L an 45||decide (L.length≤an+1)||signAt L (an+1) 93)∧w2=wc)
    case first=>
     clear HS2
     obtain⟨b4,e4⟩: ∃b,signAt L an 45=b:=⟨_,rfl⟩
     have H4:=zPf e4
     clear e4
     go_wp2_with fail
     refine(zAg HM2.out (an) (by omega) (by omega) 45 (by omega)).mono ?_;rintro e ww ⟨rfl,rfl⟩
     rw[H4.out]
     cases b4 with
     |false=>
      go_wp2_with fail
      go_meet
      exact⟨by rw[H4.out];rfl,rfl⟩
     |true=>
      by_cases h3:L.length≤an+1
      ·have h3':(L.length:Int)≤(an:Int)+1:=by omega
       have H3:=zPf (zPq h3)
       clear h3
       go_wp2_with fail
       go_meet
       exact⟨by rw[H4.out,H3.out];rfl,rfl⟩
      ·have h3': ¬(L.length:Int)≤(an:Int)+1:=by omega
       have h3'':(an:Int)+1<(L.length:Int):=by omega
       have H3:=zPf (zPr h3)
       obtain⟨b9,e9⟩: ∃b,signAt L (an+1) 93=b:=⟨_,rfl⟩
       have H9:=zPf e9
       clear e9 h3
       go_wp2_with fail
       refine(zAg HM2.out (an+1) (by omega) (by omega) 93 (by omega)).mono ?_;rintro e ww ⟨rfl,rfl⟩
       rw[H9.out]
       go_wp2_with fail
       go_meet
       exact⟨by rw[H4.out,H3.out,H9.out,zPr (show¬(L.length:Int)≤(an:Int)+1 by omega)];rfl,rfl⟩
    case rest=>
     obtain⟨hx,rfl⟩:=hcut
     cases hc:(!signAt L an 45||decide (L.length≤an+1)||signAt L (an+1) 93)with
     |true=>
      have HE:=zPf (show zAb L at0 i first=_ by rw[HS2.out,if_pos hc])
      rw[hc]at hx
      subst hx
      obtain⟨z0,z1,z2,z3,z4,z5,z6,z7,z8,z9,k0,k1,k2,k3,k4,k5,k6,k7,k8,k9,f0⟩:=HT2.out.cells
      clear HS2 hc
      go_wp2_with fail
      rw[zAp]
      exact zB5 Tryz.results212 rfl rfl HT2.out (zPg _ _) (R:=ItR at0 (zAb L at0 i first)) (by rw[HE.out];exact⟨_,_,_,_,rfl⟩) HB2.out (zPh _)
     |false=>
      have HS3:=zPf (show zAb L at0 i first=_ by rw[HS2.out,if_neg (by rw[hc];decide)])
      have hnl:an+1<L.length:=by
       simp only[Bool.or_eq_false_iff,decide_eq_false_iff_not]at hc
       omega
      rw[hc]at hx
      subst hx
      clear HS2 hc
      cases af with
      |false=>
       have HE:=zPf (show zAb L at0 i first=_ by rw[HS3.out,if_pos (show(!false)=true from rfl)])
       obtain⟨z0,z1,z2,z3,z4,z5,z6,z7,z8,z9,k0,k1,k2,k3,k4,k5,k6,k7,k8,k9,f0⟩:=HT2.out.cells
       go_wp2_with fail
       rw[zAp]
       exact zB5 Tryz.results212 rfl rfl HT2.out (zPg _ _) (R:=ItR at0 (zAb L at0 i first)) (by rw[HE.out];exact⟨_,rfl,.inr ⟨rfl,.inl rfl⟩⟩) HB2.out (zPh _)
      |true=>
       have HS4:=zPf (show zAb L at0 i first=_ by rw[HS3.out,if_neg (show¬(!true)=true by decide)])
       clear HS3
       go_wp2_with fail
       refine(zGM HM2.out at0 (an+1) (by omega) (by omega)).mono ?_;rintro e w3 ⟨⟨v3,rfl,hv3⟩,hb3⟩
       have HT3:=zPf (HT2.out.below hb3)
       have HA3:=zPf (HA.out.below hb3)
       have HB3:=zPf (HB2.out.trans (hb3.mono HB2.out.size))
       clear hb3 HT2 HM2 HA HB2 hsz hal a0 a1 a2 a3 a4 a5 a6 a7 a8 a9
       cases hth:zAT L at0 (an+1)with
       |mk b f2=>
       cases f2 with
       |some q=>
        obtain⟨er,p⟩:=q
        rw[hth]at hv3
        obtain⟨rfl,hep⟩:=hv3
        have HE:=zPf (show zAb L at0 i first=(b,some (er,p))by rw[HS4.out,hth])
        have hne:((er:Int) !=0)=true:=by rw[bne_iff_ne];omega
        have HEP:=zPf (show er=32∧p=at0∨an+1=p∧(er=30∨er=31)by omega)
        clear HS4 hth hep
        rw[Int.natCast_add,show((1:Nat):Int)=1 from rfl]
        go_upto_region 13 with fail
        have hA:zKj (w3.alloc (.cells #[.int .i64 ((an:Int)+1),.int .i64 0,.bool false,.bool false,.int .u8 0,.int .u64 0,.int .u64 0,.int .u64 0,.int .u64 0,.int .i64 (er:Nat)] 280)) w3.heap.size ((an:Int)+1) 0 false false 0 0 0 0 0 er:=zPs w3 _
        have hb4:Below w3.heap.size w3 (w3.alloc (.cells #[.int .i64 ((an:Int)+1),.int .i64 0,.bool false,.bool false,.int .u8 0,.int .u64 0,.int .u64 0,.int .u64 0,.int .u64 0,.int .i64 (er:Nat)] 280)):=(by repeat (first|exact zPg _ _|assumption|refine zP8 ?_|refine zP6 ?_ (by first|(simp;done)|(simp;omega)|omega) _|refine zP7 ?_ (by first|(simp;done)|(simp;omega)|omega) _))
        revert hA hb4
        generalize w3.alloc (.cells #[.int .i64 ((an:Int)+1),.int .i64 0,.bool false,.bool false,.int .u8 0,.int .u64 0,.int .u64 0,.int .u64 0,.int .u64 0,.int .i64 (er:Nat)] 280)=w4
        intro hA hb4
        have HT4:=zPf (HT3.out.below hb4)
        have HB4:=zPf (HB3.out.trans (hb4.mono HB3.out.size))
        have hsz:=HT4.out.lt
        have hal:=hA.lt
        clear hb4 HT3 HB3 HA3
        obtain⟨z0,z1,z2,z3,z4,z5,z6,z7,z8,z9,k0,k1,k2,k3,k4,k5,k6,k7,k8,k9,f0⟩:=HT4.out.cells
        obtain⟨a0,a1,a2,a3,a4,a5,a6,a7,a8,a9⟩:=hA.cells
        clear hA
        generalize w3.heap.size=B3 at*
        go_wp2_with fail
        rw[zAp]
        exact zB5 Tryz.results212 rfl rfl HT4.out (zPg _ _) (R:=ItR at0 (zAb L at0 i first)) (by rw[HE.out];exact⟨an+1,by rw[Int.natCast_add];rfl,HEP.out⟩) HB4.out (zPh _)
       |none=>
        obtain⟨h1m,h2m,h256m⟩:=zBd hth HU.out
        rw[hth]at hv3
        have HS5:=zPf (show zAb L at0 i first=_ by rw[HS4.out,hth])
        obtain⟨⟨d0,d1,d2,d3⟩,bb,bf,bn⟩:=b
        obtain⟨b46,hb46⟩: ∃b,signAt L (an+1) 45=b:=⟨_,rfl⟩
        have hv4:v3=tgV ((an+1:Nat):Int) bn bf b46 bb ⟨d0,d1,d2,d3⟩:=by rw[←hb46];exact hv3
        subst hv4
        simp only at HS5 h1m h2m h256m
        clear HS4 hth hv3 hb46
        rw[Int.natCast_add,show((1:Nat):Int)=1 from rfl]
        go_upto_region 13 with fail
        have hA:zKj (w3.alloc (.cells #[.int .i64 ((an:Int)+1),.int .i64 (bn:Nat),.bool bf,.bool b46,.int .u8 (bb:Nat),.int .u64 d0.toNat,.int .u64 d1.toNat,.int .u64 d2.toNat,.int .u64 d3.toNat,.int .i64 0] 280)) w3.heap.size ((an:Int)+1) bn bf b46 bb d0.toNat d1.toNat d2.toNat d3.toNat 0:=zPs w3 _
        have hb4:Below w3.heap.size w3 (w3.alloc (.cells #[.int .i64 ((an:Int)+1),.int .i64 (bn:Nat),.bool bf,.bool b46,.int .u8 (bb:Nat),.int .u64 d0.toNat,.int .u64 d1.toNat,.int .u64 d2.toNat,.int .u64 d3.toNat,.int .i64 0] 280)):=(by repeat (first|exact zPg _ _|assumption|refine zP8 ?_|refine zP6 ?_ (by first|(simp;done)|(simp;omega)|omega) _|refine zP7 ?_ (by first|(simp;done)|(simp;omega)|omega) _))
        revert hA hb4
        generalize w3.alloc (.cells #[.int .i64 ((an:Int)+1),.int .i64 (bn:Nat),.bool bf,.bool b46,.int .u8 (bb:Nat),.int .u64 d0.toNat,.int .u64 d1.toNat,.int .u64 d2.toNat,.int .u64 d3.toNat,.int .i64 0] 280)=w4
        intro hA hb4
        have HT4:=zPf (HT3.out.below hb4)
        have HA4:=zPf (HA3.out.below hb4)
        have HB4:=zPf (HB3.out.trans (hb4.mono HB3.out.size))
        have HBB:=zPf hA
        have hsz:=HT4.out.lt
        have hal:=hA.lt
        have hal2:=HA4.out.lt
        clear hb4 HT3 HB3 HA3
        obtain⟨a0,a1,a2,a3,a4,a5,a6,a7,a8,a9⟩:=HA4.out.cells
        obtain⟨b0,b1,b2,b3,b4,b5,b6,b7,b8,b9⟩:=hA.cells
        clear hA
        generalize w3.heap.size=B3 at*
        cases hc:(!bf||decide (bb<ab))with
        |true=>
         have HE:=zPf (show zAb L at0 i first=_ by rw[HS5.out,if_pos hc])
         obtain⟨z0,z1,z2,z3,z4,z5,z6,z7,z8,z9,k0,k1,k2,k3,k4,k5,k6,k7,k8,k9,f0⟩:=HT4.out.cells
         clear HS5
         cases bf with
         |false=>
          clear hc
          go_wp2_with fail
          rw[zAp]
          exact zB5 Tryz.results212 rfl rfl HT4.out (zPg _ _) (R:=ItR at0 (zAb L at0 i first)) (by rw[HE.out];exact⟨_,rfl,.inr ⟨rfl,.inl rfl⟩⟩) HB4.out (zPh _)
         |true=>
          have hq:bb<ab:=by simpa using hc
          have hq':(bb:Int)<(ab:Int):=by omega
          clear hc
          go_wp2_with fail
          rw[zAp]
          exact zB5 Tryz.results212 rfl rfl HT4.out (zPg _ _) (R:=ItR at0 (zAb L at0 i first)) (by rw[HE.out];exact⟨_,rfl,.inr ⟨rfl,.inl rfl⟩⟩) HB4.out (zPh _)
        |false=>
         have HE:=zPf (show zAb L at0 i first=_ by rw[HS5.out,if_neg (by rw[hc];decide)])
         simp only[Bool.or_eq_false_iff,Bool.not_eq_false',decide_eq_false_iff_not]at hc
         obtain⟨rfl,hq⟩:=hc
         have hq': ¬(bb:Int)<(ab:Int):=by omega
         clear HS5
         go_wp2_with fail
         refine zAA (X:=none) 9 [([0,1,2,3,4,5,6],7)] [8] (by kernel_rfl) (by kernel_rfl) rfl (fun _ _ _ _ _ h=>h) ?_
         simp only[zAI,zAC,zAF,zAD,zAB,List.getD_cons_zero,List.getD_cons_succ,List.drop_succ_cons,List.drop_zero]
         repeat (go_big_quiet_step (fail))
         refine wpQuiet_nil ?_
         go_wp2_with fail
         refine(zGN ab bb h256 h256m).mono ?_;rintro e w5 ⟨rfl,hb5⟩
         have hdr:Below w4.heap.size w4 w5:=(zPg _ w4).drew.trans hb5
         have HT5:=zPf (HT4.out.below hdr)
         have HB5:=zPf (HB4.out.trans (hdr.mono HB4.out.size))
         have HKP:=zPf (zAJ.of_below (X:=none) hb5)
         obtain⟨c,hcc⟩: ∃c,Cls.range ab bb=c:=⟨_,rfl⟩
         rw[hcc]at HE ⊢
         obtain⟨g0,g1,g2,g3⟩:=c
         have hsz5:=HT5.out.lt
         clear hb5 hdr HT4 HB4 HA4 HBB hcc hsz hal hal2 a0 a1 a2 a3 a4 a5 a6 a7 a8 a9 b0 b1 b2 b3 b4 b5 b6 b7 b8 b9
         obtain⟨z0,z1,z2,z3,z4,z5,z6,z7,z8,z9,k0,k1,k2,k3,k4,k5,k6,k7,k8,k9,f0⟩:=HT5.out.cells
         go_wp2_with fail
         refine⟨HKP.out,?_⟩
         repeat (go_big_quiet_step (fail))
         refine wpQuiet_nil ?_
         go_wp2_with fail
         rw[zAp]
         exact zB5 Tryz.results212 rfl rfl HT5.out (zPg _ _) (R:=ItR at0 (zAb L at0 i first)) (by rw[HE.out];exact⟨_,_,_,_,rfl⟩) HB5.out (zPh _)
end
def BrR (r:Except (Nat × Nat) (Cls × Nat)) (v:Value):Prop:=
 match r with
 | .error (er,p)=> ∃c:Cls,v= .tuple #[zBE c,.int .i64 (p:Nat),.int .i64 (er:Nat)]∧er≠0
 | .ok (c,j)=>v= .tuple #[zBE c,.int .i64 (j:Nat),.int .i64 0]
theorem zJ1 (L:List Mk) (at0 n:Nat) (c:Cls) (i:Nat) (first:Bool):zA1 L at0 (n+1) c i first=if !first&&signAt L i 93 then .ok (c,i)
  else match zAb L at0 i first with
   |(_,some f)=> .error f
   |(x,none)=>zA1 L at0 n (c.or x.set) x.next false:=rfl
section
variable {mb mo cap:Nat} {L:List Mk} {w:World}
theorem zH0 (hm:zE8 w mb mo L) (at0:Nat) (ha:signAt L at0 91=true):
  Calls Tryz.prog 188 #[.slice (some ⟨mb,mo,none⟩) L.length cap,.int .i64 (at0:Nat)] w fun e w'=>(∃v,e= .returned v∧BrR (zAs L at0) v)∧Below w.heap.size w w':=by
 have hL:=hm.len
 have HU:=zPf hm.u
 have hat:=zCC ha
 have HA0:=zPf ha
 have HM0:=zPf hm
 have HBR:=zPf (show zAs L at0=match zA1 L at0 (L.length+2) Cls.zero (if signAt L (at0+1) 94 then at0+2 else at0+1) true with| .error f=> .error f| .ok (c,i)=> .ok (if signAt L (at0+1) 94 then c.not else c,i+1)from rfl)
 clear hm ha
 go_enter Tryz.func188,Tryz.ntmps188
 go_upto_region 1 with fail
 have hZ:zAc (w.alloc (.cells #[.int .u64 0,.int .u64 0,.int .u64 0,.int .u64 0] 76)) w.heap.size Cls.zero:=zPs w _
 have hB:Below w.heap.size w (w.alloc (.cells #[.int .u64 0,.int .u64 0,.int .u64 0,.int .u64 0] 76)):=(by repeat (first|exact zPg _ _|assumption|refine zP8 ?_|refine zP6 ?_ (by first|(simp;done)|(simp;omega)|omega) _|refine zP7 ?_ (by first|(simp;done)|(simp;omega)|omega) _))
 revert hZ hB
 generalize w.alloc (.cells #[.int .u64 0,.int .u64 0,.int .u64 0,.int .u64 0] 76)=wx
 intro hZ hB
 have HZ:=zPf hZ
 have HB:=zPf hB
 have HM:=zPf (HM0.out.below hB)
 clear hZ hB
 go_wp2_with fail
 refine(zAg HM.out (at0) (by omega) (by omega) 91 (by omega)).mono ?_;rintro e ww ⟨rfl,rfl⟩
 rw[HA0.out]
 obtain⟨no,hno⟩: ∃b,signAt L (at0+1) 94=b:=⟨_,rfl⟩
 have HNO:=zPf hno
 have hno2:no=true→at0+2≤L.length:=fun h=>by rw[h]at hno;have:=zCC hno;omega
 rw[hno]at HBR
 clear hno
 go_wp2_with fail
 refine(zAg HM.out (at0+1) (by omega) (by omega) 94 (by omega)).mono ?_;rintro e ww ⟨rfl,rfl⟩
 rw[HNO.out]
 obtain⟨fi,hfi⟩: ∃fi,(if no then at0+2 else at0+1)=fi:=⟨_,rfl⟩
 rw[hfi]at HBR
 have hfl:fi≤L.length:=by
  cases no with
  |false=>simp at hfi;omega
  |true=>simp at hfi;have:=hno2 rfl;omega
 have HFI:=zPf hfi
 clear hno2 hfi
 go_upto_if 22 with fail
 go_cut [7] (fun x wc=>x= .int .i64 (fi:Nat)∧wx=wc)
 case first=>
  cases no with
  |false=>
   have h5:fi=at0+1:=HFI.out.symm
   subst h5
   go_wp2_with fail
   go_meet
   exact⟨by go_num,rfl⟩
  |true=>
   have h5:fi=at0+2:=HFI.out.symm
   subst h5
   go_wp2_with fail
   go_meet
   exact⟨by go_num,rfl⟩
 case rest=>
  obtain⟨rfl,rfl⟩:=hcut
  clear HFI
  obtain⟨R,hR⟩: ∃R,zA1 L at0 (L.length+2) Cls.zero fi true=R:=⟨_,rfl⟩
  rw[hR]at HBR
  have HRR:=zPf hR
  clear hR
  go_upto_region 9 with fail
  have hC:zAc (wx.alloc (.cells #[.int .u64 0,.int .u64 0,.int .u64 0,.int .u64 0] 76)) wx.heap.size Cls.zero:=zPs wx _
  have hb2:Below wx.heap.size wx (wx.alloc (.cells #[.int .u64 0,.int .u64 0,.int .u64 0,.int .u64 0] 76)):=(by repeat (first|exact zPg _ _|assumption|refine zP8 ?_|refine zP6 ?_ (by first|(simp;done)|(simp;omega)|omega) _|refine zP7 ?_ (by first|(simp;done)|(simp;omega)|omega) _))
  revert hC hb2
  generalize wx.alloc (.cells #[.int .u64 0,.int .u64 0,.int .u64 0,.int .u64 0] 76)=wy
  intro hC hb2
  have HC:=zPf hC
  have HZ2:=zPf (HZ.out.below hb2)
  have HB2:=zPf (HB.out.trans (hb2.mono HB.out.size))
  have hsB:w.heap.size<wx.heap.size:=HZ.out.lt
  clear hC hb2 HZ HB HM
  generalize wx.heap.size=B at*
  go_wp2_with fail
  go_loopg [7] (L.length+2) (fun gk iv wr=> ∃(i:Nat) (c:Cls) (fb:Bool),iv= .int .i64 (i:Nat)∧zAc wr B c∧zAc wr w.heap.size Cls.zero∧Below w.heap.size w wr∧i≤L.length∧Hid (fb=(i==fi))∧fi≤i∧
   Hid (R=zA1 L at0 gk c i fb)∧Hid (L.length+1<gk+i))
  case atStart=>exact⟨fi,Cls.zero,true,rfl,HC.out,HZ2.out,HB2.out,hfl,zPf (by simp),by omega,zPf HRR.out.symm,zPf (by omega)⟩
  case round=>
   obtain⟨i,c,fb,rfl,hC,hZ,hB,hil,HFB,hfi2,HS,HG⟩:=hrel
   obtain⟨g,hg⟩: ∃g,gk=g+1:=⟨gk - 1,by have:=HG.out;omega⟩
   have HGK:=zPf hg
   rw[hg,zJ1]at HS
   have HC:=zPf hC
   have HZ:=zPf hZ
   have HB:=zPf hB
   have HM:=zPf (HM0.out.below hB)
   have HEQ:=zPf (show((i:Int)==(fi:Int))=fb by rw[HFB.out];rw[Bool.eq_iff_iff];simp;omega)
   have hlt:=hC.lt
   clear hg hC hZ hB HB2 HZ2
   obtain⟨b9,e9⟩: ∃b,signAt L i 93=b:=⟨_,rfl⟩
   have H9:=zPf e9
   rw[e9]at HS
   clear e9
   go_upto_region 9 with fail
   go_cut [35] (fun x wc=>x= .bool (fb|| !b9)∧wr=wc)
   case first=>
    cases fb with
    |true=>
     have e1:((i:Int)==(fi:Int))=true:=HEQ.out
     clear HS
     go_wp2_with fail
     go_meet
     exact⟨rfl,rfl⟩
    |false=>
     have e1:((i:Int)==(fi:Int))=false:=HEQ.out
     clear HS
     go_wp2_with fail
     refine(zAg HM.out (i) (by omega) (by omega) 93 (by omega)).mono ?_;rintro e ww ⟨rfl,rfl⟩
     rw[H9.out]
     go_wp2_with fail
     go_meet
     exact⟨by cases b9<;>rfl,rfl⟩
   case rest=>
    obtain⟨hx,rfl⟩:=hcut
    cases hc:(fb|| !b9)with
    |false=>
     have hfin:(!fb&&b9)=true:=by cases fb<;>cases b9<;>simp_all
     have HS2:=zPf (show R= .ok (c,i)by rw[HS.out,if_pos hfin])
     have HE:=zPf (show zAs L at0= .ok (if no then c.not else c,i+1)by rw[HBR.out,HS2.out])
     rw[hc]at hx
     subst hx
     clear HS HS2 HBR hfin hc
     obtain⟨y0,y1,y2,y3⟩:=HC.out.cells
     cases no with
     |false=>
      obtain⟨z0,z1,z2,z3⟩:=HZ.out.cells
      have f0:=zAE HZ.out
      have hzl:=HZ.out.lt
      go_wp2_with fail
      exact zQG (v:= .tuple #[zBE c,.int .i64 ((i:Int)+1),.int .i64 0]) (by simp[results,Tryz.results188,go_sem, *]) rfl ⟨⟨_,rfl,by rw[HE.out];rfl⟩,zAd (zPh _) c HB.out⟩
     |true=>
      have f9:=zAE HC.out
      go_wp2_with fail
      refine(zDJ c).mono ?_;rintro e w3 ⟨rfl,hb3⟩
      obtain⟨d,hd⟩: ∃d,c.not=d:=⟨_,rfl⟩
      rw[hd]
      have HE2:=zPf (show zAs L at0= .ok (d,i+1)by rw[HE.out,←hd];rfl)
      have HC3:=zPf (HC.out.below hb3)
      have HZ3:=zPf (HZ.out.below hb3)
      have HB3:=zPf (HB.out.trans (hb3.mono HB.out.size))
      clear hb3 hd HE HC HZ HB y0 y1 y2 y3 f9
      obtain⟨y0,y1,y2,y3⟩:=HC3.out.cells
      have f9:=zAE HC3.out
      have hcl:=HC3.out.lt
      obtain⟨z0,z1,z2,z3⟩:=HZ3.out.cells
      have f0:=zAE HZ3.out
      have hzl:=HZ3.out.lt
      go_upto_region 19 with fail
      have hC4:zAc (zCA w3 B d) B d:=zAu HC3.out d
      have hZ4:zAc (zCA w3 B d) w.heap.size Cls.zero:=(zBe (by omega) d).trans HZ3.out
      have hB4:Below w.heap.size w (zCA w3 B d):=zAd (by omega) d HB3.out
      revert hC4 hZ4 hB4
      generalize hw4:zCA w3 B d=w4
      unfold zCA at hw4
      rw[hw4]
      intro hC4 hZ4 hB4
      have HB4:=zPf hB4
      clear hw4 HC3 HZ3 HB3 y0 y1 y2 y3 f9 hcl z0 z1 z2 z3 f0 hzl hB4
      obtain⟨y0,y1,y2,y3⟩:=hC4.cells
      obtain⟨z0,z1,z2,z3⟩:=hZ4.cells
      have f0:=zAE hZ4
      have hzl:=hZ4.lt
      have hcl:=hC4.lt
      clear hC4 hZ4
      go_wp2_with fail
      exact zQG (v:= .tuple #[zBE d,.int .i64 ((i:Int)+1),.int .i64 0]) (by simp[results,Tryz.results188,go_sem, *]) rfl ⟨⟨_,rfl,by rw[HE2.out];rfl⟩,zAd (zPh _) d HB4.out⟩
    |true=>
     have hfin: ¬(!fb&&b9)=true:=by cases fb<;>cases b9<;>simp_all
     have HS2:=zPf (show R=_ by rw[HS.out,if_neg hfin])
     rw[hc]at hx
     subst hx
     clear HS hfin hc
     go_wp2_with fail
     refine(zKv HM.out at0 i rfl (by omega) fi rfl fb HFB.out).mono ?_;rintro e w1 ⟨⟨v,rfl,hv⟩,hb1⟩
     have HC1:=zPf (HC.out.below hb1)
     have HZ1:=zPf (HZ.out.below hb1)
     have HB1:=zPf (HB.out.trans (hb1.mono HB.out.size))
     clear hb1 HC HZ HB HM hlt
     cases hit:zAb L at0 i fb with
     |mk a f=>
     rw[hit]at hv HS2
     cases f with
     |some q=>
      obtain⟨er,p⟩:=q
      obtain⟨fr,rfl,hep⟩:=hv
      have HE:=zPf (show zAs L at0= .error (er,p)by rw[HBR.out,HS2.out])
      have hne:((er:Int) !=0)=true:=by rw[bne_iff_ne];omega
      have HEP:=zPf hep
      clear HS2 HBR hit hep
      go_upto_region 11 with fail
      have hA:zKj (w1.alloc (.cells #[.int .i64 (fr:Nat),.int .i64 0,.bool false,.bool false,.int .u8 0,.int .u64 0,.int .u64 0,.int .u64 0,.int .u64 0,.int .i64 (er:Nat)] 280)) w1.heap.size fr 0 false false 0 0 0 0 0 er:=zPs w1 _
      have hb2:Below w1.heap.size w1 (w1.alloc (.cells #[.int .i64 (fr:Nat),.int .i64 0,.bool false,.bool false,.int .u8 0,.int .u64 0,.int .u64 0,.int .u64 0,.int .u64 0,.int .i64 (er:Nat)] 280)):=(by repeat (first|exact zPg _ _|assumption|refine zP8 ?_|refine zP6 ?_ (by first|(simp;done)|(simp;omega)|omega) _|refine zP7 ?_ (by first|(simp;done)|(simp;omega)|omega) _))
      revert hA hb2
      generalize w1.alloc (.cells #[.int .i64 (fr:Nat),.int .i64 0,.bool false,.bool false,.int .u8 0,.int .u64 0,.int .u64 0,.int .u64 0,.int .u64 0,.int .i64 (er:Nat)] 280)=w2
      intro hA hb2
      have HZ2:=zPf (HZ1.out.below hb2)
      have HB2:=zPf (HB1.out.trans (hb2.mono HB1.out.size))
      have hal:=hA.lt
      obtain⟨a0,a1,a2,a3,a4,a5,a6,a7,a8,a9⟩:=hA.cells
      have hBz:w.heap.size<w1.heap.size:=HZ1.out.lt
      clear hb2 HC1 HZ1 HB1 hA
      generalize w1.heap.size=B1 at*
      obtain⟨z0,z1,z2,z3⟩:=HZ2.out.cells
      have f0:=zAE HZ2.out
      have hzl:=HZ2.out.lt
      by_cases h32:er=32
      ·subst h32
       have hp:p=at0:=by have:=HEP.out;omega
       subst hp
       clear hne
       go_wp2_with fail
       exact zQG (v:= .tuple #[zBE Cls.zero,.int .i64 (p:Nat),.int .i64 32]) (by simp[results,Tryz.results188,go_sem, *];exact⟨rfl,rfl,rfl,rfl⟩) rfl ⟨⟨_,rfl,by rw[HE.out];exact⟨_,rfl,by decide⟩⟩,zAd (zPh _) Cls.zero HB2.out⟩
      ·have hp:fr=p:=by have:=HEP.out;omega
       subst hp
       have h32':((er:Int)==32)=false:=zPl.2 (by omega)
       have HNE:=zPf (show er≠0 by have:=HEP.out;omega)
       have hneB:w.heap.size≠B1:=by omega
       clear h32
       go_wp2_with fail
       refine zAA (X:=(some w.heap.size)) 8 [([0,1,2,3,4],5)] [6,7] (by kernel_rfl) (by kernel_rfl) rfl (fun _ _ _ _ _ h=>h) ?_
       simp only[zAI,zAC,zAF,zAD,zAB,List.getD_cons_zero,List.getD_cons_succ,List.drop_succ_cons,List.drop_nil]
       repeat (go_big_quiet_step (fail))
       refine wpQuiet_nil ?_
       go_wp2_with fail
       refine⟨(((zAJ.of_setCell _).trans (zAJ.of_setCell _)).trans (zAJ.of_setCell _)).trans (zAJ.of_setCell _),?_⟩
       repeat (go_big_quiet_step (fail))
       refine wpQuiet_nil ?_
       go_wp2_with fail
       exact zQG (v:= .tuple #[zBE Cls.zero,.int .i64 (fr:Nat),.int .i64 (er:Nat)]) (by simp[results,Tryz.results188,go_sem, *];exact⟨rfl,rfl,rfl,rfl⟩) rfl ⟨⟨_,rfl,by rw[HE.out];exact⟨_,rfl,HNE.out⟩⟩,zAd (zPh _) Cls.zero HB2.out.drew⟩
     |none=>
      obtain⟨fr,fin,bare,x,rfl⟩:=hv
      obtain⟨hn3,hn4⟩:=zCO hit HU.out
      obtain⟨s,ab,af,an⟩:=a
      simp only at HS2 hn3 hn4
      clear hit
      go_upto_region 11 with fail
      have hA:zKj (w1.alloc (.cells #[.int .i64 fr,.int .i64 (an:Nat),.bool fin,.bool bare,.int .u8 x,.int .u64 s.w0.toNat,.int .u64 s.w1.toNat,.int .u64 s.w2.toNat,.int .u64 s.w3.toNat,.int .i64 0] 280)) w1.heap.size fr an fin bare x s.w0.toNat s.w1.toNat s.w2.toNat s.w3.toNat 0:=zPs w1 _
      have hb2:Below w1.heap.size w1 (w1.alloc (.cells #[.int .i64 fr,.int .i64 (an:Nat),.bool fin,.bool bare,.int .u8 x,.int .u64 s.w0.toNat,.int .u64 s.w1.toNat,.int .u64 s.w2.toNat,.int .u64 s.w3.toNat,.int .i64 0] 280)):=(by repeat (first|exact zPg _ _|assumption|refine zP8 ?_|refine zP6 ?_ (by first|(simp;done)|(simp;omega)|omega) _|refine zP7 ?_ (by first|(simp;done)|(simp;omega)|omega) _))
      revert hA hb2
      generalize w1.alloc (.cells #[.int .i64 fr,.int .i64 (an:Nat),.bool fin,.bool bare,.int .u8 x,.int .u64 s.w0.toNat,.int .u64 s.w1.toNat,.int .u64 s.w2.toNat,.int .u64 s.w3.toNat,.int .i64 0] 280)=w2
      intro hA hb2
      have HC2:=zPf (HC1.out.below hb2)
      have HZ2:=zPf (HZ1.out.below hb2)
      have HB2:=zPf (HB1.out.trans (hb2.mono HB1.out.size))
      have HA2:=zPf hA
      have hal:=hA.lt
      obtain⟨a0,a1,a2,a3,a4,a5,a6,a7,a8,a9⟩:=hA.cells
      have hB1:B<w1.heap.size:=HC1.out.lt
      clear hb2 HC1 HZ1 HB1 hA
      generalize w1.heap.size=B1 at*
      obtain⟨y0,y1,y2,y3⟩:=HC2.out.cells
      have hcl:=HC2.out.lt
      go_wp2_with fail
      refine(zBx c s).mono ?_;rintro e w3 ⟨rfl,hb3⟩
      obtain⟨d,hd⟩: ∃d,c.or s=d:=⟨_,rfl⟩
      rw[hd]at HS2 ⊢
      have HC3:=zPf (HC2.out.below hb3)
      have HZ3:=zPf (HZ2.out.below hb3)
      have HB3:=zPf (HB2.out.trans (hb3.mono HB2.out.size))
      have HA3:=zPf (HA2.out.below hb3)
      clear hb3 hd HC2 HZ2 HB2 HA2 y0 y1 y2 y3 hcl a0 a1 a2 a3 a4 a5 a6 a7 a8 a9 hal
      obtain⟨y0,y1,y2,y3⟩:=HC3.out.cells
      have f9:=zAE HC3.out
      have hcl:=HC3.out.lt
      obtain⟨a0,a1,a2,a3,a4,a5,a6,a7,a8,a9⟩:=HA3.out.cells
      have hal:=HA3.out.lt
      have hne:B≠B1:=by omega
      go_wp2_with fail
      go_roundg g
      case measure=>have:=HGK.out;omega
      case rel=>
       exact⟨an,d,false,rfl,zAu HC3.out d,(zBe (by omega) d).trans HZ3.out,zAd (by omega) d HB3.out,hn4,zPf (by rw[eq_comm,zPl];omega),by omega,HS2,zPf (by have:=HG.out;have:=HGK.out;omega)⟩
end
end
section
open Go.RowKit
def zKC (rb:Nat) (ere:Bool) (mb mo cap:Nat) (L:List Mk) (k:Nat):Prop:= ∀(w:World) (s:Rst) (ev:Value),RfS w rb ere mb mo cap L s k ev→
 Calls Tryz.prog 106 #[.pointer (some ⟨rb,0,none⟩)] w (zCl w rb ere mb mo cap L k ev (zBG ere L k s) (.slice none 0 0) fun re v w'=>Nds w' w.heap.size v re)
def zII (rb:Nat) (ere:Bool) (mb mo cap:Nat) (L:List Mk) (k:Nat):Prop:= ∀(w:World) (s:Rst) (ev:Value),RfS w rb ere mb mo cap L s k ev→s.i+zAY ere≤L.length→
 Calls Tryz.prog 189 #[.pointer (some ⟨rb,0,none⟩)] w (zCl w rb ere mb mo cap L k ev (zAN ere L k s) (.slice none 0 0) fun re v w'=>Nds w' w.heap.size v re)
theorem zKQ {w:World} {base:Nat} {u:Value} {re:List Nd} (h:Nds w base u re):zLa (w.alloc (.cells #[u] 52)) (some ⟨w.heap.size,0,none⟩) [re]:=fun i hi=>by
 obtain rfl:i=0:=by simp at hi;omega
 refine⟨w.heap.size,0,u,rfl,by simp,(zPu _ _ _ _ _ (0,0) (zPs w _)).trans rfl,?_⟩
 exact(h.below ((zPg _ _).alloc (zPh _) _)).mono (Nat.zero_le _)
section
variable {rb:Nat} {ere:Bool} {mb mo cap:Nat} {L:List Mk}
theorem zJo:zII rb ere mb mo cap L 0:=by
 intro w s ev hv _
 have c2:=hv.c2
 have c5:=hv.c5
 have rbl:=hv.lt
 simp only[Nat.sub_zero,show((64:Nat):Int)=64 from rfl]at c5
 have HR:=zPf hv
 have HE:=zPf (show zAN ere L 0 s= .no 46 s.i from rfl)
 clear hv
 go_enter Tryz.func189,Tryz.ntmps189
 go_wp2_with fail
 refine(zA4 HR.out 46 s.i rfl rfl).mono ?_;rintro e wf ⟨rfl,hnt⟩
 have HNT:=zPf hnt
 clear hnt
 go_wp2_with fail
 go_ret
 exact zCl.no HE.out (zAr.refl _ _ _) HNT.out (by decide)
theorem zJp {k:Nat} (hk:k<64) (ih:Hid (zKC rb ere mb mo cap L k)):zII rb ere mb mo cap L (k+1):=by
 intro w s ev hv hs
 have hlen:=hv.m.len
 have hw:=zDY ere
 have hw0:=zCR ere
 have hrw:=hv.lt
 have HU:=zPf hv.m.u
 have HG:=zPf (zGf ere L k hk s)
 have c2:=hv.c2
 have c3:=hv.c3
 have c4:=hv.c4
 have c5:=hv.c5
 have f3:=hv.fz 3
 have rbl:=hv.lt
 have hel:=hv.el
 obtain⟨o,ho⟩: ∃o:Nat,64 - (k+1)=o:=⟨_,rfl⟩
 rw[ho]at c5
 have HO:=zPf ho
 have hne4:((o:Int)==64)=false:=zPl.2 (by omega)
 have hle4:(o:Int)≤63:=by omega
 clear ho
 have HV:=zPf hv
 clear hv
 by_cases h255:s.ended.length=255
 ·have h255':((s.ended.length:Int)==255)=true:=by rw[h255];rfl
  have HE:=zPf (show zAN ere L (k+1) s= .no 47 s.i by rw[HG.out,if_pos h255])
  clear h255
  go_enter Tryz.func189,Tryz.ntmps189
  go_wp2_with fail
  refine(zA4 HV.out 47 s.i rfl rfl).mono ?_;rintro e wf ⟨rfl,hnt⟩
  have HNT:=zPf hnt
  clear hnt
  go_wp2_with fail
  go_ret
  exact zCl.no HE.out (zAr.refl _ _ _) HNT.out (by decide)
 have h255':((s.ended.length:Int)==255)=false:=zPl.2 (by omega)
 have HG2:=zPf (show zAN ere L (k+1) s=_ by rw[HG.out,if_neg h255])
 have hn254:s.ended.length≤254:=by omega
 clear h255 HG
 obtain⟨oa,oc,hev⟩:=HV.out.form
 have HEV:=zPf hev
 rw[hev]at c4
 clear hev
 go_enter Tryz.func189,Tryz.ntmps189
 go_upto_region 9 with fail
 obtain⟨N,hN⟩: ∃N:Int,N=(s.ended.length:Int)+1:=⟨_,rfl⟩
 have HN:=zPf hN
 have HN':=zPf (show N=((s.ended.length+1:Nat):Int)by omega)
 rw[←hN]
 have hb1:zAr rb ev.ownBlock w (w.setCell ⟨rb,3,none⟩ (.int .i64 N)):=(zAr.refl _ _ _).store 3 _
 have hown:(w.setCell ⟨rb,3,none⟩ (.int .i64 N)).ownsRow (rb+1) 4 1 ev s.ended.length (s.ended.map .bool):=ownsRow_setCell_below HV.out.own (Nat.lt_succ_self _) _
 have g3:(w.setCell ⟨rb,3,none⟩ (.int .i64 N)).cell? ⟨rb,3,none⟩=some (.int .i64 N):=zPy _ _ _ HV.out.c3
 have g4:(w.setCell ⟨rb,3,none⟩ (.int .i64 N)).cell? ⟨rb,4,none⟩=some (.slice oa s.ended.length oc):=(zAG _ _ _ _ _ (by decide)).trans c4
 have g5:(w.setCell ⟨rb,3,none⟩ (.int .i64 N)).cell? ⟨rb,5,none⟩=some (.int .i64 (o:Nat)):=(zAG _ _ _ _ _ (by decide)).trans c5
 have HF:=zPf (show∀q,(w.setCell ⟨rb,3,none⟩ (.int .i64 N)).frozen? ⟨rb,q,none⟩=false from fun q=>zAP _ _ _ _ (HV.out.fz q))
 have hsz1:(w.setCell ⟨rb,3,none⟩ (.int .i64 N)).heap.size=w.heap.size:=by simp
 obtain⟨w1,hw1⟩: ∃w1,w.setCell ⟨rb,3,none⟩ (.int .i64 N)=w1:=⟨_,rfl⟩
 rw[hw1]at hb1 hown g3 g4 g5 HF hsz1 ⊢
 have HW1:=zPf hw1
 have f4:=HF.out 4
 have f5:=HF.out 5
 have rb1:rb<w1.heap.size:=by omega
 rw[HEV.out]at hown
 have HOWN:=zPf hown
 have HB1:=zPf hb1
 have HSZ:=zPf hsz1
 clear hw1 hN c2 c3 c4 c5 f3 rbl hb1 hown hsz1
 go_wp2_with (at_builtin;refine zAt zO8 rfl _ _ rfl (rb+1) rfl (HOWN.out.alloc _) rfl (Src.new w1 [.bool false] _ _ _) rfl (by simp[Value.oneCell']) (by unfold maxLen;omega) (by omega) (by simp;omega) ?_)
 intro v2 w2 hown2 hgr2 hblk2
 have hgb:w2.heap[rb]?=w1.heap[rb]?:=(hgr2.block rb (by simp;omega) (fun e=>by have:=(HOWN.out.lt rb e.symm).1;omega)).trans (zPt _ _ rb1)
 have hgr:w1.grownBy w2 ev.ownBlock:=by
  refine⟨hgr2.os,hgr2.tape,hgr2.output,zP2 (by simp) hgr2.size,fun i hi hne=>(hgr2.block i (by simp;omega) (by rw[←HEV.out];exact hne)).trans (zPt _ _ hi)⟩
 have hr2:=HV.out.push (w':=w2) HN'.out (by rw[HW1.out];exact hgr) (ev':=v2) (by simpa using hown2) (by omega)
 have hn2:zAo w ev.ownBlock v2.ownBlock:=by
  rcases hblk2 with h|h
  ·exact .inl (by rw[h,HEV.out])
  ·exact .inr fun g hg=>by rw[h]at hg;cases hg;have:=HSZ.out;simp;omega
 have hb2:zAr rb ev.ownBlock w (w2.setCell ⟨rb,4,none⟩ v2):=(HB1.out.trans (.inl rfl) ⟨hgr.os,hgr.tape,hgr.output,hgr.size,fun i hi _ h2=>hgr.block i hi h2⟩).store 4 v2
 have D4:w2.cell? ⟨rb,4,none⟩=some (.slice oa s.ended.length oc):=(zPj (a:=⟨rb,4,none⟩) hgb).trans g4
 have F4:w2.frozen? ⟨rb,4,none⟩=false:=(zPk (a:=⟨rb,4,none⟩) hgb).trans f4
 have rb2:rb<w2.heap.size:=by have:=hr2.lt;simpa [World.setCell]using this
 obtain⟨g1,cp1,hv1,hg1,_⟩:=hr2.row (by simp)
 simp only[List.length_append,List.length_singleton]at hv1
 subst hv1
 have HR2:=zPf hr2
 have HB2:=zPf hb2
 have HN2:=zPf hn2
 clear hr2 hb2 hn2 hown2 hgr2 hgr hblk2 hgb g3 g4 g5 f4 f5 HF HOWN HB1 HW1 rb1
 go_upto_region 11 with fail
 clear D4 F4 rb2
 revert HR2 HB2
 generalize w2.setCell ⟨rb,4,none⟩ (.slice (some ⟨g1,0,none⟩) (s.ended.length+1) cp1)=w3
 intro HR2 HB2
 have c5:=HR2.out.c5
 rw[HO.out]at c5
 have f5:=HR2.out.fz 5
 have rbl:=HR2.out.lt
 go_upto_region 12 with fail
 have hcast:((64 - k:Nat):Int)=(o:Int)+1:=by have:=HO.out;omega
 have hr3:=HR2.out.setOpen (k':=k) (by omega)
 have hb3:=HB2.out.store 5 (.int .i64 ((64 - k:Nat):Int))
 rw[hcast]at hr3 hb3
 have HR3:=zPf hr3
 have HB3:=zPf hb3
 clear hr3 hb3 HR2 HB2 c5 f5 rbl hcast
 revert HR3 HB3
 generalize w3.setCell ⟨rb,5,none⟩ (.int .i64 ((o:Int)+1))=w4
 intro HR3 HB3
 have c0:=HR3.out.c0
 have c2:=HR3.out.c2
 have f2:=HR3.out.fz 2
 have rbl:=HR3.out.lt
 simp only at c2
 refine zAA (X:=none) 10 [([0,1,2,3,4,5],6)] [7,8,9] (by kernel_rfl) (by kernel_rfl) rfl (fun _ _ _ _ _ h=>h) ?_
 simp only[zAI,zAC,zAF,zAD,zAB,List.getD_cons_zero,List.getD_cons_succ,List.drop_succ_cons,List.drop_zero]
 repeat (go_big_quiet_step (fail))
 refine wpQuiet_nil ?_
 go_wp2_with fail
 refine(zD1 (w:=w4.drew) rbl c0).mono ?_;rintro e ww ⟨rfl,rfl⟩
 go_wp2_with fail
 refine⟨zAJ.refl _,?_⟩
 repeat (go_big_quiet_step (fail))
 refine wpQuiet_nil ?_
 go_wp2_with fail
 have hr5:=(HR3.out.setAt (j:=s.i+zAY ere) hs).drew
 have hb5:=(HB3.out.store 2 (.int .i64 ((s.i+zAY ere:Nat):Int))).drew
 rw[Int.natCast_add]at hr5 hb5
 simp only at hr5
 clear c0 c2 f2 rbl HR3 HB3
 refine(ih.out _ _ _ hr5).mono ?_
 rintro e w6 ⟨hb6,hp6⟩
 have hbT:=hb5.trans HN2.out hb6
 cases hsd:zBG ere L k ⟨s.i+zAY ere,s.ended++[false]⟩with
 |no er p=>
  rw[hsd]at hp6
  obtain⟨rfl,her,q1,q2,q3⟩:=hp6
  have hne:((er:Int) !=0)=true:=by rw[bne_iff_ne];omega
  have HE:=zPf (show zAN ere L (k+1) s= .no er p by rw[HG2.out,hsd])
  have HQF:=zPf (show er≠0∧rb<w6.heap.size∧w6.cell? ⟨rb,6,none⟩=some (.int .i64 er)∧w6.cell? ⟨rb,7,none⟩=some (.int .i64 p)from⟨her,q1,q2,q3⟩)
  have HBT:=zPf hbT
  clear hb5 hb6 hr5 hbT hsd her q3 HG2
  go_wp2_with fail
  go_ret
  exact⟨HBT.out,by rw[HE.out];exact⟨rfl,HQF.out⟩⟩
 |ok re t=>
  have HG1:=zPf (show zAN ere L (k+1) s=if t.i=L.length then .no 41 s.i else .ok (zBz (s.ended.length+1)::re) ⟨t.i+zAY ere,t.ended.set s.ended.length true⟩by rw[HG2.out,hsd])
  have hri:=zCv HU.out k (by simpa using hs) hsd
  have hsm:=zCT HU.out k (by simpa using hs) hsd
  have hst:=zGE k hsd
  have hti:=hri.le
  have hen2:=hri.ended
  rw[show(s.ended++[false]).length=s.ended.length+1 by simp]at hen2
  rw[hsd]at hp6
  simp only at hsm
  obtain⟨v6,ev6,rfl,hr6,hn6,hnd6⟩:=hp6
  obtain⟨ob6,cb6,rfl⟩:=zBJ hnd6
  have hnT:=HN2.out.trans hb5.size hn6
  have HND:=zPf (hnd6.mono hb5.size)
  have HR6:=zPf hr6
  have HB6:=zPf hbT
  have HNT:=zPf hnT
  have HST:=zPf hst
  have hsm2:re.length≤80000:=by omega
  have c1:=hr6.c1
  have c2:=hr6.c2
  have c6:=hr6.c6
  have rbl:=hr6.lt
  clear hb5 hb6 hr5 hbT hsd hr6 hn6 hnd6 hnT hst hri HG2 hsm
  by_cases hend:t.i=L.length
  ·have HE:=zPf (show zAN ere L (k+1) s= .no 41 s.i by rw[HG1.out,if_pos hend])
   have hend':(L.length:Int)≤(t.i:Int):=by omega
   clear hend
   go_wp2_with fail
   refine zAA (X:=none) 10 [] [0,1,2,3,4,5,6,7,8,9] (by kernel_rfl) (by kernel_rfl) rfl (fun _ _ _ _ _ h=>h) ?_
   simp only[zAI,zAC,zAD,zAB,List.getD_cons_zero,List.getD_cons_succ,List.drop_succ_cons,List.drop_nil]
   repeat (go_big_quiet_step (fail))
   refine wpQuiet_nil ?_
   go_wp2_with fail
   refine(zA4 HR6.out.drew 41 s.i rfl rfl).mono ?_;rintro e wf ⟨rfl,hnt⟩
   have HNT:=zPf hnt
   clear hnt
   go_wp2_with fail
   go_ret
   exact zCl.no HE.out HB6.out.drew HNT.out (by decide)
  ·have hti2:t.i+zAY ere≤L.length:=by
    rcases HST.out with h|h
    ·omega
    ·exact zBM h.1
   have HE:=zPf (show zAN ere L (k+1) s= .ok (zBz (s.ended.length+1)::re) ⟨t.i+zAY ere,t.ended.set s.ended.length true⟩by rw[HG1.out,if_neg hend])
   have hend': ¬(L.length:Int)≤(t.i:Int):=by omega
   have hend2:(t.i:Int)<(L.length:Int):=by omega
   clear hend HG1 HST
   go_wp2_with fail
   refine zAA (X:=none) 10 [] [0,1,2,3,4,5,6,7,8,9] (by kernel_rfl) (by kernel_rfl) rfl (fun _ _ _ _ _ h=>h) ?_
   simp only[zAI,zAC,zAD,zAB,List.getD_cons_zero,List.getD_cons_succ,List.drop_succ_cons,List.drop_nil]
   repeat (go_big_quiet_step (fail))
   refine wpQuiet_nil ?_
   go_upto_region 19 with fail
   have HR7:=zPf HR6.out.drew
   have HB7:=zPf HB6.out.drew
   have HND7:=zPf HND.out.drew
   clear c1 c2 c6 rbl HR6 HB6 HND
   revert HR7 HB7 HND7
   generalize w6.drew=w7
   intro HR7 HB7 HND7
   have c0:=HR7.out.c0
   have c2:=HR7.out.c2
   have f2:=HR7.out.fz 2
   have rbl:=HR7.out.lt
   refine zAA (X:=none) 10 [([0,1,2,3,4,5],6)] [7,8,9] (by kernel_rfl) (by kernel_rfl) rfl (fun _ _ _ _ _ h=>h) ?_
   simp only[zAI,zAC,zAF,zAD,zAB,List.getD_cons_zero,List.getD_cons_succ,List.drop_succ_cons,List.drop_zero]
   repeat (go_big_quiet_step (fail))
   refine wpQuiet_nil ?_
   go_wp2_with fail
   refine(zD1 (w:=w7.drew) rbl c0).mono ?_;rintro e ww ⟨rfl,rfl⟩
   go_wp2_with fail
   refine⟨zAJ.refl _,?_⟩
   repeat (go_big_quiet_step (fail))
   refine wpQuiet_nil ?_
   go_upto_region 20 with fail
   have hr8:=(HR7.out.setAt (j:=t.i+zAY ere) hti2).drew
   have hb8:=(HB7.out.store 2 (.int .i64 ((t.i+zAY ere:Nat):Int))).drew
   have hnd8:=(HND7.out.block (w':=(w7.setCell ⟨rb,2,none⟩ (.int .i64 ((t.i+zAY ere:Nat):Int))).drew) (fun g hg=>zPp _ _ _ _ (by show g≠rb;have:=(HND7.out.lt g hg).1;omega)))
   rw[Int.natCast_add]at hr8 hb8 hnd8
   clear c0 c2 f2 rbl HR7 HB7 HND7
   revert hr8 hb8 hnd8
   generalize (w7.setCell ⟨rb,2,none⟩ (.int .i64 ((t.i:Int)+(zAY ere:Int)))).drew=w8
   intro hr8 hb8 hnd8
   have HR8:=zPf hr8
   have HB8:=zPf hb8
   have HND8:=zPf hnd8
   have c5:=hr8.c5
   have f5:=hr8.fz 5
   have rbl:=hr8.lt
   rw[show((64 - k:Nat):Int)=(o:Int)+1 by have:=HO.out;omega]at c5
   clear hr8 hb8 hnd8
   go_upto_region 21 with fail
   have hr9:=HR8.out.setOpen (k':=k+1) (by omega)
   have hb9:=HB8.out.store 5 (.int .i64 ((64 - (k+1):Nat):Int))
   have hnd9:=(HND8.out.block (w':=w8.setCell ⟨rb,5,none⟩ (.int .i64 ((64 - (k+1):Nat):Int))) (fun g hg=>zPp _ _ _ _ (by show g≠rb;have:=(HND8.out.lt g hg).1;omega)))
   rw[HO.out]at hr9 hb9 hnd9
   clear c5 f5 rbl HR8 HB8 HND8
   revert hr9 hb9 hnd9
   generalize w8.setCell ⟨rb,5,none⟩ (.int .i64 (o:Nat))=w9
   intro hr9 hb9 hnd9
   obtain⟨g5,cp5,hv5,hg5,hg5l⟩:=hr9.row (by show 0<t.ended.length;omega)
   have HR9:=zPf hr9
   have HB9:=zPf hb9
   have HND9:=zPf hnd9
   have HV5:=zPf hv5
   have c4:=hr9.c4
   rw[hv5]at c4
   have fg:w9.frozen? ⟨g5,s.ended.length,none⟩=false:=zP5 (hv5▸hr9.own) _
   have cg:w9.cell? ⟨g5,s.ended.length,none⟩=some (.bool (t.ended.getD s.ended.length false)):=by
    rw[zP4 (hv5▸hr9.own) _ (by show s.ended.length<t.ended.length*1;omega)]
    simp[List.getD_eq_getElem?_getD,show s.ended.length<t.ended.length by omega]
   have rbl:=hr9.lt
   have hN1:N - 1=(s.ended.length:Int):=by have:=HN.out;omega
   have hNl:(s.ended.length:Int)<(t.ended.length:Int):=by omega
   clear hr9 hb9 hnd9 hv5
   go_upto_region 22 with fail
   have hrA:=HR9.out.note HV5.out s.ended.length
   have hbA:=HB9.out.note HNT.out (g:=g5) (by rw[HV5.out];rfl) s.ended.length (.bool true)
   have hndA:=(HND9.out.block (w':=w9.setCell ⟨g5,s.ended.length,none⟩ (.bool true)) (fun g hg=>zPp _ _ _ _ (by
    show g≠g5
    have h:=zCp HND9.out HR9.out.own zJy g hg
    rw[HV5.out]at h
    exact fun e=>h (by rw[e];rfl))))
   clear c4 fg cg rbl HR9 HB9 HND9 HV5
   revert hrA hbA hndA
   generalize w9.setCell ⟨g5,s.ended.length,none⟩ (.bool true)=wA
   intro hrA hbA hndA
   have HRA:=zPf hrA
   have HBA:=zPf hbA
   have hko:=zKQ hndA
   have HKO:=zPf hko
   have halA:Below wA.heap.size wA (wA.alloc (.cells #[.slice ob6 re.length cb6] 52)):=(by repeat (first|exact zPg _ _|assumption|refine zP8 ?_|refine zP6 ?_ (by first|(simp;done)|(simp;omega)|omega) _|refine zP7 ?_ (by first|(simp;done)|(simp;omega)|omega) _))
   have HRB:=zPf (hrA.below halA)
   have HBB:=zPf (hbA.below halA)
   have hx:zBz (s.ended.length+1)=⟨7,Cls.zero,N,0,0,1⟩:=by rw[zBz,HN'.out]
   have HX:=zPf hx
   clear hrA hbA hndA hko halA hN1 hx HRA HBA
   go_wp2_with fail
   refine(zEm (ls:=[re]) ⟨7,Cls.zero,N,0,0,1⟩ (cap:=1) HKO.out (by simp) (by simpa using by omega)).mono ?_;rintro e wB ⟨⟨vB,rfl,hvB⟩,hbB⟩
   have HRC:=zPf (HRB.out.below hbB)
   have HBC:=zPf (HBB.out.below hbB)
   have HVB:=zPf hvB
   clear hvB hbB HRB
   go_wp2_with fail
   go_ret
   exact⟨HBC.out,by rw[HE.out,HX.out];exact⟨_,ev6,rfl,HRC.out,HNT.out,(by simpa using HVB.out.mono HBB.out.size)⟩⟩
end
end
end Go.Proofs.YtfjbnpdffillbaaGreatDoor
