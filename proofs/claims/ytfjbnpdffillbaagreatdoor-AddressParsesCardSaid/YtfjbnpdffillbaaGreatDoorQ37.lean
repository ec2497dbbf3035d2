/- Parts: Ca. -/
import Derived.Test.YtfjbnpdffillbaaGreatDoorQ23
import Derived.Test.YtfjbnpdffillbaaGreatDoorQ4
import Derived.Deep.DeepCutAuto
import Derived.Deep.LoopGhost
set_option maxHeartbeats 1600000
set_option maxRecDepth 100000
namespace Go.Proofs.YtfjbnpdffillbaaGreatDoor
open Go.RowKit
theorem zDK (c:Cls) {b:Nat} (hb:b<256) {w:World} :
  Calls Tryz.prog 225 #[zBE c,.int .u8 b] w fun e w'=>e= .returned (.bool (c.has b))∧Below w.heap.size w w':=by
 have hc:(w.alloc (.cells #[.int .u64 c.w0.toNat,.int .u64 c.w1.toNat,.int .u64 c.w2.toNat,.int .u64 c.w3.toNat] 76)).cell? ⟨w.heap.size,b / 64,none⟩=some (.int .u64 (c.word (b / 64)).toNat):=
  zAX (c:=c) (T:=76) (zPs _ _) (b / 64) (by omega)
 have h4:(b:Int) / 64<4:=by omega
 have h0:0≤(b:Int) / 64:=by omega
 have hv:=zPf (zNu (x:=(c.word (b / 64)).toNat) (k:=b % 64) (c.word (b / 64)).isLt)
 go_enter Tryz.func225,Tryz.ntmps225
 go_wp2_with fail
 go_ret
 refine⟨?_,(by repeat (first|exact zPg _ _|assumption|refine zP8 ?_|refine zP6 ?_ (by first|(simp;done)|(simp;omega)|omega) _|refine zP7 ?_ (by first|(simp;done)|(simp;omega)|omega) _))⟩
 simp only[hv.out,BitVec.testBit_toNat]
 rfl
theorem zAd {w0 w:World} {B k:Nat} (h:k≤B) (d:Cls) (hb:Below k w0 w):Below k w0 (zCA w B d):=hb.trans (zBC h d)
theorem zCn (c:Cls) {b:Nat} (hb:b<256) {w:World} :
  Calls Tryz.prog 226 #[zBE c,.int .u8 b] w fun e w'=>e= .returned (zBE (c.add b))∧Below w.heap.size w w':=by
 have h4:(b:Int) / 64<4:=by omega
 have h0:0≤(b:Int) / 64:=by omega
 go_enter Tryz.func226,Tryz.ntmps226
 go_upto_region 1 with fail
 have hA:zAc ((w.alloc (.cells #[.int .u64 c.w0.toNat,.int .u64 c.w1.toNat,.int .u64 c.w2.toNat,.int .u64 c.w3.toNat] 76)).alloc (.cells #[.int .u64 0,.int .u64 0,.int .u64 0,.int .u64 0] 76)) w.heap.size c:=
  (zPt _ _ (by simp)).trans (zPs _ _)
 have hZ:zAc ((w.alloc (.cells #[.int .u64 c.w0.toNat,.int .u64 c.w1.toNat,.int .u64 c.w2.toNat,.int .u64 c.w3.toNat] 76)).alloc (.cells #[.int .u64 0,.int .u64 0,.int .u64 0,.int .u64 0] 76)) (w.heap.size+1) Cls.zero:=zBc (by simp)
 have hB:Below w.heap.size w ((w.alloc (.cells #[.int .u64 c.w0.toNat,.int .u64 c.w1.toNat,.int .u64 c.w2.toNat,.int .u64 c.w3.toNat] 76)).alloc (.cells #[.int .u64 0,.int .u64 0,.int .u64 0,.int .u64 0] 76)):=(by repeat (first|exact zPg _ _|assumption|refine zP8 ?_|refine zP6 ?_ (by first|(simp;done)|(simp;omega)|omega) _|refine zP7 ?_ (by first|(simp;done)|(simp;omega)|omega) _))
 revert hA hZ hB
 generalize (w.alloc (.cells #[.int .u64 c.w0.toNat,.int .u64 c.w1.toNat,.int .u64 c.w2.toNat,.int .u64 c.w3.toNat] 76)).alloc (.cells #[.int .u64 0,.int .u64 0,.int .u64 0,.int .u64 0] 76)=wx
 intro hA hZ hB
 have hal:=hA.lt
 have hcell:=zAX hA (b / 64) (by omega)
 have hfz:=zAE hA (b / 64)
 have hsh:=zE5 (b % 64) (by omega)
 have HA:=zPf hA
 have HZ:=zPf hZ
 have HB:=zPf hB
 clear hA hZ hB
 go_upto_region 2 with fail
 have hA:zAc (wx.setCell ⟨w.heap.size,b / 64,none⟩ (.int .u64 (orw (c.word (b / 64)) (zJK (b % 64))).toNat)) w.heap.size (c.add b):=zCw HA.out _ (by omega) _
 have hZ:zAc (wx.setCell ⟨w.heap.size,b / 64,none⟩ (.int .u64 (orw (c.word (b / 64)) (zJK (b % 64))).toNat)) (w.heap.size+1) Cls.zero:=(zPp _ _ _ _ (by show w.heap.size+1≠w.heap.size;omega)).trans HZ.out
 have hB:Below w.heap.size w (wx.setCell ⟨w.heap.size,b / 64,none⟩ (.int .u64 (orw (c.word (b / 64)) (zJK (b % 64))).toNat)):=HB.out.setCell (p:=⟨w.heap.size,b / 64,none⟩) (zPh _) _
 revert hA hZ hB
 generalize wx.setCell ⟨w.heap.size,b / 64,none⟩ (.int .u64 (orw (c.word (b / 64)) (zJK (b % 64))).toNat)=wy
 intro hA hZ hB
 clear hcell hfz hsh hal
 have hal:=hA.lt
 have hzl:=hZ.lt
 obtain⟨d,hd⟩: ∃d,d=c.add b:=⟨_,rfl⟩
 rw[←hd]at hA
 have HD:=zPf hd
 clear hd
 obtain⟨z0,z1,z2,z3⟩:=hA.cells
 obtain⟨y0,y1,y2,y3⟩:=hZ.cells
 have f0:=zAE hZ
 clear hA hZ
 go_wp2_with fail
 exact zQG (v:=zBE d) (by simp[results,Tryz.results226,go_sem, *]) rfl ⟨by rw[HD.out],zAd (by omega) d hB⟩
theorem zOa (c:Cls) {w:World} :
  Calls Tryz.prog 236 #[zBE c] w fun e w'=>e= .returned (.int .i64 (c.els.length:Nat))∧Below w.heap.size w w':=by
 go_enter Tryz.func236,Tryz.ntmps236
 go_upto_region 1 with fail
 have hA:zAc (w.alloc (.cells #[.int .u64 c.w0.toNat,.int .u64 c.w1.toNat,.int .u64 c.w2.toNat,.int .u64 c.w3.toNat] 76)) w.heap.size c:=zPs _ _
 have hB:Below w.heap.size w (w.alloc (.cells #[.int .u64 c.w0.toNat,.int .u64 c.w1.toNat,.int .u64 c.w2.toNat,.int .u64 c.w3.toNat] 76)):=(by repeat (first|exact zPg _ _|assumption|refine zP8 ?_|refine zP6 ?_ (by first|(simp;done)|(simp;omega)|omega) _|refine zP7 ?_ (by first|(simp;done)|(simp;omega)|omega) _))
 revert hA hB
 generalize w.alloc (.cells #[.int .u64 c.w0.toNat,.int .u64 c.w1.toNat,.int .u64 c.w2.toNat,.int .u64 c.w3.toNat] 76)=wx
 intro hA hB
 have HA:=zPf hA
 have HB:=zPf hB
 clear hA hB
 go_wp2_with fail
 go_loopg [3,4] 256 (fun k nv iv wr=> ∃i:Nat,iv= .int .i64 (i:Nat)∧nv= .int .i64 (((List.range i).filter c.has).length:Nat)∧k=256 - i∧i≤256∧zAc wr w.heap.size c∧Below w.heap.size w wr)
 case atStart=>exact⟨0,rfl,rfl,by omega,by omega,HA.out,HB.out⟩
 case round=>
  obtain⟨i,rfl,rfl,hg,hi,hA,hB⟩:=hrel
  have HG:=zPf hg
  have HA:=zPf hA
  have HB:=zPf hB
  have HN:=zPf (show(List.range (i+1)).filter c.has=(List.range i).filter c.has++(if c.has i then [i]else [])by rw[List.range_succ,List.filter_append];simp[List.filter_cons])
  have hln:((List.range i).filter c.has).length≤i:=by have:=List.length_filter_le c.has (List.range i);simpa using this
  clear hg hB
  by_cases hlt:i<256
  ·have hlt':(i:Int)<256:=by omega
   obtain⟨z0,z1,z2,z3⟩:=hA.cells
   have hl:=hA.lt
   have hmod:(i:Int) % 256=(i:Int):=by omega
   generalize hnn:((List.range i).filter c.has).length=n at hln ⊢
   have HNN:=zPf hnn
   clear hA hnn
   go_wp2_with fail
   refine(zDK c hlt).mono ?_;rintro e w1 ⟨rfl,hb1⟩
   have HA1:=zPf (HA.out.below hb1)
   have HB1:=zPf (HB.out.trans (hb1.mono HB.out.size))
   clear hb1 z0 z1 z2 z3
   cases hh:c.has i with
   |true=>
    have HNT:=zPf (show((List.range (i+1)).filter c.has).length=n+1 by rw[HN.out,hh];simp[HNN.out])
    clear hh
    go_wp2_with fail
    go_roundg (256 - (i+1))
    case measure=>have:=HG.out;omega
    case rel=>exact⟨i+1,by go_num,by rw[HNT.out];go_num,rfl,by omega,HA1.out,HB1.out⟩
   |false=>
    have HNT:=zPf (show((List.range (i+1)).filter c.has).length=n by rw[HN.out,hh];simp[HNN.out])
    clear hh
    go_wp2_with fail
    go_roundg (256 - (i+1))
    case measure=>have:=HG.out;omega
    case rel=>exact⟨i+1,by go_num,by rw[HNT.out],rfl,by omega,HA1.out,HB1.out⟩
  ·obtain rfl:i=256:=by omega
   clear hA
   go_wp2_with fail
   go_ret
   exact⟨rfl,HB.out⟩
theorem zBe {w:World} {B C:Nat} (h:C≠B) (d:Cls):(zCA w B d).heap[C]?=w.heap[C]?:=
 (zPp _ _ _ _ (by show C≠B;exact h)).trans ((zPp _ _ _ _ (by show C≠B;exact h)).trans ((zPp _ _ _ _ (by show C≠B;exact h)).trans (zPp _ _ _ _ (by show C≠B;exact h))))
def upC (p:Nat→Bool) (i:Nat):Cls:=Cls.of ((List.range i).filter p)
theorem zHp (p:Nat→Bool) (i:Nat):upC p (i+1)=if p i then(upC p i).add i else upC p i:=by
 unfold upC Cls.of
 rw[List.range_succ,List.filter_append,List.foldl_append]
 cases h:p i<;>simp[h]
theorem zHq (p:Nat→Bool) {c:Cls} (h: ∀i,i<256→c.has i=p i):upC p 256=c:=Cls.ext' fun i hi=>by
 rw[upC,zOx (fun b hb=>by have:=(List.mem_filter.1 hb).1;simpa using this) hi,h i hi]
 cases hp:p i<;>simp[hi,hp]
theorem zDJ (c:Cls) {w:World} :
  Calls Tryz.prog 214 #[zBE c] w fun e w'=>e= .returned (zBE c.not)∧Below w.heap.size w w':=by
 have HF:=zPf (zHq (fun i=> !c.has i) (c:=c.not) (fun i _=>zOQ c i))
 go_enter Tryz.func214,Tryz.ntmps214
 go_upto_region 2 with fail
 have hA:zAc (((w.alloc (.cells #[.int .u64 c.w0.toNat,.int .u64 c.w1.toNat,.int .u64 c.w2.toNat,.int .u64 c.w3.toNat] 76)).alloc (.cells #[.int .u64 0,.int .u64 0,.int .u64 0,.int .u64 0] 76)).alloc (.cells #[.int .u64 0,.int .u64 0,.int .u64 0,.int .u64 0] 76)) w.heap.size c:=(zPt _ _ (by simp;omega)).trans ((zPt _ _ (by simp)).trans (zPs _ _))
 have hR:zAc (((w.alloc (.cells #[.int .u64 c.w0.toNat,.int .u64 c.w1.toNat,.int .u64 c.w2.toNat,.int .u64 c.w3.toNat] 76)).alloc (.cells #[.int .u64 0,.int .u64 0,.int .u64 0,.int .u64 0] 76)).alloc (.cells #[.int .u64 0,.int .u64 0,.int .u64 0,.int .u64 0] 76)) (w.heap.size+1) Cls.zero:=(zPt _ _ (by simp)).trans (zBc (by simp))
 have hZ:zAc (((w.alloc (.cells #[.int .u64 c.w0.toNat,.int .u64 c.w1.toNat,.int .u64 c.w2.toNat,.int .u64 c.w3.toNat] 76)).alloc (.cells #[.int .u64 0,.int .u64 0,.int .u64 0,.int .u64 0] 76)).alloc (.cells #[.int .u64 0,.int .u64 0,.int .u64 0,.int .u64 0] 76)) (w.heap.size+1+1) Cls.zero:=zBc (by simp)
 have hB:Below w.heap.size w (((w.alloc (.cells #[.int .u64 c.w0.toNat,.int .u64 c.w1.toNat,.int .u64 c.w2.toNat,.int .u64 c.w3.toNat] 76)).alloc (.cells #[.int .u64 0,.int .u64 0,.int .u64 0,.int .u64 0] 76)).alloc (.cells #[.int .u64 0,.int .u64 0,.int .u64 0,.int .u64 0] 76)):=(by repeat (first|exact zPg _ _|assumption|refine zP8 ?_|refine zP6 ?_ (by first|(simp;done)|(simp;omega)|omega) _|refine zP7 ?_ (by first|(simp;done)|(simp;omega)|omega) _))
 revert hA hR hZ hB
 generalize ((w.alloc (.cells #[.int .u64 c.w0.toNat,.int .u64 c.w1.toNat,.int .u64 c.w2.toNat,.int .u64 c.w3.toNat] 76)).alloc (.cells #[.int .u64 0,.int .u64 0,.int .u64 0,.int .u64 0] 76)).alloc (.cells #[.int .u64 0,.int .u64 0,.int .u64 0,.int .u64 0] 76)=wx
 intro hA hR hZ hB
 have HA:=zPf hA
 have HR:=zPf hR
 have HZ:=zPf hZ
 have HB:=zPf hB
 clear hA hR hZ hB
 go_wp2_with fail
 go_loopg [4] 256 (fun k iv wr=> ∃i:Nat,iv= .int .i64 (i:Nat)∧k=256 - i∧i≤256∧zAc wr w.heap.size c∧zAc wr (w.heap.size+1) Cls.zero∧zAc wr (w.heap.size+1+1) (upC (fun i=> !c.has i) i)∧Below w.heap.size w wr)
 case atStart=>exact⟨0,rfl,by omega,by omega,HA.out,HR.out,HZ.out,HB.out⟩
 case round=>
  obtain⟨i,rfl,hg,hi,hA,hR,hZ,hB⟩:=hrel
  have HG:=zPf hg
  have HA:=zPf hA
  have HR:=zPf hR
  have HZ:=zPf hZ
  have HB:=zPf hB
  clear hg hB
  by_cases hlt:i<256
  ·have hlt':(i:Int)<256:=by omega
   obtain⟨z0,z1,z2,z3⟩:=hA.cells
   have hl:=hA.lt
   have hmod:(i:Int) % 256=(i:Int):=by omega
   have HN:=zPf (zHp (fun i=> !c.has i) i)
   clear hA hR hZ
   go_wp2_with fail
   refine(zDK c hlt).mono ?_;rintro e w1 ⟨rfl,hb1⟩
   have HA1:=zPf (HA.out.below hb1)
   have HR1:=zPf (HR.out.below hb1)
   have HZ1:=zPf (HZ.out.below hb1)
   have HB1:=zPf (HB.out.trans (hb1.mono HB.out.size))
   clear hb1 z0 z1 z2 z3 hl
   cases hh:c.has i with
   |true=>
    have HNT:=zPf (show upC (fun i=> !c.has i) (i+1)=upC (fun i=> !c.has i) i by rw[HN.out,if_neg (by simp[hh])])
    clear hh
    go_wp2_with fail
    go_roundg (256 - (i+1))
    case measure=>have:=HG.out;omega
    case rel=>exact⟨i+1,by go_num,rfl,by omega,HA1.out,HR1.out,by rw[HNT.out];exact HZ1.out,HB1.out⟩
   |false=>
    have HNT:=zPf (show upC (fun i=> !c.has i) (i+1)=(upC (fun i=> !c.has i) i).add i by rw[HN.out,if_pos (by simp[hh])])
    obtain⟨d,hd⟩: ∃d,d=upC (fun i=> !c.has i) i:=⟨_,rfl⟩
    have hz:=HZ1.out
    rw[←hd]at hz
    have HD:=zPf hd
    have hzl:=hz.lt
    obtain⟨z0,z1,z2,z3⟩:=hz.cells
    have HZ2:=zPf hz
    clear hh hd hz
    go_wp2_with fail
    refine(zCn d hlt).mono ?_;rintro e w2 ⟨rfl,hb2⟩
    have HA2:=zPf (HA1.out.below hb2)
    have HR2:=zPf (HR1.out.below hb2)
    have HZ3:=zPf (HZ2.out.below hb2)
    have HB2:=zPf (HB1.out.trans (hb2.mono HB1.out.size))
    clear hb2 z0 z1 z2 z3 hzl
    obtain⟨q,hq⟩: ∃q,q=d.add i:=⟨_,rfl⟩
    rw[←hq]
    have HQ:=zPf hq
    clear hq
    have hzl:=HZ3.out.lt
    obtain⟨z0,z1,z2,z3⟩:=HZ3.out.cells
    have f0:=zAE HZ3.out
    go_wp2_with fail
    go_roundg (256 - (i+1))
    case measure=>have:=HG.out;omega
    case rel=>
     have hne: ∀B,B≠w.heap.size+1+1→(zCA w2 (w.heap.size+1+1) q).heap[B]?=w2.heap[B]?:=fun B hB=>zBe hB q
     exact⟨i+1,by go_num,rfl,by omega,(hne _ (by omega)).trans HA2.out,(hne _ (by omega)).trans HR2.out,by rw[HNT.out,←HD.out,←HQ.out];exact zAu HZ3.out q,zAd (by omega) q HB2.out⟩
  ·obtain rfl:i=256:=by omega
   have hz:=hZ
   rw[HF.out]at hz
   obtain⟨d,hd⟩: ∃d,d=c.not:=⟨_,rfl⟩
   rw[←hd]at hz
   have HD:=zPf hd
   obtain⟨z0,z1,z2,z3⟩:=hz.cells
   obtain⟨y0,y1,y2,y3⟩:=hR.cells
   have hzl:=hz.lt
   have hrl:=hR.lt
   have f0:=zAE hR
   clear hA hR hZ hz hd
   go_wp2_with fail
   exact zQG (v:=zBE d) (by simp[results,Tryz.results214,go_sem, *]) rfl ⟨by rw[HD.out],zAd (by omega) d HB.out⟩
end Go.Proofs.YtfjbnpdffillbaaGreatDoor
