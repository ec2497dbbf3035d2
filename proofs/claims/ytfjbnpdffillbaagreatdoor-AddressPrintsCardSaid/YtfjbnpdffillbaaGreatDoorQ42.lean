/- Parts: Ca. -/
import Derived.Test.YtfjbnpdffillbaaGreatDoorQ24
import Derived.Test.YtfjbnpdffillbaaGreatDoorQ4
import Derived.Deep.DeepCutAuto
import Derived.Deep.LoopGhost
namespace Go.Proofs.YtfjbnpdffillbaaGreatDoor
open Go.RowKit
theorem rhas_call (c:Cls) {b:Nat} (hb:b<256) {w:World} :
  Calls Tryz.prog 225 #[clsV c,.int .u8 b] w fun e w'=>e= .returned (.bool (c.has b))∧Below w.heap.size w w':=by
 have hc:(w.alloc (.cells #[.int .u64 c.w0.toNat,.int .u64 c.w1.toNat,.int .u64 c.w2.toNat,.int .u64 c.w3.toNat] 76)).cell? ⟨w.heap.size,b / 64,none⟩=some (.int .u64 (c.word (b / 64)).toNat):=
  cell_cls (c:=c) (T:=76) (heap_alloc_new _ _) (b / 64) (by omega)
 have h4:(b:Int) / 64<4:=by omega
 have h0:0≤(b:Int) / 64:=by omega
 have hv:=Lib.hid (bit_eq (x:=(c.word (b / 64)).toNat) (k:=b % 64) (c.word (b / 64)).isLt)
 go_enter Tryz.func225,Tryz.ntmps225
 go_wp2_with fail
 go_ret
 refine⟨?_,(by repeat (first|exact Below.refl _ _|assumption|refine Below.drew ?_|refine Below.alloc ?_ (by first|(simp;done)|(simp;omega)|omega) _|refine Below.setCell ?_ (by first|(simp;done)|(simp;omega)|omega) _))⟩
 simp only[hv.out,BitVec.testBit_toNat]
 rfl
theorem store4_below' {w0 w:World} {B k:Nat} (h:k≤B) (d:Cls) (hb:Below k w0 w):Below k w0 (store4 w B d):=hb.trans (store4_below h d)
set_option maxRecDepth 100000 in
set_option maxHeartbeats 1600000 in
theorem rwith_call (c:Cls) {b:Nat} (hb:b<256) {w:World} :
  Calls Tryz.prog 226 #[clsV c,.int .u8 b] w fun e w'=>e= .returned (clsV (c.add b))∧Below w.heap.size w w':=by
 have h4:(b:Int) / 64<4:=by omega
 have h0:0≤(b:Int) / 64:=by omega
 go_enter Tryz.func226,Tryz.ntmps226
 go_upto_region 1 with fail
 have hA:clsAt ((w.alloc (.cells #[.int .u64 c.w0.toNat,.int .u64 c.w1.toNat,.int .u64 c.w2.toNat,.int .u64 c.w3.toNat] 76)).alloc (.cells #[.int .u64 0,.int .u64 0,.int .u64 0,.int .u64 0] 76)) w.heap.size c:=
  (heap_alloc_old _ _ (by simp)).trans (heap_alloc_new _ _)
 have hZ:clsAt ((w.alloc (.cells #[.int .u64 c.w0.toNat,.int .u64 c.w1.toNat,.int .u64 c.w2.toNat,.int .u64 c.w3.toNat] 76)).alloc (.cells #[.int .u64 0,.int .u64 0,.int .u64 0,.int .u64 0] 76)) (w.heap.size+1) Cls.zero:=made_at (by simp)
 have hB:Below w.heap.size w ((w.alloc (.cells #[.int .u64 c.w0.toNat,.int .u64 c.w1.toNat,.int .u64 c.w2.toNat,.int .u64 c.w3.toNat] 76)).alloc (.cells #[.int .u64 0,.int .u64 0,.int .u64 0,.int .u64 0] 76)):=(by repeat (first|exact Below.refl _ _|assumption|refine Below.drew ?_|refine Below.alloc ?_ (by first|(simp;done)|(simp;omega)|omega) _|refine Below.setCell ?_ (by first|(simp;done)|(simp;omega)|omega) _))
 revert hA hZ hB
 generalize (w.alloc (.cells #[.int .u64 c.w0.toNat,.int .u64 c.w1.toNat,.int .u64 c.w2.toNat,.int .u64 c.w3.toNat] 76)).alloc (.cells #[.int .u64 0,.int .u64 0,.int .u64 0,.int .u64 0] 76)=wx
 intro hA hZ hB
 have hal:=hA.lt
 have hcell:=cell_cls hA (b / 64) (by omega)
 have hfz:=frozen_cls hA (b / 64)
 have hsh:=bit1_wrap (b % 64) (by omega)
 have HA:=Lib.hid hA
 have HZ:=Lib.hid hZ
 have HB:=Lib.hid hB
 clear hA hZ hB
 go_upto_region 2 with fail
 have hA:clsAt (wx.setCell ⟨w.heap.size,b / 64,none⟩ (.int .u64 (orw (c.word (b / 64)) (bit1 (b % 64))).toNat)) w.heap.size (c.add b):=set_cls HA.out _ (by omega) _
 have hZ:clsAt (wx.setCell ⟨w.heap.size,b / 64,none⟩ (.int .u64 (orw (c.word (b / 64)) (bit1 (b % 64))).toNat)) (w.heap.size+1) Cls.zero:=(Below.heap_setCell _ _ _ _ (by show w.heap.size+1≠w.heap.size;omega)).trans HZ.out
 have hB:Below w.heap.size w (wx.setCell ⟨w.heap.size,b / 64,none⟩ (.int .u64 (orw (c.word (b / 64)) (bit1 (b % 64))).toNat)):=HB.out.setCell (p:=⟨w.heap.size,b / 64,none⟩) (Nat.le_refl _) _
 revert hA hZ hB
 generalize wx.setCell ⟨w.heap.size,b / 64,none⟩ (.int .u64 (orw (c.word (b / 64)) (bit1 (b % 64))).toNat)=wy
 intro hA hZ hB
 clear hcell hfz hsh hal
 have hal:=hA.lt
 have hzl:=hZ.lt
 obtain⟨d,hd⟩: ∃d,d=c.add b:=⟨_,rfl⟩
 rw[←hd]at hA
 have HD:=Lib.hid hd
 clear hd
 obtain⟨z0,z1,z2,z3⟩:=hA.cells
 obtain⟨y0,y1,y2,y3⟩:=hZ.cells
 have f0:=frozen_cls hZ
 clear hA hZ
 go_wp2_with fail
 exact bodyPost_ret (v:=clsV d) (by simp[results,Tryz.results226,go_sem, *]) rfl ⟨by rw[HD.out],store4_below' (by omega) d hB⟩
set_option maxRecDepth 100000 in
set_option maxHeartbeats 1600000 in
theorem rsize_call (c:Cls) {w:World} :
  Calls Tryz.prog 236 #[clsV c] w fun e w'=>e= .returned (.int .i64 (c.els.length:Nat))∧Below w.heap.size w w':=by
 go_enter Tryz.func236,Tryz.ntmps236
 go_upto_region 1 with fail
 have hA:clsAt (w.alloc (.cells #[.int .u64 c.w0.toNat,.int .u64 c.w1.toNat,.int .u64 c.w2.toNat,.int .u64 c.w3.toNat] 76)) w.heap.size c:=heap_alloc_new _ _
 have hB:Below w.heap.size w (w.alloc (.cells #[.int .u64 c.w0.toNat,.int .u64 c.w1.toNat,.int .u64 c.w2.toNat,.int .u64 c.w3.toNat] 76)):=(by repeat (first|exact Below.refl _ _|assumption|refine Below.drew ?_|refine Below.alloc ?_ (by first|(simp;done)|(simp;omega)|omega) _|refine Below.setCell ?_ (by first|(simp;done)|(simp;omega)|omega) _))
 revert hA hB
 generalize w.alloc (.cells #[.int .u64 c.w0.toNat,.int .u64 c.w1.toNat,.int .u64 c.w2.toNat,.int .u64 c.w3.toNat] 76)=wx
 intro hA hB
 have HA:=Lib.hid hA
 have HB:=Lib.hid hB
 clear hA hB
 go_wp2_with fail
 go_loopg [3,4] 256 (fun k nv iv wr=> ∃i:Nat,iv= .int .i64 (i:Nat)∧nv= .int .i64 (((List.range i).filter c.has).length:Nat)∧k=256 - i∧i≤256∧clsAt wr w.heap.size c∧Below w.heap.size w wr)
 case atStart=>exact⟨0,rfl,rfl,by omega,by omega,HA.out,HB.out⟩
 case round=>
  obtain⟨i,rfl,rfl,hg,hi,hA,hB⟩:=hrel
  have HG:=Lib.hid hg
  have HA:=Lib.hid hA
  have HB:=Lib.hid hB
  have HN:=Lib.hid (show(List.range (i+1)).filter c.has=(List.range i).filter c.has++(if c.has i then [i]else [])by rw[List.range_succ,List.filter_append];simp[List.filter_cons])
  have hln:((List.range i).filter c.has).length≤i:=by have:=List.length_filter_le c.has (List.range i);simpa using this
  clear hg hB
  by_cases hlt:i<256
  ·have hlt':(i:Int)<256:=by omega
   obtain⟨z0,z1,z2,z3⟩:=hA.cells
   have hl:=hA.lt
   have hmod:(i:Int) % 256=(i:Int):=by omega
   generalize hnn:((List.range i).filter c.has).length=n at hln ⊢
   have HNN:=Lib.hid hnn
   clear hA hnn
   go_wp2_with fail
   refine(rhas_call c hlt).mono ?_;rintro e w1 ⟨rfl,hb1⟩
   have HA1:=Lib.hid (HA.out.below hb1)
   have HB1:=Lib.hid (HB.out.trans (hb1.mono HB.out.size))
   clear hb1 z0 z1 z2 z3
   cases hh:c.has i with
   |true=>
    have HNT:=Lib.hid (show((List.range (i+1)).filter c.has).length=n+1 by rw[HN.out,hh];simp[HNN.out])
    clear hh
    go_wp2_with fail
    go_roundg (256 - (i+1))
    case measure=>have:=HG.out;omega
    case rel=>exact⟨i+1,by go_num,by rw[HNT.out];go_num,rfl,by omega,HA1.out,HB1.out⟩
   |false=>
    have HNT:=Lib.hid (show((List.range (i+1)).filter c.has).length=n by rw[HN.out,hh];simp[HNN.out])
    clear hh
    go_wp2_with fail
    go_roundg (256 - (i+1))
    case measure=>have:=HG.out;omega
    case rel=>exact⟨i+1,by go_num,by rw[HNT.out],rfl,by omega,HA1.out,HB1.out⟩
  ·obtain rfl:i=256:=by omega
   clear hA
   go_wp2_with fail
   go_ret
   exact⟨rfl,HB.out⟩
theorem store4_other {w:World} {B C:Nat} (h:C≠B) (d:Cls):(store4 w B d).heap[C]?=w.heap[C]?:=
 (Below.heap_setCell _ _ _ _ (by show C≠B;exact h)).trans ((Below.heap_setCell _ _ _ _ (by show C≠B;exact h)).trans ((Below.heap_setCell _ _ _ _ (by show C≠B;exact h)).trans (Below.heap_setCell _ _ _ _ (by show C≠B;exact h))))
def upC (p:Nat→Bool) (i:Nat):Cls:=Cls.of ((List.range i).filter p)
theorem upC_succ (p:Nat→Bool) (i:Nat):upC p (i+1)=if p i then(upC p i).add i else upC p i:=by
 unfold upC Cls.of
 rw[List.range_succ,List.filter_append,List.foldl_append]
 cases h:p i<;>simp[h]
theorem upC_full (p:Nat→Bool) {c:Cls} (h: ∀i,i<256→c.has i=p i):upC p 256=c:=Cls.ext' fun i hi=>by
 rw[upC,has_of (fun b hb=>by have:=(List.mem_filter.1 hb).1;simpa using this) hi,h i hi]
 cases hp:p i<;>simp[hi,hp]
set_option maxRecDepth 100000 in
set_option maxHeartbeats 1600000 in
theorem rnot_call (c:Cls) {w:World} :
  Calls Tryz.prog 214 #[clsV c] w fun e w'=>e= .returned (clsV c.not)∧Below w.heap.size w w':=by
 have HF:=Lib.hid (upC_full (fun i=> !c.has i) (c:=c.not) (fun i _=>has_not c i))
 go_enter Tryz.func214,Tryz.ntmps214
 go_upto_region 2 with fail
 have hA:clsAt (((w.alloc (.cells #[.int .u64 c.w0.toNat,.int .u64 c.w1.toNat,.int .u64 c.w2.toNat,.int .u64 c.w3.toNat] 76)).alloc (.cells #[.int .u64 0,.int .u64 0,.int .u64 0,.int .u64 0] 76)).alloc (.cells #[.int .u64 0,.int .u64 0,.int .u64 0,.int .u64 0] 76)) w.heap.size c:=(heap_alloc_old _ _ (by simp;omega)).trans ((heap_alloc_old _ _ (by simp)).trans (heap_alloc_new _ _))
 have hR:clsAt (((w.alloc (.cells #[.int .u64 c.w0.toNat,.int .u64 c.w1.toNat,.int .u64 c.w2.toNat,.int .u64 c.w3.toNat] 76)).alloc (.cells #[.int .u64 0,.int .u64 0,.int .u64 0,.int .u64 0] 76)).alloc (.cells #[.int .u64 0,.int .u64 0,.int .u64 0,.int .u64 0] 76)) (w.heap.size+1) Cls.zero:=(heap_alloc_old _ _ (by simp)).trans (made_at (by simp))
 have hZ:clsAt (((w.alloc (.cells #[.int .u64 c.w0.toNat,.int .u64 c.w1.toNat,.int .u64 c.w2.toNat,.int .u64 c.w3.toNat] 76)).alloc (.cells #[.int .u64 0,.int .u64 0,.int .u64 0,.int .u64 0] 76)).alloc (.cells #[.int .u64 0,.int .u64 0,.int .u64 0,.int .u64 0] 76)) (w.heap.size+1+1) Cls.zero:=made_at (by simp)
 have hB:Below w.heap.size w (((w.alloc (.cells #[.int .u64 c.w0.toNat,.int .u64 c.w1.toNat,.int .u64 c.w2.toNat,.int .u64 c.w3.toNat] 76)).alloc (.cells #[.int .u64 0,.int .u64 0,.int .u64 0,.int .u64 0] 76)).alloc (.cells #[.int .u64 0,.int .u64 0,.int .u64 0,.int .u64 0] 76)):=(by repeat (first|exact Below.refl _ _|assumption|refine Below.drew ?_|refine Below.alloc ?_ (by first|(simp;done)|(simp;omega)|omega) _|refine Below.setCell ?_ (by first|(simp;done)|(simp;omega)|omega) _))
 revert hA hR hZ hB
 generalize ((w.alloc (.cells #[.int .u64 c.w0.toNat,.int .u64 c.w1.toNat,.int .u64 c.w2.toNat,.int .u64 c.w3.toNat] 76)).alloc (.cells #[.int .u64 0,.int .u64 0,.int .u64 0,.int .u64 0] 76)).alloc (.cells #[.int .u64 0,.int .u64 0,.int .u64 0,.int .u64 0] 76)=wx
 intro hA hR hZ hB
 have HA:=Lib.hid hA
 have HR:=Lib.hid hR
 have HZ:=Lib.hid hZ
 have HB:=Lib.hid hB
 clear hA hR hZ hB
 go_wp2_with fail
 go_loopg [4] 256 (fun k iv wr=> ∃i:Nat,iv= .int .i64 (i:Nat)∧k=256 - i∧i≤256∧clsAt wr w.heap.size c∧clsAt wr (w.heap.size+1) Cls.zero∧clsAt wr (w.heap.size+1+1) (upC (fun i=> !c.has i) i)∧Below w.heap.size w wr)
 case atStart=>exact⟨0,rfl,by omega,by omega,HA.out,HR.out,HZ.out,HB.out⟩
 case round=>
  obtain⟨i,rfl,hg,hi,hA,hR,hZ,hB⟩:=hrel
  have HG:=Lib.hid hg
  have HA:=Lib.hid hA
  have HR:=Lib.hid hR
  have HZ:=Lib.hid hZ
  have HB:=Lib.hid hB
  clear hg hB
  by_cases hlt:i<256
  ·have hlt':(i:Int)<256:=by omega
   obtain⟨z0,z1,z2,z3⟩:=hA.cells
   have hl:=hA.lt
   have hmod:(i:Int) % 256=(i:Int):=by omega
   have HN:=Lib.hid (upC_succ (fun i=> !c.has i) i)
   clear hA hR hZ
   go_wp2_with fail
   refine(rhas_call c hlt).mono ?_;rintro e w1 ⟨rfl,hb1⟩
   have HA1:=Lib.hid (HA.out.below hb1)
   have HR1:=Lib.hid (HR.out.below hb1)
   have HZ1:=Lib.hid (HZ.out.below hb1)
   have HB1:=Lib.hid (HB.out.trans (hb1.mono HB.out.size))
   clear hb1 z0 z1 z2 z3 hl
   cases hh:c.has i with
   |true=>
    have HNT:=Lib.hid (show upC (fun i=> !c.has i) (i+1)=upC (fun i=> !c.has i) i by rw[HN.out,if_neg (by simp[hh])])
    clear hh
    go_wp2_with fail
    go_roundg (256 - (i+1))
    case measure=>have:=HG.out;omega
    case rel=>exact⟨i+1,by go_num,rfl,by omega,HA1.out,HR1.out,by rw[HNT.out];exact HZ1.out,HB1.out⟩
   |false=>
    have HNT:=Lib.hid (show upC (fun i=> !c.has i) (i+1)=(upC (fun i=> !c.has i) i).add i by rw[HN.out,if_pos (by simp[hh])])
    obtain⟨d,hd⟩: ∃d,d=upC (fun i=> !c.has i) i:=⟨_,rfl⟩
    have hz:=HZ1.out
    rw[←hd]at hz
    have HD:=Lib.hid hd
    have hzl:=hz.lt
    obtain⟨z0,z1,z2,z3⟩:=hz.cells
    have HZ2:=Lib.hid hz
    clear hh hd hz
    go_wp2_with fail
    refine(rwith_call d hlt).mono ?_;rintro e w2 ⟨rfl,hb2⟩
    have HA2:=Lib.hid (HA1.out.below hb2)
    have HR2:=Lib.hid (HR1.out.below hb2)
    have HZ3:=Lib.hid (HZ2.out.below hb2)
    have HB2:=Lib.hid (HB1.out.trans (hb2.mono HB1.out.size))
    clear hb2 z0 z1 z2 z3 hzl
    obtain⟨q,hq⟩: ∃q,q=d.add i:=⟨_,rfl⟩
    rw[←hq]
    have HQ:=Lib.hid hq
    clear hq
    have hzl:=HZ3.out.lt
    obtain⟨z0,z1,z2,z3⟩:=HZ3.out.cells
    have f0:=frozen_cls HZ3.out
    go_wp2_with fail
    go_roundg (256 - (i+1))
    case measure=>have:=HG.out;omega
    case rel=>
     have hne: ∀B,B≠w.heap.size+1+1→(store4 w2 (w.heap.size+1+1) q).heap[B]?=w2.heap[B]?:=fun B hB=>store4_other hB q
     exact⟨i+1,by go_num,rfl,by omega,(hne _ (by omega)).trans HA2.out,(hne _ (by omega)).trans HR2.out,by rw[HNT.out,←HD.out,←HQ.out];exact store4_cls HZ3.out q,store4_below' (by omega) q HB2.out⟩
  ·obtain rfl:i=256:=by omega
   have hz:=hZ
   rw[HF.out]at hz
   obtain⟨d,hd⟩: ∃d,d=c.not:=⟨_,rfl⟩
   rw[←hd]at hz
   have HD:=Lib.hid hd
   obtain⟨z0,z1,z2,z3⟩:=hz.cells
   obtain⟨y0,y1,y2,y3⟩:=hR.cells
   have hzl:=hz.lt
   have hrl:=hR.lt
   have f0:=frozen_cls hR
   clear hA hR hZ hz hd
   go_wp2_with fail
   exact bodyPost_ret (v:=clsV d) (by simp[results,Tryz.results214,go_sem, *]) rfl ⟨by rw[HD.out],store4_below' (by omega) d HB.out⟩
end Go.Proofs.YtfjbnpdffillbaaGreatDoor
