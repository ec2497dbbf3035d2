/- Parts: Ha. -/
import Derived.Test.YtfjbnpdffillbaaGreatDoorQ38
import Derived.Test.YtfjbnpdffillbaaGreatDoorQ27
namespace Go.Proofs.YtfjbnpdffillbaaGreatDoor
open Go.RowKit
theorem num_big (a b:Int) {w:World} (ha:0≤a) (ha2:a≤1000) (hb:0≤b) (hb2:b≤281474976710656):
  Calls Tryz.prog 86 #[.int .i64 a,.int .i64 b] w fun e w'=>e= .returned (.int .i64 (1048576*a+b+1))∧w=w':=by
 go_enter Tryz.func86,Tryz.ntmps86
 go_wp2_with fail
 go_ret
 exact⟨rfl,rfl⟩
set_option maxRecDepth 100000 in
set_option maxHeartbeats 1600000 in
theorem wideNodesU {re:List Nd} {oa:Option Addr} {cap:Nat} {w:World} (hv:NdU w oa re) (hl:re.length≤1954687338269):
  Calls Tryz.prog 78 #[.slice oa re.length cap] w fun e w'=>(∃g,e= .returned (.slice (some ⟨g,0,none⟩) re.length (re.length+64))∧Nds w' w.heap.size (.slice (some ⟨g,0,none⟩) (re.length+64) (re.length+64)) (re++spareL re.length))∧Below w.heap.size w w':=by
 have HV:=Lib.hid hv
 have HL:=Lib.hid hl
 have hl1:(re.length:Int)≤1954687338269:=by omega
 clear hv hl
 obtain⟨i0,hi,hz0,hz1,hz2⟩:=info_parts (elNd).hi
 go_enter Tryz.func78,Tryz.ntmps78
 go_wp2_with (at_make;refine wpList_make_full _ rfl _ _ 52 rfl w.heap.size 78 i0 _ 9 Tryz.underlying52 hi hz0 hz1 .i64 .i64 ((re.length:Int)+64) ((re.length:Int)+64) (re.length+64) rfl rfl (by omega) (by omega) (by rw[hz2];have:=HL.out;omega) (by unfold maxLen;have:=HL.out;omega) (Nat.le_refl _) ?_)
 intro w1 hown hgr
 have hN1:Nds w1 w.heap.size (.slice (some ⟨w.heap.size,0,none⟩) (re.length+64) (re.length+64)) (soFar (re++spareL re.length) (re.length+64) 0):=by
  unfold Nds soFar
  rw[List.take_zero,List.nil_append,Nat.sub_zero,List.length_replicate,←made_zero]
  exact hown
 have HN1:=Lib.hid hN1
 have HB1:=Lib.hid ((Below.refl w.heap.size w).grown hgr (Nat.le_refl _) (fun k hk=>by cases hk))
 have HF:=Lib.hid (show(re++spareL re.length).length=re.length+64 by rw[List.length_append];simp[spareL])
 have hg1:w.heap.size<w1.heap.size:=(hN1.lt _ rfl).2
 clear hown hgr hN1 hi hz0 hz1 hz2
 go_wp2_with fail
 go_loopg [4] (re.length+64) (fun n iv wr=> ∃d:Nat,iv= .int .i64 (d:Nat)∧n=re.length+64 - d∧d≤re.length+64∧Nds wr w.heap.size (.slice (some ⟨w.heap.size,0,none⟩) (re.length+64) (re.length+64)) (soFar (re++spareL re.length) (re.length+64) d)∧Below w.heap.size w wr)
 case atStart=>exact⟨0,rfl,by omega,by omega,HN1.out,HB1.out⟩
 case round=>
  obtain⟨d,rfl,hg2,hd,hn,hb⟩:=hrel
  have HG:=Lib.hid hg2
  have HNN:=Lib.hid hn
  have HB:=Lib.hid hb
  have hgw:w.heap.size<wr.heap.size:=(hn.lt _ rfl).2
  have hsl:=soFar_length HF.out hd
  by_cases hlt:d<re.length+64
  ·have hlt':(d:Int)<(re.length:Int)+64:=by omega
   obtain⟨z0,z1,z2,z3,z4,z5,z6,z7,z8,zf⟩:=hn.nine hsl hlt (soFar_getD HF.out hlt)
   have HSL:=Lib.hid hsl
   clear hg2 hn hb hsl
   by_cases hin:d<re.length
   ·have hin':(d:Int)<(re.length:Int):=by omega
    obtain⟨x,hx⟩: ∃x,re[d]?=some x:=⟨_,List.getElem?_eq_getElem hin⟩
    have HX:=Lib.hid (show(re++spareL re.length)[d]?=some x by rw[List.getElem?_append_left hin];exact hx)
    obtain⟨nb,no,hoa,nbl,hnd⟩:=(HV.out.below HB.out) (by omega)
    obtain⟨n0,n1,n2,n3,n4,n5,n6,n7,n8⟩:=NdU.cells hnd hx
    subst hoa
    clear hnd hx
    go_wp2_with fail
    go_roundg (re.length+64 - (d+1))
    case measure=>have:=HG.out;omega
    case rel=>exact⟨d+1,by go_num,rfl,by omega,by rw[←soFar_set HF.out hlt HX.out];exact Nds.put HNN.out HSL.out hlt x,HB.out.trans (put9_below (Nat.le_refl _) d x)⟩
   ·have hin': ¬(d:Int)<(re.length:Int):=by omega
    have HX:=Lib.hid (show(re++spareL re.length)[d]?=some (spareN d)by
     rw[List.getElem?_append_right (by omega),spareL,List.getElem?_map,List.getElem?_range (by omega),Option.map_some,show re.length+(d - re.length)=d by omega])
    go_wp2_with fail
    refine(num_big 9 (d:Int) (by decide) (by decide) (by omega) (by omega)).mono ?_;rintro e w3 ⟨rfl,rfl⟩
    go_wp2_with fail
    go_roundg (re.length+64 - (d+1))
    case measure=>have:=HG.out;omega
    case rel=>exact⟨d+1,by go_num,rfl,by omega,by rw[←soFar_set HF.out hlt HX.out];exact Nds.put HNN.out HSL.out hlt (spareN d),HB.out.trans (put9_below (Nat.le_refl _) d (spareN d))⟩
  ·have hlt': ¬(d:Int)<(re.length:Int)+64:=by omega
   have hde:d=re.length+64:=by omega
   subst hde
   have HFin:=Lib.hid (show Nds wr w.heap.size (.slice (some ⟨w.heap.size,0,none⟩) (re.length+64) (re.length+64)) (re++spareL re.length)by
    have h:=HNN.out
    unfold soFar at h
    rw[List.take_of_length_le (by have:=HF.out;omega),Nat.sub_self,List.replicate_zero,List.append_nil]at h
    exact h)
   clear hg2 hn hb hsl
   go_wp2_with fail
   go_ret
   exact⟨⟨w.heap.size,rfl,HFin.out⟩,HB.out⟩
set_option maxRecDepth 100000 in
set_option maxHeartbeats 1600000 in
theorem spareNodesU {l:List Nd} {n g base:Nat} {w:World} (hn:Nds w base (.slice (some ⟨g,0,none⟩) (n+64) (n+64)) (l++spareL n)) (hl:l.length=n) (hb:n≤1954687338269):
  Calls Tryz.prog 29 #[.slice (some ⟨g,0,none⟩) n (n+64)] w fun e w'=>e= .returned (.bool true)∧Below w.heap.size w w':=by
 have HN:=Lib.hid hn
 have HL:=Lib.hid hl
 have hgw:g<w.heap.size:=(hn.lt _ rfl).2
 clear hn hl
 go_enter Tryz.func29,Tryz.ntmps29
 go_wp2_with fail
 go_loopg [4] 64 (fun m iv wr=> ∃d:Nat,iv= .int .i64 ((n+d:Nat):Int)∧m=64 - d∧d≤64∧Below w.heap.size w wr)
 case atStart=>exact⟨0,rfl,by omega,by omega,Below.refl _ _⟩
 case round=>
  obtain⟨d,rfl,hg,hd,hbe⟩:=hrel
  have HG:=Lib.hid hg
  have HB:=Lib.hid hbe
  have HNR:=Lib.hid (HN.out.below hbe)
  have hgr:g<wr.heap.size:=Nat.lt_of_lt_of_le hgw hbe.size
  clear hg hbe
  obtain⟨k,hk⟩: ∃k,k=n+d:=⟨_,rfl⟩
  rw[←hk]
  by_cases hlt:d<64
  ·have hlt':(k:Int)<(n:Int)+64:=by omega
   obtain⟨z0,z1,z2,z3,z4,z5,z6,z7,z8,_⟩:=HNR.out.nine (by rw[List.length_append,HL.out];simp[spareL]) (show k<n+64 by omega) (show(l++spareL n).getD k Nd.zero=spareN k by
    rw[List.getD_eq_getElem?_getD,List.getElem?_append_right (by have:=HL.out;omega),spareL,List.getElem?_map,List.getElem?_range (by have:=HL.out;omega),Option.map_some,HL.out,show n+(k - n)=k by omega]
    rfl)
   have z5':wr.cell? ⟨g,k*9+5,none⟩=some (.int .i64 (9437184+(k:Int)+1)):=z5
   have hq:=eql_nd_same ⟨0,Cls.zero,9437184+(k:Int)+1,-7,0,0⟩
   simp only[spareN,Cls.zero]at z0 z1 z2 z3 z4 z6 z7 z8
   have hq': ∀w,(binOp .eql 78 (.agg #[.int .i8 0,.int .u64 0,.int .u64 0,.int .u64 0,.int .u64 0,.int .i64 (9437184+(k:Int)+1),.int .i64 (-7),.int .i64 0,.int .i64 0]) (.agg #[.int .i8 0,.int .u64 0,.int .u64 0,.int .u64 0,.int .u64 0,.int .i64 (9437184+(k:Int)+1),.int .i64 (-7),.int .i64 0,.int .i64 0])).run Tryz.prog w= .ok (.bool true) w:=hq
   have HKK:=Lib.hid hk
   have hkb:(k:Int)≤1954687338400:=by omega
   clear hq z5 hk
   go_wp2_with fail
   refine wp_region_segs (X:=none) 9 [([0,1,2,3,4],5)] [6,7,8] (by kernel_rfl) (by kernel_rfl) rfl (fun _ _ _ _ _ h=>h) ?_
   simp only[wpSegs,pickSegs_nil,pickSegs_cons,pickOps_nil,pickOps_cons,List.getD_cons_zero,List.getD_cons_succ,List.drop_succ_cons,List.drop_nil]
   repeat (go_big_quiet_step (fail))
   refine wpQuiet_nil ?_
   go_wp2_with fail
   refine(num_big 9 (k:Int) (by decide) (by decide) (by omega) (by omega)).mono ?_;rintro e w3 ⟨rfl,rfl⟩
   go_wp2_with fail
   refine⟨Keeps.refl _,?_⟩
   repeat (go_big_quiet_step (fail))
   refine wpQuiet_nil ?_
   go_wp2_with fail
   go_roundg (64 - (d+1))
   case measure=>have:=HG.out;omega
   case rel=>exact⟨d+1,by have:=HKK.out;rw[show n+(d+1)=k+1 by omega];go_num,rfl,by omega,HB.out.drew⟩
  ·have hlt': ¬(k:Int)<(n:Int)+64:=by omega
   have HKK:=Lib.hid hk
   clear hk
   go_wp2_with fail
   go_ret
   exact⟨rfl,HB.out⟩
end Go.Proofs.YtfjbnpdffillbaaGreatDoor
