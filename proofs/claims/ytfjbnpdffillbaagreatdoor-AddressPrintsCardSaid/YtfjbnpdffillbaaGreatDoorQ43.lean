/- Parts: Cf Cg Ci Ch Cj Ck Cl Cm Cn If Ij. -/
import Derived.Test.YtfjbnpdffillbaaGreatDoorQ41
import Derived.Test.YtfjbnpdffillbaaGreatDoorQ40
import Derived.Test.YtfjbnpdffillbaaGreatDoorQ31
import Derived.Test.YtfjbnpdffillbaaGreatDoorQ27
import Derived.Test.YtfjbnpdffillbaaGreatDoorQ19
import Derived.Test.YtfjbnpdffillbaaGreatDoorQ35
namespace Go.Proofs.YtfjbnpdffillbaaGreatDoor
open Go.RowKit
theorem last_of {c:Cls} {i:Nat} :((List.range (i+1)).filter c.has)=(List.range i).filter c.has++(if c.has i then [i]else []):=by
 rw[List.range_succ,List.filter_append]
 simp[List.filter_cons]
theorem SaidR.form2 {w:World} {base:Nat} {o:Option (List Nat)} {val:Value} (h:SaidR w base o val): ∃oa n c b,val= .agg #[.slice oa n c,.bool b]:=by
 obtain⟨oa,c,h,_⟩:=h.form
 exact⟨_,_,_,_,h⟩
def ownC (ere:Bool):List Nat:=if ere then [46,91,40,41,42,43,63,123,124,94,36,92]else [46,91,42,94,36,92]
theorem ownC_has (ere:Bool) (b:Nat):(ownC ere).contains b=(spB ere).contains b:=by
 cases ere
 ·rfl
 ·rw[Bool.eq_iff_iff]
  simp only[ownC,spB,if_true,List.contains_iff_mem,List.mem_append,List.mem_cons,List.not_mem_nil,or_false]
  omega
theorem rbit (c:Cls) (b:Nat):(bits .and .u64 (((c.word (b / 64)).toNat:Int) / 2 ^ (b % 64)) 1==(1:Int))=c.has b:=by
 rw[bit_eq (c.word (b / 64)).isLt,BitVec.testBit_toNat]
 rfl
set_option maxRecDepth 100000 in
set_option maxHeartbeats 6400000 in
theorem rset_call (ere:Bool) (c:Cls) {w:World} :
  Calls Tryz.prog 227 #[.bool ere,clsV c] w fun e w'=>(∃v,e= .returned v∧SaidR w' w.heap.size (some (setB ere c)) v)∧Below w.heap.size w w':=by
 go_enter Tryz.func227,Tryz.ntmps227
 go_upto_region 1 with fail
 have hA:clsAt ((w.alloc (.cells #[.int .u64 c.w0.toNat,.int .u64 c.w1.toNat,.int .u64 c.w2.toNat,.int .u64 c.w3.toNat] 76)).alloc (.cells #[.slice none 0 0,.bool false] 222)) w.heap.size c:=(heap_alloc_old _ _ (by simp)).trans (heap_alloc_new _ _)
 have hR:saidAt ((w.alloc (.cells #[.int .u64 c.w0.toNat,.int .u64 c.w1.toNat,.int .u64 c.w2.toNat,.int .u64 c.w3.toNat] 76)).alloc (.cells #[.slice none 0 0,.bool false] 222)) (w.heap.size+1) (.slice none 0 0) false:=made_at (by simp)
 have hB:Below w.heap.size w ((w.alloc (.cells #[.int .u64 c.w0.toNat,.int .u64 c.w1.toNat,.int .u64 c.w2.toNat,.int .u64 c.w3.toNat] 76)).alloc (.cells #[.slice none 0 0,.bool false] 222)):=(by repeat (first|exact Below.refl _ _|assumption|refine Below.drew ?_|refine Below.alloc ?_ (by first|(simp;done)|(simp;omega)|omega) _|refine Below.setCell ?_ (by first|(simp;done)|(simp;omega)|omega) _))
 revert hA hR hB
 generalize (w.alloc (.cells #[.int .u64 c.w0.toNat,.int .u64 c.w1.toNat,.int .u64 c.w2.toNat,.int .u64 c.w3.toNat] 76)).alloc (.cells #[.slice none 0 0,.bool false] 222)=wx
 intro hA hR hB
 have HA:=Lib.hid hA
 have HR:=Lib.hid hR
 have HB:=Lib.hid hB
 clear hA hR hB
 go_wp2_with fail
 go_loopg [5,6,7] 256 (fun k nv lv iv wr=> ∃i:Nat,iv= .int .i64 (i:Nat)∧nv= .int .i64 (((List.range i).filter c.has).length:Nat)∧lv= .int .i64 ((((List.range i).filter c.has).getLastD 0:Nat):Int)∧k=256 - i∧i≤256∧wr=wx)
 case atStart=>exact⟨0,rfl,rfl,rfl,by omega,by omega,rfl⟩
 case round=>
  obtain⟨i,rfl,rfl,rfl,hg,hi,hw⟩:=hrel
  subst hw
  have HG:=Lib.hid hg
  have HN:=Lib.hid (last_of (c:=c) (i:=i))
  have hln:((List.range i).filter c.has).length≤i:=by have:=List.length_filter_le c.has (List.range i);simpa using this
  clear hg
  by_cases hlt:i<256
  ·have hlt':(i:Int)<256:=by omega
   have hcell:=cell_cls HA.out (i / 64) (by omega)
   have hl:=HA.out.lt
   have h4:(i:Int) / 64<4:=by omega
   have h0:0≤(i:Int) / 64:=by omega
   have hbit:=rbit c i
   generalize hnn:((List.range i).filter c.has).length=n at hln ⊢
   generalize hll:((List.range i).filter c.has).getLastD 0=l
   have HNN:=Lib.hid hnn
   have HLL:=Lib.hid hll
   clear hnn hll
   cases hh:c.has i with
   |true=>
    rw[hh]at hbit
    have HNT:=Lib.hid (show((List.range (i+1)).filter c.has).length=n+1 by rw[HN.out,hh];simp[HNN.out])
    have HLT:=Lib.hid (show((List.range (i+1)).filter c.has).getLastD 0=i by rw[HN.out,hh];simp)
    clear hh
    go_wp2_with fail
    go_roundg (256 - (i+1))
    case measure=>have:=HG.out;omega
    case rel=>exact⟨i+1,by go_num,by rw[HNT.out];go_num,by rw[HLT.out],rfl,by omega,rfl⟩
   |false=>
    rw[hh]at hbit
    have HNT:=Lib.hid (show(List.range (i+1)).filter c.has=(List.range i).filter c.has by rw[HN.out,hh];simp)
    clear hh
    go_wp2_with fail
    go_roundg (256 - (i+1))
    case measure=>have:=HG.out;omega
    case rel=>exact⟨i+1,by go_num,by rw[HNT.out,HNN.out],by rw[HNT.out,HLL.out],rfl,by omega,rfl⟩
  ·obtain rfl:i=256:=by omega
   have HEL:=Lib.hid (show(List.range 256).filter c.has=c.els from rfl)
   rw[HEL.out]
   clear hln HN HEL
   generalize hnn:c.els.length=n
   generalize hll:c.els.getLastD 0=l
   have HNN:=Lib.hid hnn
   have HLL:=Lib.hid hll
   have hn256:n≤256:=by rw[←hnn];exact els_length c
   clear hnn hll
   by_cases h256:n=256
   ·have e1:((n:Int)==256)=true:=by rw[h256];rfl
    have HS:=Lib.hid (show setB ere c=[46]by rw[setB,if_pos (HNN.out.trans h256)])
    clear h256
    go_wp2_with fail
    refine(rsays_call ⟨#[46]⟩ (by decide)).mono ?_;rintro e w2 ⟨⟨v,rfl,hv⟩,hb2⟩
    rw[show bytesOf ⟨#[46]⟩=[46]from rfl,←HS.out]at hv
    obtain⟨oa,nn,ca,bb,hq⟩:=hv.form2
    cases hq
    have HV:=Lib.hid hv
    have HRz:=Lib.hid (HR.out.below hb2)
    have HWz:=Lib.hid (HB.out.trans (hb2.mono HB.out.size))
    have HRL:=Lib.hid (HR.out.lt)
    clear hv hb2
    have r0:=HRz.out.c0
    have r1:=HRz.out.c1
    have rl:=HRz.out.lt
    have f0:=HRz.out.fz 0
    have f1:=HRz.out.fz 1
    go_wp2_with fail
    exact bodyPost_ret (v:= .agg #[.slice oa nn ca,.bool bb]) (by simp[results,Tryz.results227,go_sem, *]) rfl ⟨⟨_,rfl,(HV.out.put2 HRL.out _ _).mono (by have:=HB.out.size;omega)⟩,below_put2 HWz.out (by omega) _ _⟩
   have e1:((n:Int)==256)=false:=beq_eq_false_iff_ne.2 (by omega)
   by_cases h1:n=1
   ·have e2:((n:Int)==1)=true:=by rw[h1];rfl
    obtain⟨b,hb⟩: ∃b,c.els=[b]:=List.length_eq_one_iff.1 (HNN.out.trans h1)
    have hlb:l=b:=by rw[←HLL.out,hb];rfl
    subst hlb
    have hl256:l<256:=els_lt (c:=c) (by rw[hb];simp)
    have HS:=Lib.hid (show setB ere c=byteB ere l by rw[setB,if_neg (by rw[HNN.out,h1];decide),hb])
    clear h1 h256 hb
    by_cases h10:l=10
    ·have e3:((l:Int)==10)=true:=by rw[h10];rfl
     have HS2:=Lib.hid (show setB ere c=[92,110]by rw[HS.out,byteB,if_pos h10])
     clear h10
     go_wp2_with fail
     refine(rsays_call ⟨#[92,110]⟩ (by decide)).mono ?_;rintro e w2 ⟨⟨v,rfl,hv⟩,hb2⟩
     rw[show bytesOf ⟨#[92,110]⟩=[92,110]from rfl,←HS2.out]at hv
     obtain⟨oa,nn,ca,bb,hq⟩:=hv.form2
     cases hq
     have HV:=Lib.hid hv
     have HRz:=Lib.hid (HR.out.below hb2)
     have HWz:=Lib.hid (HB.out.trans (hb2.mono HB.out.size))
     have HRL:=Lib.hid (HR.out.lt)
     clear hv hb2
     have r0:=HRz.out.c0
     have r1:=HRz.out.c1
     have rl:=HRz.out.lt
     have f0:=HRz.out.fz 0
     have f1:=HRz.out.fz 1
     go_wp2_with fail
     exact bodyPost_ret (v:= .agg #[.slice oa nn ca,.bool bb]) (by simp[results,Tryz.results227,go_sem, *]) rfl ⟨⟨_,rfl,(HV.out.put2 HRL.out _ _).mono (by have:=HB.out.size;omega)⟩,below_put2 HWz.out (by omega) _ _⟩
    have e3:((l:Int)==10)=false:=beq_eq_false_iff_ne.2 (by omega)
    have HS2:=Lib.hid (show setB ere c=if (ownC ere).contains l then [92,l]else [l]by rw[HS.out,byteB,if_neg h10,ownC_has])
    have hmod:(l:Int) % 256=(l:Int):=by omega
    clear h10 HS
    cases ere with
    |true=>
     go_upto_region 17 with fail
     generalize hq:(⟨#[46,91,40,41,42,43,63,123,124,94,36,92]⟩:ByteArray)=s
     have hs:bytesOf s=ownC true:=by rw[←hq];rfl
     have hsz:s.size≤12:=by rw[←hq];decide
     have HSS:=Lib.hid hs
     clear hq hs
     go_wp2_with fail
     obtain⟨wo,rfl⟩: ∃wo:World,wo=wr:=⟨_,rfl⟩
     go_loopg [9] s.size (fun k iv wr=> ∃j:Nat,iv= .int .i64 (j:Nat)∧k=s.size - j∧j≤s.size∧(∀x,x<j→(bytesOf s).getD x 0≠l)∧wr=wo)
     case atStart=>exact⟨0,rfl,by omega,by omega,fun x hx=>by omega,rfl⟩
     case round=>
      obtain⟨j,rfl,hg,hj,hx,hw⟩:=hrel
      subst hw
      have HG2:=Lib.hid hg
      have HX:=Lib.hid hx
      clear hg hx
      by_cases hjs:j<s.size
      ·have hjs':(j:Int)<(s.size:Int):=by omega
       have HBD:=Lib.hid (bytesOf_getD s j hjs)
       have hub:s[j].toNat<256:=s[j].toNat_lt
       have hlen:j<(bytesOf s).length:=by rw[bytesOf_length];exact hjs
       by_cases hq:s[j].toNat=l
       ·have e4:((s[j].toNat:Int)==(l:Int))=true:=by rw[hq];exact beq_self_eq_true _
        have hmem:(ownC true).contains l=true:=by
         rw[←HSS.out,List.contains_iff_mem]
         have h:=HBD.out
         rw[List.getD_eq_getElem?_getD,List.getElem?_eq_getElem hlen,Option.getD_some,hq]at h
         rw[←h]
         exact List.getElem_mem hlen
        have HS3:=Lib.hid (show setB true c=[92,l]by rw[HS2.out,if_pos hmem])
        obtain⟨t,ht,hz,hcv⟩:=conv2 wr l hl256
        have HT:=Lib.hid ht
        have hb1:Below wr.heap.size wr (wr.alloc (.cells #[.int .u8 92,.int .u8 (l:Nat)] 5)):=(by repeat (first|exact Below.refl _ _|assumption|refine Below.drew ?_|refine Below.alloc ?_ (by first|(simp;done)|(simp;omega)|omega) _|refine Below.setCell ?_ (by first|(simp;done)|(simp;omega)|omega) _))
        have HR1:=Lib.hid (HR.out.below hb1)
        have HB1:=Lib.hid (HB.out.trans (hb1.mono HB.out.size))
        clear hmem ht hb1 hlen
        go_wp2_with fail
        refine(rsays_call t (by omega)).mono ?_;rintro e w2 ⟨⟨v,rfl,hv⟩,hb2⟩
        rw[HT.out,←HS3.out]at hv
        obtain⟨oa,nn,ca,bb,hq⟩:=hv.form2
        cases hq
        have HV:=Lib.hid hv
        have HRz:=Lib.hid (HR1.out.below hb2)
        have HWz:=Lib.hid (HB1.out.trans (hb2.mono HB1.out.size))
        have HRL:=Lib.hid (HR1.out.lt)
        clear hv hb2 hcv
        have r0:=HRz.out.c0
        have r1:=HRz.out.c1
        have rl:=HRz.out.lt
        have f0:=HRz.out.fz 0
        have f1:=HRz.out.fz 1
        go_wp2_with fail
        exact bodyPost_ret (v:= .agg #[.slice oa nn ca,.bool bb]) (by simp[results,Tryz.results227,go_sem, *]) rfl ⟨⟨_,rfl,(HV.out.put2 HRL.out _ _).mono (by have:=HB1.out.size;omega)⟩,below_put2 HWz.out (by omega) _ _⟩
       ·have e4:((s[j].toNat:Int)==(l:Int))=false:=beq_eq_false_iff_ne.2 (by omega)
        have e5:(s[j].toNat==l)=false:=beq_eq_false_iff_ne.2 hq
        have HX2:=Lib.hid (show∀x,x<j+1→(bytesOf s).getD x 0≠l from fun x hx=>by
         rcases Nat.lt_or_ge x j with h|h
         ·exact HX.out x h
         ·rw[show x=j by omega,HBD.out];exact hq)
        clear hlen
        go_wp2_with fail
        go_roundg (s.size - (j+1))
        case measure=>have:=HG2.out;omega
        case rel=>exact⟨j+1,by go_num,rfl,by omega,HX2.out,rfl⟩
      ·have hjs': ¬(j:Int)<(s.size:Int):=by omega
       have hno:(ownC true).contains l=false:=by
        rw[←HSS.out,Bool.eq_false_iff,Ne,List.contains_iff_mem]
        intro hm
        obtain⟨x,hx,he⟩:=List.getElem_of_mem hm
        refine HX.out x (by rw[bytesOf_length]at hx;omega) ?_
        rw[List.getD_eq_getElem?_getD,List.getElem?_eq_getElem hx,Option.getD_some,he]
       have HS3:=Lib.hid (show setB true c=[l]by rw[HS2.out,hno];rfl)
       obtain⟨t,ht,hz,hcv⟩:=conv1 wr l hl256
       have HT:=Lib.hid ht
       have hb1:Below wr.heap.size wr (wr.alloc (.cells #[.int .u8 (l:Nat)] 5)):=(by repeat (first|exact Below.refl _ _|assumption|refine Below.drew ?_|refine Below.alloc ?_ (by first|(simp;done)|(simp;omega)|omega) _|refine Below.setCell ?_ (by first|(simp;done)|(simp;omega)|omega) _))
       have HR1:=Lib.hid (HR.out.below hb1)
       have HB1:=Lib.hid (HB.out.trans (hb1.mono HB.out.size))
       clear hno ht hb1
       go_wp2_with fail
       refine(rsays_call t (by omega)).mono ?_;rintro e w2 ⟨⟨v,rfl,hv⟩,hb2⟩
       rw[HT.out,←HS3.out]at hv
       obtain⟨oa,nn,ca,bb,hq⟩:=hv.form2
       cases hq
       have HV:=Lib.hid hv
       have HRz:=Lib.hid (HR1.out.below hb2)
       have HWz:=Lib.hid (HB1.out.trans (hb2.mono HB1.out.size))
       have HRL:=Lib.hid (HR1.out.lt)
       clear hv hb2 hcv
       have r0:=HRz.out.c0
       have r1:=HRz.out.c1
       have rl:=HRz.out.lt
       have f0:=HRz.out.fz 0
       have f1:=HRz.out.fz 1
       go_wp2_with fail
       exact bodyPost_ret (v:= .agg #[.slice oa nn ca,.bool bb]) (by simp[results,Tryz.results227,go_sem, *]) rfl ⟨⟨_,rfl,(HV.out.put2 HRL.out _ _).mono (by have:=HB1.out.size;omega)⟩,below_put2 HWz.out (by omega) _ _⟩
    |false=>
     go_upto_region 17 with fail
     generalize hq:(⟨#[46,91,42,94,36,92]⟩:ByteArray)=s
     have hs:bytesOf s=ownC false:=by rw[←hq];rfl
     have hsz:s.size≤12:=by rw[←hq];decide
     have HSS:=Lib.hid hs
     clear hq hs
     go_wp2_with fail
     obtain⟨wo,rfl⟩: ∃wo:World,wo=wr:=⟨_,rfl⟩
     go_loopg [9] s.size (fun k iv wr=> ∃j:Nat,iv= .int .i64 (j:Nat)∧k=s.size - j∧j≤s.size∧(∀x,x<j→(bytesOf s).getD x 0≠l)∧wr=wo)
     case atStart=>exact⟨0,rfl,by omega,by omega,fun x hx=>by omega,rfl⟩
     case round=>
      obtain⟨j,rfl,hg,hj,hx,hw⟩:=hrel
      subst hw
      have HG2:=Lib.hid hg
      have HX:=Lib.hid hx
      clear hg hx
      by_cases hjs:j<s.size
      ·have hjs':(j:Int)<(s.size:Int):=by omega
       have HBD:=Lib.hid (bytesOf_getD s j hjs)
       have hub:s[j].toNat<256:=s[j].toNat_lt
       have hlen:j<(bytesOf s).length:=by rw[bytesOf_length];exact hjs
       by_cases hq:s[j].toNat=l
       ·have e4:((s[j].toNat:Int)==(l:Int))=true:=by rw[hq];exact beq_self_eq_true _
        have hmem:(ownC false).contains l=true:=by
         rw[←HSS.out,List.contains_iff_mem]
         have h:=HBD.out
         rw[List.getD_eq_getElem?_getD,List.getElem?_eq_getElem hlen,Option.getD_some,hq]at h
         rw[←h]
         exact List.getElem_mem hlen
        have HS3:=Lib.hid (show setB false c=[92,l]by rw[HS2.out,if_pos hmem])
        obtain⟨t,ht,hz,hcv⟩:=conv2 wr l hl256
        have HT:=Lib.hid ht
        have hb1:Below wr.heap.size wr (wr.alloc (.cells #[.int .u8 92,.int .u8 (l:Nat)] 5)):=(by repeat (first|exact Below.refl _ _|assumption|refine Below.drew ?_|refine Below.alloc ?_ (by first|(simp;done)|(simp;omega)|omega) _|refine Below.setCell ?_ (by first|(simp;done)|(simp;omega)|omega) _))
        have HR1:=Lib.hid (HR.out.below hb1)
        have HB1:=Lib.hid (HB.out.trans (hb1.mono HB.out.size))
        clear hmem ht hb1 hlen
        go_wp2_with fail
        refine(rsays_call t (by omega)).mono ?_;rintro e w2 ⟨⟨v,rfl,hv⟩,hb2⟩
        rw[HT.out,←HS3.out]at hv
        obtain⟨oa,nn,ca,bb,hq⟩:=hv.form2
        cases hq
        have HV:=Lib.hid hv
        have HRz:=Lib.hid (HR1.out.below hb2)
        have HWz:=Lib.hid (HB1.out.trans (hb2.mono HB1.out.size))
        have HRL:=Lib.hid (HR1.out.lt)
        clear hv hb2 hcv
        have r0:=HRz.out.c0
        have r1:=HRz.out.c1
        have rl:=HRz.out.lt
        have f0:=HRz.out.fz 0
        have f1:=HRz.out.fz 1
        go_wp2_with fail
        exact bodyPost_ret (v:= .agg #[.slice oa nn ca,.bool bb]) (by simp[results,Tryz.results227,go_sem, *]) rfl ⟨⟨_,rfl,(HV.out.put2 HRL.out _ _).mono (by have:=HB1.out.size;omega)⟩,below_put2 HWz.out (by omega) _ _⟩
       ·have e4:((s[j].toNat:Int)==(l:Int))=false:=beq_eq_false_iff_ne.2 (by omega)
        have e5:(s[j].toNat==l)=false:=beq_eq_false_iff_ne.2 hq
        have HX2:=Lib.hid (show∀x,x<j+1→(bytesOf s).getD x 0≠l from fun x hx=>by
         rcases Nat.lt_or_ge x j with h|h
         ·exact HX.out x h
         ·rw[show x=j by omega,HBD.out];exact hq)
        clear hlen
        go_wp2_with fail
        go_roundg (s.size - (j+1))
        case measure=>have:=HG2.out;omega
        case rel=>exact⟨j+1,by go_num,rfl,by omega,HX2.out,rfl⟩
      ·have hjs': ¬(j:Int)<(s.size:Int):=by omega
       have hno:(ownC false).contains l=false:=by
        rw[←HSS.out,Bool.eq_false_iff,Ne,List.contains_iff_mem]
        intro hm
        obtain⟨x,hx,he⟩:=List.getElem_of_mem hm
        refine HX.out x (by rw[bytesOf_length]at hx;omega) ?_
        rw[List.getD_eq_getElem?_getD,List.getElem?_eq_getElem hx,Option.getD_some,he]
       have HS3:=Lib.hid (show setB false c=[l]by rw[HS2.out,hno];rfl)
       obtain⟨t,ht,hz,hcv⟩:=conv1 wr l hl256
       have HT:=Lib.hid ht
       have hb1:Below wr.heap.size wr (wr.alloc (.cells #[.int .u8 (l:Nat)] 5)):=(by repeat (first|exact Below.refl _ _|assumption|refine Below.drew ?_|refine Below.alloc ?_ (by first|(simp;done)|(simp;omega)|omega) _|refine Below.setCell ?_ (by first|(simp;done)|(simp;omega)|omega) _))
       have HR1:=Lib.hid (HR.out.below hb1)
       have HB1:=Lib.hid (HB.out.trans (hb1.mono HB.out.size))
       clear hno ht hb1
       go_wp2_with fail
       refine(rsays_call t (by omega)).mono ?_;rintro e w2 ⟨⟨v,rfl,hv⟩,hb2⟩
       rw[HT.out,←HS3.out]at hv
       obtain⟨oa,nn,ca,bb,hq⟩:=hv.form2
       cases hq
       have HV:=Lib.hid hv
       have HRz:=Lib.hid (HR1.out.below hb2)
       have HWz:=Lib.hid (HB1.out.trans (hb2.mono HB1.out.size))
       have HRL:=Lib.hid (HR1.out.lt)
       clear hv hb2 hcv
       have r0:=HRz.out.c0
       have r1:=HRz.out.c1
       have rl:=HRz.out.lt
       have f0:=HRz.out.fz 0
       have f1:=HRz.out.fz 1
       go_wp2_with fail
       exact bodyPost_ret (v:= .agg #[.slice oa nn ca,.bool bb]) (by simp[results,Tryz.results227,go_sem, *]) rfl ⟨⟨_,rfl,(HV.out.put2 HRL.out _ _).mono (by have:=HB1.out.size;omega)⟩,below_put2 HWz.out (by omega) _ _⟩
   ·have e2:((n:Int)==1)=false:=beq_eq_false_iff_ne.2 (by omega)
    have HS:=Lib.hid (show setB ere c=brackB c by
     rw[setB,if_neg (by rw[HNN.out];exact h256)]
     have h:=HNN.out
     cases hc:c.els with
     |nil=>rfl
     |cons x t=>
      cases t with
      |nil=>rw[hc]at h;simp at h;omega
      |cons y t=>rfl)
    obtain⟨z0,z1,z2,z3⟩:=HA.out.cells
    have hl:=HA.out.lt
    clear h256 h1
    go_wp2_with fail
    refine(rbrack_call c).mono ?_;rintro e w2 ⟨⟨v,rfl,hm⟩,hb2⟩
    have hv:=SaidR.of_mks hm
    rw[←HS.out]at hv
    have HQ:=Lib.hid hm.form
    clear hm z0 z1 z2 z3 hl
    obtain⟨ob,cb,rfl⟩:=HQ.out
    have HV:=Lib.hid hv
    have HRz:=Lib.hid (HR.out.below hb2)
    have HWz:=Lib.hid (HB.out.trans (hb2.mono HB.out.size))
    have HRL:=Lib.hid (HR.out.lt)
    clear hv hb2
    have r0:=HRz.out.c0
    have r1:=HRz.out.c1
    have rl:=HRz.out.lt
    have f0:=HRz.out.fz 0
    have f1:=HRz.out.fz 1
    go_wp2_with fail
    exact bodyPost_ret (v:= .agg #[.slice ob (List.map mk (brackB c)).length cb,.bool false]) (by simp[results,Tryz.results227,go_sem, *]) rfl ⟨⟨_,rfl,(HV.out.put2 HRL.out _ _).mono (by have:=HB.out.size;omega)⟩,below_put2 HWz.out (by omega) _ _⟩
end Go.Proofs.YtfjbnpdffillbaaGreatDoor
namespace Go.Proofs.YtfjbnpdffillbaaGreatDoor
def cutS (o:Option (List Nat × Nat)):Option (List Nat):=match o with
 |some (s,_)=>if s.length≤4096 then some s else none
 |none=>none
theorem cutS_len {o:Option (List Nat × Nat)} :((cutS o).getD []).length≤4096:=by
 cases o with
 |none=>simp[cutS]
 |some p=>
  obtain⟨s,j⟩:=p
  simp only[cutS]
  split
  ·simpa
  ·simp
theorem catS_len (a b:Option (List Nat)):((catS a b).getD []).length≤4096:=by
 cases a with
 |none=>simp[catS]
 |some s=>
  cases b with
  |none=>simp[catS]
  |some t=>
   simp only[catS]
   split
   ·rw[Option.getD_some,List.length_append];assumption
   ·simp
def restS (a:Option (List Nat)) (o:Option (List Nat × Nat)):Option (List Nat):=match a with
 |some s=>cutS (o.map fun p=>(s++p.1,p.2))
 |none=>none
theorem restS_nil (a:Option (List Nat)) (ha:(a.getD []).length≤4096) (j:Nat):restS a (some ([],j))=a:=by
 cases a with
 |none=>rfl
 |some s=>
  have h:s.length≤4096:=ha
  simp only[restS,Option.map_some,cutS,List.append_nil]
  rw[if_pos h]
theorem restS_start (o:Option (List Nat × Nat)):restS (some []) o=cutS o:=by
 cases o<;>simp[restS]
theorem restS_next (a:Option (List Nat)) (one:Option (List Nat × Nat)) (rest:Nat→Option (List Nat × Nat)) {o:Option (List Nat × Nat)} {j:Nat} (ho:o=match (generalizing:=false) one with|none=>none|some (t,jj)=>(rest jj).map fun p=>(t++p.1,p.2)) (hj: ∀t jj,one=some (t,jj)→jj=j):
  restS a o=restS (catS a (cutS one)) (rest j):=by
 subst ho
 cases a with
 |none=>rfl
 |some s=>
  cases one with
  |none=>rfl
  |some p=>
   obtain⟨t,jj⟩:=p
   obtain rfl:=hj t jj rfl
   simp only[restS,cutS]
   cases hr:rest jj with
   |none=>
    simp only[Option.map_none]
    split<;>simp
   |some q=>
    obtain⟨u,k⟩:=q
    simp only[Option.map_some]
    by_cases ht:t.length≤4096
    ·rw[if_pos ht]
     simp only[catS]
     by_cases hst:s.length+t.length≤4096
     ·rw[if_pos hst]
      simp[List.append_assoc]
     ·rw[if_neg hst]
      simp only[]
      rw[if_neg (by simp only[List.length_append];omega)]
    ·rw[if_neg ht]
     simp only[catS]
     rw[if_neg (by simp only[List.length_append];omega)]
theorem wrap_cut (a c:List Nat) (o:Option (List Nat × Nat)) (ha:a.length≤10):catS (catS (some a) (cutS o)) (some c)=cutS (o.map fun p=>(a++(p.1++c),p.2)):=by
 cases o with
 |none=>rfl
 |some p=>
  obtain⟨s,j⟩:=p
  simp only[cutS,Option.map_some,catS]
  by_cases h1:s.length≤4096
  ·rw[if_pos h1]
   simp only[]
   by_cases h2:a.length+s.length≤4096
   ·rw[if_pos h2]
    simp only[List.length_append,List.append_assoc,Nat.add_assoc]
   ·rw[if_neg h2]
    rw[if_neg (by simp only[List.length_append];omega)]
  ·rw[if_neg h1]
   simp only[]
   rw[if_neg (by simp only[List.length_append];omega)]
theorem nodeN_end {re:List Nd} : ∀(f g i:Nat) (en:List Bool) (j:Nat) (en':List Bool),nodeN re f g i en=some (j,en')→i<j∧j≤re.length
 |0,_,_,_,_,_,h=>by simp[nodeN]at h
 |f+1,g,i,en,j,en',h=>by
  rw[nodeN]at h
  split at h
  ·cases h
  rename_i x hx
  have hi:=(List.getElem?_eq_some_iff.1 hx).1
  have hk: ∀(k a:Nat) (g:Nat) (en:List Bool) (j:Nat) (en':List Bool),kidsN (nodeN re f g) k a en=some (j,en')→a+k≤j∧(j=a∨j≤re.length):=by
   intro k
   induction k with
   |zero=>intro a g en j en' h;simp only[kidsN,Option.some.injEq,Prod.mk.injEq]at h;omega
   |succ k ih=>
    intro a g en j en' h
    simp only[kidsN]at h
    split at h
    ·cases h
    ·rename_i b e1 h1
     have h2:=nodeN_end f g a en b e1 h1
     have h3:=ih b g e1 j en' h
     omega
  split at h
  ·cases h
  split at h
  ·cases h
  split at h
  ·split at h
   ·cases h
   ·split at h
    ·cases h
    ·rename_i b e1 h1
     simp only[Option.some.injEq,Prod.mk.injEq]at h
     have:=hk _ _ _ _ _ _ h1
     omega
  ·have:=hk _ _ _ _ _ _ h
   omega
theorem behindN_at {re:List Nd} (hs:shapedN re=true) {f g i:Nat} {en:List Bool} {j:Nat} {en':List Bool} (hf:f≤260) (h:nodeN re f g i en=some (j,en')):behindN re (i:Int)=(j:Int):=by
 obtain⟨w,hw⟩:=weighN_of_nodeN re f g i en j en' h
 have hw2:=weighN_mono re hf hw
 have hi:=nodeN_end f g i en j en' h
 unfold behindN
 rw[if_pos (by simp[hs];omega),Int.toNat_natCast,hw2]
theorem place_all {ere:Bool} {re:List Nd} : ∀(f g i:Nat) (en:List Bool) (j:Nat) (en':List Bool),g≤64→en.length≤255→nodeN re f g i en=some (j,en')→
  (∀s k,atomP ere re (wholeP ere re (65 - g)) i=some (s,k)→k=j)∧(∀p q s k,partP ere re (wholeP ere re (65 - g)) p q i=some (s,k)→k=j)∧
  (∀s k,rowP ere re (wholeP ere re (65 - g)) i=some (s,k)→k=j)∧(∀s k,wholeP ere re (66 - g) i=some (s,k)→k=j)
 |0,_,_,_,_,_,_,_,h=>by simp[nodeN]at h
 |f+1,g,i,en,j,en',hg,he,h=>by
  obtain⟨x,hk⟩:=nodeN_at h he
  have hkids: ∀(F:Bool→Bool→Nat→Option (List Nat × Nat)),(∀(p q:Bool) (a:Nat) (en:List Bool) (b:Nat) (en':List Bool) s k,en.length≤255→nodeN re f g a en=some (b,en')→F p q a=some (s,k)→k=b)→True:=fun _ _=>trivial
  have hA: ∀s k,atomP ere re (wholeP ere re (65 - g)) i=some (s,k)→k=j:=by
   intro s k ha
   unfold atomP at ha
   rw[hk.hx]at ha
   simp only at ha
   split at ha
   ·rename_i h1
    have:=hk.leaf (.inl (by omega))
    simp only[Option.some.injEq,Prod.mk.injEq]at ha
    omega
   ·split at ha
    ·rename_i h1 h7
     obtain⟨hg64,hel,e1,h2⟩:=hk.grp h7
     split at ha
     ·cases ha
     ·rename_i y hy
      split at ha
      ·rename_i h4
       simp only[Option.some.injEq,Prod.mk.injEq]at ha
       cases f with
       |zero=>simp[nodeN]at h2
       |succ f=>
        obtain⟨y',hk2⟩:=nodeN_at h2 hel
        obtain rfl:y'=y:=Option.some.inj (hk2.hx.symm.trans hy)
        obtain⟨e3,h3⟩:=hk2.kids (.inl h4.1)
        rw[h4.2]at h3
        simp only[Int.toNat_zero,kidsN,Option.some.injEq,Prod.mk.injEq]at h3
        omega
      ·split at ha
       ·cases ha
       ·rename_i s2 k2 hw
        simp only[Option.some.injEq,Prod.mk.injEq]at ha
        have:=(place_all f (g+1) (i+1) (en++[false]) j e1 (by omega) hel h2).2.2.2 s2 k2 (by rw[show 66 - (g+1)=65 - g by omega];exact hw)
        omega
    ·split at ha
     ·rename_i h8
      split at ha
      ·cases ha
      ·have:=hk.leaf (.inr h8)
       simp only[Option.some.injEq,Prod.mk.injEq]at ha
       omega
     ·cases ha
  have hP: ∀p q s k,partP ere re (wholeP ere re (65 - g)) p q i=some (s,k)→k=j:=by
   intro p q s k hp
   unfold partP at hp
   rw[hk.hx]at hp
   simp only at hp
   split at hp
   ·rename_i h2
    have:=hk.leaf (.inl (by omega))
    split at hp
    ·simp only[Option.some.injEq,Prod.mk.injEq]at hp;omega
    ·cases hp
   ·split at hp
    ·rename_i h3
     have:=hk.leaf (.inl (by omega))
     split at hp
     ·simp only[Option.some.injEq,Prod.mk.injEq]at hp;omega
     ·cases hp
    ·split at hp
     ·rename_i h6
      obtain⟨_,_,e1,h2⟩:=hk.rep h6
      split at hp
      ·cases hp
      ·rename_i s2 k2 ha
       simp only[Option.some.injEq,Prod.mk.injEq]at hp
       have:=(place_all f g (i+1) en j e1 hg he h2).1 s2 k2 ha
       omega
     ·exact hA s k hp
  have hparts: ∀(m a:Nat) (en:List Bool) (b:Nat) (e1:List Bool) (first:Bool) s k,en.length≤255→kidsN (nodeN re f g) m a en=some (b,e1)→partsP ere re (wholeP ere re (65 - g)) m first a=some (s,k)→k=b:=by
   intro m
   induction m with
   |zero=>
    intro a en b e1 first s k _ h1 h2
    simp only[kidsN,partsP,Option.some.injEq,Prod.mk.injEq]at h1 h2
    omega
   |succ m ih=>
    intro a en b e1 first s k hel h1 h2
    simp only[kidsN]at h1
    split at h1
    ·cases h1
    rename_i c e2 h3
    simp only[partsP]at h2
    split at h2
    ·cases h2
    rename_i s2 k2 h4
    split at h2
    ·cases h2
    rename_i s3 k3 h5
    simp only[Option.some.injEq,Prod.mk.injEq]at h2
    have h6:=(place_all f g a en c e2 hg hel h3).2.1 first (m==0) s2 k2 h4
    subst h6
    have:=ih k2 e2 b e1 false s3 k3 (nodeN_el re f g a en (k2,e2) h3 hel) h1 h5
    omega
  have hR: ∀s k,rowP ere re (wholeP ere re (65 - g)) i=some (s,k)→k=j:=by
   intro s k hr
   unfold rowP at hr
   rw[hk.hx]at hr
   simp only at hr
   split at hr
   ·exact hP true true s k hr
   ·rename_i h4
    split at hr
    ·cases hr
    ·obtain⟨e1,h2⟩:=hk.kids (.inl (by simpa using h4))
     exact hparts _ _ _ _ _ _ s k he h2 hr
  have hrows: ∀(m a:Nat) (en:List Bool) (b:Nat) (e1:List Bool) (first:Bool) s k,en.length≤255→kidsN (nodeN re f g) m a en=some (b,e1)→rowsP ere re (wholeP ere re (65 - g)) m first a=some (s,k)→k=b:=by
   intro m
   induction m with
   |zero=>
    intro a en b e1 first s k _ h1 h2
    simp only[kidsN,rowsP,Option.some.injEq,Prod.mk.injEq]at h1 h2
    omega
   |succ m ih=>
    intro a en b e1 first s k hel h1 h2
    simp only[kidsN]at h1
    split at h1
    ·cases h1
    rename_i c e2 h3
    simp only[rowsP]at h2
    split at h2
    ·cases h2
    rename_i s2 k2 h4
    split at h2
    ·cases h2
    rename_i s3 k3 h5
    simp only[Option.some.injEq,Prod.mk.injEq]at h2
    have h6:=(place_all f g a en c e2 hg hel h3).2.2.1 s2 k2 h4
    subst h6
    have:=ih k2 e2 b e1 false s3 k3 (nodeN_el re f g a en (k2,e2) h3 hel) h1 h5
    omega
  refine⟨hA,hP,hR,fun s k hw=>?_⟩
  rw[show 66 - g=(65 - g)+1 by omega,wholeP]at hw
  rw[hk.hx]at hw
  simp only at hw
  split at hw
  ·exact hR s k hw
  ·rename_i h5
   split at hw
   ·obtain⟨e1,h2⟩:=hk.kids (.inr (by simpa using h5))
    exact hrows _ _ _ _ _ _ s k he h2 hw
   ·cases hw
end Go.Proofs.YtfjbnpdffillbaaGreatDoor
namespace Go.Proofs.YtfjbnpdffillbaaGreatDoor
open Go.RowKit
theorem sgn_len (ere:Bool) (c:Nat):(signB ere c).length≤2:=by cases ere<;>simp[signB]
theorem catS_two {a b:List Nat} (h:a.length+b.length≤4096):catS (some a) (some b)=some (a++b):=by
 simp only[catS]
 rw[if_pos h]
def dupBody (mn mx:Int):List Nat:=itoB mn++(if mx=mn then []else 44::(if 0≤mx then itoB mx else []))
theorem itoB_nat {z:Int} (h:0≤z):itoB z=digB z.toNat:=by rw[itoB,if_neg (by omega)]
set_option maxRecDepth 100000 in
set_option maxHeartbeats 6400000 in
theorem rdup_call (ere:Bool) (x:Nd) (h1:0≤x.min∧x.min≤255) (h2: -1≤x.max∧x.max≤255) {w:World} :
  Calls Tryz.prog 220 #[.bool ere,ndV x] w fun e w'=>(∃v,e= .returned v∧SaidR w' w.heap.size (some (dupB ere x)) v)∧Below w.heap.size w w':=by
 have HD:Hid (dupB ere x=if x.min=0∧x.max<0 then [42]else if ere=true∧x.min=1∧x.max<0 then [43]else if ere=true∧x.min=0∧x.max=1 then [63]else signB ere 123++(dupBody x.min x.max++signB ere 125)):=by
  rw[Hid,dupB,dupBody,List.append_assoc]
 obtain⟨op,⟨x0,x1,x2,x3⟩,xn,mn,mx,xk⟩:=x
 simp only at h1 h2
 dsimp only at HD
 generalize dupB ere ⟨op,⟨x0,x1,x2,x3⟩,xn,mn,mx,xk⟩=D at HD ⊢
 go_enter Tryz.func220,Tryz.ntmps220
 go_upto_block 0 with fail
 have hc: ∀i,((w.alloc (.cells #[.int .i8 op,.int .u64 x0.toNat,.int .u64 x1.toNat,.int .u64 x2.toNat,.int .u64 x3.toNat,.int .i64 xn,.int .i64 mn,.int .i64 mx,.int .i64 xk] 78)).alloc (.cells #[.slice none 0 0,.bool false] 222)).cell? ⟨w.heap.size,i,none⟩=(#[Value.int .i8 op,.int .u64 x0.toNat,.int .u64 x1.toNat,.int .u64 x2.toNat,.int .u64 x3.toNat,.int .i64 xn,.int .i64 mn,.int .i64 mx,.int .i64 xk])[i]?:=fun i=>
  cell_of_row _ _ i _ _ (0,0) ((heap_alloc_old _ _ (by simp)).trans (heap_alloc_new _ _))
 have m6:=hc 6
 have m7:=hc 7
 have hR:saidAt ((w.alloc (.cells #[.int .i8 op,.int .u64 x0.toNat,.int .u64 x1.toNat,.int .u64 x2.toNat,.int .u64 x3.toNat,.int .i64 xn,.int .i64 mn,.int .i64 mx,.int .i64 xk] 78)).alloc (.cells #[.slice none 0 0,.bool false] 222)) (w.heap.size+1) (.slice none 0 0) false:=made_at (by simp)
 have hW:Below w.heap.size w ((w.alloc (.cells #[.int .i8 op,.int .u64 x0.toNat,.int .u64 x1.toNat,.int .u64 x2.toNat,.int .u64 x3.toNat,.int .i64 xn,.int .i64 mn,.int .i64 mx,.int .i64 xk] 78)).alloc (.cells #[.slice none 0 0,.bool false] 222)):=(by repeat (first|exact Below.refl _ _|assumption|refine Below.drew ?_|refine Below.alloc ?_ (by first|(simp;done)|(simp;omega)|omega) _|refine Below.setCell ?_ (by first|(simp;done)|(simp;omega)|omega) _))
 clear hc
 revert m6 m7 hR hW
 generalize (w.alloc (.cells #[.int .i8 op,.int .u64 x0.toNat,.int .u64 x1.toNat,.int .u64 x2.toNat,.int .u64 x3.toNat,.int .i64 xn,.int .i64 mn,.int .i64 mx,.int .i64 xk] 78)).alloc (.cells #[.slice none 0 0,.bool false] 222)=wx
 intro m6 m7 hR hW
 rw[show(#[Value.int .i8 op,.int .u64 x0.toNat,.int .u64 x1.toNat,.int .u64 x2.toNat,.int .u64 x3.toNat,.int .i64 xn,.int .i64 mn,.int .i64 mx,.int .i64 xk])[6]?=some (.int .i64 mn)from rfl]at m6
 rw[show(#[Value.int .i8 op,.int .u64 x0.toNat,.int .u64 x1.toNat,.int .u64 x2.toNat,.int .u64 x3.toNat,.int .i64 xn,.int .i64 mn,.int .i64 mx,.int .i64 xk])[7]?=some (.int .i64 mx)from rfl]at m7
 have HR:=Lib.hid hR
 have HW:=Lib.hid hW
 have nl:w.heap.size<wx.heap.size:=by have:=hR.lt;omega
 clear hR hW
 by_cases hA:mn=0∧mx= -1
 ·have HS:=Lib.hid (show D=[42]by rw[HD.out,if_pos (by omega)])
  obtain⟨rfl,rfl⟩:=hA
  go_wp2_with fail
  refine(rsays_call ⟨#[42]⟩ (by decide)).mono ?_;rintro e w2 ⟨⟨v,rfl,hv⟩,hb2⟩
  rw[show bytesOf ⟨#[42]⟩=[42]from rfl,←HS.out]at hv
  obtain⟨oa,nn,ca,bb,hq⟩:=hv.form2
  cases hq
  have HV:=Lib.hid hv
  have HRz:=Lib.hid (HR.out.below hb2)
  have HWz:=Lib.hid (HW.out.trans (hb2.mono HW.out.size))
  have HRL:=Lib.hid (HR.out.lt)
  clear hv hb2 m6 m7 nl
  have r0:=HRz.out.c0
  have r1:=HRz.out.c1
  have rl:=HRz.out.lt
  have f0:=HRz.out.fz 0
  have f1:=HRz.out.fz 1
  go_wp2_with fail
  exact bodyPost_ret (v:= .agg #[.slice oa nn ca,.bool bb]) (by simp[results,Tryz.results220,go_sem, *]) rfl ⟨⟨_,rfl,(HV.out.put2 HRL.out _ _).mono (by have:=HW.out.size;omega)⟩,below_put2 HWz.out (by omega) _ _⟩
 by_cases hB:ere=true∧mn=1∧mx= -1
 ·have HS:=Lib.hid (show D=[43]by rw[HD.out,if_neg (by omega),if_pos ⟨hB.1,by omega⟩])
  obtain⟨rfl,rfl,rfl⟩:=hB
  go_wp2_with fail
  refine(rsays_call ⟨#[43]⟩ (by decide)).mono ?_;rintro e w2 ⟨⟨v,rfl,hv⟩,hb2⟩
  rw[show bytesOf ⟨#[43]⟩=[43]from rfl,←HS.out]at hv
  obtain⟨oa,nn,ca,bb,hq⟩:=hv.form2
  cases hq
  have HV:=Lib.hid hv
  have HRz:=Lib.hid (HR.out.below hb2)
  have HWz:=Lib.hid (HW.out.trans (hb2.mono HW.out.size))
  have HRL:=Lib.hid (HR.out.lt)
  clear hv hb2 m6 m7 nl
  have r0:=HRz.out.c0
  have r1:=HRz.out.c1
  have rl:=HRz.out.lt
  have f0:=HRz.out.fz 0
  have f1:=HRz.out.fz 1
  go_wp2_with fail
  exact bodyPost_ret (v:= .agg #[.slice oa nn ca,.bool bb]) (by simp[results,Tryz.results220,go_sem, *]) rfl ⟨⟨_,rfl,(HV.out.put2 HRL.out _ _).mono (by have:=HW.out.size;omega)⟩,below_put2 HWz.out (by omega) _ _⟩
 by_cases hC:ere=true∧mn=0∧mx=1
 ·have HS:=Lib.hid (show D=[63]by rw[HD.out,if_neg (by omega),if_neg (by omega),if_pos hC])
  obtain⟨rfl,rfl,rfl⟩:=hC
  go_wp2_with fail
  refine(rsays_call ⟨#[63]⟩ (by decide)).mono ?_;rintro e w2 ⟨⟨v,rfl,hv⟩,hb2⟩
  rw[show bytesOf ⟨#[63]⟩=[63]from rfl,←HS.out]at hv
  obtain⟨oa,nn,ca,bb,hq⟩:=hv.form2
  cases hq
  have HV:=Lib.hid hv
  have HRz:=Lib.hid (HR.out.below hb2)
  have HWz:=Lib.hid (HW.out.trans (hb2.mono HW.out.size))
  have HRL:=Lib.hid (HR.out.lt)
  clear hv hb2 m6 m7 nl
  have r0:=HRz.out.c0
  have r1:=HRz.out.c1
  have rl:=HRz.out.lt
  have f0:=HRz.out.fz 0
  have f1:=HRz.out.fz 1
  go_wp2_with fail
  exact bodyPost_ret (v:= .agg #[.slice oa nn ca,.bool bb]) (by simp[results,Tryz.results220,go_sem, *]) rfl ⟨⟨_,rfl,(HV.out.put2 HRL.out _ _).mono (by have:=HW.out.size;omega)⟩,below_put2 HWz.out (by omega) _ _⟩
 have HS:=Lib.hid (show D=signB ere 123++(dupBody mn mx++signB ere 125)by
  rw[HD.out,if_neg (by omega),if_neg (fun h=>hB ⟨h.1,h.2.1,by omega⟩),if_neg hC])
 have hway:(ere=false∧mn=0∧mx≠ -1)∨(ere=false∧mn≠0)∨(ere=true∧mn=0∧mx≠ -1∧mx≠1)∨(ere=true∧mn=1∧mx≠ -1)∨(ere=true∧mn≠0∧mn≠1):=by
  cases ere
  ·by_cases h0:mn=0
   ·exact .inl ⟨rfl,h0,fun h=>hA ⟨h0,h⟩⟩
   ·exact .inr (.inl ⟨rfl,h0⟩)
  ·by_cases h0:mn=0
   ·exact .inr (.inr (.inl ⟨rfl,h0,fun h=>hA ⟨h0,h⟩,fun h=>hC ⟨rfl,h0,h⟩⟩))
   ·by_cases h3:mn=1
    ·exact .inr (.inr (.inr (.inl ⟨rfl,h3,fun h=>hB ⟨rfl,h3,h⟩⟩)))
    ·exact .inr (.inr (.inr (.inr ⟨rfl,h0,h3⟩)))
 clear HD hA hB hC
 go_cut [6] (fun _ wc=>wc=wx)
 case first=>
  rcases hway with ⟨rfl,rfl,h⟩|⟨rfl,h⟩|⟨rfl,rfl,h,h'⟩|⟨rfl,rfl,h⟩|⟨rfl,h,h'⟩
  ·have e1:(mx== -1)=false:=beq_eq_false_iff_ne.2 h
   clear h
   go_wp2_with fail
   go_meet
   rfl
  ·have e1:(mn==0)=false:=beq_eq_false_iff_ne.2 h
   clear h
   go_wp2_with fail
   go_meet
   rfl
  ·have e1:(mx== -1)=false:=beq_eq_false_iff_ne.2 h
   have e2:(mx==1)=false:=beq_eq_false_iff_ne.2 h'
   clear h h'
   go_wp2_with fail
   go_meet
   rfl
  ·have e1:(mx== -1)=false:=beq_eq_false_iff_ne.2 h
   clear h
   go_wp2_with fail
   go_meet
   rfl
  ·have e1:(mn==0)=false:=beq_eq_false_iff_ne.2 h
   have e2:(mn==1)=false:=beq_eq_false_iff_ne.2 h'
   clear h h'
   go_wp2_with fail
   go_meet
   rfl
 case rest=>
 subst hcut
 clear hway
 obtain⟨a,rfl⟩: ∃a:Nat,mn=(a:Int):=⟨mn.toNat,by omega⟩
 have HAB:=Lib.hid (itoB_nat (z:=(a:Int)) (by omega))
 go_wp2_with fail
 refine(digits_call 2 a (by omega) (by omega)).mono ?_;rintro e w1 ⟨⟨s1,rfl,hs1,hz1⟩,hb1⟩
 have HS1:=Lib.hid (show bytesOf s1=itoB (a:Int)by rw[hs1,HAB.out];rfl)
 have HR1:=Lib.hid (HR.out.below hb1)
 have HW1:=Lib.hid (HW.out.trans (hb1.mono HW.out.size))
 have m6':=(hb1.cell (p:=⟨w.heap.size,6,none⟩) nl).trans m6
 have m7':=(hb1.cell (p:=⟨w.heap.size,7,none⟩) nl).trans m7
 have nl':=Nat.lt_of_lt_of_le nl hb1.size
 clear hs1 hb1 m6 m7 nl
 go_upto_if 47 with fail
 go_cut [5] (fun sv wc=> ∃s,sv= .string s∧bytesOf s=dupBody (a:Int) mx∧s.size≤20∧saidAt wc (w.heap.size+1) (.slice none 0 0) false∧Below w.heap.size w wc)
 case first=>
  have hz1': ¬9223372036854775807<s1.size+1:=by omega
  by_cases hm:mx= -1
  ·subst hm
   have HBD:=Lib.hid (show dupBody (a:Int) (-1)=itoB (a:Int)++[44]by rw[dupBody,if_neg (by omega),if_neg (by decide)])
   go_wp2_with fail
   go_meet
   exact⟨_,rfl,by rw[bytesOf_append,HS1.out,HBD.out];rfl,by rw[ByteArray.size_append];show s1.size+1≤20;omega,HR1.out,HW1.out⟩
  ·have e1:(mx== -1)=false:=beq_eq_false_iff_ne.2 hm
   obtain⟨b,rfl⟩: ∃b:Nat,mx=(b:Int):=⟨mx.toNat,by omega⟩
   by_cases hab:b=a
   ·have e2:((b:Int) !=(a:Int))=false:=by rw[hab];simp
    have HBD:=Lib.hid (show dupBody (a:Int) (b:Int)=itoB (a:Int)by rw[dupBody,if_pos (by rw[hab]),List.append_nil])
    clear hm hab
    go_wp2_with fail
    go_meet
    exact⟨_,rfl,by rw[HS1.out,HBD.out],by omega,HR1.out,HW1.out⟩
   ·have e2:((b:Int) !=(a:Int))=true:=by simp[bne];omega
    have HBD:=Lib.hid (show dupBody (a:Int) (b:Int)=itoB (a:Int)++44::itoB (b:Int)by rw[dupBody,if_neg (by omega),if_pos (by omega)])
    have HBB:=Lib.hid (itoB_nat (z:=(b:Int)) (by omega))
    clear hm hab
    go_wp2_with fail
    refine(digits_call 2 b (by omega) (by omega)).mono ?_;rintro e w2 ⟨⟨s2,rfl,hs2,hz2⟩,hb2⟩
    have HS2:=Lib.hid (show bytesOf s2=itoB (b:Int)by rw[hs2,HBB.out];rfl)
    have HR2:=Lib.hid (HR1.out.below hb2)
    have HW2:=Lib.hid (HW1.out.trans (hb2.mono HW1.out.size))
    have hz2': ¬9223372036854775807<s1.size+1+s2.size:=by omega
    clear hs2 hb2 m6' m7' nl'
    go_wp2_with fail
    go_meet
    exact⟨_,rfl,by rw[bytesOf_append,bytesOf_append,HS1.out,HS2.out,HBD.out,List.append_assoc];rfl,by rw[ByteArray.size_append,ByteArray.size_append];show s1.size+1+s2.size≤20;omega,HR2.out,HW2.out⟩
 case rest=>
 obtain⟨s,hv5,hs,hz,hR,hW⟩:=hcut
 subst hv5
 have HS2:=Lib.hid hs
 have HR2:=Lib.hid hR
 have HW2:=Lib.hid hW
 have HSZ:=Lib.hid hz
 have hlb:(dupBody (a:Int) mx).length≤20:=by rw[←hs,bytesOf_length];exact hz
 generalize dupBody (a:Int) mx=body at HS HS2 hlb
 have hsl:=sgn_len ere 123
 have hsr:=sgn_len ere 125
 clear hs hR hW hz HR1 HW1 HS1 m6' m7' nl' hz1 HAB
 go_wp2_with fail
 refine(rsign_call ere 123 (by decide)).mono ?_;rintro e w3 ⟨⟨v3,rfl,hv3⟩,hb3⟩
 have HV3:=Lib.hid hv3
 have HR3:=Lib.hid (HR2.out.below hb3)
 have HW3:=Lib.hid (HW2.out.trans (hb3.mono HW2.out.size))
 clear hv3 hb3 HR2 HW2
 go_wp2_with fail
 refine(rsays_call s (by have:=HSZ.out;omega)).mono ?_;rintro e w4 ⟨⟨v4,rfl,hv4⟩,hb4⟩
 rw[HS2.out]at hv4
 have HV4:=Lib.hid hv4
 have HV34:=Lib.hid (HV3.out.below hb4)
 have HR4:=Lib.hid (HR3.out.below hb4)
 have HW4:=Lib.hid (HW3.out.trans (hb4.mono HW3.out.size))
 clear hv4 hb4 HV3 HR3 HW3
 go_wp2_with fail
 refine(then_call HV34.out HV4.out (by rw[Option.getD_some];omega) (by rw[Option.getD_some];omega)).mono ?_;rintro e w5 ⟨⟨v5,rfl,hv5⟩,hb5⟩
 rw[catS_two (by omega)]at hv5
 have HV5:=Lib.hid hv5
 have HR5:=Lib.hid (HR4.out.below hb5)
 have HW5:=Lib.hid (HW4.out.trans (hb5.mono HW4.out.size))
 clear hv5 hb5 HV34 HV4 HR4 HW4
 go_wp2_with fail
 refine(rsign_call ere 125 (by decide)).mono ?_;rintro e w6 ⟨⟨v6,rfl,hv6⟩,hb6⟩
 have HV6:=Lib.hid hv6
 have HV56:=Lib.hid (HV5.out.below hb6)
 have HR6:=Lib.hid (HR5.out.below hb6)
 have HW6:=Lib.hid (HW5.out.trans (hb6.mono HW5.out.size))
 clear hv6 hb6 HV5 HR5 HW5
 go_wp2_with fail
 refine(then_call HV56.out HV6.out (by rw[Option.getD_some,List.length_append];omega) (by rw[Option.getD_some];omega)).mono ?_;rintro e w2 ⟨⟨v,rfl,hv⟩,hb2⟩
 rw[catS_two (by rw[List.length_append];omega),List.append_assoc,←HS.out]at hv
 obtain⟨oa,nn,ca,bb,hq⟩:=hv.form2
 cases hq
 have HV:=Lib.hid hv
 have HRz:=Lib.hid (HR6.out.below hb2)
 have HWz:=Lib.hid (HW6.out.trans (hb2.mono HW6.out.size))
 have HRL:=Lib.hid (HR6.out.lt)
 clear hv hb2 HV56 HV6
 have r0:=HRz.out.c0
 have r1:=HRz.out.c1
 have rl:=HRz.out.lt
 have f0:=HRz.out.fz 0
 have f1:=HRz.out.fz 1
 go_wp2_with fail
 exact bodyPost_ret (v:= .agg #[.slice oa nn ca,.bool bb]) (by simp[results,Tryz.results220,go_sem, *]) rfl ⟨⟨_,rfl,(HV.out.put2 HRL.out _ _).mono (by have:=HW6.out.size;omega)⟩,below_put2 HWz.out (by omega) _ _⟩
end Go.Proofs.YtfjbnpdffillbaaGreatDoor
namespace Go.Proofs.YtfjbnpdffillbaaGreatDoor
open Go.RowKit
def placesN (re:List Nd):Nat→Int→List Int
 |0,_=>[]
 |k+1,i=>i::placesN re k (behindN re i)
def ints (l:List Int):List Value:=l.map fun z=> .int .i64 z
theorem elIntC:ElT Tryz.prog 126 3 1 8 (.int .i64 0):=⟨Tryz.underlying126,by kernel_rfl,rfl,by decide⟩
set_option maxRecDepth 100000 in
set_option maxHeartbeats 3200000 in
theorem rkids_call {re:List Nd} {oa:Option Addr} {cap a:Nat} {x:Nd} {w:World} (HOP:Hid (∀x∈re,-128≤x.op∧x.op≤127)) (h:NdV w oa re) (hx:re[a]?=some x) {K:Nat} (hk:x.kids=(K:Int)) (hK:K≤4294967296):
  Calls Tryz.prog 177 #[.slice oa re.length cap,.int .i64 (a:Nat)] w fun e w'=>(∃v,e= .returned v∧w'.ownsRow w.heap.size 3 1 v K (ints (placesN re K ((a:Int)+1))))∧Below w.heap.size w w':=by
 have hi:=(List.getElem?_eq_some_iff.1 hx).1
 have hre:=h.len
 obtain⟨nb,no,hoa,hnd⟩:=h.at_ (by omega)
 have HX:=Lib.hid hx
 have HV:=Lib.hid h
 have ha64:(a:Int)+1≤4294967297:=by omega
 have hi':(a:Int)<(re.length:Int):=by omega
 subst hoa
 have HND:=Lib.hid hnd
 have HKK:=Lib.hid hk
 clear h hnd hx hk
 go_enter Tryz.func177,Tryz.ntmps177
 go_wp2_with fail
 go_loopg [5,6,7] K (fun n lv nx iv wr=> ∃(m:Nat) (nxt:Int) (P:List Int),iv= .int .i64 (m:Nat)∧nx= .int .i64 nxt∧n=K - m∧m≤K∧P.length=m∧wr.ownsRow w.heap.size 3 1 lv m (ints P)∧placesN re K ((a:Int)+1)=P++placesN re (K - m) nxt∧Below w.heap.size w wr)
 case atStart=>exact⟨0,(a:Int)+1,[],rfl,rfl,by omega,by omega,rfl,World.ownsRow_nil _ _ _ _,rfl,Below.refl _ _⟩
 case round=>
  obtain⟨m,nxt,P,rfl,rfl,hg,hm,hP,ho,hpl,hb⟩:=hrel
  have HG:=Lib.hid hg
  have HO:=Lib.hid ho
  have HPL:=Lib.hid hpl
  have HPP:=Lib.hid hP
  have HB:=Lib.hid hb
  obtain⟨n0,n1,n2,n3,n4,n5,n6,n7,n8⟩:=(HND.out.below hb).cells HX.out
  rw[HKK.out]at n8
  have nbl:=(HND.out.below hb).lt
  clear hg ho hpl hb hP
  by_cases hlt:m<K
  ·have hlt':(m:Int)<(K:Int):=by omega
   go_wp2_with (at_builtin;refine wpList_app elIntC rfl _ _ rfl w.heap.size (n:=m) (m:=1) (news:=[.int .i64 nxt]) rfl (HO.out.alloc _) rfl (Src.new wr [.int .i64 nxt] _ _ _) rfl (by simp[Value.oneCell']) (by unfold maxLen;omega) (by omega) (by have:=HB.out.size;simp;omega) ?_)
   intro v1 w1 hown hgr _
   have hb1:=(HB.out.alloc HB.out.size (.cells #[.int .i64 nxt] 3)).grown hgr (by have:=HB.out.size;simp;omega) (fun k hk=>(HO.out.lt k hk).1)
   have HB1:=Lib.hid hb1
   have HO1:=Lib.hid (show w1.ownsRow w.heap.size 3 1 v1 (m+1) (ints (P++[nxt]))by simpa [ints]using hown)
   have HPL1:=Lib.hid (show placesN re K ((a:Int)+1)=(P++[nxt])++placesN re (K - (m+1)) (behindN re nxt)by
    rw[HPL.out,show K - m=(K - (m+1))+1 by omega,placesN];simp)
   clear hown hgr hb1 n0 n1 n2 n3 n4 n5 n6 n7 n8 nbl
   go_wp2_with fail
   refine(rbehind_call HOP nxt (HV.out.below HB1.out)).mono ?_;rintro e w2 ⟨rfl,hb2⟩
   have HB2:=Lib.hid (HB1.out.trans (hb2.mono HB1.out.size))
   have HO2:=Lib.hid (row_of_block HO1.out fun g hg=>hb2.block g (HO1.out.lt g hg).2)
   clear hb2
   generalize behindN re nxt=q at HPL1 ⊢
   go_wp2_with fail
   go_roundg (K - (m+1))
   case measure=>have:=HG.out;omega
   case rel=>exact⟨m+1,q,P++[nxt],by go_num,rfl,rfl,by omega,by rw[List.length_append,HPP.out];rfl,HO2.out,HPL1.out,HB2.out⟩
  ·have hlt': ¬(m:Int)<(K:Int):=by omega
   obtain rfl:K=m:=by omega
   have HFin:=Lib.hid (show placesN re K ((a:Int)+1)=P by rw[HPL.out,Nat.sub_self];simp[placesN])
   go_wp2_with fail
   go_ret
   exact⟨⟨_,rfl,by rw[HFin.out];exact HO.out⟩,HB.out⟩
end Go.Proofs.YtfjbnpdffillbaaGreatDoor
namespace Go.Proofs.YtfjbnpdffillbaaGreatDoor
open Go.RowKit
def RS (w:World) (o:Option (List Nat)) (e:Ending) (w':World):Prop:=(∃v,e= .returned v∧SaidR w' w.heap.size o v)∧Below w.heap.size w w'
structure RE where
 ere:Bool
 oa:Option Addr
 cap:Nat
 re:List Nd
def RWholeC (E:RE) (f:Nat):Prop:= ∀(g i:Nat) (en:List Bool) (j:Nat) (en':List Bool) (w:World),g≤64→en.length≤255→nodeN E.re f g i en=some (j,en')→NdV w E.oa E.re→
 Calls Tryz.prog 150 #[.bool E.ere,.slice E.oa E.re.length E.cap,.int .i64 (i:Nat)] w (RS w (cutS (wholeP E.ere E.re (66 - g) i)))
def RAtomC (E:RE) (f:Nat):Prop:= ∀(g i:Nat) (en:List Bool) (j:Nat) (en':List Bool) (w:World),g≤64→en.length≤255→nodeN E.re f g i en=some (j,en')→NdV w E.oa E.re→
 Calls Tryz.prog 219 #[.bool E.ere,.slice E.oa E.re.length E.cap,.int .i64 (i:Nat)] w (RS w (cutS (atomP E.ere E.re (wholeP E.ere E.re (65 - g)) i)))
theorem saidAt.put2 {w:World} {B:Nat} {v:Value} {no:Bool} (h:saidAt w B v no) (u:Value) (b:Bool):saidAt ((w.setCell ⟨B,0,none⟩ u).setCell ⟨B,1,none⟩ (.bool b)) B u b:=by
 have h2:=h.put u
 unfold saidAt at h2 ⊢
 generalize w.setCell ⟨B,0,none⟩ u=w2 at h2 ⊢
 simp only[World.setCell,Array.getElem?_modify,h2,if_true,Option.map_some]
 rfl
theorem cutS_small {s:List Nat} {j:Nat} (h:s.length≤4096):cutS (some (s,j))=some s:=by simp only[cutS];rw[if_pos h]
theorem wrap_empty (a c:List Nat) (ha:a.length≤10) (hc:c.length≤10):catS (catS (some a) (some [])) (some c)=some (a++c):=by
 rw[catS_two (by simp;omega),List.append_nil,catS_two (by omega)]
set_option maxRecDepth 100000 in
set_option maxHeartbeats 6400000 in
theorem ratom_call {E:RE} (f:Nat) (HWC:Hid (RWholeC E f)):RAtomC E (f+1):=by
 intro g i en j en' w hg hel hn h
 obtain⟨x,hk⟩:=nodeN_at hn hel
 have HK:=Lib.hid hk
 have HV:=Lib.hid h
 have hi:=(List.getElem?_eq_some_iff.1 hk.hx).1
 have hre:=h.len
 obtain⟨nb,no,hoa,hnd⟩:=h.at_ (by omega)
 have HND:=Lib.hid hnd
 obtain⟨n0,n1,n2,n3,n4,n5,n6,n7,n8⟩:=hnd.cells hk.hx
 have nbl:=hnd.lt
 have hi64:(i:Int)≤4294967296:=by omega
 have hi':(i:Int)<(E.re.length:Int):=by omega
 have HA:Hid (atomP E.ere E.re (wholeP E.ere E.re (65 - g)) i=if x.op=1 then some (setB E.ere x.set,i+1)
  else if x.op=7 then
   match E.re[i+1]? with
   |none=>none
   |some k=>
    if k.op=4∧k.kids=0 then some (signB E.ere 40++signB E.ere 41,i+2)
    else match wholeP E.ere E.re (65 - g) (i+1)with
     |none=>none
     |some (s,j)=>some (signB E.ere 40++(s++signB E.ere 41),j)
  else if x.op=8 then if E.ere=true∨9<x.n then none else some (92::itoB x.n,i+1)
  else none):=by rw[Hid,atomP,hk.hx];rfl
 obtain⟨ere,oa,cap,re⟩:=E
 dsimp only at*
 subst hoa
 generalize hD:atomP ere re (wholeP ere re (65 - g)) i=D at HA
 obtain⟨op,⟨x0,x1,x2,x3⟩,xn,mn,mx,xk⟩:=x
 dsimp only at*
 clear h hk hn hnd hD
 go_enter Tryz.func219,Tryz.ntmps219
 go_upto_region 2 with fail
 have hR:saidAt ((w.alloc (.cells #[.slice none 0 0,.bool false] 222)).alloc (.cells #[Value.int .i8 op,.int .u64 x0.toNat,.int .u64 x1.toNat,.int .u64 x2.toNat,.int .u64 x3.toNat,.int .i64 xn,.int .i64 mn,.int .i64 mx,.int .i64 xk] 78)) w.heap.size (.slice none 0 0) false:=(heap_alloc_old _ _ (by simp)).trans (heap_alloc_new _ _)
 have hc: ∀k,((w.alloc (.cells #[.slice none 0 0,.bool false] 222)).alloc (.cells #[Value.int .i8 op,.int .u64 x0.toNat,.int .u64 x1.toNat,.int .u64 x2.toNat,.int .u64 x3.toNat,.int .i64 xn,.int .i64 mn,.int .i64 mx,.int .i64 xk] 78)).cell? ⟨w.heap.size+1,k,none⟩=(#[Value.int .i8 op,.int .u64 x0.toNat,.int .u64 x1.toNat,.int .u64 x2.toNat,.int .u64 x3.toNat,.int .i64 xn,.int .i64 mn,.int .i64 mx,.int .i64 xk])[k]?:=fun k=>cell_of_row _ _ k _ _ (0,0) (made_at (by simp))
 have hW:Below w.heap.size w ((w.alloc (.cells #[.slice none 0 0,.bool false] 222)).alloc (.cells #[Value.int .i8 op,.int .u64 x0.toNat,.int .u64 x1.toNat,.int .u64 x2.toNat,.int .u64 x3.toNat,.int .i64 xn,.int .i64 mn,.int .i64 mx,.int .i64 xk] 78)):=(by repeat (first|exact Below.refl _ _|assumption|refine Below.drew ?_|refine Below.alloc ?_ (by first|(simp;done)|(simp;omega)|omega) _|refine Below.setCell ?_ (by first|(simp;done)|(simp;omega)|omega) _))
 have m0:=hc 0
 have m1:=hc 1
 have m2:=hc 2
 have m3:=hc 3
 have m4:=hc 4
 have m5:=hc 5
 have nl:w.heap.size+1<((w.alloc (.cells #[.slice none 0 0,.bool false] 222)).alloc (.cells #[Value.int .i8 op,.int .u64 x0.toNat,.int .u64 x1.toNat,.int .u64 x2.toNat,.int .u64 x3.toNat,.int .i64 xn,.int .i64 mn,.int .i64 mx,.int .i64 xk] 78)).heap.size:=by simp
 clear hc
 revert hR hW m0 m1 m2 m3 m4 m5 nl
 generalize (w.alloc (.cells #[.slice none 0 0,.bool false] 222)).alloc (.cells #[Value.int .i8 op,.int .u64 x0.toNat,.int .u64 x1.toNat,.int .u64 x2.toNat,.int .u64 x3.toNat,.int .i64 xn,.int .i64 mn,.int .i64 mx,.int .i64 xk] 78)=wx
 intro hR hW m0 m1 m2 m3 m4 m5 nl
 rw[show(#[Value.int .i8 op,.int .u64 x0.toNat,.int .u64 x1.toNat,.int .u64 x2.toNat,.int .u64 x3.toNat,.int .i64 xn,.int .i64 mn,.int .i64 mx,.int .i64 xk])[0]?=some (.int .i8 op)from rfl]at m0
 rw[show(#[Value.int .i8 op,.int .u64 x0.toNat,.int .u64 x1.toNat,.int .u64 x2.toNat,.int .u64 x3.toNat,.int .i64 xn,.int .i64 mn,.int .i64 mx,.int .i64 xk])[1]?=some (.int .u64 x0.toNat)from rfl]at m1
 rw[show(#[Value.int .i8 op,.int .u64 x0.toNat,.int .u64 x1.toNat,.int .u64 x2.toNat,.int .u64 x3.toNat,.int .i64 xn,.int .i64 mn,.int .i64 mx,.int .i64 xk])[2]?=some (.int .u64 x1.toNat)from rfl]at m2
 rw[show(#[Value.int .i8 op,.int .u64 x0.toNat,.int .u64 x1.toNat,.int .u64 x2.toNat,.int .u64 x3.toNat,.int .i64 xn,.int .i64 mn,.int .i64 mx,.int .i64 xk])[3]?=some (.int .u64 x2.toNat)from rfl]at m3
 rw[show(#[Value.int .i8 op,.int .u64 x0.toNat,.int .u64 x1.toNat,.int .u64 x2.toNat,.int .u64 x3.toNat,.int .i64 xn,.int .i64 mn,.int .i64 mx,.int .i64 xk])[4]?=some (.int .u64 x3.toNat)from rfl]at m4
 rw[show(#[Value.int .i8 op,.int .u64 x0.toNat,.int .u64 x1.toNat,.int .u64 x2.toNat,.int .u64 x3.toNat,.int .i64 xn,.int .i64 mn,.int .i64 mx,.int .i64 xk])[5]?=some (.int .i64 xn)from rfl]at m5
 have HR:=Lib.hid hR
 have HW:=Lib.hid hW
 clear hR hW n0 n1 n2 n3 n4 n5 n6 n7 n8 nbl
 by_cases h1:op=1
 ·subst h1
  have HD:=Lib.hid (show cutS D=some (setB ere ⟨x0,x1,x2,x3⟩)by
   rw[HA.out,if_pos rfl]
   exact cutS_small (by have:=setB_length ere ⟨x0,x1,x2,x3⟩;omega))
  go_wp2_with fail
  refine(rset_call ere ⟨x0,x1,x2,x3⟩).mono ?_;rintro e w2 ⟨⟨v,rfl,hv⟩,hb2⟩
  rw[←HD.out]at hv
  obtain⟨oa,nn,ca,bb,hq⟩:=hv.form2
  cases hq
  have HV:=Lib.hid hv
  have HRz:=Lib.hid (HR.out.below hb2)
  have HWz:=Lib.hid (HW.out.trans (hb2.mono HW.out.size))
  have HRL:=Lib.hid (HR.out.lt)
  clear hv hb2 m0 m1 m2 m3 m4 m5 nl
  have r0:=HRz.out.c0
  have r1:=HRz.out.c1
  have rl:=HRz.out.lt
  have f0:=HRz.out.fz 0
  have f1:=HRz.out.fz 1
  go_wp2_with fail
  exact bodyPost_ret (v:= .agg #[.slice oa nn ca,.bool bb]) (by simp[results,Tryz.results219,go_sem, *]) rfl ⟨⟨_,rfl,(HV.out.put2 HRL.out _ _).mono (by have:=HW.out.size;omega)⟩,below_put2 HWz.out (by omega) _ _⟩
 have e1:(op==1)=false:=beq_eq_false_iff_ne.2 h1
 by_cases h7:op=7
 ·subst h7
  obtain⟨hg64,hel2,e7,hn2⟩:=HK.out.grp rfl
  have hend:=nodeN_end f (g+1) (i+1) (en++[false]) j e7 hn2
  obtain⟨y,hy⟩: ∃y,re[i+1]?=some y:=⟨_,List.getElem?_eq_getElem (by omega)⟩
  have HWh:=Lib.hid (fun(W:World) (hV:NdV W (some ⟨nb,no,none⟩) re)=>HWC.out (g+1) (i+1) (en++[false]) j e7 W (by omega) hel2 hn2 hV)
  obtain⟨IN,hIN⟩: ∃IN,IN=if y.op=4∧y.kids=0 then some []else cutS (wholeP ere re (65 - g) (i+1)):=⟨_,rfl⟩
  have hs40:=sgn_len ere 40
  have hs41:=sgn_len ere 41
  have HD:=Lib.hid (show cutS D=catS (catS (some (signB ere 40)) IN) (some (signB ere 41))by
   rw[HA.out,if_neg (by decide),if_pos rfl,hy,hIN]
   dsimp only
   by_cases hz:y.op=4∧y.kids=0
   ·rw[if_pos hz,if_pos hz,wrap_empty _ _ (by omega) (by omega),cutS_small (by rw[List.length_append];omega)]
   ·rw[if_neg hz,if_neg hz,wrap_cut _ _ _ (by omega)]
    cases wholeP ere re (65 - g) (i+1)with
    |none=>rfl
    |some p=>rfl)
  have HIN:=Lib.hid hIN
  have HILEN:=Lib.hid (show(IN.getD []).length≤4096 by
   rw[hIN]
   split
   ·simp
   ·exact cutS_len)
  obtain⟨i2,hi2⟩: ∃i2,i2=i+1:=⟨_,rfl⟩
  have hi3:(i:Int)+1=(i2:Int):=by omega
  have HI2:=Lib.hid hi2
  have hi4:(i2:Int)<(re.length:Int):=by omega
  rw[show 66 - (g+1)=65 - g by omega,←hi2]at HWh
  rw[←hi2]at hy HIN
  have HY:=Lib.hid hy
  have HS40:=Lib.hid hs40
  have HS41:=Lib.hid hs41
  clear HK HA hn2 hIN hi2 hend hy hs40 hs41 hel2 hg64 h1 m1 m2 m3 m4 m5
  clear e1
  go_wp2_with fail
  refine(HWh.out _ (HV.out.below HW.out)).mono ?_;rintro e w2 ⟨⟨v,rfl,hv⟩,hb2⟩
  obtain⟨oa1,nn,ca,bb,hq⟩:=hv.form2
  cases hq
  have HR2:=Lib.hid (HR.out.below hb2)
  have HW2:=Lib.hid (HW.out.trans (hb2.mono HW.out.size))
  have HV2:=Lib.hid hv
  have HB0:=Lib.hid (HR.out.lt)
  clear hv hb2 HWh HWC HR HW
  go_upto_region 7 with fail
  have hal:Below w2.heap.size w2 (w2.alloc (.cells #[.slice oa1 nn ca,.bool bb] 222)):=(Below.refl _ w2).alloc (Nat.le_refl _) _
  have hT:saidAt (w2.alloc (.cells #[.slice oa1 nn ca,.bool bb] 222)) w2.heap.size (.slice oa1 nn ca) bb:=heap_alloc_new w2 _
  have hR3:=HR2.out.below hal
  have hW3:=HW2.out.trans (hal.mono HW2.out.size)
  have hV3:=HV2.out.below hal
  clear hal
  have hB3:w.heap.size<w2.heap.size:=HR2.out.lt
  revert hT hR3 hW3 hV3
  generalize w2.alloc (.cells #[.slice oa1 nn ca,.bool bb] 222)=w3
  generalize w2.heap.size=B at hB3
  intro hT hR3 hW3 hV3
  have HT:=Lib.hid hT
  have HR3:=Lib.hid hR3
  have HW3:=Lib.hid hW3
  have HV3:=Lib.hid hV3
  clear hT hR3 hW3 hV3 HR2 HW2 HV2
  obtain⟨n0,n1,n2,n3,n4,n5,n6,n7,n8⟩:=(HND.out.below HW3.out).cells HY.out
  have nbl:=(HND.out.below HW3.out).lt
  obtain⟨z,hz⟩: ∃z,z=decide (y.op=4∧y.kids=0):=⟨_,rfl⟩
  go_cut [43] (fun zv wc=>zv= .bool z∧wc=w3)
  case first=>
   by_cases hy4:y.op=4
   ·have e4:(y.op==4)=true:=by rw[hy4];rfl
    by_cases hy0:y.kids=0
    ·have e0:(y.kids==0)=true:=by rw[hy0];rfl
     have HZ:=Lib.hid (show z=true by rw[hz];exact decide_eq_true ⟨hy4,hy0⟩)
     clear hy4 hy0 hz
     go_wp2_with fail
     go_meet
     exact⟨by rw[HZ.out],rfl⟩
    ·have e0:(y.kids==0)=false:=beq_eq_false_iff_ne.2 hy0
     have HZ:=Lib.hid (show z=false by rw[hz];exact decide_eq_false fun h=>hy0 h.2)
     clear hy4 hy0 hz
     go_wp2_with fail
     go_meet
     exact⟨by rw[HZ.out],rfl⟩
   ·have e4:(y.op==4)=false:=beq_eq_false_iff_ne.2 hy4
    have HZ:=Lib.hid (show z=false by rw[hz];exact decide_eq_false fun h=>hy4 h.1)
    clear hy4 hz
    go_wp2_with fail
    go_meet
    exact⟨by rw[HZ.out],rfl⟩
  case rest=>
  obtain⟨hzv,hw⟩:=hcut
  subst hzv hw
  have HQ0:=Lib.hid (show IN=if z=true then some []else cutS (wholeP ere re (65 - g) i2)by rw[HIN.out,hz];simp only[decide_eq_true_eq])
  clear hz n0 n1 n2 n3 n4 n5 n6 n7 n8 nbl
  go_upto_if 43 with fail
  go_cut [44] (fun _ wc=> ∃vo vn vc vb,saidAt wc B (.slice vo vn vc) vb∧SaidR wc w.heap.size IN (.agg #[.slice vo vn vc,.bool vb])∧saidAt wc w.heap.size (.slice none 0 0) false∧Below w.heap.size w wc)
  case first=>
   cases z with
   |true=>
    have HQ:=Lib.hid (show IN=some []from HQ0.out)
    go_wp2_with fail
    refine(rsays_call ⟨#[]⟩ (by decide)).mono ?_;rintro e w4 ⟨⟨v,rfl,hv⟩,hb4⟩
    rw[show bytesOf ⟨#[]⟩=[]from rfl,←HQ.out]at hv
    obtain⟨ob,nn2,cb,bb2,hq⟩:=hv.form2
    cases hq
    have HT4:=Lib.hid (HT.out.below hb4)
    have HR4:=Lib.hid (HR3.out.below hb4)
    have HW4:=Lib.hid (HW3.out.trans (hb4.mono HW3.out.size))
    have HV4:=Lib.hid hv
    have HTL:=Lib.hid (HT.out.lt)
    clear hv hb4
    have r0:=HT4.out.c0
    have r1:=HT4.out.c1
    have rl:=HT4.out.lt
    have f0:=HT4.out.fz 0
    have f1:=HT4.out.fz 1
    go_wp2_with fail
    go_meet
    exact⟨ob,nn2,cb,bb2,HT4.out.put2 _ _,(HV4.out.put2 HTL.out _ _).mono (by have:=HW3.out.size;omega),(HR4.out.other (by omega)).other (by omega),below_put2 HW4.out (by omega) _ _⟩
   |false=>
    have HQ:=Lib.hid (show IN=cutS (wholeP ere re (65 - g) i2)from HQ0.out)
    go_wp2_with fail
    go_meet
    exact⟨_,_,_,_,HT.out,by rw[HQ.out];exact HV3.out.mono (by omega),HR3.out,HW3.out⟩
  case rest=>
  obtain⟨vo,vn,vc,vb,hT,hV,hR,hW⟩:=hcut
  have HT4:=Lib.hid hT
  have HV4:=Lib.hid (hV.below (Below.refl _ wc).drew)
  have HR4:=Lib.hid (hR.below (Below.refl _ wc).drew)
  have HW4:=Lib.hid (hW.drew)
  have t0:=hT.c0
  have t1:=hT.c1
  have tl:=hT.lt
  clear hT hV hR hW HT HR3 HW3 HV3 HIN HQ0
  go_upto_region 9 with fail
  refine wp_region_segs (X:=none) 5 [([0,2,4],1),([],3)] [] (by kernel_rfl) (by kernel_rfl) rfl (fun _ _ _ _ _ h=>h) ?_
  simp only[wpSegs,pickSegs_nil,pickSegs_cons,pickOps_nil,pickOps_cons,List.getD_cons_zero,List.getD_cons_succ,List.drop_succ_cons,List.drop_zero]
  repeat (go_big_quiet_step (fail))
  refine wpQuiet_nil ?_
  go_wp2_with fail
  refine(rsign_call ere 40 (by decide)).mono ?_;rintro e w5 ⟨⟨v5,rfl,hv5⟩,hb5⟩
  have HV5:=Lib.hid hv5
  have HV45:=Lib.hid (HV4.out.below hb5)
  have HR5:=Lib.hid (HR4.out.below hb5)
  have HW5:=Lib.hid (HW4.out.trans (hb5.mono HW4.out.size))
  have hkp:=Keeps.of_below (X:=none) hb5
  clear hv5 hb5 HV4 HR4 HW4 t0 t1 tl
  go_wp2_with fail
  refine⟨hkp,?_⟩
  clear hkp
  repeat (go_big_quiet_step (fail))
  refine wpQuiet_nil ?_
  go_wp2_with fail
  refine(then_call HV5.out HV45.out (by rw[Option.getD_some];have:=HS40.out;omega) (by have:=HILEN.out;omega)).mono ?_;rintro e w6 ⟨⟨v6,rfl,hv6⟩,hb6⟩
  have HV6:=Lib.hid hv6
  have HR6:=Lib.hid (HR5.out.below hb6)
  have HW6:=Lib.hid (HW5.out.trans (hb6.mono HW5.out.size))
  have hkp:=Keeps.of_below (X:=none) hb6
  clear hv6 hb6 HV5 HV45 HR5 HW5
  go_wp2_with fail
  refine⟨hkp,?_⟩
  clear hkp
  repeat (go_big_quiet_step (fail))
  refine wpQuiet_nil ?_
  go_wp2_with fail
  refine(rsign_call ere 41 (by decide)).mono ?_;rintro e w7 ⟨⟨v7,rfl,hv7⟩,hb7⟩
  have HV7:=Lib.hid hv7
  have HV67:=Lib.hid (HV6.out.below hb7)
  have HR7:=Lib.hid (HR6.out.below hb7)
  have HW7:=Lib.hid (HW6.out.trans (hb7.mono HW6.out.size))
  clear hv7 hb7 HV6 HR6 HW6
  go_wp2_with fail
  refine(then_call HV67.out HV7.out (by have:=catS_len (some (signB ere 40)) IN;omega) (by rw[Option.getD_some];have:=HS41.out;omega)).mono ?_;rintro e w2 ⟨⟨v,rfl,hv⟩,hb2⟩
  rw[←HD.out]at hv
  obtain⟨oa,nn,ca,bb,hq⟩:=hv.form2
  cases hq
  have HV:=Lib.hid hv
  have HRz:=Lib.hid (HR7.out.below hb2)
  have HWz:=Lib.hid (HW7.out.trans (hb2.mono HW7.out.size))
  have HRL:=Lib.hid (HR7.out.lt)
  clear hv hb2
  have r0:=HRz.out.c0
  have r1:=HRz.out.c1
  have rl:=HRz.out.lt
  have f0:=HRz.out.fz 0
  have f1:=HRz.out.fz 1
  go_wp2_with fail
  exact bodyPost_ret (v:= .agg #[.slice oa nn ca,.bool bb]) (by simp[results,Tryz.results219,go_sem, *]) rfl ⟨⟨_,rfl,(HV.out.put2 HRL.out _ _).mono (by have:=HW7.out.size;omega)⟩,below_put2 HWz.out (by omega) _ _⟩
 have e7:(op==7)=false:=beq_eq_false_iff_ne.2 h7
 by_cases h8:op=8
 ·subst h8
  obtain⟨hxn1,hxn2⟩:=HK.out.ref rfl
  dsimp only at hxn1 hxn2
  by_cases hq:ere=true∨9<xn
  ·have HD:=Lib.hid (show cutS D=none by rw[HA.out,if_neg (by decide),if_neg (by decide),if_pos rfl,if_pos hq];rfl)
   have hway:ere=true∨(ere=false∧ ¬xn≤9):=by
    cases ere
    ·exact .inr ⟨rfl,by rcases hq with h|h;cases h;omega⟩
    ·exact .inl rfl
   clear hq
   rcases hway with rfl|⟨rfl,hx9⟩
   all_goals
    go_wp2_with fail
    refine none_call.mono ?_;rintro e w2 ⟨rfl,hb2⟩
    have hv:SaidR w2 wx.heap.size (cutS D) (.agg #[.slice none 0 0,.bool true]):=by rw[HD.out];exact SaidR.none_
    have HV:=Lib.hid hv
    have HRz:=Lib.hid (HR.out.below hb2)
    have HWz:=Lib.hid (HW.out.trans (hb2.mono HW.out.size))
    have HRL:=Lib.hid (HR.out.lt)
    clear hv hb2 m0 m1 m2 m3 m4 m5 nl
    have r0:=HRz.out.c0
    have r1:=HRz.out.c1
    have rl:=HRz.out.lt
    have f0:=HRz.out.fz 0
    have f1:=HRz.out.fz 1
    go_wp2_with fail
    exact bodyPost_ret (v:= .agg #[.slice none 0 0,.bool true]) (by simp[results,Tryz.results219,go_sem, *]) rfl ⟨⟨_,rfl,(HV.out.put2 HRL.out _ _).mono (by have:=HW.out.size;omega)⟩,below_put2 HWz.out (by omega) _ _⟩
  ·obtain rfl:ere=false:=by cases ere;rfl;exact absurd (.inl rfl) hq
   have hx9:xn≤9:=by have:=fun h=>hq (.inr h);omega
   obtain⟨q,rfl⟩: ∃q:Nat,xn=(q:Int):=⟨xn.toNat,by omega⟩
   have hq9:q≤9:=by omega
   have HD:=Lib.hid (show cutS D=some (92::digB q)by
    rw[HA.out,if_neg (by decide),if_neg (by decide),if_pos rfl,if_neg hq,itoB_nat (by omega),Int.toNat_natCast]
    exact cutS_small (by rw[List.length_cons];have:=digB_len20 0 q (by simp;omega);omega))
   clear hq
   go_wp2_with fail
   refine(digits_call 0 q (by simp;omega) (by omega)).mono ?_;rintro e w1 ⟨⟨s1,rfl,hs1,hz1⟩,hb1⟩
   have HS1:=Lib.hid (show bytesOf (⟨#[92]⟩++s1)=92::digB q by rw[bytesOf_append,hs1];rfl)
   have HR1:=Lib.hid (HR.out.below hb1)
   have HW1:=Lib.hid (HW.out.trans (hb1.mono HW.out.size))
   have hz2: ¬9223372036854775807<1+s1.size:=by omega
   clear hs1 hb1 m0 m1 m2 m3 m4 m5 nl
   go_wp2_with fail
   refine(rsays_call _ (by rw[ByteArray.size_append];show 1+s1.size≤4096;omega)).mono ?_;rintro e w2 ⟨⟨v,rfl,hv⟩,hb2⟩
   rw[HS1.out,←HD.out]at hv
   obtain⟨oa,nn,ca,bb,hq⟩:=hv.form2
   cases hq
   have HV:=Lib.hid hv
   have HRz:=Lib.hid (HR1.out.below hb2)
   have HWz:=Lib.hid (HW1.out.trans (hb2.mono HW1.out.size))
   have HRL:=Lib.hid (HR1.out.lt)
   clear hv hb2
   have r0:=HRz.out.c0
   have r1:=HRz.out.c1
   have rl:=HRz.out.lt
   have f0:=HRz.out.fz 0
   have f1:=HRz.out.fz 1
   go_wp2_with fail
   exact bodyPost_ret (v:= .agg #[.slice oa nn ca,.bool bb]) (by simp[results,Tryz.results219,go_sem, *]) rfl ⟨⟨_,rfl,(HV.out.put2 HRL.out _ _).mono (by have:=HW1.out.size;omega)⟩,below_put2 HWz.out (by omega) _ _⟩
 have e8:(op==8)=false:=beq_eq_false_iff_ne.2 h8
 have HD:=Lib.hid (show cutS D=none by rw[HA.out,if_neg h1,if_neg h7,if_neg h8];rfl)
 clear h1 h7 h8
 go_wp2_with fail
 refine none_call.mono ?_;rintro e w2 ⟨rfl,hb2⟩
 have hv:SaidR w2 wx.heap.size (cutS D) (.agg #[.slice none 0 0,.bool true]):=by rw[HD.out];exact SaidR.none_
 have HV:=Lib.hid hv
 have HRz:=Lib.hid (HR.out.below hb2)
 have HWz:=Lib.hid (HW.out.trans (hb2.mono HW.out.size))
 have HRL:=Lib.hid (HR.out.lt)
 clear hv hb2 m0 m1 m2 m3 m4 m5 nl
 have r0:=HRz.out.c0
 have r1:=HRz.out.c1
 have rl:=HRz.out.lt
 have f0:=HRz.out.fz 0
 have f1:=HRz.out.fz 1
 go_wp2_with fail
 exact bodyPost_ret (v:= .agg #[.slice none 0 0,.bool true]) (by simp[results,Tryz.results219,go_sem, *]) rfl ⟨⟨_,rfl,(HV.out.put2 HRL.out _ _).mono (by have:=HW.out.size;omega)⟩,below_put2 HWz.out (by omega) _ _⟩
end Go.Proofs.YtfjbnpdffillbaaGreatDoor
namespace Go.Proofs.YtfjbnpdffillbaaGreatDoor
open Go.RowKit
def RPartC (E:RE) (f:Nat):Prop:= ∀(g i:Nat) (en:List Bool) (j:Nat) (en':List Bool) (w:World) (p q:Bool),g≤64→en.length≤255→nodeN E.re f g i en=some (j,en')→NdV w E.oa E.re→
 Calls Tryz.prog 206 #[.bool E.ere,.slice E.oa E.re.length E.cap,.int .i64 (i:Nat),.bool p,.bool q] w (RS w (cutS (partP E.ere E.re (wholeP E.ere E.re (65 - g)) p q i)))
theorem tail_cut (o:Option (List Nat × Nat)) (d:List Nat) (hd:d.length≤4096):cutS (match (generalizing:=false) o with|none=>none|some (s,j)=>some (s++d,j))=catS (cutS o) (some d):=by
 cases o with
 |none=>rfl
 |some p=>
  obtain⟨s,j⟩:=p
  simp only[cutS]
  by_cases h1:s.length≤4096
  ·rw[if_pos h1]
   simp only[catS,List.length_append]
  ·rw[if_neg h1,if_neg (by rw[List.length_append];omega)]
   rfl
set_option maxRecDepth 100000 in
set_option maxHeartbeats 6400000 in
theorem rpart_call {E:RE} (f:Nat) (HA1:Hid (RAtomC E (f+1))) (HAk:Hid (RAtomC E f)):RPartC E (f+1):=by
 intro g i en j en' w p q hg hel hn h
 obtain⟨x,hk⟩:=nodeN_at hn hel
 have HK:=Lib.hid hk
 have HV:=Lib.hid h
 have HA1':=Lib.hid (fun(W:World) (hV:NdV W E.oa E.re)=>HA1.out g i en j en' W hg hel hn hV)
 have hi:=(List.getElem?_eq_some_iff.1 hk.hx).1
 have hre:=h.len
 obtain⟨nb,no,hoa,hnd⟩:=h.at_ (by omega)
 obtain⟨n0,n1,n2,n3,n4,n5,n6,n7,n8⟩:=hnd.cells hk.hx
 have nbl:=hnd.lt
 have hi64:(i:Int)≤4294967296:=by omega
 have hi':(i:Int)<(E.re.length:Int):=by omega
 have HA:Hid (partP E.ere E.re (wholeP E.ere E.re (65 - g)) p q i=if x.op=2 then if E.ere||p then some ([94],i+1)else none
  else if x.op=3 then if E.ere||q then some ([36],i+1)else none
  else if x.op=6 then match (generalizing:=false) atomP E.ere E.re (wholeP E.ere E.re (65 - g)) (i+1)with|none=>none|some (s,j)=>some (s++dupB E.ere x,j)
  else atomP E.ere E.re (wholeP E.ere E.re (65 - g)) i):=by rw[Hid,partP,hk.hx];rfl
 obtain⟨ere,oa,cap,re⟩:=E
 dsimp only at*
 subst hoa
 generalize hD:partP ere re (wholeP ere re (65 - g)) p q i=D at HA
 obtain⟨op,⟨x0,x1,x2,x3⟩,xn,mn,mx,xk⟩:=x
 dsimp only at*
 clear h hk hn hnd hD HA1 hi hre
 go_enter Tryz.func206,Tryz.ntmps206
 go_upto_region 2 with fail
 have hR:saidAt ((w.alloc (.cells #[.slice none 0 0,.bool false] 222)).alloc (.cells #[Value.int .i8 op,.int .u64 x0.toNat,.int .u64 x1.toNat,.int .u64 x2.toNat,.int .u64 x3.toNat,.int .i64 xn,.int .i64 mn,.int .i64 mx,.int .i64 xk] 78)) w.heap.size (.slice none 0 0) false:=(heap_alloc_old _ _ (by simp)).trans (heap_alloc_new _ _)
 have hc: ∀k,((w.alloc (.cells #[.slice none 0 0,.bool false] 222)).alloc (.cells #[Value.int .i8 op,.int .u64 x0.toNat,.int .u64 x1.toNat,.int .u64 x2.toNat,.int .u64 x3.toNat,.int .i64 xn,.int .i64 mn,.int .i64 mx,.int .i64 xk] 78)).cell? ⟨w.heap.size+1,k,none⟩=(#[Value.int .i8 op,.int .u64 x0.toNat,.int .u64 x1.toNat,.int .u64 x2.toNat,.int .u64 x3.toNat,.int .i64 xn,.int .i64 mn,.int .i64 mx,.int .i64 xk])[k]?:=fun k=>cell_of_row _ _ k _ _ (0,0) (made_at (by simp))
 have hW:Below w.heap.size w ((w.alloc (.cells #[.slice none 0 0,.bool false] 222)).alloc (.cells #[Value.int .i8 op,.int .u64 x0.toNat,.int .u64 x1.toNat,.int .u64 x2.toNat,.int .u64 x3.toNat,.int .i64 xn,.int .i64 mn,.int .i64 mx,.int .i64 xk] 78)):=(by repeat (first|exact Below.refl _ _|assumption|refine Below.drew ?_|refine Below.alloc ?_ (by first|(simp;done)|(simp;omega)|omega) _|refine Below.setCell ?_ (by first|(simp;done)|(simp;omega)|omega) _))
 have m0:=hc 0
 have m1:=hc 1
 have m2:=hc 2
 have m3:=hc 3
 have m4:=hc 4
 have m5:=hc 5
 have m6:=hc 6
 have m7:=hc 7
 have m8:=hc 8
 have nl:w.heap.size+1<((w.alloc (.cells #[.slice none 0 0,.bool false] 222)).alloc (.cells #[Value.int .i8 op,.int .u64 x0.toNat,.int .u64 x1.toNat,.int .u64 x2.toNat,.int .u64 x3.toNat,.int .i64 xn,.int .i64 mn,.int .i64 mx,.int .i64 xk] 78)).heap.size:=by simp
 clear hc
 revert hR hW m0 m1 m2 m3 m4 m5 m6 m7 m8 nl
 generalize (w.alloc (.cells #[.slice none 0 0,.bool false] 222)).alloc (.cells #[Value.int .i8 op,.int .u64 x0.toNat,.int .u64 x1.toNat,.int .u64 x2.toNat,.int .u64 x3.toNat,.int .i64 xn,.int .i64 mn,.int .i64 mx,.int .i64 xk] 78)=wx
 intro hR hW m0 m1 m2 m3 m4 m5 m6 m7 m8 nl
 rw[show(#[Value.int .i8 op,.int .u64 x0.toNat,.int .u64 x1.toNat,.int .u64 x2.toNat,.int .u64 x3.toNat,.int .i64 xn,.int .i64 mn,.int .i64 mx,.int .i64 xk])[0]?=some (.int .i8 op)from rfl]at m0
 rw[show(#[Value.int .i8 op,.int .u64 x0.toNat,.int .u64 x1.toNat,.int .u64 x2.toNat,.int .u64 x3.toNat,.int .i64 xn,.int .i64 mn,.int .i64 mx,.int .i64 xk])[1]?=some (.int .u64 x0.toNat)from rfl]at m1
 rw[show(#[Value.int .i8 op,.int .u64 x0.toNat,.int .u64 x1.toNat,.int .u64 x2.toNat,.int .u64 x3.toNat,.int .i64 xn,.int .i64 mn,.int .i64 mx,.int .i64 xk])[2]?=some (.int .u64 x1.toNat)from rfl]at m2
 rw[show(#[Value.int .i8 op,.int .u64 x0.toNat,.int .u64 x1.toNat,.int .u64 x2.toNat,.int .u64 x3.toNat,.int .i64 xn,.int .i64 mn,.int .i64 mx,.int .i64 xk])[3]?=some (.int .u64 x2.toNat)from rfl]at m3
 rw[show(#[Value.int .i8 op,.int .u64 x0.toNat,.int .u64 x1.toNat,.int .u64 x2.toNat,.int .u64 x3.toNat,.int .i64 xn,.int .i64 mn,.int .i64 mx,.int .i64 xk])[4]?=some (.int .u64 x3.toNat)from rfl]at m4
 rw[show(#[Value.int .i8 op,.int .u64 x0.toNat,.int .u64 x1.toNat,.int .u64 x2.toNat,.int .u64 x3.toNat,.int .i64 xn,.int .i64 mn,.int .i64 mx,.int .i64 xk])[5]?=some (.int .i64 xn)from rfl]at m5
 rw[show(#[Value.int .i8 op,.int .u64 x0.toNat,.int .u64 x1.toNat,.int .u64 x2.toNat,.int .u64 x3.toNat,.int .i64 xn,.int .i64 mn,.int .i64 mx,.int .i64 xk])[6]?=some (.int .i64 mn)from rfl]at m6
 rw[show(#[Value.int .i8 op,.int .u64 x0.toNat,.int .u64 x1.toNat,.int .u64 x2.toNat,.int .u64 x3.toNat,.int .i64 xn,.int .i64 mn,.int .i64 mx,.int .i64 xk])[7]?=some (.int .i64 mx)from rfl]at m7
 rw[show(#[Value.int .i8 op,.int .u64 x0.toNat,.int .u64 x1.toNat,.int .u64 x2.toNat,.int .u64 x3.toNat,.int .i64 xn,.int .i64 mn,.int .i64 mx,.int .i64 xk])[8]?=some (.int .i64 xk)from rfl]at m8
 have HR:=Lib.hid hR
 have HW:=Lib.hid hW
 clear hR hW n0 n1 n2 n3 n4 n5 n6 n7 n8 nbl
 by_cases h2:op=2
 ·subst h2
  clear HK
  cases ere with
  |true=>
   have HD:=Lib.hid (show cutS D=some [94]by rw[HA.out,if_pos rfl,if_pos (by simp)];exact cutS_small (by simp))
   go_wp2_with fail
   refine(rsays_call ⟨#[94]⟩ (by decide)).mono ?_;rintro e w2 ⟨⟨v,rfl,hv⟩,hb2⟩
   rw[show bytesOf ⟨#[94]⟩=[94]from rfl,←HD.out]at hv
   obtain⟨oa,nn,ca,bb,hq⟩:=hv.form2
   cases hq
   have HV:=Lib.hid hv
   have HRz:=Lib.hid (HR.out.below hb2)
   have HWz:=Lib.hid (HW.out.trans (hb2.mono HW.out.size))
   have HRL:=Lib.hid (HR.out.lt)
   clear hv hb2 m0 m1 m2 m3 m4 m5 m6 m7 m8 nl
   have r0:=HRz.out.c0
   have r1:=HRz.out.c1
   have rl:=HRz.out.lt
   have f0:=HRz.out.fz 0
   have f1:=HRz.out.fz 1
   go_wp2_with fail
   exact bodyPost_ret (v:= .agg #[.slice oa nn ca,.bool bb]) (by simp[results,Tryz.results206,go_sem, *]) rfl ⟨⟨_,rfl,(HV.out.put2 HRL.out _ _).mono (by have:=HW.out.size;omega)⟩,below_put2 HWz.out (by omega) _ _⟩
  |false=>
   cases p with
   |true=>
    have HD:=Lib.hid (show cutS D=some [94]by rw[HA.out,if_pos rfl,if_pos (by simp)];exact cutS_small (by simp))
    go_wp2_with fail
    refine(rsays_call ⟨#[94]⟩ (by decide)).mono ?_;rintro e w2 ⟨⟨v,rfl,hv⟩,hb2⟩
    rw[show bytesOf ⟨#[94]⟩=[94]from rfl,←HD.out]at hv
    obtain⟨oa,nn,ca,bb,hq⟩:=hv.form2
    cases hq
    have HV:=Lib.hid hv
    have HRz:=Lib.hid (HR.out.below hb2)
    have HWz:=Lib.hid (HW.out.trans (hb2.mono HW.out.size))
    have HRL:=Lib.hid (HR.out.lt)
    clear hv hb2 m0 m1 m2 m3 m4 m5 m6 m7 m8 nl
    have r0:=HRz.out.c0
    have r1:=HRz.out.c1
    have rl:=HRz.out.lt
    have f0:=HRz.out.fz 0
    have f1:=HRz.out.fz 1
    go_wp2_with fail
    exact bodyPost_ret (v:= .agg #[.slice oa nn ca,.bool bb]) (by simp[results,Tryz.results206,go_sem, *]) rfl ⟨⟨_,rfl,(HV.out.put2 HRL.out _ _).mono (by have:=HW.out.size;omega)⟩,below_put2 HWz.out (by omega) _ _⟩
   |false=>
    have HD:=Lib.hid (show cutS D=none by rw[HA.out,if_pos rfl,if_neg (by simp)];rfl)
    go_wp2_with fail
    refine none_call.mono ?_;rintro e w2 ⟨rfl,hb2⟩
    have hv:SaidR w2 wx.heap.size (cutS D) (.agg #[.slice none 0 0,.bool true]):=by rw[HD.out];exact SaidR.none_
    have HV:=Lib.hid hv
    have HRz:=Lib.hid (HR.out.below hb2)
    have HWz:=Lib.hid (HW.out.trans (hb2.mono HW.out.size))
    have HRL:=Lib.hid (HR.out.lt)
    clear hv hb2 m0 m1 m2 m3 m4 m5 m6 m7 m8 nl
    have r0:=HRz.out.c0
    have r1:=HRz.out.c1
    have rl:=HRz.out.lt
    have f0:=HRz.out.fz 0
    have f1:=HRz.out.fz 1
    go_wp2_with fail
    exact bodyPost_ret (v:= .agg #[.slice none 0 0,.bool true]) (by simp[results,Tryz.results206,go_sem, *]) rfl ⟨⟨_,rfl,(HV.out.put2 HRL.out _ _).mono (by have:=HW.out.size;omega)⟩,below_put2 HWz.out (by omega) _ _⟩
 have e2:(op==2)=false:=beq_eq_false_iff_ne.2 h2
 by_cases h3:op=3
 ·subst h3
  clear HK
  cases ere with
  |true=>
   have HD:=Lib.hid (show cutS D=some [36]by rw[HA.out,if_neg (by decide),if_pos rfl,if_pos (by simp)];exact cutS_small (by simp))
   go_wp2_with fail
   refine(rsays_call ⟨#[36]⟩ (by decide)).mono ?_;rintro e w2 ⟨⟨v,rfl,hv⟩,hb2⟩
   rw[show bytesOf ⟨#[36]⟩=[36]from rfl,←HD.out]at hv
   obtain⟨oa,nn,ca,bb,hq⟩:=hv.form2
   cases hq
   have HV:=Lib.hid hv
   have HRz:=Lib.hid (HR.out.below hb2)
   have HWz:=Lib.hid (HW.out.trans (hb2.mono HW.out.size))
   have HRL:=Lib.hid (HR.out.lt)
   clear hv hb2 m0 m1 m2 m3 m4 m5 m6 m7 m8 nl
   have r0:=HRz.out.c0
   have r1:=HRz.out.c1
   have rl:=HRz.out.lt
   have f0:=HRz.out.fz 0
   have f1:=HRz.out.fz 1
   go_wp2_with fail
   exact bodyPost_ret (v:= .agg #[.slice oa nn ca,.bool bb]) (by simp[results,Tryz.results206,go_sem, *]) rfl ⟨⟨_,rfl,(HV.out.put2 HRL.out _ _).mono (by have:=HW.out.size;omega)⟩,below_put2 HWz.out (by omega) _ _⟩
  |false=>
   cases q with
   |true=>
    have HD:=Lib.hid (show cutS D=some [36]by rw[HA.out,if_neg (by decide),if_pos rfl,if_pos (by simp)];exact cutS_small (by simp))
    go_wp2_with fail
    refine(rsays_call ⟨#[36]⟩ (by decide)).mono ?_;rintro e w2 ⟨⟨v,rfl,hv⟩,hb2⟩
    rw[show bytesOf ⟨#[36]⟩=[36]from rfl,←HD.out]at hv
    obtain⟨oa,nn,ca,bb,hq⟩:=hv.form2
    cases hq
    have HV:=Lib.hid hv
    have HRz:=Lib.hid (HR.out.below hb2)
    have HWz:=Lib.hid (HW.out.trans (hb2.mono HW.out.size))
    have HRL:=Lib.hid (HR.out.lt)
    clear hv hb2 m0 m1 m2 m3 m4 m5 m6 m7 m8 nl
    have r0:=HRz.out.c0
    have r1:=HRz.out.c1
    have rl:=HRz.out.lt
    have f0:=HRz.out.fz 0
    have f1:=HRz.out.fz 1
    go_wp2_with fail
    exact bodyPost_ret (v:= .agg #[.slice oa nn ca,.bool bb]) (by simp[results,Tryz.results206,go_sem, *]) rfl ⟨⟨_,rfl,(HV.out.put2 HRL.out _ _).mono (by have:=HW.out.size;omega)⟩,below_put2 HWz.out (by omega) _ _⟩
   |false=>
    have HD:=Lib.hid (show cutS D=none by rw[HA.out,if_neg (by decide),if_pos rfl,if_neg (by simp)];rfl)
    go_wp2_with fail
    refine none_call.mono ?_;rintro e w2 ⟨rfl,hb2⟩
    have hv:SaidR w2 wx.heap.size (cutS D) (.agg #[.slice none 0 0,.bool true]):=by rw[HD.out];exact SaidR.none_
    have HV:=Lib.hid hv
    have HRz:=Lib.hid (HR.out.below hb2)
    have HWz:=Lib.hid (HW.out.trans (hb2.mono HW.out.size))
    have HRL:=Lib.hid (HR.out.lt)
    clear hv hb2 m0 m1 m2 m3 m4 m5 m6 m7 m8 nl
    have r0:=HRz.out.c0
    have r1:=HRz.out.c1
    have rl:=HRz.out.lt
    have f0:=HRz.out.fz 0
    have f1:=HRz.out.fz 1
    go_wp2_with fail
    exact bodyPost_ret (v:= .agg #[.slice none 0 0,.bool true]) (by simp[results,Tryz.results206,go_sem, *]) rfl ⟨⟨_,rfl,(HV.out.put2 HRL.out _ _).mono (by have:=HW.out.size;omega)⟩,below_put2 HWz.out (by omega) _ _⟩
 have e3:(op==3)=false:=beq_eq_false_iff_ne.2 h3
 by_cases h6:op=6
 ·subst h6
  obtain⟨hm1,hm2,e7,hn2⟩:=HK.out.rep rfl
  have HDL:=Lib.hid (dupB_length (ere:=ere) (n:=⟨6,⟨x0,x1,x2,x3⟩,xn,mn,mx,xk⟩) hm1 hm2)
  have HDC:=Lib.hid (fun W:World=>rdup_call ere ⟨6,⟨x0,x1,x2,x3⟩,xn,mn,mx,xk⟩ hm1 hm2 (w:=W))
  have HD:=Lib.hid (show cutS D=catS (cutS (atomP ere re (wholeP ere re (65 - g)) (i+1))) (some (dupB ere ⟨6,⟨x0,x1,x2,x3⟩,xn,mn,mx,xk⟩))by
   rw[HA.out,if_neg (by decide),if_neg (by decide),if_pos rfl]
   exact tail_cut _ _ (by have:=HDL.out;omega))
  have HAt:=Lib.hid (fun(W:World) (hV:NdV W (some ⟨nb,no,none⟩) re)=>HAk.out g (i+1) en j e7 W hg hel hn2 hV)
  obtain⟨i2,hi2⟩: ∃i2,i2=i+1:=⟨_,rfl⟩
  have hi3:(i:Int)+1=(i2:Int):=by omega
  rw[←hi2]at HAt HD
  have HLA:=Lib.hid (cutS_len (o:=atomP ere re (wholeP ere re (65 - g)) i2))
  generalize atomP ere re (wholeP ere re (65 - g)) i2=AT at HAt HD HLA
  generalize dupB ere ⟨6,⟨x0,x1,x2,x3⟩,xn,mn,mx,xk⟩=DB at HD HDL HDC
  have HR4:=Lib.hid (HR.out.below (Below.refl _ wx).drew)
  have HW4:=Lib.hid (HW.out.drew)
  clear HK HA hn2 hi2 hm1 hm2 HAk HR HW hel h2 h3 e2 e3
  go_upto_region 12 with fail
  refine wp_region_segs (X:=none) 7 [([0,1,2,3,5,6],4)] [] (by kernel_rfl) (by kernel_rfl) rfl (fun _ _ _ _ _ h=>h) ?_
  simp only[wpSegs,pickSegs_nil,pickSegs_cons,pickOps_nil,pickOps_cons,List.getD_cons_zero,List.getD_cons_succ,List.drop_succ_cons,List.drop_zero]
  repeat (go_big_quiet_step (fail))
  refine wpQuiet_nil ?_
  go_wp2_with fail
  refine(HAt.out _ (HV.out.below HW4.out)).mono ?_;rintro e w5 ⟨⟨v5,rfl,hv5⟩,hb5⟩
  have HV5:=Lib.hid hv5
  have HR5:=Lib.hid (HR4.out.below hb5)
  have HW5:=Lib.hid (HW4.out.trans (hb5.mono HW4.out.size))
  have hkp:=Keeps.of_below (X:=none) hb5
  clear hv5 hb5 HR4 HW4 m0 m1 m2 m3 m4 m5 m6 m7 m8 nl
  go_wp2_with fail
  refine⟨hkp,?_⟩
  clear hkp
  repeat (go_big_quiet_step (fail))
  refine wpQuiet_nil ?_
  go_wp2_with fail
  refine(HDC.out _).mono ?_;rintro e w6 ⟨⟨v6,rfl,hv6⟩,hb6⟩
  have HV6:=Lib.hid hv6
  have HV56:=Lib.hid (HV5.out.below hb6)
  have HR6:=Lib.hid (HR5.out.below hb6)
  have HW6:=Lib.hid (HW5.out.trans (hb6.mono HW5.out.size))
  clear hv6 hb6 HV5 HR5 HW5
  go_wp2_with fail
  refine(then_call HV56.out HV6.out (by have:=HLA.out;omega) (by rw[Option.getD_some];have:=HDL.out;omega)).mono ?_;rintro e w2 ⟨⟨v,rfl,hv⟩,hb2⟩
  rw[←HD.out]at hv
  obtain⟨oa,nn,ca,bb,hq⟩:=hv.form2
  cases hq
  have HV:=Lib.hid hv
  have HRz:=Lib.hid (HR6.out.below hb2)
  have HWz:=Lib.hid (HW6.out.trans (hb2.mono HW6.out.size))
  have HRL:=Lib.hid (HR6.out.lt)
  clear hv hb2 HV56 HV6
  have r0:=HRz.out.c0
  have r1:=HRz.out.c1
  have rl:=HRz.out.lt
  have f0:=HRz.out.fz 0
  have f1:=HRz.out.fz 1
  go_wp2_with fail
  exact bodyPost_ret (v:= .agg #[.slice oa nn ca,.bool bb]) (by simp[results,Tryz.results206,go_sem, *]) rfl ⟨⟨_,rfl,(HV.out.put2 HRL.out _ _).mono (by have:=HW6.out.size;omega)⟩,below_put2 HWz.out (by omega) _ _⟩
 have e6:(op==6)=false:=beq_eq_false_iff_ne.2 h6
 have HD:=Lib.hid (show cutS D=cutS (atomP ere re (wholeP ere re (65 - g)) i)by rw[HA.out,if_neg h2,if_neg h3,if_neg h6])
 clear h2 h3 h6 HK HA
 go_wp2_with fail
 refine(HA1'.out _ (HV.out.below HW.out)).mono ?_;rintro e w2 ⟨⟨v,rfl,hv⟩,hb2⟩
 rw[←HD.out]at hv
 obtain⟨oa,nn,ca,bb,hq⟩:=hv.form2
 cases hq
 have HV:=Lib.hid hv
 have HRz:=Lib.hid (HR.out.below hb2)
 have HWz:=Lib.hid (HW.out.trans (hb2.mono HW.out.size))
 have HRL:=Lib.hid (HR.out.lt)
 clear hv hb2 m0 m1 m2 m3 m4 m5 m6 m7 m8 nl
 have r0:=HRz.out.c0
 have r1:=HRz.out.c1
 have rl:=HRz.out.lt
 have f0:=HRz.out.fz 0
 have f1:=HRz.out.fz 1
 go_wp2_with fail
 exact bodyPost_ret (v:= .agg #[.slice oa nn ca,.bool bb]) (by simp[results,Tryz.results206,go_sem, *]) rfl ⟨⟨_,rfl,(HV.out.put2 HRL.out _ _).mono (by have:=HW.out.size;omega)⟩,below_put2 HWz.out (by omega) _ _⟩
end Go.Proofs.YtfjbnpdffillbaaGreatDoor
namespace Go.Proofs.YtfjbnpdffillbaaGreatDoor
open Go.RowKit
def RRowC (E:RE) (f:Nat):Prop:= ∀(g i:Nat) (en:List Bool) (j:Nat) (en':List Bool) (w:World),g≤64→en.length≤255→nodeN E.re f g i en=some (j,en')→NdV w E.oa E.re→
 Calls Tryz.prog 175 #[.bool E.ere,.slice E.oa E.re.length E.cap,.int .i64 (i:Nat)] w (RS w (cutS (rowP E.ere E.re (wholeP E.ere E.re (65 - g)) i)))
theorem placesN_at (re:List Nd): ∀(k:Nat) (i:Int) (m:Nat) (z:Int) (l:List Int),(placesN re k i).drop m=z::l→(ints (placesN re k i))[m]?=some (.int .i64 z):=by
 intro k i m z l h
 have:(placesN re k i)[m]?=some z:=by
  have h2:((placesN re k i).drop m)[0]?=some z:=by rw[h];rfl
  rwa[List.getElem?_drop,Nat.add_zero]at h2
 simp[ints,this]
theorem kids_step {re:List Nd} (hs:shapedN re=true) {f g k a j:Nat} {en:List Bool} {en':List Bool} (hf:f≤260) (hel:en.length≤255) (h:kidsN (nodeN re f g) (k+1) a en=some (j,en')):
  ∃b e2,nodeN re f g a en=some (b,e2)∧e2.length≤255∧kidsN (nodeN re f g) k b e2=some (j,en')∧behindN re (a:Int)=(b:Int):=by
 simp only[kidsN]at h
 split at h
 ·cases h
 ·rename_i b e2 h1
  exact⟨b,e2,h1,nodeN_el re f g a en (b,e2) h1 hel,h,behindN_at hs hf h1⟩
theorem kids_many {re:List Nd} {f g:Nat} : ∀(k a j:Nat) (en en':List Bool),kidsN (nodeN re f g) k a en=some (j,en')→a+k≤j
 |0,a,j,en,en',h=>by simp only[kidsN,Option.some.injEq,Prod.mk.injEq]at h;omega
 |k+1,a,j,en,en',h=>by
  simp only[kidsN]at h
  split at h
  ·cases h
  ·rename_i b e2 h1
   have:=nodeN_end f g a en b e2 h1
   have:=kids_many k b j e2 en' h
   omega
structure RowI (w:World) (B K i j f g:Nat) (re:List Nd) (e7:List Bool) (goal:Option (List Nat)) (rest:Nat→Bool→Nat→Option (List Nat × Nat)) (kv:Value) (m:Nat) (acc:Option (List Nat)) (vo:Option Addr) (vn vc:Nat) (vb:Bool) (p:Nat) (en2:List Bool) (W:World):Prop where
 x:saidAt W B (.slice vo vn vc) vb
 v:SaidR W (w.heap.size+1) acc (.agg #[.slice vo vn vc,.bool vb])
 al:(acc.getD []).length≤4096
 eq:goal=restS acc (rest (K - m) (m==0) p)
 kn:kidsN (nodeN re f g) (K - m) p en2=some (j,e7)
 el:en2.length≤255
 pl:(placesN re K ((i:Int)+1)).drop m=placesN re (K - m) (p:Int)
 r:saidAt W w.heap.size (.slice none 0 0) false
 k:W.ownsRow (w.heap.size+1) 3 1 kv K (ints (placesN re K ((i:Int)+1)))
 b:Below w.heap.size w W
 bl:w.heap.size<B
 nx: ∀q,(Value.slice vo vn vc).ownBlock=some q→q≠B
 kx: ∀q,kv.ownBlock=some q→q≠B
set_option maxRecDepth 100000 in
set_option maxHeartbeats 6400000 in
theorem rrow_call {E:RE} (f:Nat) (hf:f≤260) (hsh:shapedN E.re=true) (HOP:Hid (∀x∈E.re,-128≤x.op∧x.op≤127)) (HP1:Hid (RPartC E (f+1))) (HPk:Hid (RPartC E f)):RRowC E (f+1):=by
 intro g i en j en' w hg hel hn h
 obtain⟨x,hk⟩:=nodeN_at hn hel
 have HK:=Lib.hid hk
 have HV:=Lib.hid h
 have HSH:=Lib.hid hsh
 have HF:=Lib.hid hf
 have HJ:=Lib.hid (nodeN_end (f+1) g i en j en' hn)
 have HRE:=Lib.hid h.len
 have HP1':=Lib.hid (fun(W:World) (p q:Bool) (hV:NdV W E.oa E.re)=>HP1.out g i en j en' W p q hg hel hn hV)
 have hi:=(List.getElem?_eq_some_iff.1 hk.hx).1
 have hre:=h.len
 obtain⟨nb,no,hoa,hnd⟩:=h.at_ (by omega)
 have hi64:(i:Int)≤4294967296:=by omega
 have hi':(i:Int)<(E.re.length:Int):=by omega
 have HA:Hid (rowP E.ere E.re (wholeP E.ere E.re (65 - g)) i=if x.op≠4 then partP E.ere E.re (wholeP E.ere E.re (65 - g)) true true i else if x.kids≤0 then none else partsP E.ere E.re (wholeP E.ere E.re (65 - g)) x.kids.toNat true (i+1)):=by rw[Hid,rowP,hk.hx]
 obtain⟨ere,oa,cap,re⟩:=E
 dsimp only at*
 subst hoa
 generalize hD:rowP ere re (wholeP ere re (65 - g)) i=D at HA
 have HND:=Lib.hid hnd
 clear h hk hn hnd hD HP1 hi hre hsh hf
 go_enter Tryz.func175,Tryz.ntmps175
 go_upto_region 1 with fail
 have hR:saidAt (w.alloc (.cells #[.slice none 0 0,.bool false] 222)) w.heap.size (.slice none 0 0) false:=heap_alloc_new w _
 have hW:Below w.heap.size w (w.alloc (.cells #[.slice none 0 0,.bool false] 222)):=(by repeat (first|exact Below.refl _ _|assumption|refine Below.drew ?_|refine Below.alloc ?_ (by first|(simp;done)|(simp;omega)|omega) _|refine Below.setCell ?_ (by first|(simp;done)|(simp;omega)|omega) _))
 revert hR hW
 generalize w.alloc (.cells #[.slice none 0 0,.bool false] 222)=wx
 intro hR hW
 have HR:=Lib.hid hR
 have HW:=Lib.hid hW
 clear hR hW
 obtain⟨n0,n1,n2,n3,n4,n5,n6,n7,n8⟩:=(HND.out.below HW.out).cells HK.out.hx
 have nbl:=(HND.out.below HW.out).lt
 by_cases h4:x.op=4
 ·have e4:(x.op !=4)=false:=by rw[h4];rfl
  obtain⟨e7,hkn⟩:=HK.out.kids (.inl h4)
  have hkc:=HK.out.cat h4
  obtain⟨K,hK⟩: ∃K:Nat,x.kids=(K:Int):=⟨x.kids.toNat,by omega⟩
  have hK2:x.kids.toNat=K:=by omega
  rw[hK2]at hkn
  have hKm:=kids_many K (i+1) j en e7 hkn
  have hjr:=HJ.out.2
  have hK64:K≤4294967296:=by have:=HRE.out;omega
  have HD:=Lib.hid (show cutS D=if K=0 then none else cutS (partsP ere re (wholeP ere re (65 - g)) K true (i+1))by
   rw[HA.out,if_neg (by simp[h4])]
   by_cases h0:K=0
   ·rw[if_pos (by omega),if_pos h0];rfl
   ·rw[if_neg (by omega),if_neg h0,hK2])
  have HKN:=Lib.hid hkn
  have HEL:=Lib.hid hel
  have HKC:=Lib.hid (rkids_call (cap:=cap) HOP (HV.out.below HW.out) HK.out.hx hK hK64)
  rw[hK]at n8
  clear HK HA hkn hkc hK2 hKm hjr h4 hK hel
  go_wp2_with fail
  refine HKC.out.mono ?_;rintro e w2 ⟨⟨kv,rfl,hkv⟩,hb2⟩
  obtain⟨ko,kc,rfl⟩:=own_form hkv
  have HR2:=Lib.hid (HR.out.below hb2)
  have HW2:=Lib.hid (HW.out.trans (hb2.mono HW.out.size))
  have HKV:=Lib.hid hkv
  have HB0:=Lib.hid HR.out.lt
  clear hkv hb2 HKC HR HW n0 n1 n2 n3 n4 n5 n6 n7 n8 nbl
  by_cases h0:K=0
  ·have e0:((K:Int)==0)=true:=by rw[h0];rfl
   have HQ:=Lib.hid (show cutS D=none by rw[HD.out,if_pos h0])
   clear h0
   go_wp2_with fail
   refine none_call.mono ?_;rintro e w3 ⟨rfl,hb2⟩
   have hv:SaidR w3 w2.heap.size (cutS D) (.agg #[.slice none 0 0,.bool true]):=by rw[HQ.out];exact SaidR.none_
   have HV:=Lib.hid hv
   have HRz:=Lib.hid (HR2.out.below hb2)
   have HWz:=Lib.hid (HW2.out.trans (hb2.mono HW2.out.size))
   have HRL:=Lib.hid (HR2.out.lt)
   clear hv hb2
   have r0:=HRz.out.c0
   have r1:=HRz.out.c1
   have rl:=HRz.out.lt
   have f0:=HRz.out.fz 0
   have f1:=HRz.out.fz 1
   go_wp2_with fail
   exact bodyPost_ret (v:= .agg #[.slice none 0 0,.bool true]) (by simp[results,Tryz.results175,go_sem, *]) rfl ⟨⟨_,rfl,(HV.out.put2 HRL.out _ _).mono (by have:=HW2.out.size;omega)⟩,below_put2 HWz.out (by omega) _ _⟩
  have e0:((K:Int)==0)=false:=beq_eq_false_iff_ne.2 (by omega)
  have HQ:=Lib.hid (show cutS D=cutS (partsP ere re (wholeP ere re (65 - g)) K true (i+1))by rw[HD.out,if_neg h0])
  go_wp2_with fail
  refine(rsays_call ⟨#[]⟩ (by decide)).mono ?_;rintro e w3 ⟨⟨v,rfl,hv⟩,hb3⟩
  rw[show bytesOf ⟨#[]⟩=[]from rfl]at hv
  obtain⟨ob,nn2,cb,bb2,hq⟩:=hv.form2
  cases hq
  have hal:Below w3.heap.size w3 (w3.alloc (.cells #[.slice ob nn2 cb,.bool bb2] 222)):=(Below.refl _ w3).alloc (Nat.le_refl _) _
  have hI:RowI w w3.heap.size K i j f g re e7 (cutS D) (partsP ere re (wholeP ere re (65 - g))) (.slice ko K kc) 0 (some []) ob nn2 cb bb2 (i+1) en (w3.alloc (.cells #[.slice ob nn2 cb,.bool bb2] 222)):=by
   have hb03:=HR2.out.lt
   have hs23:=hb3.size
   refine⟨heap_alloc_new w3 _,(hv.below hal).mono (by omega),by simp,by rw[HQ.out,restS_start];rfl,HKN.out,HEL.out,by rw[List.drop_zero,Nat.sub_zero];push_cast;rfl,(HR2.out.below hb3).below hal,?_,(HW2.out.trans (hb3.mono HW2.out.size)).trans (hal.mono (by omega)),by omega,?_,?_⟩
   ·exact ownsRow_mono (row_of_block (row_of_block HKV.out fun q hq=>hb3.block q (HKV.out.lt q hq).2) fun q hq=>hal.block q (by have:=(HKV.out.lt q hq).2;omega)) (by have:=HB0.out;omega)
   ·intro q hq
    have h5:SaidR w3 w2.heap.size (some []) (.agg #[.slice ob nn2 cb,.bool bb2]):=hv
    obtain⟨oa',c',h6,h7⟩:=h5
    cases h6
    have:=(h7.lt q hq).2
    omega
   ·intro q hq
    have:=(HKV.out.lt q hq).2
    omega
  have HI0:=Lib.hid hI
  clear hal hI hv hb3 HR2 HW2 HKV HKN HEL HD
  go_upto_region 7 with fail
  revert HI0
  generalize w3.alloc (.cells #[.slice ob nn2 cb,.bool bb2] 222)=w4
  generalize w3.heap.size=B
  intro HI0
  go_wp2_with fail
  go_loopg [9] K (fun n iv wr=> ∃(m:Nat) (acc:Option (List Nat)) (vo:Option Addr) (vn vc:Nat) (vb:Bool) (p:Nat) (en2:List Bool),iv= .int .i64 (m:Nat)∧n=K - m∧m≤K∧RowI w B K i j f g re e7 (cutS D) (partsP ere re (wholeP ere re (65 - g))) (.slice ko K kc) m acc vo vn vc vb p en2 wr)
  case atStart=>exact⟨0,_,_,_,_,_,_,_,rfl,by omega,by omega,HI0.out⟩
  case round=>
   obtain⟨m,acc,vo,vn,vc,vb,p,en2,rfl,hgk,hm,hI⟩:=hrel
   have HG:=Lib.hid hgk
   have HI:=Lib.hid hI
   clear hgk hI
   by_cases hlt:m<K
   ·have hlt':(m:Int)<(K:Int):=by omega
    have hkn:=HI.out.kn
    have hpl:=HI.out.pl
    rw[show K - m=(K - (m+1))+1 by omega]at hkn hpl
    obtain⟨b,e2,hnd2,hel2,hkn2,hbeh⟩:=kids_step HSH.out HF.out HI.out.el hkn
    rw[placesN,hbeh]at hpl
    obtain⟨_,gk2,hgk2,hgl2,hcc,_⟩:=own_some HI.out.k (by omega)
    cases hgk2
    obtain⟨u,hu,z0⟩:=hcc m (by omega)
    rw[placesN_at re K _ m _ _ hpl]at hu
    cases hu
    obtain⟨pb,hpb⟩: ∃pb:Bool,pb=(m==0):=⟨_,rfl⟩
    obtain⟨qb,hqb⟩: ∃qb:Bool,qb=(K - (m+1)==0):=⟨_,rfl⟩
    have e1:((m:Int)==0)=pb:=by rw[hpb,Bool.eq_iff_iff];simp
    have e2':((m:Int)==(K:Int) - 1)=qb:=by rw[hqb,Bool.eq_iff_iff];simp;omega
    have HPT:=Lib.hid (fun(W:World) (hV:NdV W (some ⟨nb,no,none⟩) re)=>HPk.out g p en2 b e2 W pb qb hg HI.out.el hnd2 hV)
    have HNX:=Lib.hid (show cutS D=restS (catS acc (cutS (partP ere re (wholeP ere re (65 - g)) pb qb p))) (partsP ere re (wholeP ere re (65 - g)) (K - (m+1)) false b)by
     have h5:=HI.out.eq
     rw[show K - m=(K - (m+1))+1 by omega,←hpb]at h5
     rw[h5]
     refine restS_next acc (partP ere re (wholeP ere re (65 - g)) pb qb p) (fun jj=>partsP ere re (wholeP ere re (65 - g)) (K - (m+1)) false jj) (by rw[partsP_next,←hqb];rfl) fun t jj ht=>?_
     exact(place_all f g p en2 b e2 hg HI.out.el hnd2).2.1 pb qb t jj ht)
    have HLP:=Lib.hid (cutS_len (o:=partP ere re (wholeP ere re (65 - g)) pb qb p))
    have HKN2:=Lib.hid hkn2
    have HEL2:=Lib.hid hel2
    have HPL2:=Lib.hid (show(placesN re K ((i:Int)+1)).drop (m+1)=placesN re (K - (m+1)) (b:Int)by
     rw[←List.drop_drop,hpl];rfl)
    generalize partP ere re (wholeP ere re (65 - g)) pb qb p=PT at HPT HNX HLP
    have c0:=HI.out.x.c0
    have c1:=HI.out.x.c1
    have cl:=HI.out.x.lt
    have hV4:=HI.out.v.below (Below.refl _ wr).drew
    have HV4:=Lib.hid hV4
    have HBB:=Lib.hid (HI.out.b.drew)
    clear hkn hpl hnd2 hel2 hkn2 hbeh hcc hpb hqb hV4
    go_upto_region 10 with fail
    refine wp_region_segs (X:=none) 15 [([0,1,2,3,4,5,6,7,8,9,10,11,12,13],14)] [] (by kernel_rfl) (by kernel_rfl) rfl (fun _ _ _ _ _ h=>h) ?_
    simp only[wpSegs,pickSegs_nil,pickSegs_cons,pickOps_nil,pickOps_cons,List.getD_cons_zero,List.getD_cons_succ,List.drop_succ_cons,List.drop_zero]
    repeat (go_big_quiet_step (fail))
    refine wpQuiet_nil ?_
    go_wp2_with fail
    refine(HPT.out _ (HV.out.below HBB.out)).mono ?_;rintro e w5 ⟨⟨v5,rfl,hv5⟩,hb5⟩
    have HV5:=Lib.hid hv5
    have HV45:=Lib.hid (HV4.out.below hb5)
    have hd5:Below wr.heap.size wr w5:=(Below.refl _ wr).drew.trans hb5
    have HX5:=Lib.hid (HI.out.x.below hd5)
    have HR5:=Lib.hid (HI.out.r.below hd5)
    have HK5:=Lib.hid (row_of_block HI.out.k fun q hq=>hd5.block q (HI.out.k.lt q hq).2)
    have HB5:=Lib.hid (HI.out.b.trans (hd5.mono HI.out.b.size))
    have HS5:=Lib.hid (show B<w5.heap.size from Nat.lt_of_lt_of_le HI.out.x.lt hd5.size)
    have hkp:=Keeps.of_below (X:=none) hb5
    clear hv5 hb5 hd5 HV4 HPT HBB c0 c1 cl hgl2 z0
    go_wp2_with fail
    refine⟨hkp,?_⟩
    clear hkp
    repeat (go_big_quiet_step (fail))
    refine wpQuiet_nil ?_
    go_wp2_with fail
    refine(then_call HV45.out HV5.out (by have:=HI.out.al;omega) (by have:=HLP.out;omega)).mono ?_;rintro e w6 ⟨⟨v6,rfl,hv6⟩,hb6⟩
    obtain⟨vo6,vn6,vc6,vb6,hq⟩:=hv6.form2
    cases hq
    have HV6:=Lib.hid hv6
    have HX6:=Lib.hid (HX5.out.below hb6)
    have HR6:=Lib.hid (HR5.out.below hb6)
    have HK6:=Lib.hid (row_of_block HK5.out fun q hq=>hb6.block q (HK5.out.lt q hq).2)
    have HB6:=Lib.hid (HB5.out.trans (hb6.mono HB5.out.size))
    clear hv6 hb6 HV45 HV5 HX5 HR5 HK5 HB5
    have r0:=HX6.out.c0
    have r1:=HX6.out.c1
    have rl:=HX6.out.lt
    have f0:=HX6.out.fz 0
    have f1:=HX6.out.fz 1
    go_wp2_with fail
    go_roundg (K - (m+1))
    case measure=>have:=HG.out;omega
    case rel=>
     have hbl:=HI.out.bl
     refine⟨m+1,catS acc (cutS PT),vo6,vn6,vc6,vb6,b,e2,by go_num,rfl,by omega,HX6.out.put2 _ _,(HV6.out.put2 HS5.out _ _).mono (by have:=HS5.out;omega),catS_len _ _,HNX.out,HKN2.out,HEL2.out,HPL2.out,(HR6.out.other (by omega)).other (by omega),?_,below_put2 HB6.out (by omega) _ _,hbl,?_,HI.out.kx⟩
     ·exact row_of_block HK6.out fun q hq=>(Below.heap_setCell _ _ _ _ (by show q≠B;exact HI.out.kx q hq)).trans (Below.heap_setCell _ _ _ _ (by show q≠B;exact HI.out.kx q hq))
     ·intro q hq
      obtain⟨oa',c',h6,h7⟩:=HV6.out.form
      cases h6
      have:=(h7.lt q hq).1
      have:=HS5.out
      omega
   ·obtain rfl:m=K:=by omega
    have hlt': ¬(m:Int)<(m:Int):=by omega
    have HFin:=Lib.hid (show cutS D=acc by
     have h5:=HI.out.eq
     rw[Nat.sub_self]at h5
     rw[h5]
     exact restS_nil acc HI.out.al p)
    have c0:=HI.out.x.c0
    have c1:=HI.out.x.c1
    have cl:=HI.out.x.lt
    have r0:=HI.out.r.c0
    have r1:=HI.out.r.c1
    have rl:=HI.out.r.lt
    have f0:=HI.out.r.fz 0
    have f1:=HI.out.r.fz 1
    go_wp2_with fail
    exact bodyPost_ret (v:= .agg #[.slice vo vn vc,.bool vb]) (by simp[results,Tryz.results175,go_sem, *]) rfl ⟨⟨_,rfl,by rw[HFin.out];exact(HI.out.v.put2 (by omega) _ _).mono (by omega)⟩,below_put2 HI.out.b (Nat.le_refl _) _ _⟩
 ·have e4:(x.op !=4)=true:=by simpa [bne]using h4
  have HQ:=Lib.hid (show cutS D=cutS (partP ere re (wholeP ere re (65 - g)) true true i)by rw[HA.out,if_pos h4])
  clear HA h4
  go_wp2_with fail
  refine(HP1'.out _ true true (HV.out.below HW.out)).mono ?_;rintro e w2 ⟨⟨v,rfl,hv⟩,hb2⟩
  rw[←HQ.out]at hv
  obtain⟨oa,nn,ca,bb,hq⟩:=hv.form2
  cases hq
  have HV:=Lib.hid hv
  have HRz:=Lib.hid (HR.out.below hb2)
  have HWz:=Lib.hid (HW.out.trans (hb2.mono HW.out.size))
  have HRL:=Lib.hid (HR.out.lt)
  clear hv hb2 n0 n1 n2 n3 n4 n5 n6 n7 n8 nbl
  have r0:=HRz.out.c0
  have r1:=HRz.out.c1
  have rl:=HRz.out.lt
  have f0:=HRz.out.fz 0
  have f1:=HRz.out.fz 1
  go_wp2_with fail
  exact bodyPost_ret (v:= .agg #[.slice oa nn ca,.bool bb]) (by simp[results,Tryz.results175,go_sem, *]) rfl ⟨⟨_,rfl,(HV.out.put2 HRL.out _ _).mono (by have:=HW.out.size;omega)⟩,below_put2 HWz.out (by omega) _ _⟩
end Go.Proofs.YtfjbnpdffillbaaGreatDoor
namespace Go.Proofs.YtfjbnpdffillbaaGreatDoor
open Go.RowKit
theorem bar_cut (acc:Option (List Nat)) (o:Option (List Nat × Nat)):catS acc (cutS (o.map fun p=>([124]++p.1,p.2)))=catS (catS acc (some [124])) (cutS o):=by
 cases acc with
 |none=>rfl
 |some s=>
  cases o with
  |none=>
   simp only[Option.map_none,cutS]
   cases catS (some s) (some [124])<;>rfl
  |some p=>
   obtain⟨t,j⟩:=p
   simp only[Option.map_some,cutS,catS,List.length_append,List.length_cons,List.length_nil]
   by_cases h:s.length+(1+t.length)≤4096
   ·rw[if_pos (show 0+1+t.length≤4096 by omega),if_pos (show s.length+(0+1)≤4096 by omega),if_pos (show t.length≤4096 by omega)]
    simp only[List.length_append,List.length_cons,List.length_nil]
    rw[if_pos (by omega),if_pos (by omega),List.append_assoc]
   ·by_cases h1:0+1+t.length≤4096
    ·rw[if_pos h1]
     simp only[List.length_append,List.length_cons,List.length_nil]
     rw[if_neg (by omega)]
     by_cases h2:s.length+(0+1)≤4096
     ·rw[if_pos h2,if_pos (show t.length≤4096 by omega)]
      simp only[List.length_append,List.length_cons,List.length_nil]
      rw[if_neg (by omega)]
     ·rw[if_neg h2]
    ·rw[if_neg h1]
     by_cases h2:s.length+(0+1)≤4096
     ·rw[if_pos h2]
      by_cases h3:t.length≤4096
      ·rw[if_pos h3]
       simp only[List.length_append,List.length_cons,List.length_nil]
       rw[if_neg (by omega)]
      ·rw[if_neg h3]
     ·rw[if_neg h2]
theorem first_cut (o:Option (List Nat × Nat)):catS (some []) (cutS (o.map fun p=>(([]:List Nat)++p.1,p.2)))=cutS o:=by
 cases o with
 |none=>rfl
 |some p=>
  obtain⟨t,j⟩:=p
  simp only[Option.map_some,cutS,List.nil_append]
  by_cases h:t.length≤4096
  ·rw[if_pos h]
   simp only[catS,List.length_nil,List.nil_append]
   rw[if_pos (by omega)]
  ·rw[if_neg h]
   rfl
set_option maxRecDepth 100000 in
set_option maxHeartbeats 6400000 in
theorem rwhole_call {E:RE} (f:Nat) (hf:f≤260) (hsh:shapedN E.re=true) (HOP:Hid (∀x∈E.re,-128≤x.op∧x.op≤127)) (HP1:Hid (RRowC E (f+1))) (HPk:Hid (RRowC E f)):RWholeC E (f+1):=by
 intro g i en j en' w hg hel hn h
 obtain⟨x,hk⟩:=nodeN_at hn hel
 have HK:=Lib.hid hk
 have HV:=Lib.hid h
 have HSH:=Lib.hid hsh
 have HF:=Lib.hid hf
 have HJ:=Lib.hid (nodeN_end (f+1) g i en j en' hn)
 have HRE:=Lib.hid h.len
 have HP1':=Lib.hid (fun(W:World) (hV:NdV W E.oa E.re)=>HP1.out g i en j en' W hg hel hn hV)
 have hi:=(List.getElem?_eq_some_iff.1 hk.hx).1
 have hre:=h.len
 obtain⟨nb,no,hoa,hnd⟩:=h.at_ (by omega)
 have hi64:(i:Int)≤4294967296:=by omega
 have hi':(i:Int)<(E.re.length:Int):=by omega
 have HA:Hid (wholeP E.ere E.re (66 - g) i=if x.op≠5 then rowP E.ere E.re (wholeP E.ere E.re (65 - g)) i else if E.ere then rowsP E.ere E.re (wholeP E.ere E.re (65 - g)) x.kids.toNat true (i+1)else none):=by rw[Hid,show 66 - g=(65 - g)+1 by omega,wholeP,hk.hx]
 obtain⟨ere,oa,cap,re⟩:=E
 dsimp only at*
 subst hoa
 generalize hD:wholeP ere re (66 - g) i=D at HA
 have HND:=Lib.hid hnd
 clear h hk hn hnd hD HP1 hi hre hsh hf
 go_enter Tryz.func150,Tryz.ntmps150
 go_upto_region 1 with fail
 have hR:saidAt (w.alloc (.cells #[.slice none 0 0,.bool false] 222)) w.heap.size (.slice none 0 0) false:=heap_alloc_new w _
 have hW:Below w.heap.size w (w.alloc (.cells #[.slice none 0 0,.bool false] 222)):=(by repeat (first|exact Below.refl _ _|assumption|refine Below.drew ?_|refine Below.alloc ?_ (by first|(simp;done)|(simp;omega)|omega) _|refine Below.setCell ?_ (by first|(simp;done)|(simp;omega)|omega) _))
 revert hR hW
 generalize w.alloc (.cells #[.slice none 0 0,.bool false] 222)=wx
 intro hR hW
 have HR:=Lib.hid hR
 have HW:=Lib.hid hW
 clear hR hW
 obtain⟨n0,n1,n2,n3,n4,n5,n6,n7,n8⟩:=(HND.out.below HW.out).cells HK.out.hx
 have nbl:=(HND.out.below HW.out).lt
 by_cases h4:x.op=5
 ·have e4:(x.op !=5)=false:=by rw[h4];rfl
  cases ere with
  |false=>
   have HQ:=Lib.hid (show cutS D=none by rw[HA.out,if_neg (by simp[h4])];rfl)
   clear HA h4 HK
   go_wp2_with fail
   refine none_call.mono ?_;rintro e w3 ⟨rfl,hb2⟩
   have hv:SaidR w3 wx.heap.size (cutS D) (.agg #[.slice none 0 0,.bool true]):=by rw[HQ.out];exact SaidR.none_
   have HV:=Lib.hid hv
   have HRz:=Lib.hid (HR.out.below hb2)
   have HWz:=Lib.hid (HW.out.trans (hb2.mono HW.out.size))
   have HRL:=Lib.hid (HR.out.lt)
   clear hv hb2 n0 n1 n2 n3 n4 n5 n6 n7 n8 nbl
   have r0:=HRz.out.c0
   have r1:=HRz.out.c1
   have rl:=HRz.out.lt
   have f0:=HRz.out.fz 0
   have f1:=HRz.out.fz 1
   go_wp2_with fail
   exact bodyPost_ret (v:= .agg #[.slice none 0 0,.bool true]) (by simp[results,Tryz.results150,go_sem, *]) rfl ⟨⟨_,rfl,(HV.out.put2 HRL.out _ _).mono (by have:=HW.out.size;omega)⟩,below_put2 HWz.out (by omega) _ _⟩
  |true=>
  obtain⟨e7,hkn⟩:=HK.out.kids (.inr h4)
  have hkc:=HK.out.alt h4
  obtain⟨K,hK⟩: ∃K:Nat,x.kids=(K:Int):=⟨x.kids.toNat,by omega⟩
  have hK2:x.kids.toNat=K:=by omega
  rw[hK2]at hkn
  have hKm:=kids_many K (i+1) j en e7 hkn
  have hjr:=HJ.out.2
  have hK64:K≤4294967296:=by have:=HRE.out;omega
  have hK1:2≤K:=by omega
  have HD:=Lib.hid (show cutS D=cutS (rowsP true re (wholeP true re (65 - g)) K true (i+1))by
   rw[HA.out,if_neg (by simp[h4]),if_pos rfl,hK2])
  have HKC:=Lib.hid (rkids_call (cap:=cap) HOP (HV.out.below HW.out) HK.out.hx hK hK64)
  rw[hK]at n8
  rw[show K=(K - 1)+1 by omega]at hkn
  obtain⟨b0,e20,hnd0,hel0,hkn0,hbeh0⟩:=kids_step HSH.out HF.out hel hkn
  have HAC:=Lib.hid (fun(W:World) (hV:NdV W (some ⟨nb,no,none⟩) re)=>HPk.out g (i+1) en b0 e20 W hg hel hnd0 hV)
  have HNX0:=Lib.hid (show cutS D=restS (cutS (rowP true re (wholeP true re (65 - g)) (i+1))) (rowsP true re (wholeP true re (65 - g)) (K - 1) false b0)by
   rw[HD.out,←restS_start]
   have h5:=restS_next (some []) ((rowP true re (wholeP true re (65 - g)) (i+1)).map (fun p=>(([]:List Nat)++p.1,p.2))) (fun jj=>rowsP true re (wholeP true re (65 - g)) (K - 1) false jj) (o:=rowsP true re (wholeP true re (65 - g)) K true (i+1)) (j:=b0) (by
    rw[show K=(K - 1)+1 by omega,rowsP_next];rfl) (fun t jj ht=>by
    obtain⟨q,hq1,hq2⟩:=Option.map_eq_some_iff.1 ht
    obtain⟨qs,qj⟩:=q
    have:=(place_all f g (i+1) en b0 e20 hg hel hnd0).2.2.1 qs qj hq1
    simp only[Prod.mk.injEq]at hq2
    omega)
   rw[h5,first_cut])
  have HPL0:=Lib.hid (show(placesN re K ((i:Int)+1)).drop 1=placesN re (K - 1) (b0:Int)by
   rw[show K=(K - 1)+1 by omega,placesN]
   have hbe:=hbeh0
   push_cast at hbe
   rw[hbe];rfl)
  have HP0:=Lib.hid (placesN_at re K ((i:Int)+1) 0 ((i:Int)+1) (placesN re (K - 1) (b0:Int)) (by
   rw[List.drop_zero,show K=(K - 1)+1 by omega,placesN]
   have hbe:=hbeh0
   push_cast at hbe
   rw[hbe];rfl))
  have HL0:=Lib.hid (cutS_len (o:=rowP true re (wholeP true re (65 - g)) (i+1)))
  have HKN0:=Lib.hid hkn0
  have HEL0:=Lib.hid hel0
  obtain⟨i2,hi2⟩: ∃i2,i2=i+1:=⟨_,rfl⟩
  have hi3:(i:Int)+1=(i2:Int):=by omega
  rw[←hi2]at HAC HNX0 HL0
  generalize rowP true re (wholeP true re (65 - g)) i2=RT0 at HAC HNX0 HL0
  clear HK HA hkn hkc hK2 hKm hjr h4 hK hel hnd0 hel0 hkn0 hbeh0 hi2
  go_wp2_with fail
  refine HKC.out.mono ?_;rintro e w2 ⟨⟨kv,rfl,hkv⟩,hb2⟩
  obtain⟨ko,kc,rfl⟩:=own_form hkv
  have HR2:=Lib.hid (HR.out.below hb2)
  have HW2:=Lib.hid (HW.out.trans (hb2.mono HW.out.size))
  have HKV:=Lib.hid hkv
  have HB0:=Lib.hid HR.out.lt
  clear hb2 HKC HR HW n0 n1 n2 n3 n4 n5 n6 n7 n8 nbl
  obtain⟨_,gk0,hgk0,hgl0,hcc0,_⟩:=own_some hkv (by omega)
  subst hgk0
  obtain⟨u,hu,z0⟩:=hcc0 0 (by omega)
  rw[HP0.out]at hu
  cases hu
  have hKI:(0:Int)<(K:Int):=by omega
  rw[hi3]at z0
  clear hkv hcc0
  go_wp2_with fail
  refine(HAC.out _ (HV.out.below HW2.out)).mono ?_;rintro e w3 ⟨⟨v,rfl,hv⟩,hb3⟩
  obtain⟨ob,nn2,cb,bb2,hq⟩:=hv.form2
  cases hq
  have hal:Below w3.heap.size w3 (w3.alloc (.cells #[.slice ob nn2 cb,.bool bb2] 222)):=(Below.refl _ w3).alloc (Nat.le_refl _) _
  have hI:RowI w w3.heap.size K i j f g re e7 (cutS D) (rowsP true re (wholeP true re (65 - g))) (.slice (some ⟨gk0,0,none⟩) K kc) 1 (cutS RT0) ob nn2 cb bb2 b0 e20 (w3.alloc (.cells #[.slice ob nn2 cb,.bool bb2] 222)):=by
   have hb03:=HR2.out.lt
   have hs23:=hb3.size
   refine⟨heap_alloc_new w3 _,(hv.below hal).mono (by omega),HL0.out,HNX0.out,HKN0.out,HEL0.out,HPL0.out,(HR2.out.below hb3).below hal,?_,(HW2.out.trans (hb3.mono HW2.out.size)).trans (hal.mono (by omega)),by omega,?_,?_⟩
   ·exact ownsRow_mono (row_of_block (row_of_block HKV.out fun q hq=>hb3.block q (HKV.out.lt q hq).2) fun q hq=>hal.block q (by have:=(HKV.out.lt q hq).2;omega)) (by have:=HB0.out;omega)
   ·intro q hq
    obtain⟨oa',c',h6,h7⟩:=hv.form
    cases h6
    have:=(h7.lt q hq).2
    omega
   ·intro q hq
    have:=(HKV.out.lt q hq).2
    omega
  have HI0:=Lib.hid hI
  clear hal hI hv hb3 HR2 HW2 HKV HKN0 HEL0 HD HNX0 HPL0 HP0 HL0 HAC hgl0 z0 hi3
  go_upto_region 7 with fail
  revert HI0
  generalize w3.alloc (.cells #[.slice ob nn2 cb,.bool bb2] 222)=w4
  generalize w3.heap.size=B
  intro HI0
  go_wp2_with fail
  go_loopg [9] (K - 1) (fun n iv wr=> ∃(m:Nat) (acc:Option (List Nat)) (vo:Option Addr) (vn vc:Nat) (vb:Bool) (p:Nat) (en2:List Bool),iv= .int .i64 (m:Nat)∧n=K - m∧1≤m∧m≤K∧RowI w B K i j f g re e7 (cutS D) (rowsP true re (wholeP true re (65 - g))) (.slice (some ⟨gk0,0,none⟩) K kc) m acc vo vn vc vb p en2 wr)
  case atStart=>exact⟨1,_,_,_,_,_,_,_,rfl,by omega,by omega,by omega,HI0.out⟩
  case round=>
   obtain⟨m,acc,vo,vn,vc,vb,p,en2,rfl,hgk,hm1,hm,hI⟩:=hrel
   have HG:=Lib.hid hgk
   have HI:=Lib.hid hI
   clear hgk hI
   by_cases hlt:m<K
   ·have hlt':(m:Int)<(K:Int):=by omega
    have hkn:=HI.out.kn
    have hpl:=HI.out.pl
    rw[show K - m=(K - (m+1))+1 by omega]at hkn hpl
    obtain⟨b,e2,hnd2,hel2,hkn2,hbeh⟩:=kids_step HSH.out HF.out HI.out.el hkn
    rw[placesN,hbeh]at hpl
    obtain⟨_,gk2,hgk2,hgl2,hcc,_⟩:=own_some HI.out.k (by omega)
    cases hgk2
    obtain⟨u,hu,z0⟩:=hcc m (by omega)
    rw[placesN_at re K _ m _ _ hpl]at hu
    cases hu
    have HPT:=Lib.hid (fun(W:World) (hV:NdV W (some ⟨nb,no,none⟩) re)=>HPk.out g p en2 b e2 W hg HI.out.el hnd2 hV)
    have HNX:=Lib.hid (show cutS D=restS (catS (catS acc (some [124])) (cutS (rowP true re (wholeP true re (65 - g)) p))) (rowsP true re (wholeP true re (65 - g)) (K - (m+1)) false b)by
     have h5:=HI.out.eq
     rw[show K - m=(K - (m+1))+1 by omega,show(m==0)=false from beq_eq_false_iff_ne.2 (by omega)]at h5
     rw[h5,←bar_cut]
     refine restS_next acc ((rowP true re (wholeP true re (65 - g)) p).map fun p=>([124]++p.1,p.2)) (fun jj=>rowsP true re (wholeP true re (65 - g)) (K - (m+1)) false jj) (by rw[rowsP_next];rfl) fun t jj ht=>?_
     obtain⟨q,hq1,hq2⟩:=Option.map_eq_some_iff.1 ht
     obtain⟨qs,qj⟩:=q
     have:=(place_all f g p en2 b e2 hg HI.out.el hnd2).2.2.1 qs qj hq1
     simp only[Prod.mk.injEq]at hq2
     omega)
    have HLP:=Lib.hid (cutS_len (o:=rowP true re (wholeP true re (65 - g)) p))
    have HKN2:=Lib.hid hkn2
    have HEL2:=Lib.hid hel2
    have HPL2:=Lib.hid (show(placesN re K ((i:Int)+1)).drop (m+1)=placesN re (K - (m+1)) (b:Int)by
     rw[←List.drop_drop,hpl];rfl)
    generalize rowP true re (wholeP true re (65 - g)) p=PT at HPT HNX HLP
    have c0:=HI.out.x.c0
    have c1:=HI.out.x.c1
    have cl:=HI.out.x.lt
    have HV4:=Lib.hid (HI.out.v.below (Below.refl _ wr).drew)
    clear hkn hpl hnd2 hel2 hkn2 hbeh hcc
    go_upto_region 10 with fail
    refine wp_region_segs (X:=none) 9 [([0,3,4,5,6,7,8],1),([],2)] [] (by kernel_rfl) (by kernel_rfl) rfl (fun _ _ _ _ _ h=>h) ?_
    simp only[wpSegs,pickSegs_nil,pickSegs_cons,pickOps_nil,pickOps_cons,List.getD_cons_zero,List.getD_cons_succ,List.drop_succ_cons,List.drop_zero]
    repeat (go_big_quiet_step (fail))
    refine wpQuiet_nil ?_
    go_wp2_with fail
    refine(rsays_call ⟨#[124]⟩ (by decide)).mono ?_;rintro e w5 ⟨⟨v5,rfl,hv5⟩,hb5⟩
    rw[show bytesOf ⟨#[124]⟩=[124]from rfl]at hv5
    have HV5:=Lib.hid hv5
    have HV45:=Lib.hid (HV4.out.below hb5)
    have HD5:=Lib.hid (show Below wr.heap.size wr w5 from(Below.refl _ wr).drew.trans hb5)
    have hkp:=Keeps.of_below (X:=none) hb5
    clear hv5 hb5 HV4 c0 c1 cl hgl2 z0
    go_wp2_with fail
    refine⟨hkp,?_⟩
    clear hkp
    repeat (go_big_quiet_step (fail))
    refine wpQuiet_nil ?_
    go_wp2_with fail
    refine(then_call HV45.out HV5.out (by have:=HI.out.al;omega) (by simp)).mono ?_;rintro e w6 ⟨⟨v6,rfl,hv6⟩,hb6⟩
    have HV6:=Lib.hid hv6
    have HD6:=Lib.hid (HD5.out.trans (hb6.mono HD5.out.size))
    have hkp:=Keeps.of_below (X:=none) hb6
    clear hv6 hb6 HV45 HV5 HD5
    go_wp2_with fail
    refine⟨hkp,?_⟩
    clear hkp
    repeat (go_big_quiet_step (fail))
    refine wpQuiet_nil ?_
    have HX6:=Lib.hid (HI.out.x.below HD6.out)
    have HR6:=Lib.hid (HI.out.r.below HD6.out)
    have HK6:=Lib.hid (row_of_block HI.out.k fun q hq=>HD6.out.block q (HI.out.k.lt q hq).2)
    have HB6:=Lib.hid (HI.out.b.trans (HD6.out.mono HI.out.b.size))
    have HS6:=Lib.hid (show B<w6.heap.size from Nat.lt_of_lt_of_le HI.out.x.lt HD6.out.size)
    clear HD6
    go_wp2_with fail
    refine(HPT.out _ (HV.out.below HB6.out)).mono ?_;rintro e w7 ⟨⟨v7,rfl,hv7⟩,hb7⟩
    have HV7:=Lib.hid hv7
    have HV67:=Lib.hid (HV6.out.below hb7)
    have HX7:=Lib.hid (HX6.out.below hb7)
    have HR7:=Lib.hid (HR6.out.below hb7)
    have HK7:=Lib.hid (row_of_block HK6.out fun q hq=>hb7.block q (HK6.out.lt q hq).2)
    have HB7:=Lib.hid (HB6.out.trans (hb7.mono HB6.out.size))
    have HS7:=Lib.hid (show B<w7.heap.size from Nat.lt_of_lt_of_le HS6.out hb7.size)
    clear hv7 hb7 HV6 HPT HX6 HR6 HK6 HB6 HS6
    go_wp2_with fail
    refine(then_call HV67.out HV7.out (by have:=catS_len acc (some [124]);omega) (by have:=HLP.out;omega)).mono ?_;rintro e w8 ⟨⟨v8,rfl,hv8⟩,hb8⟩
    obtain⟨vo6,vn6,vc6,vb6,hq⟩:=hv8.form2
    cases hq
    have HV8:=Lib.hid hv8
    have HX8:=Lib.hid (HX7.out.below hb8)
    have HR8:=Lib.hid (HR7.out.below hb8)
    have HK8:=Lib.hid (row_of_block HK7.out fun q hq=>hb8.block q (HK7.out.lt q hq).2)
    have HB8:=Lib.hid (HB7.out.trans (hb8.mono HB7.out.size))
    clear hv8 hb8 HV67 HV7 HX7 HR7 HK7 HB7
    have r0:=HX8.out.c0
    have r1:=HX8.out.c1
    have rl:=HX8.out.lt
    have f0:=HX8.out.fz 0
    have f1:=HX8.out.fz 1
    go_wp2_with fail
    go_roundg (K - (m+1))
    case measure=>have:=HG.out;omega
    case rel=>
     have hbl:=HI.out.bl
     refine⟨m+1,catS (catS acc (some [124])) (cutS PT),vo6,vn6,vc6,vb6,b,e2,by go_num,rfl,by omega,by omega,HX8.out.put2 _ _,(HV8.out.put2 HS7.out _ _).mono (by have:=HS7.out;omega),catS_len _ _,HNX.out,HKN2.out,HEL2.out,HPL2.out,(HR8.out.other (by omega)).other (by omega),?_,below_put2 HB8.out (by omega) _ _,hbl,?_,HI.out.kx⟩
     ·exact row_of_block HK8.out fun q hq=>(Below.heap_setCell _ _ _ _ (by show q≠B;exact HI.out.kx q hq)).trans (Below.heap_setCell _ _ _ _ (by show q≠B;exact HI.out.kx q hq))
     ·intro q hq
      obtain⟨oa',c',h6,h7⟩:=HV8.out.form
      cases h6
      have:=(h7.lt q hq).1
      have:=HS7.out
      omega
   ·obtain rfl:m=K:=by omega
    have hlt': ¬(m:Int)<(m:Int):=by omega
    have HFin:=Lib.hid (show cutS D=acc by
     have h5:=HI.out.eq
     rw[Nat.sub_self]at h5
     rw[h5]
     exact restS_nil acc HI.out.al p)
    have c0:=HI.out.x.c0
    have c1:=HI.out.x.c1
    have cl:=HI.out.x.lt
    have r0:=HI.out.r.c0
    have r1:=HI.out.r.c1
    have rl:=HI.out.r.lt
    have f0:=HI.out.r.fz 0
    have f1:=HI.out.r.fz 1
    go_wp2_with fail
    exact bodyPost_ret (v:= .agg #[.slice vo vn vc,.bool vb]) (by simp[results,Tryz.results150,go_sem, *]) rfl ⟨⟨_,rfl,by rw[HFin.out];exact(HI.out.v.put2 (by omega) _ _).mono (by omega)⟩,below_put2 HI.out.b (Nat.le_refl _) _ _⟩
 ·have e4:(x.op !=5)=true:=by simpa [bne]using h4
  have HQ:=Lib.hid (show cutS D=cutS (rowP ere re (wholeP ere re (65 - g)) i)by rw[HA.out,if_pos h4])
  clear HA h4
  go_wp2_with fail
  refine(HP1'.out _ (HV.out.below HW.out)).mono ?_;rintro e w2 ⟨⟨v,rfl,hv⟩,hb2⟩
  rw[←HQ.out]at hv
  obtain⟨oa,nn,ca,bb,hq⟩:=hv.form2
  cases hq
  have HV:=Lib.hid hv
  have HRz:=Lib.hid (HR.out.below hb2)
  have HWz:=Lib.hid (HW.out.trans (hb2.mono HW.out.size))
  have HRL:=Lib.hid (HR.out.lt)
  clear hv hb2 n0 n1 n2 n3 n4 n5 n6 n7 n8 nbl
  have r0:=HRz.out.c0
  have r1:=HRz.out.c1
  have rl:=HRz.out.lt
  have f0:=HRz.out.fz 0
  have f1:=HRz.out.fz 1
  go_wp2_with fail
  exact bodyPost_ret (v:= .agg #[.slice oa nn ca,.bool bb]) (by simp[results,Tryz.results150,go_sem, *]) rfl ⟨⟨_,rfl,(HV.out.put2 HRL.out _ _).mono (by have:=HW.out.size;omega)⟩,below_put2 HWz.out (by omega) _ _⟩
end Go.Proofs.YtfjbnpdffillbaaGreatDoor
namespace Go.Proofs.YtfjbnpdffillbaaGreatDoor
open Go.RowKit
theorem rparts_all {E:RE} (hsh:shapedN E.re=true) (HOP:Hid (∀x∈E.re,-128≤x.op∧x.op≤127)): ∀f,f≤260→RAtomC E f∧RPartC E f∧RRowC E f∧RWholeC E f
 |0,_=>⟨fun _ _ _ _ _ _ _ _ hn=>by simp[nodeN]at hn,fun _ _ _ _ _ _ _ _ _ _ hn=>by simp[nodeN]at hn,fun _ _ _ _ _ _ _ _ hn=>by simp[nodeN]at hn,fun _ _ _ _ _ _ _ _ hn=>by simp[nodeN]at hn⟩
 |f+1,hf=>by
  obtain⟨h1,h2,h3,h4⟩:=rparts_all hsh HOP f (by omega)
  have k1:=ratom_call f (Lib.hid h4)
  have k2:=rpart_call f (Lib.hid k1) (Lib.hid h1)
  have k3:=rrow_call f (by omega) hsh HOP (Lib.hid k2) (Lib.hid h2)
  exact⟨k1,k2,k3,rwhole_call f (by omega) hsh HOP (Lib.hid k3) (Lib.hid h3)⟩
set_option maxRecDepth 100000 in
set_option maxHeartbeats 6400000 in
theorem rprint_call {w:World} {re:List Nd} {oa:Option Addr} {cap:Nat} (HOP:Hid (∀x∈re,-128≤x.op∧x.op≤127)) (h:NdV w oa re) (ere:Bool):
  Calls Tryz.prog 120 #[.bool ere,.slice oa re.length cap] w (printR ere re w):=by
 have HS:=Lib.hid (rshaped_call (cap:=cap) (w:=w) (oa:=oa) (re:=re) HOP h)
 have H:=Lib.hid h
 clear h
 go_enter Tryz.func120,Tryz.ntmps120
 go_wp2_with fail
 refine HS.out.mono ?_
 rintro e w1 ⟨rfl,hb1⟩
 cases hsh:shapedN re with
 |false=>
  have HSH:=Lib.hid hsh
  have HB1:=Lib.hid hb1
  clear hsh hb1
  go_wp2_with fail
  go_ret2
  exact⟨HB1.out,by rw[if_pos HSH.out];rfl⟩
 |true=>
  have HSH:=Lib.hid hsh
  have HB1:=Lib.hid hb1
  have hat:=rparts_all (E:=⟨ere,oa,cap,re⟩) hsh HOP 260 (Nat.le_refl _)
  have hs:=hsh
  unfold shapedN at hs
  split at hs
  ·cases hs
  rename_i j en' hnode
  have HCC:=Lib.hid (hat.2.2.2 0 0 [] j en' w1 (by omega) (by simp) hnode (H.out.below hb1))
  have HSP:=Lib.hid (show spellN ere re=cutS (wholeP ere re 66 0)by unfold spellN cutS;cases wholeP ere re 66 0<;>rfl)
  clear hat hs hnode hsh hb1
  go_wp2_with fail
  refine HCC.out.mono ?_
  rintro e w2 ⟨⟨v,rfl,hv⟩,hb2⟩
  have HB2:=Lib.hid (HB1.out.trans (hb2.mono HB1.out.size))
  change SaidR w2 w1.heap.size (cutS (wholeP ere re 66 0)) v at hv
  rw[←HSP.out]at hv
  have HV:=Lib.hid (hv.mono HB1.out.size)
  have HL:=Lib.hid (show((spellN ere re).getD []).length≤4096 by rw[HSP.out];exact cutS_len)
  clear hb2 HCC hv HB1
  cases hq:spellN ere re with
  |none=>
   have HQ:=Lib.hid hq
   rw[hq]at HV
   obtain rfl:v= .agg #[.slice none 0 0,.bool true]:=HV.out
   clear hq HV
   go_wp2_with fail
   go_ret2
   refine⟨?_,?_⟩
   ·exact HB2.out.alloc HB2.out.size _
   ·rw[if_neg (by rw[HSH.out];decide),HQ.out]
    rfl
  |some s=>
   have HQ:=Lib.hid hq
   rw[hq]at HV HL
   obtain⟨o,c,rfl,hrow⟩:=HV.out
   have hl:s.length≤4096:=HL.out
   have HROW:=Lib.hid (show Mks w2 w.heap.size (.slice o s.length c) (bm s)by unfold Mks;rw[bm,List.length_map];exact hrow)
   have hl2: ¬4096<(s.length:Int):=by omega
   clear hq HV hrow
   go_wp2_with fail
   go_ret2
   refine⟨?_,?_⟩
   ·exact HB2.out.alloc HB2.out.size _
   ·rw[if_neg (by rw[HSH.out];decide),HQ.out]
    exact⟨_,rfl,HROW.out.block fun q hq=>((Below.refl _ w2).alloc (Nat.le_refl _) _).block q (HROW.out.lt q hq).2⟩
end Go.Proofs.YtfjbnpdffillbaaGreatDoor
namespace Go.Proofs.YtfjbnpdffillbaaGreatDoor
open Go.RowKit
theorem Keeps.of_grown {w w':World} {row:Option Nat} (h:w.grownBy w' row):Keeps row w w':=⟨h.size,fun a ha hX=>World.cell?_of_block (w:=w) (h.block a.block ha (fun e=>hX e.symm))⟩
section
variable {w:World} {oa:Option Addr} {cap:Nat} {re:List Nd}
theorem mks_snoc {w:World} {base:Nat} {v:Value} {L:List Mk} {d:Nat} {m:Mk} (hl:L.length=d) (h:w.ownsRow base 131 2 v (d+1) (mksC L++[.int .u8 (m.b:Nat),.bool m.p])):Mks w base v (L++[m]):=by
 unfold Mks
 rw[List.length_append,List.length_singleton,hl,mksC_append]
 exact h
theorem bmS_at {s:List Nat} {d:Nat} (h:d<s.length):markAt (bm s) d=⟨s.getD d 0,false⟩:=by
 unfold markAt
 simp[bm,mk,h,List.getD_eq_getElem?_getD]
theorem slashed_at {s:List Nat} {d:Nat} (h:d<s.length):(slashed s).take (d+1)=(slashed s).take d++[⟨s.getD d 0,s.getD d 0==47⟩]:=by
 rw[List.take_add_one]
 have h1:(slashed s)[d]?=some ⟨s.getD d 0,s.getD d 0==47⟩:=by simp[slashed,h,List.getD_eq_getElem?_getD]
 rw[h1]
 rfl
set_option maxRecDepth 100000 in
set_option maxHeartbeats 1600000 in
theorem rbetween_nil (ere:Bool):
  Calls Tryz.prog 85 #[.slice oa 0 cap,.bool ere] w fun e w'=>AprR w.heap.size (betweenA ere []) e w'∧Below w.heap.size w w':=by
 have HL:=Lib.hid (lit_row w [47] (by decide) (base:=w.heap.size) (Nat.le_refl _))
 have HB:=Lib.hid ((Below.refl w.heap.size w).alloc (Nat.le_refl _) (.cells #[.int .u8 47] 5))
 go_enter Tryz.func85,Tryz.ntmps85
 go_upto_region 2 with fail
 obtain⟨W,hW⟩: ∃W,w.alloc (.cells #[.int .u8 47] 5)=W:=⟨_,rfl⟩
 have HL1:Hid (W.ownsRow w.heap.size 5 1 (.slice (some ⟨w.heap.size,0,none⟩) 1 1) 1 (u8s [47])):=Lib.hid (by rw[←hW];exact HL.out)
 rw[hW]at HB ⊢
 clear hW HL
 go_wp2_with (at_builtin;refine wpList_app elU8 rfl _ _ rfl w.heap.size (n:=1) (m:=1) (news:=[.int .u8 47]) rfl (HL1.out.alloc _) rfl (Src.new W [.int .u8 47] _ _ _) rfl (by simp[Value.oneCell']) (by unfold maxLen;omega) (by omega) (by have:=HB.out.size;simp;omega) ?_)
 intro v6 w6 hown6 hgr6 _
 have hb6:Below w.heap.size w w6:=Below.grown (Below.alloc HB.out HB.out.size _) hgr6 (by have:=HB.out.size;simp;omega) (fun k hk=>(HL1.out.lt k hk).1)
 have HB6:=Lib.hid hb6
 have HO6:=Lib.hid hown6
 clear hown6 hgr6 hb6
 go_wp2_with fail
 go_ret2
 exact⟨⟨_,rfl,HO6.out⟩,HB6.out⟩
set_option maxRecDepth 100000 in
set_option maxHeartbeats 6400000 in
theorem rbetween_call (HOP:Hid (∀x∈re,-128≤x.op∧x.op≤127)) (h:NdV w oa re) (hl: ¬re.length=0) (hs:shapedN re=true) (ere:Bool) (hok: ∀s,spellN ere re=some s→ ∀b∈s,b<256):
  Calls Tryz.prog 85 #[.slice oa re.length cap,.bool ere] w fun e w'=>AprR w.heap.size (betweenA ere re) e w'∧Below w.heap.size w w':=by
 have HL:=Lib.hid (lit_row w [47] (by decide) (base:=w.heap.size) (Nat.le_refl _))
 have hb0:=(Below.refl w.heap.size w).alloc (Nat.le_refl _) (.cells #[.int .u8 47] 5)
 have HB:=Lib.hid hb0
 have HV:=Lib.hid (h.below hb0)
 have HOK:=Lib.hid hok
 have HSH:=Lib.hid hs
 have hpos:(0:Int)<(re.length:Int):=by omega
 have hpos':0<re.length:=by omega
 have HRE:Hid (re≠[]):=Lib.hid (by intro e;rw[e]at hl;simp at hl)
 have HSZ:Hid ((w.alloc (.cells #[.int .u8 47] 5)).heap.size=w.heap.size+1):=Lib.hid (by simp)
 clear h hb0 hok hs hl
 go_enter Tryz.func85,Tryz.ntmps85
 go_upto_region 2 with fail
 obtain⟨W,hW⟩: ∃W,w.alloc (.cells #[.int .u8 47] 5)=W:=⟨_,rfl⟩
 have HL1:Hid (W.ownsRow w.heap.size 5 1 (.slice (some ⟨w.heap.size,0,none⟩) 1 1) 1 (u8s [47])):=Lib.hid (by rw[←hW];exact HL.out)
 rw[hW]at HB HV HSZ ⊢
 clear hW HL
 go_wp2_with fail
 refine(rprint_call (cap:=cap) HOP HV.out ere).mono ?_;rintro e w2 ⟨hb2,hr2⟩
 have HB2:=Lib.hid (HB.out.trans (hb2.mono HB.out.size))
 have hs2:=hb2.size
 have HL2:Hid (w2.ownsRow w.heap.size 5 1 (.slice (some ⟨w.heap.size,0,none⟩) 1 1) 1 (u8s [47])):=Lib.hid (ownsRow_of_block HL1.out fun g hg=>hb2.block g (HL1.out.lt g hg).2)
 rw[if_neg (by rw[HSH.out];decide)]at hr2
 clear hb2 HL1 HB
 cases hq:spellN ere re with
 |none=>
  rw[hq]at hr2
  simp only at hr2
  subst hr2
  have HE:Hid (betweenA ere re= .error 50):=Lib.hid (by unfold betweenA;rw[if_neg HRE.out,hq])
  clear hq
  go_wp2_with fail
  go_ret2
  exact⟨by rw[HE.out];rfl,HB2.out⟩
 |some s=>
  rw[hq]at hr2
  obtain⟨v,rfl,hm⟩:=hr2
  have HE:Hid (betweenA ere re=betB (textL 47 (slashed s))):=Lib.hid (by unfold betweenA;rw[if_neg HRE.out,hq];simp only;cases textL 47 (slashed s)<;>rfl)
  have HU:=Lib.hid (HOK.out s hq)
  have hsl:s.length≤4096:=by
   unfold spellN at hq
   split at hq
   ·cases hq
   ·split at hq
    ·cases hq;assumption
    ·cases hq
  obtain⟨o,c,rfl⟩:=hm.form
  have hbl:(bm s).length=s.length:=by simp[bm]
  rw[hbl]
  have HM:=Lib.hid hm
  clear hq hm hpos hpos'
  go_wp2_with fail
  go_loopg [9,10] s.length (fun k mv iv wr=> ∃d:Nat,iv= .int .i64 (d:Nat)∧k=s.length - d∧d≤s.length∧Mks wr w2.heap.size mv ((slashed s).take d)∧Below w2.heap.size w2 wr)
  case atStart=>exact⟨0,rfl,by omega,by omega,Mks.nil _ _,Below.refl _ _⟩
  case round=>
   obtain⟨d,rfl,hgk,hd,hmv,hbw⟩:=hrel
   have HGK:=Lib.hid hgk
   have HMV:=Lib.hid hmv
   have HBW:=Lib.hid hbw
   clear hgk hmv hbw
   have htl:((slashed s).take d).length=d:=by simp[slashed];omega
   obtain⟨mo,mc,rfl⟩:=HMV.out.form
   rw[htl]at HMV ⊢
   by_cases hlt:d<s.length
   ·have hlt':(d:Int)<(s.length:Int):=by omega
    obtain⟨g,hog⟩: ∃g,o=some ⟨g,0,none⟩:=by
     rcases HM.out.2 with ⟨_,h0⟩|⟨g,cap',cur,h1,_⟩
     ·rw[hbl]at h0;omega
     ·injection h1 with h1;exact⟨g,h1⟩
    subst hog
    have hg2:g<w2.heap.size:=(HM.out.lt g rfl).2
    have hgr0:g<wr.heap.size:=Nat.lt_of_lt_of_le hg2 HBW.out.size
    obtain⟨b,hbe⟩: ∃b,s.getD d 0=b:=⟨_,rfl⟩
    have HBE:=Lib.hid hbe
    obtain⟨r0,r1,_⟩:=Mks.two (HM.out.below HBW.out) rfl (by rw[hbl];exact hlt) (bmS_at hlt)
    simp only[hbe]at r0 r1
    have hX: ∀k,(Value.slice mo d mc).ownBlock=some k→w2.heap.size≤k:=fun k hk=>(HMV.out.lt k hk).1
    have hkg: ∀v o,(wgr (Value.slice mo d mc).ownBlock wr.drew v).cell? ⟨g,o,none⟩=wr.cell? ⟨g,o,none⟩:=fun v o=>(keeps_wgr wr.drew v).cell ⟨g,o,none⟩ hgr0 (fun e=>by have:=hX g e;omega)
    have hbq:((b:Int)==47)=(b==47):=by
     rw[Bool.eq_iff_iff,beq_iff_eq,beq_iff_eq];omega
    clear hbe
    go_upto_region 10 with fail
    refine wp_region_segs (X:=((Value.slice mo d mc).ownBlock)) 23 [([0,1,2,3,4,5,6,7,8,9,10,11,12,13,14,15,16,17,18,19],20),([],21)] [22] (by kernel_rfl) (by kernel_rfl) rfl (fun _ _ _ _ _ h=>h) ?_
    simp only[wpSegs,pickSegs_nil,pickSegs_cons,pickOps_nil,pickOps_cons,List.getD_cons_zero,List.getD_cons_succ,List.drop_succ_cons,List.drop_nil]
    repeat (go_big_quiet_step (fail))
    refine wpQuiet_nil ?_
    go_wp2_with fail
    refine⟨keeps_alloc _ _,?_⟩
    repeat (go_big_quiet_step (fail))
    refine wpQuiet_nil ?_
    have HOWN:Hid (wr.ownsRow w2.heap.size 131 2 (.slice mo d mc) d (mksC ((slashed s).take d))):=Lib.hid (by have h:=HMV.out;unfold Mks at h;rw[htl]at h;exact h)
    have hws:=HBW.out.size
    go_wp2_with (at_builtin;refine wpList_app elMk rfl _ _ rfl w2.heap.size (n:=d) (m:=1) (news:=[.int .u8 (b:Nat),.bool (b==47)]) rfl (HOWN.out.alloc _) rfl (Src.new wr.drew [.int .u8 (b:Nat),.bool (b==47)] _ _ _) rfl (by simp[Value.oneCell']) (by unfold maxLen;omega) (by omega) (by simp;omega) ?_)
    intro v3 w3 hown3 hgr3 _
    have HN3:Hid (Mks w3 w2.heap.size v3 ((slashed s).take (d+1))):=Lib.hid (by rw[slashed_at hlt,HBE.out];exact mks_snoc htl hown3)
    have HB3:=Lib.hid ((HBW.out.drew.alloc (by exact hws) _).grown hgr3 (by simp;omega) (fun k hk=>hX k hk))
    have HK3:=Lib.hid (Keeps.of_grown hgr3)
    clear hown3 hgr3 r0 r1 hkg hbq hX hws
    refine⟨HK3.out,?_⟩
    try simp only[Act.put,List.setIfInBounds_toArray,List.set_cons_succ,List.set_cons_zero]
    repeat (go_big_quiet_step (fail))
    refine wpQuiet_nil ?_
    go_wp2_with fail
    go_roundg (s.length - (d+1))
    case measure=>have:=HGK.out;omega
    case rel=>exact⟨d+1,by go_num,rfl,by omega,HN3.out,HB3.out⟩
   ·obtain rfl:d=s.length:=by omega
    have hmf:=HMV.out
    have hft:(slashed s).take s.length=slashed s:=List.take_of_length_le (by simp[slashed])
    rw[hft]at hmf
    have hsl':(slashed s).length=s.length:=by simp[slashed]
    obtain⟨o2,c2,ho2,hin⟩:=MkIn.of_own hmf (by omega) (fun m hm=>by
     simp only[slashed,List.mem_map]at hm
     obtain⟨b,hb,rfl⟩:=hm
     exact HU.out b hb)
    injection ho2 with e1 e2 e3
    subst e1
    subst e3
    clear e2
    have HTX:=Lib.hid (rtext_call (cap:=mc) hin 47 (by decide))
    rw[hsl']at HTX
    have HBR:=Lib.hid (HB2.out.trans (HBW.out.mono HB2.out.size))
    have hwr:w.heap.size≤wr.heap.size:=HBR.out.size
    have HLR:Hid (wr.ownsRow w.heap.size 5 1 (.slice (some ⟨w.heap.size,0,none⟩) 1 1) 1 (u8s [47])):=Lib.hid (ownsRow_of_block HL2.out fun g hg=>HBW.out.block g (HL2.out.lt g hg).2)
    have HSL':=Lib.hid hsl'
    clear hmf hin HMV hlt hd hsl' hbl hft htl HM
    go_wp2_with fail
    refine HTX.out.mono ?_;rintro e w4 ⟨hb4,hr4⟩
    have HB4:=Lib.hid (HBR.out.trans (hb4.mono hwr))
    have HL4:Hid (w4.ownsRow w.heap.size 5 1 (.slice (some ⟨w.heap.size,0,none⟩) 1 1) 1 (u8s [47])):=Lib.hid (ownsRow_of_block HLR.out fun g hg=>hb4.block g (HLR.out.lt g hg).2)
    have hs4:=hb4.size
    clear hb4 HTX HLR
    cases hq:textL 47 (slashed s)with
    |none=>
     rw[hq]at hr4 HE
     simp only at hr4
     subst hr4
     clear hq
     go_wp2_with fail
     go_ret2
     exact⟨by rw[HE.out];rfl,HB4.out⟩
    |some t=>
     have htl:=textT_length 47 (slashed s) false t (by unfold textL at hq;rw[if_neg (by decide)]at hq;exact hq)
     rw[HSL'.out]at htl
     rw[hq]at hr4 HE
     obtain⟨v4,rfl,hv4⟩:=hr4
     have HV4:=Lib.hid hv4
     clear hq hv4
     go_wp2_with (at_builtin;refine wpList_app elU8 rfl _ _ rfl w.heap.size (n:=1) (m:=t.length) (news:=u8s t) rfl HL4.out rfl (Src.own HV4.out) (by simp[u8s]) (u8s_one t) (by unfold maxLen;omega) (by omega) (by omega) ?_)
     intro v5 w5 hown5 hgr5 _
     have hb5:Below w.heap.size w w5:=Below.grown HB4.out hgr5 (by omega) (fun k hk=>(HL4.out.lt k hk).1)
     have HB5:=Lib.hid hb5
     have HO5:=Lib.hid hown5
     have hs5:=hb5.size
     clear hown5 hgr5 hb5
     go_wp2_with (at_builtin;refine wpList_app elU8 rfl _ _ rfl w.heap.size (n:=1+t.length) (m:=1) (news:=[.int .u8 47]) rfl (HO5.out.alloc _) rfl (Src.new w5 [.int .u8 47] _ _ _) rfl (by simp[Value.oneCell']) (by unfold maxLen;omega) (by omega) (by simp;omega) ?_)
     intro v6 w6 hown6 hgr6 _
     have hb6:Below w.heap.size w w6:=Below.grown (Below.alloc HB5.out HB5.out.size _) hgr6 (by simp;omega) (fun k hk=>(HO5.out.lt k hk).1)
     have HB6:=Lib.hid hb6
     have HO6:=Lib.hid hown6
     clear hown6 hgr6 hb6
     go_wp2_with fail
     go_ret2
     refine⟨?_,HB6.out⟩
     rw[HE.out]
     refine⟨_,rfl,?_⟩
     have h:=HO6.out
     have e1:(47::t++[47]).length=1+t.length+1:=by simp;omega
     have e2:u8s (47::t++[47])=u8s [47]++u8s t++[.int .u8 47]:=by simp[u8s]
     rw[e1,e2]
     exact h
end
end Go.Proofs.YtfjbnpdffillbaaGreatDoor
namespace Go.Proofs.YtfjbnpdffillbaaGreatDoor
def Lob (s:List Nat):Prop:= ∀x∈s,x<256
theorem Lob.app {s t:List Nat} (hs:Lob s) (ht:Lob t):Lob (s++t):=fun x hx=>(List.mem_append.1 hx).elim (hs x) (ht x)
theorem Lob.nil:Lob []:=fun x hx=>by cases hx
theorem Lob.cons {b:Nat} {s:List Nat} (h2:b<256) (hs:Lob s):Lob (b::s):=fun x hx=>by
 rcases List.mem_cons.1 hx with rfl|h
 ·exact h2
 ·exact hs x h
section
variable {ere:Bool} {re:List Nd} {wh:Nat→Option (List Nat × Nat)}
theorem byteB_lo {b:Nat} (hb:b<256):Lob (byteB ere b):=by
 unfold byteB
 split
 ·exact .cons (by decide) (.cons (by decide) .nil)
 ·split
  ·exact .cons (by decide) (.cons hb .nil)
  ·exact .cons hb .nil
theorem setB_lo (c:Cls):Lob (setB ere c):=by
 unfold setB
 split
 ·exact .cons (by decide) .nil
 ·split
  ·rename_i b hb
   exact byteB_lo (els_lt (c:=c) (by rw[hb];exact List.mem_cons_self ..))
  ·exact fun x hx=>brackB_lt c x hx
theorem signB_lo {c:Nat} (h2:c<256):Lob (signB ere c):=by
 cases ere with
 |true=>exact .cons h2 .nil
 |false=>exact .cons (by decide) (.cons h2 .nil)
theorem itoB_lo (m:Int):Lob (itoB m):=by
 unfold itoB
 split
 ·exact .cons (by decide) fun x hx=>by have:=digB_digit _ _ hx;omega
 ·exact fun x hx=>by have:=digB_digit _ _ hx;omega
theorem dupB_lo (x:Nd):Lob (dupB ere x):=by
 unfold dupB
 split
 ·exact .cons (by decide) .nil
 ·split
  ·exact .cons (by decide) .nil
  ·split
   ·exact .cons (by decide) .nil
   ·refine(signB_lo (by decide)).app ((itoB_lo _).app (Lob.app ?_ (signB_lo (by decide))))
    split
    ·exact .nil
    ·refine .cons (by decide) ?_
     split
     ·exact itoB_lo _
     ·exact .nil
section
variable (hw: ∀i s j,wh i=some (s,j)→Lob s)
include hw
theorem atomP_lob {i:Nat} {s:List Nat} {j:Nat} (h:atomP ere re wh i=some (s,j)):Lob s:=by
 unfold atomP at h
 split at h
 ·cases h
 ·split at h
  ·cases h;exact setB_lo _
  ·split at h
   ·split at h
    ·cases h
    ·split at h
     ·cases h
      exact(signB_lo (by decide)).app (signB_lo (by decide))
     ·split at h
      ·cases h
      ·rename_i s2 j2 h2
       cases h
       exact(signB_lo (by decide)).app ((hw _ _ _ h2).app (signB_lo (by decide)))
   ·split at h
    ·split at h
     ·cases h
     ·cases h
      exact .cons (by decide) (itoB_lo _)
    ·cases h
theorem partP_lob {first last:Bool} {i:Nat} {s:List Nat} {j:Nat} (h:partP ere re wh first last i=some (s,j)):Lob s:=by
 unfold partP at h
 split at h
 ·cases h
 ·split at h
  ·split at h
   ·cases h;exact .cons (by decide) .nil
   ·cases h
  ·split at h
   ·split at h
    ·cases h;exact .cons (by decide) .nil
    ·cases h
   ·split at h
    ·split at h
     ·cases h
     ·rename_i h1
      cases h
      exact(atomP_lob hw h1).app (dupB_lo _)
    ·exact atomP_lob hw h
theorem partsP_lob: ∀(m:Nat) {first:Bool} {i:Nat} {s:List Nat} {j:Nat},partsP ere re wh m first i=some (s,j)→Lob s
 |0,_,_,_,_,h=>by
  simp only[partsP,Option.some.injEq,Prod.mk.injEq]at h
  rw[←h.1]
  exact .nil
 |m+1,first,i,s,j,h=>by
  rw[partsP]at h
  split at h
  ·cases h
  ·rename_i h1
   split at h
   ·cases h
   ·rename_i h2
    cases h
    exact(partP_lob hw h1).app (partsP_lob m h2)
theorem rowP_lob {i:Nat} {s:List Nat} {j:Nat} (h:rowP ere re wh i=some (s,j)):Lob s:=by
 unfold rowP at h
 split at h
 ·cases h
 ·split at h
  ·exact partP_lob hw h
  ·split at h
   ·cases h
   ·exact partsP_lob hw _ h
theorem rowsP_lob: ∀(m:Nat) {first:Bool} {i:Nat} {s:List Nat} {j:Nat},rowsP ere re wh m first i=some (s,j)→Lob s
 |0,_,_,_,_,h=>by
  simp only[rowsP,Option.some.injEq,Prod.mk.injEq]at h
  rw[←h.1]
  exact .nil
 |m+1,first,i,s,j,h=>by
  rw[rowsP]at h
  split at h
  ·cases h
  ·rename_i h1
   split at h
   ·cases h
   ·rename_i h2
    cases h
    refine Lob.app ?_ ((rowP_lob hw h1).app (rowsP_lob m h2))
    split
    ·exact .nil
    ·exact .cons (by decide) .nil
end
end
theorem wholeP_lob {ere:Bool} {re:List Nd} : ∀(f i:Nat) (s:List Nat) (j:Nat),wholeP ere re f i=some (s,j)→Lob s
 |0,_,_,_,h=>by simp[wholeP]at h
 |f+1,i,s,j,h=>by
  rw[wholeP]at h
  split at h
  ·cases h
  ·split at h
   ·exact rowP_lob (wholeP_lob f) h
   ·split at h
    ·exact rowsP_lob (wholeP_lob f) _ h
    ·cases h
theorem spellN_lob {ere:Bool} {re:List Nd} {s:List Nat} (h:spellN ere re=some s):Lob s∧s.length≤4096:=by
 unfold spellN at h
 split at h
 ·cases h
 ·rename_i h1
  split at h
  ·cases h
   exact⟨wholeP_lob _ _ _ _ h1,by assumption⟩
  ·cases h
end Go.Proofs.YtfjbnpdffillbaaGreatDoor
