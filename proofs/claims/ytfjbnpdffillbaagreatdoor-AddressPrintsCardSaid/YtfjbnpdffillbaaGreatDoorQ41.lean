/- Parts: Ce. -/
import Derived.Test.YtfjbnpdffillbaaGreatDoorQ40
import Derived.Test.YtfjbnpdffillbaaGreatDoorQ21
namespace Go.Proofs.YtfjbnpdffillbaaGreatDoor
open Go.RowKit
theorem then_call {a b:Option (List Nat)} {va vb:Value} {ba bb:Nat} {w:World} (ha:SaidR w ba a va) (hb:SaidR w bb b vb) (la:(a.getD []).length≤100000) (lb:(b.getD []).length≤100000):
  Calls Tryz.prog 178 #[va,vb] w fun e w'=>(∃v,e= .returned v∧SaidR w' w.heap.size (catS a b) v)∧Below w.heap.size w w':=by
 obtain⟨oa,ca,rfl,ra⟩:=ha.form
 obtain⟨ob,cb,rfl,rb⟩:=hb.form
 have h:=then_parts (noa:=saidNo a) (nob:=saidNo b) rfl rfl ra rb la lb
 have e:(if (saidNo a||saidNo b)=true then none else if (a.getD []).length+(b.getD []).length≤4096 then some (a.getD []++b.getD [])else none)=catS a b:=by
  cases a<;>cases b<;>rfl
 rw[e]at h
 exact h
theorem SaidR.put2 {w:World} {base:Nat} {o:Option (List Nat)} {val:Value} (h:SaidR w base o val) {r:Nat} (hr:r<base) (x y:Value):SaidR ((w.setCell ⟨r,0,none⟩ x).setCell ⟨r,1,none⟩ y) base o val:=by
 cases o with
 |none=>exact h
 |some s=>
  obtain⟨oa,c,h1,h2⟩:=h
  refine⟨oa,c,h1,row_of_block h2 fun g hg=>?_⟩
  have hgb:=(h2.lt g hg).1
  exact(Below.heap_setCell _ _ _ _ (by show g≠r;omega)).trans (Below.heap_setCell _ _ _ _ (by show g≠r;omega))
theorem below_put2 {w0 w:World} {k r:Nat} (h:Below k w0 w) (hk:k≤r) (x y:Value):Below k w0 ((w.setCell ⟨r,0,none⟩ x).setCell ⟨r,1,none⟩ y):=
 (h.setCell (p:=⟨r,0,none⟩) hk x).setCell (p:=⟨r,1,none⟩) hk y
theorem conv1 (w:World) (b:Nat) (hb:b<256): ∃s:ByteArray,bytesOf s=[b]∧s.size=1∧
  (convert 22 9 (.slice (some ⟨w.heap.size,0,none⟩) 1 1)).run Tryz.prog (w.alloc (.cells #[.int .u8 (b:Nat)] 5))= .ok (.string s) (w.alloc (.cells #[.int .u8 (b:Nat)] 5)):=by
 have h1:bytesOf (strOfNums ([b].map fun b:Nat=>(b:Int)))=[b]:=bytesOf_nums [b] (by simpa using hb)
 refine⟨_,h1,by rw[←bytesOf_length,h1];rfl,?_⟩
 refine run_convert_bytes_arg _ _ _ Tryz.underlying22 Tryz.underlying5 w.heap.size 0 1 1 _ rfl (fun i hi=>?_) _ Tryz.underlying9
 obtain rfl:i=0:=by omega
 simp[go_sem]
theorem conv2 (w:World) (b:Nat) (hb:b<256): ∃s:ByteArray,bytesOf s=[92,b]∧s.size=2∧
  (convert 22 9 (.slice (some ⟨w.heap.size,0,none⟩) 2 2)).run Tryz.prog (w.alloc (.cells #[.int .u8 92,.int .u8 (b:Nat)] 5))= .ok (.string s) (w.alloc (.cells #[.int .u8 92,.int .u8 (b:Nat)] 5)):=by
 have h1:bytesOf (strOfNums ([92,b].map fun b:Nat=>(b:Int)))=[92,b]:=bytesOf_nums [92,b] (by simp;omega)
 refine⟨_,h1,by rw[←bytesOf_length,h1];rfl,?_⟩
 refine run_convert_bytes_arg _ _ _ Tryz.underlying22 Tryz.underlying5 w.heap.size 0 2 2 _ rfl (fun i hi=>?_) _ Tryz.underlying9
 have:i=0∨i=1:=by omega
 rcases this with rfl|rfl<;>simp[go_sem]
set_option maxRecDepth 100000 in
set_option maxHeartbeats 1600000 in
theorem rsign_call (ere:Bool) (c:Nat) (hc:c<256) {w:World} :
  Calls Tryz.prog 228 #[.bool ere,.int .u8 (c:Nat)] w fun e w'=>(∃v,e= .returned v∧SaidR w' w.heap.size (some (signB ere c)) v)∧Below w.heap.size w w':=by
 go_enter Tryz.func228,Tryz.ntmps228
 go_upto_region 1 with fail
 have hR:saidAt (w.alloc (.cells #[.slice none 0 0,.bool false] 222)) w.heap.size (.slice none 0 0) false:=heap_alloc_new _ _
 have hW:Below w.heap.size w (w.alloc (.cells #[.slice none 0 0,.bool false] 222)):=(by repeat (first|exact Below.refl _ _|assumption|refine Below.drew ?_|refine Below.alloc ?_ (by first|(simp;done)|(simp;omega)|omega) _|refine Below.setCell ?_ (by first|(simp;done)|(simp;omega)|omega) _))
 revert hR hW
 generalize w.alloc (.cells #[.slice none 0 0,.bool false] 222)=wx
 intro hR hW
 have HR:=Lib.hid hR
 have HW:=Lib.hid hW
 clear hR hW
 cases ere with
 |true=>
  obtain⟨s,hs,hz,hcv⟩:=conv1 wx c hc
  have HS:=Lib.hid hs
  have hb1:Below wx.heap.size wx (wx.alloc (.cells #[.int .u8 (c:Nat)] 5)):=(by repeat (first|exact Below.refl _ _|assumption|refine Below.drew ?_|refine Below.alloc ?_ (by first|(simp;done)|(simp;omega)|omega) _|refine Below.setCell ?_ (by first|(simp;done)|(simp;omega)|omega) _))
  have HR1:=Lib.hid (HR.out.below hb1)
  have HW1:=Lib.hid (HW.out.trans (hb1.mono HW.out.size))
  clear hs hb1
  go_wp2_with fail
  refine(rsays_call s (by omega)).mono ?_;rintro e w2 ⟨⟨v,rfl,hv⟩,hb2⟩
  rw[HS.out]at hv
  obtain⟨oa,ca,rfl,hrow⟩:=hv.form
  have HV:=Lib.hid hv
  have HR2:=Lib.hid (HR1.out.below hb2)
  have HW2:=Lib.hid (HW1.out.trans (hb2.mono HW1.out.size))
  have hrl:=HR1.out.lt
  have HRL:=Lib.hid hrl
  clear hv hrow hb2 hcv hrl
  have r0:=HR2.out.c0
  have r1:=HR2.out.c1
  have rl:=HR2.out.lt
  have f0:=HR2.out.fz 0
  have f1:=HR2.out.fz 1
  go_wp2_with fail
  exact bodyPost_ret (v:= .agg #[.slice oa ((some [c]:Option (List Nat)).getD []).length ca,.bool (saidNo (some [c]))]) (by simp[results,Tryz.results228,go_sem, *]) rfl ⟨⟨_,rfl,(HV.out.put2 HRL.out _ _).mono (by have:=HW1.out.size;omega)⟩,below_put2 HW2.out (Nat.le_refl _) _ _⟩
 |false=>
  obtain⟨s,hs,hz,hcv⟩:=conv2 wx c hc
  have HS:=Lib.hid hs
  have hb1:Below wx.heap.size wx (wx.alloc (.cells #[.int .u8 92,.int .u8 (c:Nat)] 5)):=(by repeat (first|exact Below.refl _ _|assumption|refine Below.drew ?_|refine Below.alloc ?_ (by first|(simp;done)|(simp;omega)|omega) _|refine Below.setCell ?_ (by first|(simp;done)|(simp;omega)|omega) _))
  have HR1:=Lib.hid (HR.out.below hb1)
  have HW1:=Lib.hid (HW.out.trans (hb1.mono HW.out.size))
  clear hs hb1
  go_wp2_with fail
  refine(rsays_call s (by omega)).mono ?_;rintro e w2 ⟨⟨v,rfl,hv⟩,hb2⟩
  rw[HS.out]at hv
  obtain⟨oa,ca,rfl,hrow⟩:=hv.form
  have HV:=Lib.hid hv
  have HR2:=Lib.hid (HR1.out.below hb2)
  have HW2:=Lib.hid (HW1.out.trans (hb2.mono HW1.out.size))
  have hrl:=HR1.out.lt
  have HRL:=Lib.hid hrl
  clear hv hrow hb2 hcv hrl
  have r0:=HR2.out.c0
  have r1:=HR2.out.c1
  have rl:=HR2.out.lt
  have f0:=HR2.out.fz 0
  have f1:=HR2.out.fz 1
  go_wp2_with fail
  exact bodyPost_ret (v:= .agg #[.slice oa ((some [92,c]:Option (List Nat)).getD []).length ca,.bool (saidNo (some [92,c]))]) (by simp[results,Tryz.results228,go_sem, *]) rfl ⟨⟨_,rfl,(HV.out.put2 HRL.out _ _).mono (by have:=HW1.out.size;omega)⟩,below_put2 HW2.out (Nat.le_refl _) _ _⟩
set_option maxRecDepth 100000 in
set_option maxHeartbeats 1600000 in
theorem digits_call: ∀(k u:Nat),u<10 ^ (k+1)→k≤17→ ∀ {w:World},Calls Tryz.prog 229 #[.int .i64 (u:Nat)] w fun e w'=>(∃s,e= .returned (.string s)∧bytesOf s=digB u∧s.size≤k+1)∧Below w.heap.size w w'
 |k,u,hu,hk,w=>by
  by_cases h10:u<10
  ·have h10':(u:Int)<10:=by omega
   obtain⟨c,hc⟩: ∃c,c=48+u:=⟨_,rfl⟩
   obtain⟨s,hs,hz,hcv⟩:=conv1 w c (by omega)
   have HS:=Lib.hid (show bytesOf s=digB u by rw[hs,hc,digB_small h10])
   rw[show(c:Int)=48+(u:Int)by omega]at hcv
   clear hs h10 hc
   go_enter Tryz.func229,Tryz.ntmps229
   go_wp2_with fail
   go_ret
   exact⟨⟨_,rfl,HS.out,by omega⟩,(by repeat (first|exact Below.refl _ _|assumption|refine Below.drew ?_|refine Below.alloc ?_ (by first|(simp;done)|(simp;omega)|omega) _|refine Below.setCell ?_ (by first|(simp;done)|(simp;omega)|omega) _))⟩
  ·have h10': ¬(u:Int)<10:=by omega
   obtain⟨k',rfl⟩: ∃k',k=k'+1:=by
    cases k with
    |zero=>simp at hu;omega
    |succ k'=>exact⟨k',rfl⟩
   have HB:=Lib.hid (digB_big h10)
   have hq:u / 10<10 ^ (k'+1):=by rw[Nat.div_lt_iff_lt_mul (by decide),←Nat.pow_succ];exact hu
   have HR1:=fun w=>Lib.hid (digits_call k' (u / 10) hq (by omega) (w:=w))
   have HR2:=fun w=>Lib.hid (digits_call 0 (u % 10) (by simp;omega) (by omega) (w:=w))
   have hbig:u<1000000000000000000:=Nat.lt_of_lt_of_le hu (by rw[show(1000000000000000000:Nat)=10 ^ 18 by decide];exact Nat.pow_le_pow_right (by decide) (by omega))
   have ha17:u / 10≤100000000000000000:=by omega
   have hc10:u % 10<10:=Nat.mod_lt _ (by decide)
   have e1:(u:Int) / 10=((u / 10:Nat):Int):=by omega
   have e2:(u:Int) % 10=((u % 10:Nat):Int):=by omega
   have HS:=Lib.hid (digB_small (u:=u % 10) (by omega))
   generalize u / 10=a at HR1 e1 HB ha17
   generalize u % 10=c at HR2 e2 HB HS hc10
   have h0:0≤(u:Int):=by omega
   clear h10 hu hq hbig
   go_enter Tryz.func229,Tryz.ntmps229
   go_wp2_with fail
   refine(HR1 _).out.mono ?_;rintro e w1 ⟨⟨s1,rfl,hs1,hz1⟩,hb1⟩
   have HS1:=Lib.hid hs1
   have HB1:=Lib.hid hb1
   clear hs1 hb1
   go_wp2_with fail
   refine(HR2 _).out.mono ?_;rintro e w2 ⟨⟨s2,rfl,hs2,hz2⟩,hb2⟩
   have HS2:=Lib.hid hs2
   have HB2:=Lib.hid (HB1.out.trans (hb2.mono HB1.out.size))
   have hz: ¬9223372036854775807<s1.size+s2.size:=by omega
   clear hs2 hb2
   go_wp2_with fail
   go_ret
   exact⟨⟨_,rfl,by rw[bytesOf_append,HS1.out,HS2.out,HB.out,HS.out],by simp;omega⟩,HB2.out⟩
termination_by k=>k
end Go.Proofs.YtfjbnpdffillbaaGreatDoor
