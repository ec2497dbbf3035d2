/- Parts: Rh. -/
import Derived.Test.YtmaagpbjahjmhaaGreatDoorQ6
import Derived.Lib.Bytealg
import Derived.Lib.IndexLaws
set_option maxHeartbeats 1600000
set_option maxRecDepth 100000
namespace Go.Proofs.YtmaagpbjahjmhaaGreatDoor
open Go.RowKit
theorem zEg: ∀(l:List UInt8) (c:UInt8),0≤Lib.indexByte l c↔c∈l
 |[],c=>by simp[Lib.indexByte]
 |b::l,c=>by
  have ih:=zEg l c
  have hge:=Lib.indexByte_ge l c
  unfold Lib.indexByte
  by_cases hb:b=c
  ·simp[hb]
  ·have hb':(b==c)=false:=by simpa using hb
   rw[hb',List.mem_cons]
   by_cases hi:Lib.indexByte l c= -1
   ·rw[hi]at ih ⊢
    simp only[Bool.false_eq_true,if_false,beq_self_eq_true,if_true]
    constructor
    ·intro h;omega
    ·rintro(h|h)
     ·exact absurd h.symm hb
     ·have:=ih.2 h;omega
   ·have hi':(Lib.indexByte l c== -1)=false:=by simpa using hi
    rw[hi']
    simp only[Bool.false_eq_true,if_false]
    constructor
    ·intro _;exact .inr (ih.1 (by omega))
    ·intro _;omega
def zP3 (ere:Bool):ByteArray:=if ere then⟨#[46,91,93,42,94,36,92,47,40,41,43,63,123,125,124]⟩else⟨#[46,91,93,42,94,36,92,47]⟩
theorem zMK (ere:Bool) (c:Nat) (hc:c<256):decide (0≤Lib.indexByte (zP3 ere).data.toList c.toUInt8)=(zOy ere).contains c:=by
 have h:(zOy ere)=(zP3 ere).data.toList.map (·.toNat):=by cases ere<;>rfl
 rw[Bool.eq_iff_iff,decide_eq_true_eq,zEg,h,List.contains_iff_mem,List.mem_map]
 constructor
 ·intro h
  exact⟨_,h,by simp;omega⟩
 ·rintro⟨x,hx,rfl⟩
  simpa using hx
theorem zMh (s:ByteArray) (c:Nat) (w:World):
  Calls Tryz.prog 55 #[.string s,.int .u8 (c:Nat)] w fun e w'=>e= .returned (.int .i64 (Lib.indexByte s.data.toList c.toUInt8))∧w'=w:=by
 have hx: ∀w,(callFunc 163 #[.string s,.int .u8 (c:Nat)]).run Tryz.prog w= .ok (.value (.int .i64 (Lib.indexByte s.data.toList c.toUInt8))) w:=fun w=>by
  rw[run_callFunc_extern Tryz.func163 (by kernel_rfl) (by kernel_rfl) (by kernel_rfl) (e:=Extern.BytealgIndexByte.indexByte) (by kernel_rfl),Lib.run_indexByteString]
  rfl
 go_enter Tryz.func55,Tryz.ntmps55
 go_wp2
 go_ret
 exact⟨rfl,rfl⟩
theorem zCA (ere:Bool) (t:ByteArray) (ht:t=zP3 ere) (c:Nat) (hc:c<256) (b:Bool) (hb:(zOy ere).contains c=b) (w:World):
  Calls Tryz.prog 55 #[.string t,.int .u8 (c:Nat)] w fun e w'=>(∃x:Int,e= .returned (.int .i64 x)∧decide (0≤x)=b)∧w=w':=by
 subst ht
 refine(zMh (zP3 ere) c w).mono ?_
 rintro e w' ⟨rfl,rfl⟩
 exact⟨⟨_,rfl,(zMK ere c hc).trans hb⟩,rfl⟩
section
variable {w:World} {rb:Nat} {ere:Bool} {mb mo cap:Nat} {L:List Mk} {s:Rst} {k:Nat} {ev:Value}
theorem zLZ {grp:Rst→Out (List Nd)} (h1:s.i+1≠L.length) (h2:(zAI L (s.i+1)).p=false):zAy ere L grp s=
  (let c:=(zAI L (s.i+1)).b
  if !ere&&c==40 then zBF (grp s)
  else if c=110 then .ok ([zEo 10],true) ⟨s.i+2,s.ended⟩
  else if (zOy ere).contains c then .ok ([zEo c],true) ⟨s.i+2,s.ended⟩
  else if !ere&&decide (49≤c)&&decide (c≤57)then
   if s.ended.length<c - 48 then .no 44 s.i
   else if !s.ended.getD (c - 48 - 1) false then .no 44 s.i
   else .ok ([zKF (c - 48)],true) ⟨s.i+2,s.ended⟩
  else .no 40 s.i):=by
 unfold zAy
 rw[if_neg h1,if_neg (by simp[h2])]
theorem zLY (hv:RdS w rb ere mb mo cap L s k ev) (hs:s.i<L.length) (fb:Bool) {grp:Rst→Out (List Nd)}
  (hg:ere=false→s.i+1<L.length→Calls Tryz.prog 211 #[.pointer (some ⟨rb,0,none⟩),.bool fb] w (zI3 w rb ere mb mo cap L k ev (zBF (grp s)) (zFW w))):
  Calls Tryz.prog 208 #[.pointer (some ⟨rb,0,none⟩),.bool fb] w (zI3 w rb ere mb mo cap L k ev (zAy ere L grp s) (zFW w)):=by
 have hlen:=hv.m.len
 have rbl:=hv.lt
 have mbl:=hv.m.lt
 have c0:=hv.c0
 have c1:=hv.c1
 have c2:=hv.c2
 have f2:=hv.fz 2
 have HV:=zQr hv
 have hmb:=fun(h:s.i+1<L.length)=>hv.m.b (s.i+1) h
 have hmp:=fun(h:s.i+1<L.length)=>hv.m.p (s.i+1) h
 have hmu:=fun(h:s.i+1<L.length)=>hv.m.u (s.i+1) h
 clear hv
 by_cases h1:s.i+1=L.length
 ·have HF:Hid (zAy ere L grp s= .no 40 s.i):=by simp[Hid,zAy,h1]
  have h1':(s.i:Int)+1=(L.length:Int):=by omega
  clear hmb hmp hmu hg
  go_enter Tryz.func208,Tryz.ntmps208
  go_wp2_with fail
  refine(zAr 40 s.i rfl rfl _).mono ?_;rintro e w9 ⟨rfl,rfl⟩
  go_wp2_with fail
  exact⟨rfl,zA6.refl _ _ _,by rw[HF.out];rfl⟩
 have h2:s.i+1<L.length:=by omega
 have h1': ¬((s.i:Int)+1=(L.length:Int)):=by omega
 have mb1:=hmb h2
 have mp1:=hmp h2
 have mu1:=hmu h2
 have HE:=fun(h:(zAI L (s.i+1)).p=false)=>zQr (zLZ (ere:=ere) (grp:=grp) h1 h)
 clear hmb hmp hmu
 generalize hm:zAI L (s.i+1)=mk at mb1 mp1 mu1 HE
 obtain⟨c,pl⟩:=mk
 simp only at mb1 mp1 mu1 HE
 cases pl with
 |true=>
  have HF:Hid (zAy ere L grp s= .no 40 s.i):=by simp[Hid,zAy,hm]
  clear hg HE hm
  go_enter Tryz.func208,Tryz.ntmps208
  go_wp2_with fail
  refine(zAr 40 s.i rfl rfl _).mono ?_;rintro e w9 ⟨rfl,rfl⟩
  go_wp2_with fail
  exact⟨rfl,zA6.refl _ _ _,by rw[HF.out];rfl⟩
 |false=>
  have HE:=HE rfl
  try simp only at HE
  clear hm
  by_cases hn:c=110
  ·subst hn
   have HF:Hid (zAy ere L grp s= .ok ([zEo 10],true) ⟨s.i+2,s.ended⟩):=by rw[Hid,HE.out];cases ere<;>rfl
   clear hg HE
   cases ere with
   |false=>
    go_enter Tryz.func208,Tryz.ntmps208
    go_wp2_with fail
    have hr1:=HV.out.setAt (j:=s.i+2) (by omega)
    have hb1:=(zA6.refl rb ev.ownBlock w).store 2 (.int .i64 ((s.i+2:Nat):Int))
    rw[Int.natCast_add,show((2:Nat):Int)=2 from rfl]at hr1 hb1
    refine(zEG 10 (by omega) _).mono ?_;rintro e w2 ⟨rfl,hb2⟩
    have HR2:=zQr (hr1.below hb2)
    have HB2:=zQr (hb1.below hb2)
    clear hb2 hr1 hb1
    generalize zEo 10=x at HF ⊢
    obtain⟨op,⟨x0,x1,x2,x3⟩,xn,xmin,xmax,xk⟩:=x
    go_wp2_with fail
    go_ret2
    exact zBE HF.out HR2.out HB2.out rfl
   |true=>
    go_enter Tryz.func208,Tryz.ntmps208
    go_wp2_with fail
    have hr1:=HV.out.setAt (j:=s.i+2) (by omega)
    have hb1:=(zA6.refl rb ev.ownBlock w).store 2 (.int .i64 ((s.i+2:Nat):Int))
    rw[Int.natCast_add,show((2:Nat):Int)=2 from rfl]at hr1 hb1
    refine(zEG 10 (by omega) _).mono ?_;rintro e w2 ⟨rfl,hb2⟩
    have HR2:=zQr (hr1.below hb2)
    have HB2:=zQr (hb1.below hb2)
    clear hb2 hr1 hb1
    generalize zEo 10=x at HF ⊢
    obtain⟨op,⟨x0,x1,x2,x3⟩,xn,xmin,xmax,xk⟩:=x
    go_wp2_with fail
    go_ret2
    exact zBE HF.out HR2.out HB2.out rfl
  have hn': ¬((c:Int)=110):=by omega
  cases ere with
  |true=>
   clear hg
   cases ho:(zOy true).contains c with
   |true=>
    have HF:Hid (zAy true L grp s= .ok ([zEo c],true) ⟨s.i+2,s.ended⟩):=by rw[Hid,HE.out];simp[hn,List.contains_iff_mem.1 ho]
    clear HE
    go_enter Tryz.func208,Tryz.ntmps208
    go_wp2_with fail
    refine(zCA true _ (by rfl) c mu1 _ ho w).mono ?_;rintro e w8 ⟨⟨x,rfl,hx⟩,rfl⟩
    have hx':0≤x:=by simpa using hx
    clear hx
    go_wp2_with fail
    have hr1:=HV.out.setAt (j:=s.i+2) (by omega)
    have hb1:=(zA6.refl rb ev.ownBlock w).store 2 (.int .i64 ((s.i+2:Nat):Int))
    rw[Int.natCast_add,show((2:Nat):Int)=2 from rfl]at hr1 hb1
    refine(zEG c (by omega) _).mono ?_;rintro e w2 ⟨rfl,hb2⟩
    have HR2:=zQr (hr1.below hb2)
    have HB2:=zQr (hb1.below hb2)
    clear hb2 hr1 hb1
    generalize zEo c=x at HF ⊢
    obtain⟨op,⟨x0,x1,x2,x3⟩,xn,xmin,xmax,xk⟩:=x
    go_wp2_with fail
    go_ret2
    exact zBE HF.out HR2.out HB2.out rfl
   |false=>
    have HF:Hid (zAy true L grp s= .no 40 s.i):=by rw[Hid,HE.out];simp only[Bool.not_true,Bool.false_and,Bool.false_eq_true,if_false,if_neg hn,ho]
    clear HE
    go_enter Tryz.func208,Tryz.ntmps208
    go_wp2_with fail
    refine(zCA true _ (by rfl) c mu1 _ ho w).mono ?_;rintro e w8 ⟨⟨x,rfl,hx⟩,rfl⟩
    have hx':x<0:=by simpa using hx
    clear hx
    go_wp2_with fail
    refine(zAr 40 s.i rfl rfl _).mono ?_;rintro e w9 ⟨rfl,rfl⟩
    go_wp2_with fail
    exact⟨rfl,zA6.refl _ _ _,by rw[HF.out];rfl⟩
  |false=>
   by_cases hq:c=40
   ·subst hq
    have HF:Hid (zAy false L grp s=zBF (grp s)):=by rw[Hid,HE.out];rfl
    have hg1:=hg rfl h2
    rw[←HF.out]at hg1
    clear HE hg
    go_enter Tryz.func208,Tryz.ntmps208
    go_wp2_with fail
    refine hg1.mono ?_
    rintro e w1 ⟨hb1,hp⟩
    cases hr:zAy false L grp s with
    |no er pl=>
     rw[hr]at hp
     simp only[zFP]at hp
     subst hp
     go_wp2_with fail
     exact⟨rfl,hb1,rfl⟩
    |ok a t=>
     obtain⟨re,tk⟩:=a
     rw[hr]at hp
     obtain⟨v,ev',rfl,hr2,hn2,v1,rfl,hrow⟩:=hp
     have HH:=zQr (show zI3 w rb false mb mo cap L k ev (zAy false L grp s) (zFW w) (.returned (.tuple #[v1,.bool tk])) w1 from by rw[hr];exact⟨hb1,_,ev',rfl,hr2,hn2,v1,rfl,hrow⟩)
     clear hr2 hn2 hrow hb1 hr
     go_wp2_with fail
     go_ret2
     exact HH.out
   have hq': ¬((c:Int)=40):=by omega
   clear hg
   cases ho:(zOy false).contains c with
   |true=>
    have HF:Hid (zAy false L grp s= .ok ([zEo c],true) ⟨s.i+2,s.ended⟩):=by rw[Hid,HE.out];simp[hn,hq,List.contains_iff_mem.1 ho]
    clear HE
    go_enter Tryz.func208,Tryz.ntmps208
    go_wp2_with fail
    refine(zCA false _ (by rfl) c mu1 _ ho w).mono ?_;rintro e w8 ⟨⟨x,rfl,hx⟩,rfl⟩
    have hx':0≤x:=by simpa using hx
    clear hx
    go_wp2_with fail
    have hr1:=HV.out.setAt (j:=s.i+2) (by omega)
    have hb1:=(zA6.refl rb ev.ownBlock w).store 2 (.int .i64 ((s.i+2:Nat):Int))
    rw[Int.natCast_add,show((2:Nat):Int)=2 from rfl]at hr1 hb1
    refine(zEG c (by omega) _).mono ?_;rintro e w2 ⟨rfl,hb2⟩
    have HR2:=zQr (hr1.below hb2)
    have HB2:=zQr (hb1.below hb2)
    clear hb2 hr1 hb1
    generalize zEo c=x at HF ⊢
    obtain⟨op,⟨x0,x1,x2,x3⟩,xn,xmin,xmax,xk⟩:=x
    go_wp2_with fail
    go_ret2
    exact zBE HF.out HR2.out HB2.out rfl
   |false=>
    have HG:Hid (zAy false L grp s=if decide (49≤c)&&decide (c≤57)then
      if s.ended.length<c - 48 then .no 44 s.i
      else if !s.ended.getD (c - 48 - 1) false then .no 44 s.i
      else .ok ([zKF (c - 48)],true) ⟨s.i+2,s.ended⟩
     else .no 40 s.i):=by
     rw[Hid,HE.out]
     have hq2:(c==40)=false:=by simpa using hq
     simp only[Bool.not_false,Bool.true_and,hq2,Bool.false_eq_true,if_false,if_neg hn,ho]
    clear HE
    by_cases hd1:49≤c
    ·by_cases hd2:c≤57
     ·have hN:(c:Int) - 48=((c - 48:Nat):Int):=by omega
      have d1:(49:Int)≤(c:Int):=by omega
      have d2:(c:Int)≤57:=by omega
      have c3:=HV.out.c3
      have HO:=zQr HV.out.own
      have hel:=HV.out.el
      rcases HV.out.own.2 with ⟨hev,h0⟩|⟨g,cp,cur,hev,hg1,hg2,hg3,hg4,hg5,hg6⟩
      ·have HF:Hid (zAy false L grp s= .no 44 s.i):=by rw[Hid,HG.out,if_pos (by simp[hd1,hd2]),if_pos (by omega)]
       have d3:(c:Int) - 48>0:=by omega
       rw[hev]at c3
       go_enter Tryz.func208,Tryz.ntmps208
       go_wp2_with fail
       refine(zCA false _ (by rfl) c mu1 _ ho w).mono ?_;rintro e w8 ⟨⟨x,rfl,hx⟩,rfl⟩
       have hx':x<0:=by simpa using hx
       clear hx
       go_wp2_with fail
       refine(zAr 44 s.i rfl rfl _).mono ?_;rintro e w9 ⟨rfl,rfl⟩
       go_wp2_with fail
       exact⟨rfl,zA6.refl _ _ _,by rw[HF.out];rfl⟩
      ·rw[hev]at c3
       have glt:g<w.heap.size:=(zQz.1 hg2).1
       rw[hev]at HO
       by_cases hl:s.ended.length<c - 48
       ·have HF:Hid (zAy false L grp s= .no 44 s.i):=by rw[Hid,HG.out,if_pos (by simp[hd1,hd2]),if_pos hl]
        have d3:(c:Int) - 48>(s.ended.length:Int):=by omega
        clear hev hg2 hg3 hg4 hg5 hg6
        go_enter Tryz.func208,Tryz.ntmps208
        go_wp2_with fail
        refine(zCA false _ (by rfl) c mu1 _ ho w).mono ?_;rintro e w8 ⟨⟨x,rfl,hx⟩,rfl⟩
        have hx':x<0:=by simpa using hx
        clear hx
        go_wp2_with fail
        refine(zAr 44 s.i rfl rfl _).mono ?_;rintro e w9 ⟨rfl,rfl⟩
        go_wp2_with fail
        exact⟨rfl,zA6.refl _ _ _,by rw[HF.out];rfl⟩
       ·have d3: ¬((c:Int) - 48>(s.ended.length:Int)):=by omega
        have hcell:w.cell? ⟨g,c - 48 - 1,none⟩=some (.bool (s.ended.getD (c - 48 - 1) false)):=by
         rw[HO.out.cellAt _ (by omega)]
         simp[List.getD_eq_getElem?_getD,show c - 48 - 1<s.ended.length by omega]
        clear hev hg2 hg3 hg4 hg5 hg6
        cases hb:s.ended.getD (c - 48 - 1) false with
        |false=>
         have HF:Hid (zAy false L grp s= .no 44 s.i):=by rw[Hid,HG.out,if_pos (by simp[hd1,hd2]),if_neg hl,if_pos (by rw[hb];rfl)]
         rw[hb]at hcell
         go_enter Tryz.func208,Tryz.ntmps208
         go_wp2_with fail
         refine(zCA false _ (by rfl) c mu1 _ ho w).mono ?_;rintro e w8 ⟨⟨x,rfl,hx⟩,rfl⟩
         have hx':x<0:=by simpa using hx
         clear hx
         go_wp2_with fail
         refine(zAr 44 s.i rfl rfl _).mono ?_;rintro e w9 ⟨rfl,rfl⟩
         go_wp2_with fail
         exact⟨rfl,zA6.refl _ _ _,by rw[HF.out];rfl⟩
        |true=>
         have HF:Hid (zAy false L grp s= .ok ([zKF (c - 48)],true) ⟨s.i+2,s.ended⟩):=by rw[Hid,HG.out,if_pos (by simp[hd1,hd2]),if_neg hl,if_neg (by rw[hb];decide)]
         rw[hb]at hcell
         go_enter Tryz.func208,Tryz.ntmps208
         go_wp2_with fail
         refine(zCA false _ (by rfl) c mu1 _ ho w).mono ?_;rintro e w8 ⟨⟨x,rfl,hx⟩,rfl⟩
         have hx':x<0:=by simpa using hx
         clear hx
         go_wp2_with fail
         have hr1:=HV.out.setAt (j:=s.i+2) (by omega)
         have hb1:=(zA6.refl rb ev.ownBlock w).store 2 (.int .i64 ((s.i+2:Nat):Int))
         rw[Int.natCast_add,show((2:Nat):Int)=2 from rfl]at hr1 hb1
         go_ret2
         exact zBE HF.out hr1 hb1 (by simp)
     ·have HF:Hid (zAy false L grp s= .no 40 s.i):=by rw[Hid,HG.out];simp[hd1,hd2]
      go_enter Tryz.func208,Tryz.ntmps208
      go_wp2_with fail
      refine(zCA false _ (by rfl) c mu1 _ ho w).mono ?_;rintro e w8 ⟨⟨x,rfl,hx⟩,rfl⟩
      have hx':x<0:=by simpa using hx
      clear hx
      go_wp2_with fail
      refine(zAr 40 s.i rfl rfl _).mono ?_;rintro e w9 ⟨rfl,rfl⟩
      go_wp2_with fail
      exact⟨rfl,zA6.refl _ _ _,by rw[HF.out];rfl⟩
    ·have HF:Hid (zAy false L grp s= .no 40 s.i):=by rw[Hid,HG.out];simp[hd1]
     go_enter Tryz.func208,Tryz.ntmps208
     go_wp2_with fail
     refine(zCA false _ (by rfl) c mu1 _ ho w).mono ?_;rintro e w8 ⟨⟨x,rfl,hx⟩,rfl⟩
     have hx':x<0:=by simpa using hx
     clear hx
     go_wp2_with fail
     refine(zAr 40 s.i rfl rfl _).mono ?_;rintro e w9 ⟨rfl,rfl⟩
     go_wp2_with fail
     exact⟨rfl,zA6.refl _ _ _,by rw[HF.out];rfl⟩
end
end Go.Proofs.YtmaagpbjahjmhaaGreatDoor
