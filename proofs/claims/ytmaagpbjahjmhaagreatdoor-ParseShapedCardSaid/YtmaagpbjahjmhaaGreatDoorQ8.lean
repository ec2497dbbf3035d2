/- Parts: Rk. -/
import Derived.Test.YtmaagpbjahjmhaaGreatDoorQ6
import Derived.WalkMore
import Derived.Deep.LoopGhost
set_option maxHeartbeats 1600000
set_option maxRecDepth 100000
namespace Go.Proofs.YtmaagpbjahjmhaaGreatDoor
open Go.RowKit
section
variable {rb:Nat} {ere:Bool} {mb mo cap:Nat} {L:List Mk} {k:Nat}
theorem zA3.below {w0 w w':World} {re:List Nd} {v ev:Value} (h:zA3 w0 re v w ev) (hb:Below w.heap.size w w'):zA3 w0 re v w' ev:=⟨zAV h.1 fun g hg=>hb.block g (h.lt g hg).2,h.2⟩
theorem zA3.part {w0 w w':World} {re:List Nd} {v ev ev':Value} (h:zA3 w0 re v w ev) (hb:zA6 rb ev.ownBlock w w') (hn:zBK w ev.ownBlock ev'.ownBlock) (hr:rb<w0.heap.size):zA3 w0 re v w' ev':=
 ⟨zAV h.1 fun g hg=>hb.block g (h.lt g hg).2 (by have:=(h.lt g hg).1;omega) (h.2 g hg),fun g hg=>hn.ne (h.lt g hg).2 (h.2 g hg)⟩
theorem zIz {w W w4:World} {s:Rst} {ev:Value} {eb:Option Nat} {o:Obj} (hr:RdS W rb ere mb mo cap L s k ev) (hb:zA6 rb eb w W) (hg:(W.alloc o).grownBy w4 (some W.heap.size)):
  RdS w4 rb ere mb mo cap L s k ev∧zA6 rb eb w w4∧ ∀al va,zA3 w al va W ev→zA3 w al va w4 ev:=by
 refine⟨?_,?_,?_⟩
 ·refine(hr.alloc o).beside hg (fun g h=>?_) (fun g h he=>?_)
  ·have:=hr.lt;cases h;exact this
  ·have:=hr.evlt g h;cases he;omega
 ·exact(hb.alloc o).beside hg (fun g h=>by cases h;exact hb.size)
 ·intro al va h
  have h1:=h.below ((zQs W.heap.size W).alloc (zQt _) o)
  exact⟨zAV h1.1 fun g hg'=>hg.block g (h1.lt g hg').2 (fun e=>by have:=(h.lt g hg').2;cases e;omega),h.2⟩
theorem zA3.made {w W w4:World} {ev v4:Value} {re:List Nd} (hnd:Nds w4 w.heap.size v4 re) (hev: ∀g,ev.ownBlock=some g→g<W.heap.size) (hblk:v4.ownBlock=some W.heap.size∨v4.ownBlock=some (W.heap.size+1)):zA3 w re v4 w4 ev:=by
 refine⟨hnd,fun g hg e=>?_⟩
 have:=hev g e.symm
 rcases hblk with h|h<;>(rw[h]at hg;cases hg;omega)
theorem zEm {w W w4:World} {s:Rst} {ev va v4:Value} {al l:List Nd} {eb:Option Nat} (hr:RdS W rb ere mb mo cap L s k ev) (hb:zA6 rb eb w W) (hrw:rb<w.heap.size) (ha:zA3 w al va W ev) (hnd:Nds w4 w.heap.size v4 l) (hg:W.grownBy w4 va.ownBlock)
  (hblk:v4.ownBlock=va.ownBlock∨v4.ownBlock=some W.heap.size):RdS w4 rb ere mb mo cap L s k ev∧zA6 rb eb w w4∧zA3 w l v4 w4 ev:=by
 refine⟨hr.beside hg (fun g h=>?_) (fun g h he=>?_),hb.beside hg (fun g h=>(ha.lt g h).1),hnd,fun g hg' e=>?_⟩
 ·have:=(ha.lt g h).1;omega
 ·exact ha.2 g he.symm h.symm
 ·rcases hblk with h|h
  ·exact ha.2 g (h▸hg') e
  ·have:=hr.evlt g e.symm
   rw[h]at hg';cases hg';omega
theorem zKA (ih:zQM rb ere mb mo cap L k):zKd rb ere mb mo cap L k:=by
 intro w s ev hv
 have hlen:=hv.m.len
 have hu:=zQr hv.m.u
 have hrw:=hv.lt
 have hsi:=hv.at_
 go_enter Tryz.func181,Tryz.ntmps181
 go_wp2_with fail
 go_step3
 go_wp2_with fail
 go_step3
 go_wp2_with fail
 go_loopg [3,4] (L.length+1) (fun f va n wr=> ∃(st:Rst) (all:List Nd) (m:Nat) (ev':Value),n= .int .i64 (m:Nat)∧RdS wr rb ere mb mo cap L st k ev'∧zA6 rb ev.ownBlock w wr∧zBK w ev.ownBlock ev'.ownBlock∧zA3 w all va wr ev'∧
  Hid (zBt ere L k s=zBx ere L (zGS ere (k==64) L (zAa ere L k)) f all m st)∧L.length<f+st.i∧m+s.i≤st.i∧all.length+4*s.i≤4*st.i)
 case atStart=>exact⟨s,[],0,ev,rfl,hv,zA6.refl _ _ _,zBK.refl _ _,⟨Nds.nil _ _,fun g hg=>by cases hg⟩,rfl,by omega,by omega,by simp⟩
 case round=>
  obtain⟨st,all,m,ev',rfl,hr,hb,hn,hal,HS,hf,hm,hal4⟩:=hrel
  have hst:=hr.at_
  obtain⟨f,hfg⟩: ∃f',gk=f'+1:=⟨gk - 1,by omega⟩
  rw[hfg]at HS hf
  have HFG:=zQr hfg
  have HR:=zQr hr
  have HB:=zQr hb
  have HN:=zQr hn
  have HA:=zQr hal
  clear hr hb hn hal hv hfg
  generalize hva:u3=va at HA ⊢
  clear hva
  go_wp2_with fail
  refine(ih _ _ _ HR.out).mono ?_
  rintro e w1 ⟨hb1,hp1⟩
  cases hrow:zGS ere (k==64) L (zAa ere L k) st with
  |no er p=>
   have HF:Hid (zBt ere L k s= .no er p):=by rw[Hid,HS.out,zBx,hrow]
   rw[hrow]at hp1
   simp only[zFP]at hp1
   subst hp1
   have HBT:=zQr (HB.out.trans HN.out hb1)
   clear hb1
   go_wp2_with fail
   exact⟨rfl,HBT.out,by rw[HF.out];rfl⟩
  |ok pr t=>
   obtain⟨parts,re⟩:=pr
   have hri:=zC2 hu.out k hst hrow
   have hsm:=zGi hu.out k hst hrow
   rw[hrow]at hp1
   simp only at hp1 hsm
   obtain⟨v1,ev1,rfl,hr1,hn1,v2,rfl,hrow1⟩:=hp1
   have hti:=hri.le
   have hlt:=hri.lt
   have hR1:=HR.out.lt
   have HA1:=zQr (HA.out.part hb1 hn1 hrw)
   have HRE:=zQr (hrow1.mono HB.out.size)
   have HN1:=zQr (HN.out.trans HB.out.size hn1)
   have HB1:=zQr (HB.out.trans HN.out hb1)
   have HR1:=zQr hr1
   have c0:=hr1.c0
   have rbl:=hr1.lt
   have HS1:Hid (zBt ere L k s=if parts==0&&((ere&&seesAt L t.i [124])||decide (0<m))then .no 45 t.i else
     if !(ere&&seesAt L t.i [124])then .ok (if 1<m+1 then zM9 (m+1)::(all++(if parts=1 then re else zHe parts::re))else(all++(if parts=1 then re else zHe parts::re))) t
     else zBx ere L (zGS ere (k==64) L (zAa ere L k)) f (all++(if parts=1 then re else zHe parts::re)) (m+1) ⟨t.i+1,t.ended⟩):=by rw[Hid,HS.out,zBx,hrow]
   clear hb1 hn1 hrow1 hr1 hri hrow HA HB HN HR HS
   go_upto_region 4 with fail
   go_cut [7] (fun x wc=>x= .bool (ere&&seesAt L t.i [124])∧RdS wc rb ere mb mo cap L t k ev1∧zA6 rb ev.ownBlock w wc∧zA3 w all va wc ev1∧zA3 w re v2 wc ev1)
   case first=>
    cases ere with
    |false=>
     go_wp2_with fail
     go_meet
     exact⟨rfl,HR1.out,HB1.out,HA1.out,HRE.out⟩
    |true=>
     go_wp2_with fail
     refine(zAj _ _ _ (by decide) (by rfl) rfl HR1.out.v).mono ?_;rintro e w2 ⟨rfl,hb2⟩
     have HF:=zQr (show RdS w2 rb true mb mo cap L t k ev1∧zA6 rb ev.ownBlock w w2∧zA3 w all va w2 ev1∧zA3 w re v2 w2 ev1 from⟨HR1.out.below hb2,HB1.out.below hb2,HA1.out.below hb2,HRE.out.below hb2⟩)
     clear hb2
     go_wp2_with fail
     go_meet
     exact⟨rfl,HF.out⟩
   case rest=>
    obtain⟨hx,hr2,hb2,ha2,hre2⟩:=hcut
    have HBT:=zQr (show(ere&&seesAt L t.i [124])=true→t.i+1≤L.length from fun h=>by simp only[Bool.and_eq_true]at h;simpa using zBP (by decide) h.2)
    generalize (ere&&seesAt L t.i [124])=b at hx HS1 HBT
    subst hx
    have HR2:=zQr hr2
    have HB2:=zQr hb2
    have HA2:=zQr ha2
    have HRE2:=zQr hre2
    have d2:=hr2.c2
    have f2:=hr2.fz 2
    have rbl2:=hr2.lt
    clear hr2 hb2 ha2 hre2 HR1 HB1 HA1 HRE c0 rbl
    go_upto_region 5 with fail
    go_cut [29] (fun x wd=>x= .bool (parts==0&&(b||decide (0<m)))∧wc=wd)
    case first=>
     clear HS1
     by_cases hp0:parts=0
     ·subst hp0
      cases b with
      |true=>
       go_wp2_with fail
       go_meet
       exact⟨rfl,rfl⟩
      |false=>
       by_cases hm0:0<m
       ·have hm0':(0:Int)<(m:Int):=by omega
        go_wp2_with fail
        go_meet
        exact⟨by simp[hm0],rfl⟩
       ·have hm0': ¬(0:Int)<(m:Int):=by omega
        go_wp2_with fail
        go_meet
        exact⟨by simp[hm0],rfl⟩
     ·have hp0': ¬(parts:Int)=0:=by omega
      go_wp2_with fail
      go_meet
      exact⟨by simp[hp0],rfl⟩
    case rest=>
     obtain⟨hx,rfl⟩:=hcut
     cases hbad:(parts==0&&(b||decide (0<m)))with
     |true=>
      have HF:Hid (zBt ere L k s= .no 45 t.i):=by rw[Hid,HS1.out,if_pos hbad]
      rw[hbad]at hx
      subst hx
      go_wp2_with fail
      refine(zAr 45 t.i rfl rfl _).mono ?_;rintro e w9 ⟨rfl,rfl⟩
      go_wp2_with fail
      exact⟨rfl,HB2.out,by rw[HF.out];rfl⟩
     |false=>
      have HS2:=HS1.out
      rw[if_neg (by rw[hbad];decide)]at HS2
      rw[hbad]at hx
      subst hx
      obtain⟨re',hre'⟩: ∃re',(if parts=1 then re else zHe parts::re)=re':=⟨_,rfl⟩
      rw[hre']at HS2
      have HS3:=zQr HS2
      have HRE':=zQr hre'
      clear HS1 HS2 hre' hbad
      go_upto_if 37 with fail
      go_cut [6] (fun x wd=>RdS wd rb ere mb mo cap L t k ev1∧zA6 rb ev.ownBlock w wd∧zA3 w all va wd ev1∧zA3 w re' x wd ev1)
      case first=>
       clear HS3
       by_cases hp1:parts=1
       ·have hp1':(parts:Int)=1:=by omega
        have he:re=re':=by rw[←HRE'.out,if_pos hp1]
        subst he
        go_wp2_with fail
        go_meet
        exact⟨HR2.out,HB2.out,HA2.out,HRE2.out⟩
       ·have hp1': ¬(parts:Int)=1:=by omega
        have he:zHe parts::re=re':=by rw[←HRE'.out,if_neg hp1]
        have hl:=Nds.lit wc w.heap.size (zHe parts) HB2.out.size
        have HRA:=zQr (HR2.out.alloc (.cells (zAT (zHe parts)) 101))
        have HBA:=zQr (HB2.out.alloc (.cells (zAT (zHe parts)) 101))
        have HAA:=zQr (HA2.out.below ((zQs _ _).alloc (zQt _) (.cells (zAT (zHe parts)) 101)))
        have HREA:=zQr (HRE2.out.below ((zQs _ _).alloc (zQt _) (.cells (zAT (zHe parts)) 101)))
        have hszA:=HBA.out.size
        have HCA:=zQr (show∀g,ev1.ownBlock=some g→g<wc.heap.size from HR2.out.evlt)
        have HCB:=zQr (show∀g,va.ownBlock=some g→g<wc.heap.size from fun g hg=>(HA2.out.lt g hg).2)
        have hszc:=HB2.out.size
        have HL:=zQr hl
        have HEQ:=zQr he
        clear hl he
        go_wp2_with (at_builtin;refine zCG rfl _ _ rfl w.heap.size rfl HL.out rfl HREA.out.nds.src (by simp only[List.length_singleton];omega) hszA ?_)
        intro v4 w4 hnd4 hgr4 hblk4
        obtain⟨hr5,hb5,hk5⟩:=zIz HR2.out HB2.out hgr4
        have HF:=zQr (show RdS w4 rb ere mb mo cap L t k ev1∧zA6 rb ev.ownBlock w w4∧zA3 w all va w4 ev1∧zA3 w (zHe parts::re) v4 w4 ev1 from⟨hr5,hb5,hk5 _ _ HA2.out,zA3.made hnd4 HCA.out hblk4⟩)
        clear hnd4 hgr4 hblk4 hr5 hb5 hk5
        go_wp2_with fail
        go_meet
        rw[←HEQ.out]
        exact HF.out
      case rest=>
       obtain⟨hr3,hb3,ha3,hre3⟩:=hcut
       have HR3:=zQr hr3
       have HB3:=zQr hb3
       have HA3:=zQr ha3
       have hszW:=hb3.size
       have hsre:re'.length≤re.length+1:=by rw[←HRE'.out];split<;>simp
       have hsrc:=zQr hre3.nds.src
       clear hr3 hb3 ha3 hre3 HR2 HB2 HA2 HRE2 d2 f2 rbl2
       go_wp2_with (at_builtin;refine zCG rfl _ _ rfl w.heap.size rfl HA3.out.nds rfl hsrc.out (by omega) hszW ?_)
       intro v4 w4 hnd4 hgr4 hblk4
       obtain⟨hr5,hb5,ha5⟩:=zEm HR3.out HB3.out hrw HA3.out hnd4 hgr4 hblk4
       have HR5:=zQr hr5
       have HB5:=zQr hb5
       have HA5:=zQr ha5
       have d2:=hr5.c2
       have f2:=hr5.fz 2
       have rbl5:=hr5.lt
       clear hr5 hb5 ha5 hnd4 hgr4 hblk4 hsrc HR3 HB3 HA3 hszW
       cases b with
       |true=>
        have hti1:=HBT.out rfl
        have HS4:Hid (zBt ere L k s=zBx ere L (zGS ere (k==64) L (zAa ere L k)) f (all++re') (m+1) ⟨t.i+1,t.ended⟩):=by rw[Hid,HS3.out];rfl
        have hrZ:=HR5.out.setAt (j:=t.i+1) hti1
        have hbZ:=HB5.out.store 2 (.int .i64 ((t.i+1:Nat):Int))
        rw[Int.natCast_add,show((1:Nat):Int)=1 from rfl]at hrZ hbZ
        have haZ:=HA5.out.store (b:=rb) (fun g hg=>by have:=(HA5.out.lt g hg).1;omega) 2 (.int .i64 ((t.i:Int)+1))
        have HZ:=zQr (show RdS (w4.setCell ⟨rb,2,none⟩ (.int .i64 ((t.i:Int)+1))) rb ere mb mo cap L ⟨t.i+1,t.ended⟩ k ev1∧zA6 rb ev.ownBlock w (w4.setCell ⟨rb,2,none⟩ (.int .i64 ((t.i:Int)+1)))∧zA3 w (all++re') v4 (w4.setCell ⟨rb,2,none⟩ (.int .i64 ((t.i:Int)+1))) ev1 from⟨hrZ,hbZ,haZ⟩)
        clear hrZ hbZ haZ
        go_wp2_with fail
        obtain⟨z1,z2,z3⟩:=HZ.out
        go_roundg f
        case measure=>have:=HFG.out;omega
        case rel=>exact⟨⟨t.i+1,t.ended⟩,all++re',m+1,ev1,by go_num,z1,z2,HN1.out,z3,HS4.out,by simp only;omega,by simp only;omega,by simp only[List.length_append];omega⟩
       |false=>
        have HS4:Hid (zBt ere L k s= .ok (if 1<m+1 then zM9 (m+1)::(all++re')else all++re') t):=by rw[Hid,HS3.out];rfl
        by_cases hm1:1<m+1
        ·have hm1':(1:Int)<(m:Int)+1:=by omega
         have HF:Hid (zBt ere L k s= .ok (zM9 (m+1)::(all++re')) t):=by rw[Hid,HS4.out,if_pos hm1]
         have hx:zM9 (m+1)=⟨5,Cls.zero,0,0,0,(m:Int)+1⟩:=by rw[zM9,Int.natCast_add,show((1:Nat):Int)=1 from rfl]
         have HX:=zQr hx
         have HL:=zQr (Nds.lit w4 w.heap.size ⟨5,Cls.zero,0,0,0,(m:Int)+1⟩ HB5.out.size)
         have hszA:=(HB5.out.alloc (.cells (zAT ⟨5,Cls.zero,0,0,0,(m:Int)+1⟩) 101)).size
         have HSA:=zQr (HA5.out.below ((zQs _ _).alloc (zQt _) (.cells (zAT ⟨5,Cls.zero,0,0,0,(m:Int)+1⟩) 101))).nds.src
         have hlen5:(all++re').length≤30000:=by simp only[List.length_append];omega
         clear hx d2 f2
         go_wp2_with (at_builtin;refine zCG rfl _ _ rfl w.heap.size rfl HL.out rfl HSA.out (by simp only[List.length_singleton];omega) hszA ?_)
         intro v6 w6 hnd6 hgr6 hblk6
         obtain⟨hr7,hb7,_⟩:=zIz HR5.out HB5.out hgr6
         have hn7:zA3 w (zM9 (m+1)::(all++re')) v6 w6 ev1:=by rw[HX.out];exact zA3.made hnd6 HR5.out.evlt hblk6
         have HZ:=zQr (show RdS w6 rb ere mb mo cap L t k ev1∧zA6 rb ev.ownBlock w w6∧zA3 w (zM9 (m+1)::(all++re')) v6 w6 ev1 from⟨hr7,hb7,hn7⟩)
         clear hnd6 hgr6 hblk6 hr7 hb7 hn7
         go_wp2_with fail
         go_ret
         exact⟨HZ.out.2.1,by rw[HF.out];exact⟨v6,ev1,rfl,HZ.out.1,HN1.out,HZ.out.2.2⟩⟩
        ·have hm1': ¬(1:Int)<(m:Int)+1:=by omega
         have HF:Hid (zBt ere L k s= .ok (all++re') t):=by rw[Hid,HS4.out,if_neg hm1]
         go_wp2_with fail
         go_ret
         exact⟨HB5.out,by rw[HF.out];exact⟨v4,ev1,rfl,HR5.out,HN1.out,HA5.out⟩⟩
end
end Go.Proofs.YtmaagpbjahjmhaaGreatDoor
