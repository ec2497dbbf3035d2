/- Parts: Rk Dd De Df Dg. -/
import Derived.Test.YtfjbnpdffillbaaGreatDoorQ6
import Derived.WalkMore
import Derived.Deep.LoopGhost
import Derived.WalkSmall
set_option maxHeartbeats 12800000
set_option maxRecDepth 100000
namespace Go.Proofs.YtfjbnpdffillbaaGreatDoor
section
open Go.RowKit
section
variable {rb:Nat} {ere:Bool} {mb mo cap:Nat} {L:List Mk} {k:Nat}
theorem zBF.below {w0 w w':World} {re:List Nd} {v ev:Value} (h:zBF w0 re v w ev) (hb:Below w.heap.size w w'):zBF w0 re v w' ev:=⟨zAU h.1 fun g hg=>hb.block g (h.lt g hg).2,h.2⟩
theorem zBF.part {w0 w w':World} {re:List Nd} {v ev ev':Value} (h:zBF w0 re v w ev) (hb:zAr rb ev.ownBlock w w') (hn:zAo w ev.ownBlock ev'.ownBlock) (hr:rb<w0.heap.size):zBF w0 re v w' ev':=
 ⟨zAU h.1 fun g hg=>hb.block g (h.lt g hg).2 (by have:=(h.lt g hg).1;omega) (h.2 g hg),fun g hg=>hn.ne (h.lt g hg).2 (h.2 g hg)⟩
theorem zJG {w W w4:World} {s:Rst} {ev:Value} {eb:Option Nat} {o:Obj} (hr:RdS W rb ere mb mo cap L s k ev) (hb:zAr rb eb w W) (hg:(W.alloc o).grownBy w4 (some W.heap.size)):
  RdS w4 rb ere mb mo cap L s k ev∧zAr rb eb w w4∧ ∀al va,zBF w al va W ev→zBF w al va w4 ev:=by
 refine⟨?_,?_,?_⟩
 ·refine(hr.alloc o).beside hg (fun g h=>?_) (fun g h he=>?_)
  ·have:=hr.lt;cases h;exact this
  ·have:=hr.evlt g h;cases he;omega
 ·exact(hb.alloc o).beside hg (fun g h=>by cases h;exact hb.size)
 ·intro al va h
  have h1:=h.below ((zPg W.heap.size W).alloc (zPh _) o)
  exact⟨zAU h1.1 fun g hg'=>hg.block g (h1.lt g hg').2 (fun e=>by have:=(h.lt g hg').2;cases e;omega),h.2⟩
theorem zBF.made {w W w4:World} {ev v4:Value} {re:List Nd} (hnd:Nds w4 w.heap.size v4 re) (hev: ∀g,ev.ownBlock=some g→g<W.heap.size) (hblk:v4.ownBlock=some W.heap.size∨v4.ownBlock=some (W.heap.size+1)):zBF w re v4 w4 ev:=by
 refine⟨hnd,fun g hg e=>?_⟩
 have:=hev g e.symm
 rcases hblk with h|h<;>(rw[h]at hg;cases hg;omega)
theorem zE7 {w W w4:World} {s:Rst} {ev va v4:Value} {al l:List Nd} {eb:Option Nat} (hr:RdS W rb ere mb mo cap L s k ev) (hb:zAr rb eb w W) (hrw:rb<w.heap.size) (ha:zBF w al va W ev) (hnd:Nds w4 w.heap.size v4 l) (hg:W.grownBy w4 va.ownBlock)
  (hblk:v4.ownBlock=va.ownBlock∨v4.ownBlock=some W.heap.size):RdS w4 rb ere mb mo cap L s k ev∧zAr rb eb w w4∧zBF w l v4 w4 ev:=by
 refine⟨hr.beside hg (fun g h=>?_) (fun g h he=>?_),hb.beside hg (fun g h=>(ha.lt g h).1),hnd,fun g hg' e=>?_⟩
 ·have:=(ha.lt g h).1;omega
 ·exact ha.2 g he.symm h.symm
 ·rcases hblk with h|h
  ·exact ha.2 g (h▸hg') e
  ·have:=hr.evlt g e.symm
   rw[h]at hg';cases hg';omega
theorem zKF (ih:zPP rb ere mb mo cap L k):zKc rb ere mb mo cap L k:=by
 intro w s ev hv
 have hlen:=hv.m.len
 have hu:=zPf hv.m.u
 have hrw:=hv.lt
 have hsi:=hv.at_
 go_enter Tryz.func104,Tryz.ntmps104
 go_wp2_with fail
 go_step3
 go_wp2_with fail
 go_step3
 go_wp2_with fail
 go_loopg [3,4] (L.length+1) (fun f va n wr=> ∃(st:Rst) (all:List Nd) (m:Nat) (ev':Value),n= .int .i64 (m:Nat)∧RdS wr rb ere mb mo cap L st k ev'∧zAr rb ev.ownBlock w wr∧zAo w ev.ownBlock ev'.ownBlock∧zBF w all va wr ev'∧
  Hid (zBG ere L k s=zBf ere L (zDF ere (k==64) L (zAN ere L k)) f all m st)∧L.length<f+st.i∧m+s.i≤st.i∧all.length+4*s.i≤4*st.i)
 case atStart=>exact⟨s,[],0,ev,rfl,hv,zAr.refl _ _ _,zAo.refl _ _,⟨Nds.nil _ _,fun g hg=>by cases hg⟩,rfl,by omega,by omega,by simp⟩
 case round=>
  obtain⟨st,all,m,ev',rfl,hr,hb,hn,hal,HS,hf,hm,hal4⟩:=hrel
  have hst:=hr.at_
  obtain⟨f,hfg⟩: ∃f',gk=f'+1:=⟨gk - 1,by omega⟩
  rw[hfg]at HS hf
  have HFG:=zPf hfg
  have HR:=zPf hr
  have HB:=zPf hb
  have HN:=zPf hn
  have HA:=zPf hal
  clear hr hb hn hal hv hfg
  generalize hva:u3=va at HA ⊢
  clear hva
  go_wp2_with fail
  refine(ih _ _ _ HR.out).mono ?_
  rintro e w1 ⟨hb1,hp1⟩
  cases hrow:zDF ere (k==64) L (zAN ere L k) st with
  |no er p=>
   have HF:Hid (zBG ere L k s= .no er p):=by rw[Hid,HS.out,zBf,hrow]
   rw[hrow]at hp1
   simp only[zFm]at hp1
   subst hp1
   have HBT:=zPf (HB.out.trans HN.out hb1)
   clear hb1
   go_wp2_with fail
   exact⟨rfl,HBT.out,by rw[HF.out];rfl⟩
  |ok pr t=>
   obtain⟨parts,re⟩:=pr
   have hri:=zCz hu.out k hst hrow
   have hsm:=zFD hu.out k hst hrow
   rw[hrow]at hp1
   simp only at hp1 hsm
   obtain⟨v1,ev1,rfl,hr1,hn1,v2,rfl,hrow1⟩:=hp1
   have hti:=hri.le
   have hlt:=hri.lt
   have hR1:=HR.out.lt
   have HA1:=zPf (HA.out.part hb1 hn1 hrw)
   have HRE:=zPf (hrow1.mono HB.out.size)
   have HN1:=zPf (HN.out.trans HB.out.size hn1)
   have HB1:=zPf (HB.out.trans HN.out hb1)
   have HR1:=zPf hr1
   have c0:=hr1.c0
   have rbl:=hr1.lt
   have HS1:Hid (zBG ere L k s=if parts==0&&((ere&&seesAt L t.i [124])||decide (0<m))then .no 45 t.i else
     if !(ere&&seesAt L t.i [124])then .ok (if 1<m+1 then zJL (m+1)::(all++(if parts=1 then re else zFA parts::re))else(all++(if parts=1 then re else zFA parts::re))) t
     else zBf ere L (zDF ere (k==64) L (zAN ere L k)) f (all++(if parts=1 then re else zFA parts::re)) (m+1) ⟨t.i+1,t.ended⟩):=by rw[Hid,HS.out,zBf,hrow]
   clear hb1 hn1 hrow1 hr1 hri hrow HA HB HN HR HS
   go_upto_region 4 with fail
   go_cut [7] (fun x wc=>x= .bool (ere&&seesAt L t.i [124])∧RdS wc rb ere mb mo cap L t k ev1∧zAr rb ev.ownBlock w wc∧zBF w all va wc ev1∧zBF w re v2 wc ev1)
   case first=>
    cases ere with
    |false=>
     go_wp2_with fail
     go_meet
     exact⟨rfl,HR1.out,HB1.out,HA1.out,HRE.out⟩
    |true=>
     go_wp2_with fail
     refine(zAq _ _ _ (by decide) (by rfl) rfl HR1.out.v).mono ?_;rintro e w2 ⟨rfl,hb2⟩
     have HF:=zPf (show RdS w2 rb true mb mo cap L t k ev1∧zAr rb ev.ownBlock w w2∧zBF w all va w2 ev1∧zBF w re v2 w2 ev1 from⟨HR1.out.below hb2,HB1.out.below hb2,HA1.out.below hb2,HRE.out.below hb2⟩)
     clear hb2
     go_wp2_with fail
     go_meet
     exact⟨rfl,HF.out⟩
   case rest=>
    obtain⟨hx,hr2,hb2,ha2,hre2⟩:=hcut
    have HBT:=zPf (show(ere&&seesAt L t.i [124])=true→t.i+1≤L.length from fun h=>by simp only[Bool.and_eq_true]at h;simpa using zBU (by decide) h.2)
    generalize (ere&&seesAt L t.i [124])=b at hx HS1 HBT
    subst hx
    have HR2:=zPf hr2
    have HB2:=zPf hb2
    have HA2:=zPf ha2
    have HRE2:=zPf hre2
    have d2:=hr2.c2
    have f2:=hr2.fz 2
    have rbl2:=hr2.lt
    clear hr2 hb2 ha2 hre2 HR1 HB1 HA1 HRE c0 rbl
    go_upto_region 5 with fail
    go_cut [29] (fun x wd=>x= .bool (parts==0&&(b||decide (0<m)))∧wc=wd)
    case first=>
     clear HS1
     by_cases hp0:parts=0
     ·subst hp0
      cases b with
      |true=>
       go_wp2_with fail
       go_meet
       exact⟨rfl,rfl⟩
      |false=>
       by_cases hm0:0<m
       ·have hm0':(0:Int)<(m:Int):=by omega
        go_wp2_with fail
        go_meet
        exact⟨by simp[hm0],rfl⟩
       ·have hm0': ¬(0:Int)<(m:Int):=by omega
        go_wp2_with fail
        go_meet
        exact⟨by simp[hm0],rfl⟩
     ·have hp0': ¬(parts:Int)=0:=by omega
      go_wp2_with fail
      go_meet
      exact⟨by simp[hp0],rfl⟩
    case rest=>
     obtain⟨hx,rfl⟩:=hcut
     cases hbad:(parts==0&&(b||decide (0<m)))with
     |true=>
      have HF:Hid (zBG ere L k s= .no 45 t.i):=by rw[Hid,HS1.out,if_pos hbad]
      rw[hbad]at hx
      subst hx
      go_wp2_with fail
      refine(zAz 45 t.i rfl rfl _).mono ?_;rintro e w9 ⟨rfl,rfl⟩
      go_wp2_with fail
      exact⟨rfl,HB2.out,by rw[HF.out];rfl⟩
     |false=>
      have HS2:=HS1.out
      rw[if_neg (by rw[hbad];decide)]at HS2
      rw[hbad]at hx
      subst hx
      obtain⟨re',hre'⟩: ∃re',(if parts=1 then re else zFA parts::re)=re':=⟨_,rfl⟩
      rw[hre']at HS2
      have HS3:=zPf HS2
      have HRE':=zPf hre'
      clear HS1 HS2 hre' hbad
      go_upto_if 37 with fail
      go_cut [6] (fun x wd=>RdS wd rb ere mb mo cap L t k ev1∧zAr rb ev.ownBlock w wd∧zBF w all va wd ev1∧zBF w re' x wd ev1)
      case first=>
       clear HS3
       by_cases hp1:parts=1
       ·have hp1':(parts:Int)=1:=by omega
        have he:re=re':=by rw[←HRE'.out,if_pos hp1]
        subst he
        go_wp2_with fail
        go_meet
        exact⟨HR2.out,HB2.out,HA2.out,HRE2.out⟩
       ·have hp1': ¬(parts:Int)=1:=by omega
        have he:zFA parts::re=re':=by rw[←HRE'.out,if_neg hp1]
        have hl:=Nds.lit wc w.heap.size (zFA parts) HB2.out.size
        have HRA:=zPf (HR2.out.alloc (.cells (zAO (zFA parts)) 78))
        have HBA:=zPf (HB2.out.alloc (.cells (zAO (zFA parts)) 78))
        have HAA:=zPf (HA2.out.below ((zPg _ _).alloc (zPh _) (.cells (zAO (zFA parts)) 78)))
        have HREA:=zPf (HRE2.out.below ((zPg _ _).alloc (zPh _) (.cells (zAO (zFA parts)) 78)))
        have hszA:=HBA.out.size
        have HCA:=zPf (show∀g,ev1.ownBlock=some g→g<wc.heap.size from HR2.out.evlt)
        have HCB:=zPf (show∀g,va.ownBlock=some g→g<wc.heap.size from fun g hg=>(HA2.out.lt g hg).2)
        have hszc:=HB2.out.size
        have HL:=zPf hl
        have HEQ:=zPf he
        clear hl he
        go_wp2_with (at_builtin;refine zB4 rfl _ _ rfl w.heap.size rfl HL.out rfl HREA.out.nds.src (by simp only[List.length_singleton];omega) hszA ?_)
        intro v4 w4 hnd4 hgr4 hblk4
        obtain⟨hr5,hb5,hk5⟩:=zJG HR2.out HB2.out hgr4
        have HF:=zPf (show RdS w4 rb ere mb mo cap L t k ev1∧zAr rb ev.ownBlock w w4∧zBF w all va w4 ev1∧zBF w (zFA parts::re) v4 w4 ev1 from⟨hr5,hb5,hk5 _ _ HA2.out,zBF.made hnd4 HCA.out hblk4⟩)
        clear hnd4 hgr4 hblk4 hr5 hb5 hk5
        go_wp2_with fail
        go_meet
        rw[←HEQ.out]
        exact HF.out
      case rest=>
       obtain⟨hr3,hb3,ha3,hre3⟩:=hcut
       have HR3:=zPf hr3
       have HB3:=zPf hb3
       have HA3:=zPf ha3
       have hszW:=hb3.size
       have hsre:re'.length≤re.length+1:=by rw[←HRE'.out];split<;>simp
       have hsrc:=zPf hre3.nds.src
       clear hr3 hb3 ha3 hre3 HR2 HB2 HA2 HRE2 d2 f2 rbl2
       go_wp2_with (at_builtin;refine zB4 rfl _ _ rfl w.heap.size rfl HA3.out.nds rfl hsrc.out (by omega) hszW ?_)
       intro v4 w4 hnd4 hgr4 hblk4
       obtain⟨hr5,hb5,ha5⟩:=zE7 HR3.out HB3.out hrw HA3.out hnd4 hgr4 hblk4
       have HR5:=zPf hr5
       have HB5:=zPf hb5
       have HA5:=zPf ha5
       have d2:=hr5.c2
       have f2:=hr5.fz 2
       have rbl5:=hr5.lt
       clear hr5 hb5 ha5 hnd4 hgr4 hblk4 hsrc HR3 HB3 HA3 hszW
       cases b with
       |true=>
        have hti1:=HBT.out rfl
        have HS4:Hid (zBG ere L k s=zBf ere L (zDF ere (k==64) L (zAN ere L k)) f (all++re') (m+1) ⟨t.i+1,t.ended⟩):=by rw[Hid,HS3.out];rfl
        have hrZ:=HR5.out.setAt (j:=t.i+1) hti1
        have hbZ:=HB5.out.store 2 (.int .i64 ((t.i+1:Nat):Int))
        rw[Int.natCast_add,show((1:Nat):Int)=1 from rfl]at hrZ hbZ
        have haZ:=HA5.out.store (b:=rb) (fun g hg=>by have:=(HA5.out.lt g hg).1;omega) 2 (.int .i64 ((t.i:Int)+1))
        have HZ:=zPf (show RdS (w4.setCell ⟨rb,2,none⟩ (.int .i64 ((t.i:Int)+1))) rb ere mb mo cap L ⟨t.i+1,t.ended⟩ k ev1∧zAr rb ev.ownBlock w (w4.setCell ⟨rb,2,none⟩ (.int .i64 ((t.i:Int)+1)))∧zBF w (all++re') v4 (w4.setCell ⟨rb,2,none⟩ (.int .i64 ((t.i:Int)+1))) ev1 from⟨hrZ,hbZ,haZ⟩)
        clear hrZ hbZ haZ
        go_wp2_with fail
        obtain⟨z1,z2,z3⟩:=HZ.out
        go_roundg f
        case measure=>have:=HFG.out;omega
        case rel=>exact⟨⟨t.i+1,t.ended⟩,all++re',m+1,ev1,by go_num,z1,z2,HN1.out,z3,HS4.out,by simp only;omega,by simp only;omega,by simp only[List.length_append];omega⟩
       |false=>
        have HS4:Hid (zBG ere L k s= .ok (if 1<m+1 then zJL (m+1)::(all++re')else all++re') t):=by rw[Hid,HS3.out];rfl
        by_cases hm1:1<m+1
        ·have hm1':(1:Int)<(m:Int)+1:=by omega
         have HF:Hid (zBG ere L k s= .ok (zJL (m+1)::(all++re')) t):=by rw[Hid,HS4.out,if_pos hm1]
         have hx:zJL (m+1)=⟨5,Cls.zero,0,0,0,(m:Int)+1⟩:=by rw[zJL,Int.natCast_add,show((1:Nat):Int)=1 from rfl]
         have HX:=zPf hx
         have HL:=zPf (Nds.lit w4 w.heap.size ⟨5,Cls.zero,0,0,0,(m:Int)+1⟩ HB5.out.size)
         have hszA:=(HB5.out.alloc (.cells (zAO ⟨5,Cls.zero,0,0,0,(m:Int)+1⟩) 78)).size
         have HSA:=zPf (HA5.out.below ((zPg _ _).alloc (zPh _) (.cells (zAO ⟨5,Cls.zero,0,0,0,(m:Int)+1⟩) 78))).nds.src
         have hlen5:(all++re').length≤30000:=by simp only[List.length_append];omega
         clear hx d2 f2
         go_wp2_with (at_builtin;refine zB4 rfl _ _ rfl w.heap.size rfl HL.out rfl HSA.out (by simp only[List.length_singleton];omega) hszA ?_)
         intro v6 w6 hnd6 hgr6 hblk6
         obtain⟨hr7,hb7,_⟩:=zJG HR5.out HB5.out hgr6
         have hn7:zBF w (zJL (m+1)::(all++re')) v6 w6 ev1:=by rw[HX.out];exact zBF.made hnd6 HR5.out.evlt hblk6
         have HZ:=zPf (show RdS w6 rb ere mb mo cap L t k ev1∧zAr rb ev.ownBlock w w6∧zBF w (zJL (m+1)::(all++re')) v6 w6 ev1 from⟨hr7,hb7,hn7⟩)
         clear hnd6 hgr6 hblk6 hr7 hb7 hn7
         go_wp2_with fail
         go_ret
         exact⟨HZ.out.2.1,by rw[HF.out];exact⟨v6,ev1,rfl,HZ.out.1,HN1.out,HZ.out.2.2⟩⟩
        ·have hm1': ¬(1:Int)<(m:Int)+1:=by omega
         have HF:Hid (zBG ere L k s= .ok (all++re') t):=by rw[Hid,HS4.out,if_neg hm1]
         go_wp2_with fail
         go_ret
         exact⟨HB5.out,by rw[HF.out];exact⟨v4,ev1,rfl,HR5.out,HN1.out,HA5.out⟩⟩
end
end
section
open Go.RowKit
structure RfS (w:World) (rb:Nat) (ere:Bool) (mb mo cap:Nat) (L:List Mk) (s:Rst) (k:Nat) (ev:Value):Prop where
 lt:rb<w.heap.size
 c0:w.cell? ⟨rb,0,none⟩=some (.bool ere)
 c1:w.cell? ⟨rb,1,none⟩=some (.slice (some ⟨mb,mo,none⟩) L.length cap)
 c2:w.cell? ⟨rb,2,none⟩=some (.int .i64 s.i)
 c3:w.cell? ⟨rb,3,none⟩=some (.int .i64 s.ended.length)
 c4:w.cell? ⟨rb,4,none⟩=some ev
 c5:w.cell? ⟨rb,5,none⟩=some (.int .i64 (64 - k:Nat))
 c6:w.cell? ⟨rb,6,none⟩=some (.int .i64 0)
 c7:w.cell? ⟨rb,7,none⟩=some (.int .i64 0)
 fz: ∀o,w.frozen? ⟨rb,o,none⟩=false
 own:w.ownsRow (rb+1) 4 1 ev s.ended.length (s.ended.map .bool)
 m:zE8 w mb mo L
 mlt:mb<rb
 at_:s.i≤L.length
 el:s.ended.length≤255
 kl:k≤64
section
variable {w w':World} {rb:Nat} {ere:Bool} {mb mo cap:Nat} {L:List Mk} {s:Rst} {k:Nat} {ev:Value}
theorem RfS.v (h:RfS w rb ere mb mo cap L s k ev):RdV w rb ere mb mo cap L s.i:=
 ⟨h.lt,h.m.lt,h.m.len,h.at_,h.c0,h.c1,h.c2,h.m.b,h.m.p⟩
theorem RfS.evlt (h:RfS w rb ere mb mo cap L s k ev): ∀g,ev.ownBlock=some g→g<w.heap.size:=fun g hg=>(h.own.lt g hg).2
theorem RfS.block (h:RfS w rb ere mb mo cap L s k ev) (hb: ∀g,ev.ownBlock=some g→w'.heap[g]?=w.heap[g]?) (hr:w'.heap[rb]?=w.heap[rb]?) (hm:w'.heap[mb]?=w.heap[mb]?) (hs:w.heap.size≤w'.heap.size):RfS w' rb ere mb mo cap L s k ev where
 lt:=zPi h.lt hs
 c0:=(zPj (w:=w) (a:=⟨rb,0,none⟩) hr).trans h.c0
 c1:=(zPj (w:=w) (a:=⟨rb,1,none⟩) hr).trans h.c1
 c2:=(zPj (w:=w) (a:=⟨rb,2,none⟩) hr).trans h.c2
 c3:=(zPj (w:=w) (a:=⟨rb,3,none⟩) hr).trans h.c3
 c4:=(zPj (w:=w) (a:=⟨rb,4,none⟩) hr).trans h.c4
 c5:=(zPj (w:=w) (a:=⟨rb,5,none⟩) hr).trans h.c5
 c6:=(zPj (w:=w) (a:=⟨rb,6,none⟩) hr).trans h.c6
 c7:=(zPj (w:=w) (a:=⟨rb,7,none⟩) hr).trans h.c7
 fz:=fun o=>(zPk (w:=w) (a:=⟨rb,o,none⟩) hr).trans (h.fz o)
 own:=zAU h.own hb
 m:=⟨zPi h.m.lt hs,h.m.len,fun i hi=>(zPj (w:=w) (a:=⟨mb,mo+i*2,none⟩) hm).trans (h.m.b i hi),fun i hi=>(zPj (w:=w) (a:=⟨mb,mo+i*2+1,none⟩) hm).trans (h.m.p i hi),h.m.u⟩
 mlt:=h.mlt
 at_:=h.at_
 el:=h.el
 kl:=h.kl
theorem RfS.below (h:RfS w rb ere mb mo cap L s k ev) (hb:Below w.heap.size w w'):RfS w' rb ere mb mo cap L s k ev:=
 h.block (fun g hg=>hb.block g (h.own.lt g hg).2) (hb.block rb h.lt) (hb.block mb h.m.lt) hb.size
theorem RfS.drew (h:RfS w rb ere mb mo cap L s k ev):RfS w.drew rb ere mb mo cap L s k ev:=h.below (zPg _ _).drew
theorem RfS.alloc (h:RfS w rb ere mb mo cap L s k ev) (o:Obj):RfS (w.alloc o) rb ere mb mo cap L s k ev:=h.below ((zPg _ _).alloc (zPh _) _)
theorem RfS.setAt (h:RfS w rb ere mb mo cap L s k ev) {j:Nat} (hj:j≤L.length):RfS (w.setCell ⟨rb,2,none⟩ (.int .i64 j)) rb ere mb mo cap L ⟨j,s.ended⟩ k ev where
 lt:=by simpa [World.setCell]using h.lt
 c0:=(zAG _ _ _ _ _ (by decide)).trans h.c0
 c1:=(zAG _ _ _ _ _ (by decide)).trans h.c1
 c2:=zPy _ _ _ h.c2
 c3:=(zAG _ _ _ _ _ (by decide)).trans h.c3
 c4:=(zAG _ _ _ _ _ (by decide)).trans h.c4
 c5:=(zAG _ _ _ _ _ (by decide)).trans h.c5
 c6:=(zAG _ _ _ _ _ (by decide)).trans h.c6
 c7:=(zAG _ _ _ _ _ (by decide)).trans h.c7
 fz:=fun o=>zAP _ _ _ _ (h.fz o)
 own:=ownsRow_setCell_below h.own (Nat.lt_succ_self _) _
 m:=h.m.store h.mlt _ _
 mlt:=h.mlt
 at_:=hj
 el:=h.el
 kl:=h.kl
theorem RfS.setOpen (h:RfS w rb ere mb mo cap L s k ev) {k':Nat} (hk:k'≤64):RfS (w.setCell ⟨rb,5,none⟩ (.int .i64 (64 - k':Nat))) rb ere mb mo cap L s k' ev where
 lt:=by simpa [World.setCell]using h.lt
 c0:=(zAG _ _ _ _ _ (by decide)).trans h.c0
 c1:=(zAG _ _ _ _ _ (by decide)).trans h.c1
 c2:=(zAG _ _ _ _ _ (by decide)).trans h.c2
 c3:=(zAG _ _ _ _ _ (by decide)).trans h.c3
 c4:=(zAG _ _ _ _ _ (by decide)).trans h.c4
 c5:=zPy _ _ _ h.c5
 c6:=(zAG _ _ _ _ _ (by decide)).trans h.c6
 c7:=(zAG _ _ _ _ _ (by decide)).trans h.c7
 fz:=fun o=>zAP _ _ _ _ (h.fz o)
 own:=ownsRow_setCell_below h.own (Nat.lt_succ_self _) _
 m:=h.m.store h.mlt _ _
 mlt:=h.mlt
 at_:=h.at_
 el:=h.el
 kl:=hk
theorem RfS.not_rb (h:RfS w rb ere mb mo cap L s k ev) {b:Nat} (hb:b≤rb):some b≠ev.ownBlock:=fun e=>by have:=(h.own.lt b e.symm).1;omega
theorem RfS.beside (h:RfS w rb ere mb mo cap L s k ev) {row:Option Nat} (hg:w.grownBy w' row) (hr: ∀g,row=some g→rb<g) (he: ∀g,ev.ownBlock=some g→some g≠row):RfS w' rb ere mb mo cap L s k ev:=
 h.block (fun g hge=>hg.block g (h.evlt g hge) (he g hge)) (hg.block rb h.lt (fun e=>by have:=hr rb e.symm;omega)) (hg.block mb h.m.lt (fun e=>by have:=hr mb e.symm;have:=h.mlt;omega)) hg.size
theorem RfS.note (h:RfS w rb ere mb mo cap L s k ev) {g cp:Nat} (hev:ev= .slice (some ⟨g,0,none⟩) s.ended.length cp) (j:Nat):RfS (w.setCell ⟨g,j,none⟩ (.bool true)) rb ere mb mo cap L ⟨s.i,s.ended.set j true⟩ k ev:=by
 subst hev
 have ho:=h.own
 have hg:=(ho.lt g rfl).1
 obtain⟨h1,h2⟩:=zP3 ho j (.bool true)
 have hr:(w.setCell ⟨g,j,none⟩ (.bool true)).heap[rb]?=w.heap[rb]?:=zPp _ _ _ _ (by simp;omega)
 have hm:(w.setCell ⟨g,j,none⟩ (.bool true)).heap[mb]?=w.heap[mb]?:=zPp _ _ _ _ (by have:=h.mlt;simp;omega)
 exact {
  lt:=by simpa [World.setCell]using h.lt
  c0:=(zPj (w:=w) (a:=⟨rb,0,none⟩) hr).trans h.c0
  c1:=(zPj (w:=w) (a:=⟨rb,1,none⟩) hr).trans h.c1
  c2:=(zPj (w:=w) (a:=⟨rb,2,none⟩) hr).trans h.c2
  c3:=by rw[List.length_set];exact(zPj (w:=w) (a:=⟨rb,3,none⟩) hr).trans h.c3
  c4:=(zPj (w:=w) (a:=⟨rb,4,none⟩) hr).trans h.c4
  c5:=(zPj (w:=w) (a:=⟨rb,5,none⟩) hr).trans h.c5
  c6:=(zPj (w:=w) (a:=⟨rb,6,none⟩) hr).trans h.c6
  c7:=(zPj (w:=w) (a:=⟨rb,7,none⟩) hr).trans h.c7
  fz:=fun o=>(zPk (w:=w) (a:=⟨rb,o,none⟩) hr).trans (h.fz o)
  own:=by simpa [List.map_set]using h1
  m:=⟨by simpa [World.setCell]using h.m.lt,h.m.len,fun i hi=>(zPj (w:=w) (a:=⟨mb,mo+i*2,none⟩) hm).trans (h.m.b i hi),fun i hi=>(zPj (w:=w) (a:=⟨mb,mo+i*2+1,none⟩) hm).trans (h.m.p i hi),h.m.u⟩
  mlt:=h.mlt
  at_:=h.at_
  el:=by simpa using h.el
  kl:=h.kl }
theorem RfS.form (h:RfS w rb ere mb mo cap L s k ev): ∃oa oc,ev= .slice oa s.ended.length oc:=by
 rcases h.own.2 with ⟨h1,h2⟩|⟨g,cp,_,h1,_⟩
 ·exact⟨none,0,by rw[h1,h2]⟩
 ·exact⟨_,_,h1⟩
theorem RfS.row (h:RfS w rb ere mb mo cap L s k ev) (hn:0<s.ended.length): ∃g cp,ev= .slice (some ⟨g,0,none⟩) s.ended.length cp∧rb<g∧g<w.heap.size:=by
 rcases h.own.2 with ⟨_,h2⟩|⟨g,cp,_,h1,h3,h4,_⟩
 ·omega
 ·exact⟨g,cp,h1,h3,(zPn.1 h4).1⟩
theorem RfS.push (h:RfS w rb ere mb mo cap L s k ev) {N:Int} (hN:N=((s.ended.length+1:Nat):Int)) (hg:(w.setCell ⟨rb,3,none⟩ (.int .i64 N)).grownBy w' ev.ownBlock) {ev':Value} (ho:w'.ownsRow (rb+1) 4 1 ev' (s.ended++[false]).length ((s.ended++[false]).map .bool)) (hl:s.ended.length+1≤255):
  RfS (w'.setCell ⟨rb,4,none⟩ ev') rb ere mb mo cap L ⟨s.i,s.ended++[false]⟩ k ev':=by
 subst hN
 have hlt1:rb<(w.setCell ⟨rb,3,none⟩ (.int .i64 ((s.ended.length+1:Nat):Int))).heap.size:=by simpa [World.setCell]using h.lt
 have hmlt1:mb<(w.setCell ⟨rb,3,none⟩ (.int .i64 ((s.ended.length+1:Nat):Int))).heap.size:=by simpa [World.setCell]using h.m.lt
 have hr:w'.heap[rb]?=(w.setCell ⟨rb,3,none⟩ (.int .i64 ((s.ended.length+1:Nat):Int))).heap[rb]?:=hg.block rb hlt1 (h.not_rb (zPh _))
 have hm:w'.heap[mb]?=w.heap[mb]?:=(hg.block mb hmlt1 (h.not_rb (Nat.le_of_lt h.mlt))).trans (zPp _ _ _ _ (by show mb≠rb;exact Nat.ne_of_lt h.mlt))
 have hs:w.heap.size≤w'.heap.size:=by have:=hg.size;simpa [World.setCell]using this
 have hc: ∀o:Nat,w'.cell? ⟨rb,o,none⟩=(w.setCell ⟨rb,3,none⟩ (.int .i64 ((s.ended.length+1:Nat):Int))).cell? ⟨rb,o,none⟩:=fun o=>zPj (a:=⟨rb,o,none⟩) hr
 exact {
  lt:=by have:=zPi h.lt hs;simpa [World.setCell]using this
  c0:=(zAG _ _ _ _ _ (by decide)).trans ((hc 0).trans ((zAG _ _ _ _ _ (by decide)).trans h.c0))
  c1:=(zAG _ _ _ _ _ (by decide)).trans ((hc 1).trans ((zAG _ _ _ _ _ (by decide)).trans h.c1))
  c2:=(zAG _ _ _ _ _ (by decide)).trans ((hc 2).trans ((zAG _ _ _ _ _ (by decide)).trans h.c2))
  c3:=by rw[zPz];exact(zAG _ _ _ _ _ (by decide)).trans ((hc 3).trans (zPy _ _ _ h.c3))
  c4:=zPy _ _ _ ((hc 4).trans ((zAG _ _ _ _ _ (by decide)).trans h.c4))
  c5:=(zAG _ _ _ _ _ (by decide)).trans ((hc 5).trans ((zAG _ _ _ _ _ (by decide)).trans h.c5))
  c6:=(zAG _ _ _ _ _ (by decide)).trans ((hc 6).trans ((zAG _ _ _ _ _ (by decide)).trans h.c6))
  c7:=(zAG _ _ _ _ _ (by decide)).trans ((hc 7).trans ((zAG _ _ _ _ _ (by decide)).trans h.c7))
  fz:=fun o=>zAP _ _ _ _ ((zPk (a:=⟨rb,o,none⟩) hr).trans (zAP _ _ _ _ (h.fz o)))
  own:=ownsRow_setCell_below ho (Nat.lt_succ_self _) _
  m:=zE8.store ⟨zPi h.m.lt hs,h.m.len,fun i hi=>(zPj (w:=w) (a:=⟨mb,mo+i*2,none⟩) hm).trans (h.m.b i hi),fun i hi=>(zPj (w:=w) (a:=⟨mb,mo+i*2+1,none⟩) hm).trans (h.m.p i hi),h.m.u⟩ h.mlt _ _
  mlt:=h.mlt
  at_:=h.at_
  el:=by rw[zPz];exact hl
  kl:=h.kl }
def zCl {α:Type} (w:World) (rb:Nat) (ere:Bool) (mb mo cap:Nat) (L:List Mk) (k:Nat) (ev:Value) (o:Out α) (nil:Value) (R:α→Value→World→Prop):Ending→World→Prop:=fun e w'=>
 zAr rb ev.ownBlock w w'∧match o with
 | .no er p=>e= .returned nil∧er≠0∧rb<w'.heap.size∧w'.cell? ⟨rb,6,none⟩=some (.int .i64 er)∧w'.cell? ⟨rb,7,none⟩=some (.int .i64 p)
 | .ok a t=> ∃v ev',e= .returned v∧RfS w' rb ere mb mo cap L t k ev'∧zAo w ev.ownBlock ev'.ownBlock∧R a v w'
theorem RfS.noted (h:RfS w rb ere mb mo cap L s k ev) (er p:Int):((w.setCell ⟨rb,6,none⟩ (.int .i64 er)).setCell ⟨rb,7,none⟩ (.int .i64 p)).cell? ⟨rb,6,none⟩=some (.int .i64 er)∧((w.setCell ⟨rb,6,none⟩ (.int .i64 er)).setCell ⟨rb,7,none⟩ (.int .i64 p)).cell? ⟨rb,7,none⟩=some (.int .i64 p):=
 ⟨(zAG _ _ _ _ _ (by decide)).trans (zPy _ _ _ h.c6),zPy _ _ _ ((zAG _ _ _ _ _ (by decide)).trans h.c7)⟩
end
theorem zCp {w:World} {b1 b2 s1 s2 n1 n2:Nat} {e1 e2:TypeId} {v1 v2:Value} {x1 x2:List Value} (h1:w.ownsRow b1 e1 s1 v1 n1 x1) (h2:w.ownsRow b2 e2 s2 v2 n2 x2) (hne:e1≠e2): ∀g,v1.ownBlock=some g→some g≠v2.ownBlock:=by
 intro g hg he
 rcases h1.2 with ⟨rfl,_⟩|⟨g1,c1,cur1,rfl,_,hh1,_⟩
 ·cases hg
 rcases h2.2 with ⟨rfl,_⟩|⟨g2,c2,cur2,rfl,_,hh2,_⟩
 ·cases he
 simp only[Value.ownBlock,Option.some.injEq]at hg he
 subst hg
 subst he
 rw[hh1]at hh2
 simp only[Option.some.injEq,Obj.cells.injEq]at hh2
 exact hne hh2.2.1
theorem zJy:(78:TypeId)≠4:=by decide
theorem zMP:(52:TypeId)≠4:=by decide
theorem zPK:(78:TypeId)≠52:=by decide
structure zFB (w:World) (base:Nat) (v:Value) (ls:List (List Nd)) (vs:List Value):Prop where
 row:w.ownsRow base 52 1 v ls.length vs
 el: ∀i (h:i<ls.length),∃u,vs[i]?=some u∧Nds w base u ls[i]
theorem zFB.nil (w:World) (base:Nat):zFB w base (.slice none 0 0) [] []:=⟨zPv _ _ _ _,fun i h=>by simp at h⟩
theorem zFB.block {w w':World} {base:Nat} {v:Value} {ls:List (List Nd)} {vs:List Value} (h:zFB w base v ls vs) (hb: ∀g,base≤g→g<w.heap.size→w'.heap[g]?=w.heap[g]?):zFB w' base v ls vs:=
 ⟨zAU h.row fun g hg=>hb g (h.row.lt g hg).1 (h.row.lt g hg).2,fun i hi=>by obtain⟨u,h1,h2⟩:=h.el i hi;exact⟨u,h1,h2.block fun g hg=>hb g (h2.lt g hg).1 (h2.lt g hg).2⟩⟩
theorem zFB.below {w w':World} {base:Nat} {v:Value} {ls:List (List Nd)} {vs:List Value} (h:zFB w base v ls vs) (hb:Below w.heap.size w w'):zFB w' base v ls vs:=h.block fun g _ hg=>hb.block g hg
theorem zFB.mono {w:World} {base base':Nat} {v:Value} {ls:List (List Nd)} {vs:List Value} (h:zFB w base v ls vs) (hb:base'≤base):zFB w base' v ls vs:=
 ⟨zA6 h.row hb,fun i hi=>by obtain⟨u,h1,h2⟩:=h.el i hi;exact⟨u,h1,h2.mono hb⟩⟩
theorem zFB.part {w w':World} {rb base:Nat} {ev:Value} {n:Nat} {xs:List Value} {v:Value} {ls:List (List Nd)} {vs:List Value} (h:zFB w base v ls vs) {b2:Nat} (ho:w.ownsRow b2 4 1 ev n xs) (hb:zAr rb ev.ownBlock w w') (hr:rb<base):zFB w' base v ls vs:=
 ⟨zGT h.row hb hr (zCp h.row ho zMP),fun i hi=>by obtain⟨u,h1,h2⟩:=h.el i hi;exact⟨u,h1,h2.but hb hr (zCp h2 ho zJy)⟩⟩
theorem Nds.part {w w':World} {rb base:Nat} {ev:Value} {n:Nat} {xs:List Value} {v:Value} {re:List Nd} (h:Nds w base v re) {b2:Nat} (ho:w.ownsRow b2 4 1 ev n xs) (hb:zAr rb ev.ownBlock w w') (hr:rb<base):Nds w' base v re:=
 h.but hb hr (zCp h ho zJy)
theorem zFB.push {w w':World} {base:Nat} {v v' u:Value} {ls:List (List Nd)} {l:List Nd} {vs:List Value} (h:zFB w base v ls vs) (hu:Nds w base u l) (ho:w'.ownsRow base 52 1 v' (ls.length+1) (vs++[u])) (hg:w.grownBy w' v.ownBlock):zFB w' base v' (ls++[l]) (vs++[u]):=by
 have hvl:vs.length=ls.length:=by have:=h.row.1;omega
 have keep: ∀ {x:Value} {r:List Nd},Nds w base x r→Nds w' base x r:=fun hx=>hx.block fun g hgx=>hg.block g (hx.lt g hgx).2 (zCp hx h.row zPK g hgx)
 refine⟨by rw[zPz];exact ho,fun i hi=>?_⟩
 by_cases hlt:i<ls.length
 ·obtain⟨x,h1,h2⟩:=h.el i hlt
  exact⟨x,by rw[zP0 (by omega)];exact h1,by rw[List.getElem_append_left hlt];exact keep h2⟩
 ·obtain rfl:i=ls.length:=by rw[zPz]at hi;simp at hi;omega
  exact⟨u,by rw[←hvl];simp,by simpa using keep hu⟩
def zLa (w:World) (oa:Option Addr) (ls:List (List Nd)):Prop:=
 ∀i (h:i<ls.length),∃b o u,oa=some ⟨b,o,none⟩∧b<w.heap.size∧w.cell? ⟨b,o+i,none⟩=some u∧Nds w 0 u ls[i]
theorem zLa.below {w w':World} {oa:Option Addr} {ls:List (List Nd)} (h:zLa w oa ls) (hb:Below w.heap.size w w'):zLa w' oa ls:=fun i hi=>by
 obtain⟨b,o,u,h1,h2,h3,h4⟩:=h i hi
 exact⟨b,o,u,h1,zPi h2 hb.size,(zPj (w:=w) (a:=⟨b,o+i,none⟩) (hb.block b h2)).trans h3,h4.below hb⟩
theorem zFB.kids {w:World} {base:Nat} {v:Value} {ls:List (List Nd)} {vs:List Value} (h:zFB w base v ls vs): ∃oa cap,v= .slice oa ls.length cap∧zLa w oa ls:=by
 rcases h.row.2 with ⟨rfl,h0⟩|⟨g,cp,cur,hv,hg1,hg2,_⟩
 ·exact⟨none,0,by rw[h0],fun i hi=>by omega⟩
 ·refine⟨_,cp,hv,fun i hi=>?_⟩
  obtain⟨u,h1,h2⟩:=h.el i hi
  have hvl:vs.length=ls.length:=by have:=h.row.1;omega
  have hr:=h.row
  rw[hv]at hr
  have hc:=zP4 hr i (by omega)
  exact⟨g,0,u,rfl,(zPn.1 hg2).1,by rw[Nat.zero_add,hc,h1],h2.mono (Nat.zero_le _)⟩
end
section
open Go.RowKit
theorem zLv (r:List Mk):zDl r []=true:=by cases r<;>rfl
theorem zBH (L:List Mk) (i c:Nat):seesAt L i [c]=signAt L i c:=by
 unfold seesAt signAt
 by_cases h:i<L.length
 ·rw[List.drop_eq_getElem_cons h,zDl,zLv]
  simp[zAH,List.getD_eq_getElem?_getD,h,Bool.and_comm]
 ·rw[List.drop_eq_nil_of_le (by omega)]
  simp[zDl,h]
theorem zHL (L:List Mk) (i a c:Nat):seesAt L i [a,c]=(signAt L i a&&signAt L (i+1) c):=by
 rw[←zBH L (i+1) c]
 unfold seesAt signAt
 by_cases h:i<L.length
 ·rw[List.drop_eq_getElem_cons h,zDl]
  simp[zAH,List.getD_eq_getElem?_getD,h,Bool.and_comm]
 ·rw[List.drop_eq_nil_of_le (by omega)]
  simp[zDl,h]
theorem zHu (ere:Bool) (L:List Mk) (i c:Nat):seesAt L i (zA7 ere c)=if ere then signAt L i c else signAt L i 92&&signAt L (i+1) c:=by
 cases ere
 ·simp only[zA7,Bool.false_eq_true,if_false];exact zHL L i 92 c
 ·simp only[zA7,if_true];exact zBH L i c
section
variable {w:World} {rb:Nat} {ere:Bool} {mb mo cap:Nat} {L:List Mk} {i:Nat}
theorem zBm (hv:RdV w rb ere mb mo cap L i) {x:Int} (k:Nat) (hx:x=k) (hk:k≤8) {y:Int} (c:Nat) (hy:y=c):
  Calls Tryz.prog 161 #[.pointer (some ⟨rb,0,none⟩),.int .i64 x,.int .u8 y] w fun e w'=>e= .returned (.bool (signAt L (i+k) c))∧Below w.heap.size w w':=by
 subst hy
 have c0:=hv.c0
 have c1:=hv.c1
 have c2:=hv.c2
 have rbl:=hv.hrb
 have mbl:=hv.hmb
 have hL:=hv.hL
 have hat:=hv.hat
 have hxi:(i:Int)+x=((i+k:Nat):Int):=by omega
 generalize hj:i+k=j at hxi
 have hj64:(j:Int)≤4294967296:=by omega
 have hj63:j≤4294967296:=by omega
 by_cases hlt:j<L.length
 ·have hlt':(j:Int)<(L.length:Int):=by omega
  have hb:=hv.hb j hlt
  have hp:=hv.hp j hlt
  have HE:=zPf (show signAt L j c=((zAH L j).b==c&& !(zAH L j).p)by simp[signAt,hlt])
  unfold zAH at HE
  generalize L.getD j ⟨0,false⟩=m at hb hp HE
  obtain⟨bb,pl⟩:=m
  simp only at hb hp
  clear hv hlt hx hj hk hat
  cases pl with
  |true=>
   have HE2:=zPf (show signAt L j c=false by rw[HE.out];simp)
   clear HE
   go_enter Tryz.func161,Tryz.ntmps161
   go_wp2_with fail
   refine zAA (X:=none) 46 [] [0,1,2,3,4,5,6,7,8,9,10,11,12,13,14,15,16,17,18,19,20,21,22,23,24,25,26,27,28,29,30,31,32,33,34,35,36,37,38,39,40,41,42,43,44,45] (by kernel_rfl) (by kernel_rfl) rfl (fun _ _ _ _ _ h=>h) ?_
   simp only[zAI,zAC,zAD,zAB,List.getD_cons_zero,List.getD_cons_succ,List.drop_succ_cons,List.drop_nil]
   repeat (go_big_quiet_step (fail))
   refine wpQuiet_nil ?_
   go_wp2_with fail
   go_ret
   exact⟨zAk HE2.out.symm,(zPg _ _).drew⟩
  |false=>
   by_cases hq:bb=c
   ·subst hq
    have HE2:=zPf (show signAt L j bb=true by rw[HE.out];simp)
    clear HE
    go_enter Tryz.func161,Tryz.ntmps161
    go_wp2_with fail
    refine zAA (X:=none) 46 [] [0,1,2,3,4,5,6,7,8,9,10,11,12,13,14,15,16,17,18,19,20,21,22,23,24,25,26,27,28,29,30,31,32,33,34,35,36,37,38,39,40,41,42,43,44,45] (by kernel_rfl) (by kernel_rfl) rfl (fun _ _ _ _ _ h=>h) ?_
    simp only[zAI,zAC,zAD,zAB,List.getD_cons_zero,List.getD_cons_succ,List.drop_succ_cons,List.drop_nil]
    repeat (go_big_quiet_step (fail))
    refine wpQuiet_nil ?_
    go_wp2_with fail
    go_ret
    exact⟨zAk HE2.out.symm,(zPg _ _).drew⟩
   ·have HE2:=zPf (show signAt L j c=false by rw[HE.out];simp[hq])
    have e1:((bb:Int)==(c:Int))=false:=zPl.2 (by omega)
    clear HE
    go_enter Tryz.func161,Tryz.ntmps161
    go_wp2_with fail
    refine zAA (X:=none) 46 [] [0,1,2,3,4,5,6,7,8,9,10,11,12,13,14,15,16,17,18,19,20,21,22,23,24,25,26,27,28,29,30,31,32,33,34,35,36,37,38,39,40,41,42,43,44,45] (by kernel_rfl) (by kernel_rfl) rfl (fun _ _ _ _ _ h=>h) ?_
    simp only[zAI,zAC,zAD,zAB,List.getD_cons_zero,List.getD_cons_succ,List.drop_succ_cons,List.drop_nil]
    repeat (go_big_quiet_step (fail))
    refine wpQuiet_nil ?_
    go_wp2_with fail
    go_ret
    exact⟨zAk HE2.out.symm,(zPg _ _).drew⟩
 ·have hlt': ¬(j:Int)<(L.length:Int):=by omega
  have HE:=zPf (show signAt L j c=false by simp[signAt,hlt])
  clear hv hx hj hk hat
  go_enter Tryz.func161,Tryz.ntmps161
  go_wp2_with fail
  refine zAA (X:=none) 46 [] [0,1,2,3,4,5,6,7,8,9,10,11,12,13,14,15,16,17,18,19,20,21,22,23,24,25,26,27,28,29,30,31,32,33,34,35,36,37,38,39,40,41,42,43,44,45] (by kernel_rfl) (by kernel_rfl) rfl (fun _ _ _ _ _ h=>h) ?_
  simp only[zAI,zAC,zAD,zAB,List.getD_cons_zero,List.getD_cons_succ,List.drop_succ_cons,List.drop_nil]
  repeat (go_big_quiet_step (fail))
  refine wpQuiet_nil ?_
  go_wp2_with fail
  go_ret
  exact⟨zAk HE.out.symm,(zPg _ _).drew⟩
theorem zLy (hv:RdV w rb ere mb mo cap L i) {y:Int} (c:Nat) (hy:y=c):
  Calls Tryz.prog 187 #[.pointer (some ⟨rb,0,none⟩),.int .u8 y] w fun e w'=>e= .returned (.bool (signAt L i 92&&signAt L (i+1) c))∧Below w.heap.size w w':=by
 subst hy
 go_enter Tryz.func187,Tryz.ntmps187
 go_wp2_with fail
 refine(zBm hv 0 rfl (by omega) 92 rfl).mono ?_;rintro e w1 ⟨rfl,hb1⟩
 rw[Nat.add_zero]
 have hv1:=hv.below hb1
 have HB1:=zPf hb1
 clear hb1
 cases e1:signAt L i 92 with
 |false=>
  go_wp2_with fail
  go_ret
  exact⟨zAk (by rw[e1];rfl),HB1.out⟩
 |true=>
  go_wp2_with fail
  refine(zBm hv1 1 rfl (by omega) c rfl).mono ?_;rintro e w2 ⟨rfl,hb2⟩
  have HB2:=zPf (HB1.out.trans (hb2.mono HB1.out.size))
  clear hb2
  go_wp2_with fail
  go_ret
  exact⟨zAk (by rw[e1,Bool.true_and]),HB2.out⟩
theorem zB3 (hv:RdV w rb ere mb mo cap L i) {y:Int} (c:Nat) (hy:y=c):
  Calls Tryz.prog 159 #[.pointer (some ⟨rb,0,none⟩),.int .u8 y] w fun e w'=>e= .returned (.bool (seesAt L i (zA7 ere c)))∧Below w.heap.size w w':=by
 subst hy
 have HE:=zPf (zHu ere L i c)
 have c0:=hv.c0
 have rbl:=hv.hrb
 cases ere with
 |true=>
  go_enter Tryz.func159,Tryz.ntmps159
  go_wp2_with fail
  refine(zBm hv 0 rfl (by omega) c rfl).mono ?_;rintro e w1 ⟨rfl,hb1⟩
  have HB1:=zPf hb1
  clear hb1
  go_wp2_with fail
  go_ret
  exact⟨zAk (by rw[HE.out];rfl),HB1.out⟩
 |false=>
  go_enter Tryz.func159,Tryz.ntmps159
  go_wp2_with fail
  refine(zLy hv c rfl).mono ?_;rintro e w1 ⟨rfl,hb1⟩
  have HB1:=zPf hb1
  clear hb1
  go_wp2_with fail
  go_ret
  exact⟨zAk (by rw[HE.out];rfl),HB1.out⟩
theorem zD1 (_rbl:rb<w.heap.size) (c0:w.cell? ⟨rb,0,none⟩=some (.bool ere)):
  Calls Tryz.prog 215 #[.pointer (some ⟨rb,0,none⟩)] w fun e w'=>e= .returned (.int .i64 (zAY ere:Nat))∧w=w':=by
 cases ere with
 |true=>
  go_enter Tryz.func215,Tryz.ntmps215
  go_wp2_with fail
  go_ret
  exact⟨rfl,rfl⟩
 |false=>
  go_enter Tryz.func215,Tryz.ntmps215
  go_wp2_with fail
  go_ret
  exact⟨rfl,rfl⟩
theorem zIg (hv:RdV w rb ere mb mo cap L i):
  Calls Tryz.prog 140 #[.pointer (some ⟨rb,0,none⟩)] w fun e w'=>e= .returned (.bool (ere&&seesAt L i [124]))∧Below w.heap.size w w':=by
 have c0:=hv.c0
 have rbl:=hv.hrb
 cases ere with
 |false=>
  go_enter Tryz.func140,Tryz.ntmps140
  go_wp2_with fail
  go_ret
  exact⟨rfl,zPg _ _⟩
 |true=>
  have HE:=zPf (zBH L i 124)
  go_enter Tryz.func140,Tryz.ntmps140
  go_wp2_with fail
  refine(zBm hv 0 rfl (by omega) 124 rfl).mono ?_;rintro e w1 ⟨rfl,hb1⟩
  have HB1:=zPf hb1
  clear hb1
  go_wp2_with fail
  go_ret
  exact⟨zAk (by rw[HE.out,Bool.true_and]),HB1.out⟩
theorem zEl (hv:RdV w rb ere mb mo cap L i):
  Calls Tryz.prog 160 #[.pointer (some ⟨rb,0,none⟩)] w fun e w'=>e= .returned (.bool (zAe ere L i))∧Below w.heap.size w w':=by
 have HE:=zPf (show zAe ere L i=(signAt L i 42||ere&&(signAt L i 43||signAt L i 63)||seesAt L i (zA7 ere 123))by
  rw[zAe,zBH,zBH,zBH])
 go_enter Tryz.func160,Tryz.ntmps160
 go_wp2_with fail
 refine(zBm hv 0 rfl (by omega) 42 rfl).mono ?_;rintro e w1 ⟨rfl,hb1⟩
 rw[Nat.add_zero]
 have HV1:=zPf (hv.below hb1)
 have HB1:=zPf hb1
 clear hb1
 have c0:=HV1.out.c0
 have rbl:=HV1.out.hrb
 cases e1:signAt L i 42 with
 |true=>
  go_wp2_with fail
  go_ret
  exact⟨zAk (by rw[HE.out,e1];rfl),HB1.out⟩
 |false=>
  cases ere with
  |false=>
   go_wp2_with fail
   refine(zB3 HV1.out 123 rfl).mono ?_;rintro e w2 ⟨rfl,hb2⟩
   have HB2:=zPf (HB1.out.trans (hb2.mono HB1.out.size))
   clear hb2
   go_wp2_with fail
   go_ret
   exact⟨zAk (by rw[HE.out,e1];simp),HB2.out⟩
  |true=>
   go_wp2_with fail
   refine(zBm HV1.out 0 rfl (by omega) 43 rfl).mono ?_;rintro e w2 ⟨rfl,hb2⟩
   rw[Nat.add_zero]
   have HV2:=zPf (HV1.out.below hb2)
   have HB2:=zPf (HB1.out.trans (hb2.mono HB1.out.size))
   clear hb2 c0 rbl
   cases e2:signAt L i 43 with
   |true=>
    go_wp2_with fail
    go_ret
    exact⟨zAk (by rw[HE.out,e1,e2];rfl),HB2.out⟩
   |false=>
    go_wp2_with fail
    refine(zBm HV2.out 0 rfl (by omega) 63 rfl).mono ?_;rintro e w3 ⟨rfl,hb3⟩
    rw[Nat.add_zero]
    have HV3:=zPf (HV2.out.below hb3)
    have HB3:=zPf (HB2.out.trans (hb3.mono HB2.out.size))
    clear hb3
    cases e3:signAt L i 63 with
    |true=>
     go_wp2_with fail
     go_ret
     exact⟨zAk (by rw[HE.out,e1,e2,e3];rfl),HB3.out⟩
    |false=>
     go_wp2_with fail
     refine(zB3 HV3.out 123 rfl).mono ?_;rintro e w4 ⟨rfl,hb4⟩
     have HB4:=zPf (HB3.out.trans (hb4.mono HB3.out.size))
     clear hb4
     go_wp2_with fail
     go_ret
     exact⟨zAk (by rw[HE.out,e1,e2,e3];simp),HB4.out⟩
end
def zNj (rb er p:Nat) (w w':World):Prop:=
 (∀eb w0,zAr rb eb w0 w→zAr rb eb w0 w')∧rb<w'.heap.size∧w'.cell? ⟨rb,6,none⟩=some (.int .i64 er)∧w'.cell? ⟨rb,7,none⟩=some (.int .i64 p)
theorem zA4 {w:World} {rb:Nat} {ere:Bool} {mb mo cap:Nat} {L:List Mk} {s:Rst} {k:Nat} {ev:Value} (h:RfS w rb ere mb mo cap L s k ev) {x y:Int} (er p:Nat) (hx:x=er) (hy:y=p):
  Calls Tryz.prog 141 #[.pointer (some ⟨rb,0,none⟩),.int .i64 x,.int .i64 y] w fun e w'=>e= .returned (.tuple #[])∧zNj rb er p w w':=by
 subst hx
 subst hy
 have HN:=zPf (h.noted er p)
 have c6:=h.c6
 have c7:=h.c7
 have rbl:=h.lt
 have f6:=h.fz 6
 have f7:=h.fz 7
 clear h
 go_enter Tryz.func141,Tryz.ntmps141
 go_wp2_with fail
 go_end0
 exact⟨rfl,fun eb w0 hb=>(hb.store 6 _).store 7 _,by simpa [World.setCell]using rbl,HN.out.1,HN.out.2⟩
theorem zCl.no {α:Type} {w w1 w':World} {rb:Nat} {ere:Bool} {mb mo cap:Nat} {L:List Mk} {k:Nat} {ev:Value} {nil:Value} {R:α→Value→World→Prop} {o:Out α} {er p:Nat} (ho:o= .no er p) (hb:zAr rb ev.ownBlock w w1) (hn:zNj rb er p w1 w') (hne:er≠0):
  zCl w rb ere mb mo cap L k ev o nil R (.returned nil) w':=by
 subst ho
 exact⟨hn.1 _ _ hb,rfl,hne,hn.2.1,hn.2.2.1,hn.2.2.2⟩
theorem zMC {b:Nat} :Cls.of [b]=Cls.zero.set (b / 64) (zJK (b % 64)):=by
 show Cls.zero.set (b / 64) (orw (Cls.zero.word (b / 64)) (zJK (b % 64)))=_
 have: ∀v:BitVec 64,orw (Cls.zero.word (b / 64)) v=v:=fun v=>by
  have h0:Cls.zero.word (b / 64)=0#64:=by
   unfold Cls.word Cls.zero
   split<;>rfl
  rw[h0,orw,BitVec.zero_or]
 rw[this]
theorem zOs {w:World} {B:Nat} (h:w.heap[B]?=some (.cells #[.int .i8 1,.int .u64 0,.int .u64 0,.int .u64 0,.int .u64 0,.int .i64 0,.int .i64 0,.int .i64 0,.int .i64 0] 78 (0,0))) {b:Nat} (hb:b<256):
  (w.setCell ⟨B,1+b / 64,none⟩ (.int .u64 ((zJK (b % 64)).toNat:Nat))).heap[B]?=some (.cells (zAO (zCe b)) 78 (0,0)):=by
 have hj:b / 64=0∨b / 64=1∨b / 64=2∨b / 64=3:=by omega
 rw[zCe,zMC]
 generalize zJK (b % 64)=v
 rcases hj with hj|hj|hj|hj<;>(rw[hj];simp[World.setCell,Array.getElem?_modify,h,zAO,Cls.set,Cls.zero])
theorem zCo {b:Nat} (hb:b<256) {w:World} :
  Calls Tryz.prog 191 #[.int .u8 (b:Nat)] w fun e w'=>(∃v,e= .returned v∧Nds w' w.heap.size v [zCe b])∧Below w.heap.size w w':=by
 have h4:(b:Int) / 64<4:=by omega
 have h0:0≤(b:Int) / 64:=by omega
 have hsh:=zE5 (b % 64) (by omega)
 go_enter Tryz.func191,Tryz.ntmps191
 go_upto_region 2 with fail
 have hN:(w.alloc (.cells #[.int .i8 1,.int .u64 0,.int .u64 0,.int .u64 0,.int .u64 0,.int .i64 0,.int .i64 0,.int .i64 0,.int .i64 0] 78)).heap[w.heap.size]?=some (.cells #[.int .i8 1,.int .u64 0,.int .u64 0,.int .u64 0,.int .u64 0,.int .i64 0,.int .i64 0,.int .i64 0,.int .i64 0] 78 (0,0)):=zPs w _
 have hB:Below w.heap.size w (w.alloc (.cells #[.int .i8 1,.int .u64 0,.int .u64 0,.int .u64 0,.int .u64 0,.int .i64 0,.int .i64 0,.int .i64 0,.int .i64 0] 78)):=(by repeat (first|exact zPg _ _|assumption|refine zP8 ?_|refine zP6 ?_ (by first|(simp;done)|(simp;omega)|omega) _|refine zP7 ?_ (by first|(simp;done)|(simp;omega)|omega) _))
 revert hN hB
 generalize w.alloc (.cells #[.int .i8 1,.int .u64 0,.int .u64 0,.int .u64 0,.int .u64 0,.int .i64 0,.int .i64 0,.int .i64 0,.int .i64 0] 78)=wx
 intro hN hB
 have hsz:w.heap.size<wx.heap.size:=(zPn.1 hN).1
 have hcell:wx.cell? ⟨w.heap.size,1+b / 64,none⟩=some (.int .u64 0):=by
  rw[zPu _ _ _ _ _ (0,0) hN]
  have hj:b / 64=0∨b / 64=1∨b / 64=2∨b / 64=3:=by omega
  rcases hj with hj|hj|hj|hj<;>(rw[hj];rfl)
 have hfz:=zAE hN
 have HN:=zPf (zOs hN hb)
 have HB:=zPf hB
 clear hN hB
 go_upto_region 3 with fail
 have hB2:Below w.heap.size w (wx.setCell ⟨w.heap.size,1+b / 64,none⟩ (.int .u64 ((zJK (b % 64)).toNat:Nat))):=HB.out.setCell (p:=⟨w.heap.size,1+b / 64,none⟩) (zPh _) _
 have hN2:=HN.out
 revert hB2 hN2
 generalize wx.setCell ⟨w.heap.size,1+b / 64,none⟩ (.int .u64 ((zJK (b % 64)).toNat:Nat))=wy
 intro hB2 hN2
 clear HN HB hcell hfz hsh h4 h0 hsz
 have hsz:=hB2.size
 have hyl:w.heap.size<wy.heap.size:=(zPn.1 hN2).1
 have hc: ∀k,wy.cell? ⟨w.heap.size,k,none⟩=(zAO (zCe b))[k]?:=fun k=>zPu _ _ k _ _ (0,0) hN2
 have HL:=zPf (Nds.lit wy w.heap.size (zCe b) hsz)
 have HB2:=zPf hB2
 obtain⟨x,hx⟩: ∃x,x=zCe b:=⟨_,rfl⟩
 rw[←hx]at HL hc
 have HX:=zPf hx
 clear hx
 obtain⟨op,⟨x0,x1,x2,x3⟩,xn,xmin,xmax,xk⟩:=x
 have m0:=hc 0
 have m1:=hc 1
 have m2:=hc 2
 have m3:=hc 3
 have m4:=hc 4
 have m5:=hc 5
 have m6:=hc 6
 have m7:=hc 7
 have m8:=hc 8
 simp only[zAO,List.getElem?_toArray,List.getElem?_cons_zero,List.getElem?_cons_succ]at m0 m1 m2 m3 m4 m5 m6 m7 m8
 clear hc hN2 hB2
 go_wp2_with fail
 go_ret
 exact⟨⟨_,rfl,by rw[←HX.out];exact HL.out⟩,HB2.out.alloc hsz _⟩
theorem zI2 {ls:List (List Nd)} {i:Nat} (h:i<ls.length):(ls.take (i+1)).flatten=(ls.take i).flatten++ls[i]:=by
 rw[List.take_add_one,List.flatten_append]
 simp[h]
theorem zNV {ls:List (List Nd)} {i:Nat} (h:i<ls.length):((ls.take i).flatten++ls[i]).length≤ls.flatten.length:=by
 rw[←zI2 h]
 conv=>rhs;rw[←List.take_append_drop (i+1) ls,List.flatten_append,zPz]
 omega
theorem zEm (x:Nd) {ls:List (List Nd)} {oa:Option Addr} {cap:Nat} {w:World} (hk:zLa w oa ls) (hn:ls.length≤90000) (hs:ls.flatten.length≤90000):
  Calls Tryz.prog 143 #[ndV x,.slice oa ls.length cap] w fun e w'=>(∃v,e= .returned v∧Nds w' w.heap.size v (x::ls.flatten))∧Below w.heap.size w w':=by
 have HK:=zPf hk
 have HL:=zPf (Nds.lit (w.alloc (.cells (zAO x) 78)) w.heap.size x (by simp))
 have hB:Below w.heap.size w ((w.alloc (.cells (zAO x) 78)).alloc (.cells (zAO x) 78)):=(by repeat (first|exact zPg _ _|assumption|refine zP8 ?_|refine zP6 ?_ (by first|(simp;done)|(simp;omega)|omega) _|refine zP7 ?_ (by first|(simp;done)|(simp;omega)|omega) _))
 have HB:=zPf hB
 clear hk hB
 obtain⟨op,⟨x0,x1,x2,x3⟩,xn,xmin,xmax,xk⟩:=x
 generalize hx:(⟨op,⟨x0,x1,x2,x3⟩,xn,xmin,xmax,xk⟩:Nd)=x at HL HB ⊢
 rw[show ndV x= .agg #[.int .i8 op,.int .u64 x0.toNat,.int .u64 x1.toNat,.int .u64 x2.toNat,.int .u64 x3.toNat,.int .i64 xn,.int .i64 xmin,.int .i64 xmax,.int .i64 xk]by rw[←hx]]
 rw[show zAO x= #[.int .i8 op,.int .u64 x0.toNat,.int .u64 x1.toNat,.int .u64 x2.toNat,.int .u64 x3.toNat,.int .i64 xn,.int .i64 xmin,.int .i64 xmax,.int .i64 xk]by rw[←hx];rfl]at HL HB
 clear hx
 go_enter Tryz.func143,Tryz.ntmps143
 go_upto_region 2 with fail
 revert HL HB
 simp only[World.size_alloc]
 generalize (w.alloc (.cells #[.int .i8 op,.int .u64 x0.toNat,.int .u64 x1.toNat,.int .u64 x2.toNat,.int .u64 x3.toNat,.int .i64 xn,.int .i64 xmin,.int .i64 xmax,.int .i64 xk] 78)).alloc (.cells #[.int .i8 op,.int .u64 x0.toNat,.int .u64 x1.toNat,.int .u64 x2.toNat,.int .u64 x3.toNat,.int .i64 xn,.int .i64 xmin,.int .i64 xmax,.int .i64 xk] 78)=wx
 intro HL HB
 go_wp2_with fail
 go_loopg [5,6] ls.length (fun gk v iv wr=> ∃i:Nat,iv= .int .i64 (i:Nat)∧gk=ls.length - i∧i≤ls.length∧Nds wr w.heap.size v (x::(ls.take i).flatten)∧Below w.heap.size w wr)
 case atStart=>exact⟨0,rfl,by omega,by omega,HL.out,HB.out⟩
 case round=>
  obtain⟨i,rfl,hg,hi,hnd,hb⟩:=hrel
  have HG:=zPf hg
  have HN:=zPf hnd
  have HB:=zPf hb
  clear hg hnd hb
  by_cases hlt:i<ls.length
  ·have hlt':(i:Int)<(ls.length:Int):=by omega
   obtain⟨b,o,u,rfl,hbl,hcu,hku⟩:=(HK.out.below HB.out) i hlt
   have HKU:=zPf hku.src
   have HFT:=zPf (zI2 hlt)
   have hfl:=zNV hlt
   have hlen:(x::(ls.take i).flatten).length+ls[i].length≤100000:=by
    rw[zPz]at hfl
    simp only[List.length_cons]
    omega
   generalize ls[i]=l at HKU HFT hlen
   obtain⟨acc,hacc⟩: ∃acc,x::(ls.take i).flatten=acc:=⟨_,rfl⟩
   have HAC:=zPf hacc
   rw[hacc]at HN hlen
   clear hku hfl hacc hlt
   generalize hva:u5=va at HN ⊢
   clear hva
   go_wp2_with (at_builtin;refine zB4 rfl _ _ rfl w.heap.size rfl HN.out rfl HKU.out hlen HB.out.size ?_)
   intro v1 w1 hnd1 hgr1 hblk1
   have HN1:=zPf (show Nds w1 w.heap.size v1 (x::(ls.take (i+1)).flatten)by rw[HFT.out,←List.cons_append,HAC.out];exact hnd1)
   have HB1:=zPf (HB.out.grown hgr1 HB.out.size fun g hg=>(HN.out.lt g hg).1)
   clear hnd1 hgr1 hblk1
   go_wp2_with fail
   go_roundg (ls.length - (i+1))
   case measure=>have:=HG.out;omega
   case rel=>exact⟨i+1,by go_num,rfl,by omega,HN1.out,HB1.out⟩
  ·obtain rfl:i=ls.length:=by omega
   have hlt': ¬(ls.length:Int)<(ls.length:Int):=by omega
   rw[List.take_length]at HN
   go_wp2_with fail
   go_ret
   exact⟨⟨_,rfl,HN.out⟩,HB.out⟩
theorem zId {ls:List (List Nd)} {v:Value} {vs:List Value} {base:Nat} {w:World} (h:zFB w base v ls vs) (hb:base≤w.heap.size) (hn:ls.length≤90000) (hs:ls.flatten.length≤90000):
  Calls Tryz.prog 142 #[v] w fun e w'=>(∃u,e= .returned u∧Nds w' base u (if ls.length=1 then ls.flatten else zFA ls.length::ls.flatten))∧Below w.heap.size w w':=by
 obtain⟨oa,cap,rfl,hk⟩:=h.kids
 have HK:=zPf hk
 have H:=zPf h
 clear hk h
 by_cases h1:ls.length=1
 ·have h1':((ls.length:Nat):Int)=1:=by omega
  have h1b:(((ls.length:Nat):Int)==1)=true:=by rw[h1'];rfl
  obtain⟨l,rfl⟩: ∃l,ls=[l]:=by
   match ls,h1 with
   |[l],_=>exact⟨l,rfl⟩
  obtain⟨b,o,u,rfl,hbl,hcu,_⟩:=HK.out 0 (by simp)
  obtain⟨u',hu',hnd⟩:=H.out.el 0 (by simp)
  have hvl:vs.length=1:=by have:=H.out.row.1;simpa using this
  obtain⟨_,cur,hcell⟩: ∃(g:Nat) (c:Nat),(⟨b,o,none⟩:Addr)=⟨g,0,none⟩:=by
   rcases H.out.row.2 with ⟨h7,_⟩|⟨g,cp,cur,h7,_⟩
   ·cases h7
   ·simp only[Value.slice.injEq,Option.some.injEq]at h7
    exact⟨g,0,h7.1⟩
  simp only[Addr.mk.injEq,and_true]at hcell
  obtain⟨rfl,rfl⟩:=hcell
  have hc2:=zP4 H.out.row 0 (by simp)
  rw[hu']at hc2
  rw[Nat.add_zero]at hcu
  rw[hc2]at hcu
  cases hcu
  have HN:=zPf hnd
  simp only[List.getElem_cons_zero]at HN
  clear HK hu' hnd hvl
  go_enter Tryz.func142,Tryz.ntmps142
  go_wp2_with fail
  go_ret
  exact⟨⟨_,rfl,by simpa using HN.out⟩,zPg _ _⟩
 ·have h1': ¬((ls.length:Nat):Int)=1:=by omega
  have h1b:(((ls.length:Nat):Int)==1)=false:=zPl.2 h1'
  have HE:=zPf (show(if ls.length=1 then ls.flatten else zFA ls.length::ls.flatten)=zFA ls.length::ls.flatten from if_neg h1)
  clear h1
  generalize (if ls.length=1 then ls.flatten else zFA ls.length::ls.flatten)=R at HE ⊢
  go_enter Tryz.func142,Tryz.ntmps142
  go_wp2_with fail
  refine(zEm (zFA ls.length) (cap:=cap) HK.out hn hs).mono ?_;rintro e w1 ⟨⟨u,rfl,hu⟩,hb1⟩
  have HU:=zPf hu
  have HB1:=zPf hb1
  clear hu hb1
  go_wp2_with fail
  go_ret
  exact⟨⟨_,rfl,by rw[HE.out];exact HU.out.mono hb⟩,HB1.out⟩
end
section
open Go.RowKit
section
variable {w:World} {rb:Nat} {ere:Bool} {mb mo cap:Nat} {L:List Mk} {s:Rst} {k:Nat} {ev:Value}
theorem zFW (hv:RfS w rb ere mb mo cap L s k ev):
  Calls Tryz.prog 217 #[.pointer (some ⟨rb,0,none⟩)] w fun e w'=> ∃(m:Nat) (any:Bool) (j:Nat),zDO L s.i=((if any then(m:Int)else -1),j)∧e= .returned (.tuple #[.int .i64 (m:Nat),.bool any])∧RfS w' rb ere mb mo cap L ⟨j,s.ended⟩ k ev∧zAr rb ev.ownBlock w w'∧m≤256∧(any=false→m=0)∧s.i≤j∧j≤L.length:=by
 have hlen:=hv.m.len
 have hsi:=hv.at_
 have HV:=zPf hv
 clear hv
 go_enter Tryz.func217,Tryz.ntmps217
 go_wp2_with fail
 go_loopg [4,5] (L.length - s.i) (fun gk nv av wr=> ∃(m:Nat) (any:Bool) (j:Nat),nv= .int .i64 (m:Nat)∧av= .bool any∧RfS wr rb ere mb mo cap L ⟨j,s.ended⟩ k ev∧zAr rb ev.ownBlock w wr∧gk=L.length - j∧Hid (zDO L s.i=zA8 L gk (if any then(m:Int)else -1) j)∧m≤256∧(any=false→m=0)∧s.i≤j)
 case atStart=>exact⟨0,false,s.i,rfl,rfl,HV.out,zAr.refl _ _ _,rfl,rfl,by omega,fun _=>rfl,zPh _⟩
 case round=>
  obtain⟨m,any,j,rfl,rfl,hr,hb,hg,HS,hm256,hm0,hsj⟩:=hrel
  have c1:=hr.c1
  have c2:=hr.c2
  have rbl:=hr.lt
  have mbl:=hr.m.lt
  have hj:=hr.at_
  have f2:=hr.fz 2
  simp only at c2 hj
  have HR:=zPf hr
  have HB:=zPf hb
  by_cases hlt:j<L.length
  ·have hlt':(j:Int)<(L.length:Int):=by omega
   have cb:=hr.m.b j hlt
   have cp:=hr.m.p j hlt
   have hu:=hr.m.u j hlt
   clear hr hb
   obtain⟨mk,hmk⟩: ∃mk,zAH L j=mk:=⟨_,rfl⟩
   rw[hmk]at cb cp hu
   have HM:=zPf hmk
   clear hmk
   obtain⟨bb,pl⟩:=mk
   simp only at cb cp hu
   cases pl with
   |true=>
    have HE:=zPf (show zDO L s.i=((if any then(m:Int)else -1),j)by rw[HS.out,hg,show L.length - j=(L.length - j - 1)+1 by omega,zA8,if_neg (by omega),if_pos (by simp[HM.out])])
    have HG:=zPf hg
    clear HS hg
    go_wp2_with fail
    refine zAA (X:=none) 52 [] [0,1,2,3,4,5,6,7,8,9,10,11,12,13,14,15,16,17,18,19,20,21,22,23,24,25,26,27,28,29,30,31,32,33,34,35,36,37,38,39,40,41,42,43,44,45,46,47,48,49,50,51] (by kernel_rfl) (by kernel_rfl) rfl (fun _ _ _ _ _ h=>h) ?_
    simp only[zAI,zAC,zAD,zAB,List.getD_cons_zero,List.getD_cons_succ,List.drop_succ_cons,List.drop_nil]
    repeat (go_big_quiet_step (fail))
    refine wpQuiet_nil ?_
    go_wp2_with fail
    go_ret2
    exact⟨m,any,j,HE.out,rfl,HR.out.drew,HB.out.drew,hm256,hm0,hsj,hj⟩
   |false=>
    by_cases hlo:bb<48
    ·have hlo':decide ((48:Int)≤(bb:Int))=false:=zPr (by omega)
     have HLO:=zPf hlo
     clear hlo
     have HE:=zPf (show zDO L s.i=((if any then(m:Int)else -1),j)by rw[HS.out,hg,show L.length - j=(L.length - j - 1)+1 by omega,zA8,if_neg (by omega),if_pos (by simp[HM.out,HLO.out])])
     have HG:=zPf hg
     clear HS hg
     go_wp2_with fail
     refine zAA (X:=none) 52 [] [0,1,2,3,4,5,6,7,8,9,10,11,12,13,14,15,16,17,18,19,20,21,22,23,24,25,26,27,28,29,30,31,32,33,34,35,36,37,38,39,40,41,42,43,44,45,46,47,48,49,50,51] (by kernel_rfl) (by kernel_rfl) rfl (fun _ _ _ _ _ h=>h) ?_
     simp only[zAI,zAC,zAD,zAB,List.getD_cons_zero,List.getD_cons_succ,List.drop_succ_cons,List.drop_nil]
     repeat (go_big_quiet_step (fail))
     refine wpQuiet_nil ?_
     go_wp2_with fail
     go_ret2
     exact⟨m,any,j,HE.out,rfl,HR.out.drew,HB.out.drew,hm256,hm0,hsj,hj⟩
    ·by_cases hhi:57<bb
     ·have hlo':(48:Int)≤(bb:Int):=by omega
      have hhi': ¬(bb:Int)≤57:=by omega
      have HHI:=zPf hhi
      clear hlo hhi
      have HE:=zPf (show zDO L s.i=((if any then(m:Int)else -1),j)by rw[HS.out,hg,show L.length - j=(L.length - j - 1)+1 by omega,zA8,if_neg (by omega),if_pos (by simp[HM.out,HHI.out])])
      have HG:=zPf hg
      clear HS hg
      go_wp2_with fail
      refine zAA (X:=none) 52 [] [0,1,2,3,4,5,6,7,8,9,10,11,12,13,14,15,16,17,18,19,20,21,22,23,24,25,26,27,28,29,30,31,32,33,34,35,36,37,38,39,40,41,42,43,44,45,46,47,48,49,50,51] (by kernel_rfl) (by kernel_rfl) rfl (fun _ _ _ _ _ h=>h) ?_
      simp only[zAI,zAC,zAD,zAB,List.getD_cons_zero,List.getD_cons_succ,List.drop_succ_cons,List.drop_nil]
      repeat (go_big_quiet_step (fail))
      refine wpQuiet_nil ?_
      go_wp2_with fail
      go_ret2
      exact⟨m,any,j,HE.out,rfl,HR.out.drew,HB.out.drew,hm256,hm0,hsj,hj⟩
     ·have hlo':(48:Int)≤(bb:Int):=by omega
      have hhi':(bb:Int)≤57:=by omega
      obtain⟨d,hd⟩: ∃d,d=bb - 48:=⟨_,rfl⟩
      have hdi:(bb:Int) - 48=(d:Int):=by omega
      have hd9:d≤9:=by omega
      by_cases q:256<10*m+d
      ·have q':(256:Int)<10*(m:Int)+(d:Int):=by omega
       have HE:=zPf (show zDO L s.i=zA8 L (L.length - (j+1)) ((256:Nat):Int) (j+1)by
        rw[HS.out,hg,show L.length - j=(L.length - (j+1))+1 by omega,zA8,if_neg (by omega),if_neg (by simp[HM.out];omega),HM.out]
        show zA8 L _ (min (max (if any=true then(m:Int)else -1) 0*10+((bb:Int) - 48)) 256) _=_
        congr 1
        rw[show max (if any=true then(m:Int)else -1) 0=(m:Int)by cases any with|true=>(simp)|false=>(have:=hm0 rfl;subst this;rfl)]
        rw[Int.min_def]
        split<;>omega)
       have HG:=zPf hg
       clear HS hg
       go_wp2_with fail
       refine zAA (X:=none) 52 [] [0,1,2,3,4,5,6,7,8,9,10,11,12,13,14,15,16,17,18,19,20,21,22,23,24,25,26,27,28,29,30,31,32,33,34,35,36,37,38,39,40,41,42,43,44,45,46,47,48,49,50,51] (by kernel_rfl) (by kernel_rfl) rfl (fun _ _ _ _ _ h=>h) ?_
       simp only[zAI,zAC,zAD,zAB,List.getD_cons_zero,List.getD_cons_succ,List.drop_succ_cons,List.drop_nil]
       repeat (go_big_quiet_step (fail))
       refine wpQuiet_nil ?_
       go_wp2_with fail
       refine zAA (X:=none) 18 [] [0,1,2,3,4,5,6,7,8,9,10,11,12,13,14,15,16,17] (by kernel_rfl) (by kernel_rfl) rfl (fun _ _ _ _ _ h=>h) ?_
       simp only[zAI,zAC,zAD,zAB,List.getD_cons_zero,List.getD_cons_succ,List.drop_succ_cons,List.drop_nil]
       repeat (go_big_quiet_step (fail))
       refine wpQuiet_nil ?_
       go_wp2_with fail
       have hrZ:=(HR.out.drew.drew).setAt (j:=j+1) hlt
       have hbZ:=(HB.out.drew.drew).store 2 (.int .i64 ((j+1:Nat):Int))
       rw[Int.natCast_add,show((1:Nat):Int)=1 from rfl]at hrZ hbZ
       go_roundg (L.length - (j+1))
       case measure=>have:=HG.out;omega
       case rel=>exact⟨256,true,j+1,by go_num,rfl,hrZ,hbZ,rfl,HE.out,by omega,(fun h=>by cases h),by omega⟩
      ·have q': ¬(256:Int)<10*(m:Int)+(d:Int):=by omega
       have q2:10*(m:Int)+(d:Int)≤256:=by omega
       have HE:=zPf (show zDO L s.i=zA8 L (L.length - (j+1)) ((10*m+d:Nat):Int) (j+1)by
        rw[HS.out,hg,show L.length - j=(L.length - (j+1))+1 by omega,zA8,if_neg (by omega),if_neg (by simp[HM.out];omega),HM.out]
        show zA8 L _ (min (max (if any=true then(m:Int)else -1) 0*10+((bb:Int) - 48)) 256) _=_
        congr 1
        rw[show max (if any=true then(m:Int)else -1) 0=(m:Int)by cases any with|true=>(simp)|false=>(have:=hm0 rfl;subst this;rfl)]
        rw[Int.min_def]
        split<;>omega)
       have HG:=zPf hg
       clear HS hg
       go_wp2_with fail
       refine zAA (X:=none) 52 [] [0,1,2,3,4,5,6,7,8,9,10,11,12,13,14,15,16,17,18,19,20,21,22,23,24,25,26,27,28,29,30,31,32,33,34,35,36,37,38,39,40,41,42,43,44,45,46,47,48,49,50,51] (by kernel_rfl) (by kernel_rfl) rfl (fun _ _ _ _ _ h=>h) ?_
       simp only[zAI,zAC,zAD,zAB,List.getD_cons_zero,List.getD_cons_succ,List.drop_succ_cons,List.drop_nil]
       repeat (go_big_quiet_step (fail))
       refine wpQuiet_nil ?_
       go_wp2_with fail
       refine zAA (X:=none) 18 [] [0,1,2,3,4,5,6,7,8,9,10,11,12,13,14,15,16,17] (by kernel_rfl) (by kernel_rfl) rfl (fun _ _ _ _ _ h=>h) ?_
       simp only[zAI,zAC,zAD,zAB,List.getD_cons_zero,List.getD_cons_succ,List.drop_succ_cons,List.drop_nil]
       repeat (go_big_quiet_step (fail))
       refine wpQuiet_nil ?_
       go_wp2_with fail
       have hrZ:=(HR.out.drew.drew).setAt (j:=j+1) hlt
       have hbZ:=(HB.out.drew.drew).store 2 (.int .i64 ((j+1:Nat):Int))
       rw[Int.natCast_add,show((1:Nat):Int)=1 from rfl]at hrZ hbZ
       go_roundg (L.length - (j+1))
       case measure=>have:=HG.out;omega
       case rel=>exact⟨10*m+d,true,j+1,by go_num,rfl,hrZ,hbZ,rfl,HE.out,by omega,(fun h=>by cases h),by omega⟩
  ·have hlt': ¬(j:Int)<(L.length:Int):=by omega
   have HE:=zPf (show zDO L s.i=((if any then(m:Int)else -1),j)by rw[HS.out,hg,show L.length - j=0 by omega,zA8])
   clear hr hb HS hg
   go_wp2_with fail
   refine zAA (X:=none) 52 [] [0,1,2,3,4,5,6,7,8,9,10,11,12,13,14,15,16,17,18,19,20,21,22,23,24,25,26,27,28,29,30,31,32,33,34,35,36,37,38,39,40,41,42,43,44,45,46,47,48,49,50,51] (by kernel_rfl) (by kernel_rfl) rfl (fun _ _ _ _ _ h=>h) ?_
   simp only[zAI,zAC,zAD,zAB,List.getD_cons_zero,List.getD_cons_succ,List.drop_succ_cons,List.drop_nil]
   repeat (go_big_quiet_step (fail))
   refine wpQuiet_nil ?_
   go_wp2_with fail
   go_ret2
   exact⟨m,any,j,HE.out,rfl,HR.out.drew,HB.out.drew,hm256,hm0,hsj,hj⟩
theorem zAr.belowK {rb:Nat} {eb:Option Nat} {w0 w W:World} (h:zAr rb eb w0 w) {k:Nat} (hk:w0.heap.size≤k) (hb:Below k w W):zAr rb eb w0 W:=
 ⟨hb.os.trans h.os,hb.tape.trans h.tape,hb.output.trans h.output,zP2 h.size hb.size,fun i hi h1 h2=>(hb.block i (by omega)).trans (h.block i hi h1 h2)⟩
theorem RfS.belowK {w W:World} (h:RfS w rb ere mb mo cap L s k ev) {j:Nat} (hb:Below j w W) (hr:rb<j) (he: ∀g,ev.ownBlock=some g→g<j):RfS W rb ere mb mo cap L s k ev:=
 h.block (fun g hg=>hb.block g (he g hg)) (hb.block rb hr) (hb.block mb (by have:=h.mlt;omega)) hb.size
theorem zNj.belowK {rb er p:Nat} {w w' W:World} (h:zNj rb er p w w') {j:Nat} (hb:Below j w' W) (hr:rb<j) (w0:World) (eb:Option Nat) (hw:zAr rb eb w0 w) (hj:w0.heap.size≤j):zAr rb eb w0 W∧rb<W.heap.size∧W.cell? ⟨rb,6,none⟩=some (.int .i64 er)∧W.cell? ⟨rb,7,none⟩=some (.int .i64 p):=
 ⟨(h.1 _ _ hw).belowK hj hb,zPi h.2.1 hb.size,(zPj (a:=⟨rb,6,none⟩) (hb.block rb hr)).trans h.2.2.1,(zPj (a:=⟨rb,7,none⟩) (hb.block rb hr)).trans h.2.2.2⟩
theorem zDa {fn:Func} {p:Tmp} (h:fn.results= #[.cell p 78]) {a:Act} {w W:World} {B:Nat} {s0 s1 s2 s3 s4 s5 s6 s7 s8:Int} {Q:Ending→World→Prop}
  (ha:a.tmps.getD p undef= .pointer (some ⟨B,0,none⟩)) (hd:a.defers=[]) (his:zCr w B) (hW:W.heap[B]?=(zGI w B s0 s1 s2 s3 s4 s5 s6 s7 s8).heap[B]?)
  (hq:Q (.returned (.agg #[.int .i8 s0,.int .u64 s1,.int .u64 s2,.int .u64 s3,.int .u64 s4,.int .i64 s5,.int .i64 s6,.int .i64 s7,.int .i64 s8])) W):
  bodyPost Tryz.prog fn Q .ret a W:=by
 refine zQG (v:= .agg #[.int .i8 s0,.int .u64 s1,.int .u64 s2,.int .u64 s3,.int .u64 s4,.int .i64 s5,.int .i64 s6,.int .i64 s7,.int .i64 s8]) ?_ hd hq
 rw[zCi h,ha]
 simp[asAddr,zGY (hW.trans (zHt his s0 s1 s2 s3 s4 s5 s6 s7 s8)),Result.andThen]
theorem zD9 (hv:RfS w rb ere mb mo cap L s k ev) (hs:s.i+zAY ere≤L.length):
  Calls Tryz.prog 192 #[.pointer (some ⟨rb,0,none⟩)] w (zCl w rb ere mb mo cap L k ev (zAZ ere L s) (ndV Nd.zero) fun a v _=>v=ndV (zEf a.1 a.2)):=by
 have hlen:=hv.m.len
 have hw:=zDY ere
 have hrw:=hv.lt
 have HEV:=zPf hv.evlt
 have HV:=zPf hv
 clear hv
 go_enter Tryz.func192,Tryz.ntmps192
 go_upto_region 1 with fail
 have hN:zCr (w.alloc (.cells #[.int .i8 0,.int .u64 0,.int .u64 0,.int .u64 0,.int .u64 0,.int .i64 0,.int .i64 0,.int .i64 0,.int .i64 0] 78)) w.heap.size:=⟨_,rfl,zPs w _⟩
 have hal:Below w.heap.size w (w.alloc (.cells #[.int .i8 0,.int .u64 0,.int .u64 0,.int .u64 0,.int .u64 0,.int .i64 0,.int .i64 0,.int .i64 0,.int .i64 0] 78)):=(by repeat (first|exact zPg _ _|assumption|refine zP8 ?_|refine zP6 ?_ (by first|(simp;done)|(simp;omega)|omega) _|refine zP7 ?_ (by first|(simp;done)|(simp;omega)|omega) _))
 revert hN hal
 generalize w.alloc (.cells #[.int .i8 0,.int .u64 0,.int .u64 0,.int .u64 0,.int .u64 0,.int .i64 0,.int .i64 0,.int .i64 0,.int .i64 0] 78)=wx
 intro hN hal
 have hvx:=HV.out.below hal
 have HB0:=zPf (zAr.of_below (rb:=rb) (eb:=ev.ownBlock) hal)
 have HN0:=zPf hN
 have hszx:=hN.lt
 have c0:=hvx.c0
 have c2:=hvx.c2
 have rbl:=hvx.lt
 have f2:=hvx.fz 2
 clear hal hN
 go_wp2_with fail
 refine zAA (X:=none) 10 [([0,1,2,3,4,5],6)] [7,8,9] (by kernel_rfl) (by kernel_rfl) rfl (fun _ _ _ _ _ h=>h) ?_
 simp only[zAI,zAC,zAF,zAD,zAB,List.getD_cons_zero,List.getD_cons_succ,List.drop_succ_cons,List.drop_zero]
 repeat (go_big_quiet_step (fail))
 refine wpQuiet_nil ?_
 go_wp2_with fail
 refine(zD1 (w:=wx.drew) rbl c0).mono ?_;rintro e w1 ⟨rfl,rfl⟩
 go_wp2_with fail
 refine⟨zAJ.refl _,?_⟩
 repeat (go_big_quiet_step (fail))
 refine wpQuiet_nil ?_
 go_wp2_with fail
 have hr1:=(hvx.setAt hs).drew
 have hb1:=(HB0.out.store 2 (.int .i64 ((s.i+zAY ere:Nat):Int))).drew
 have hn1:zCr ((wx.setCell ⟨rb,2,none⟩ (.int .i64 ((s.i+zAY ere:Nat):Int))).drew) w.heap.size:=by
  obtain⟨cs,h1,h2⟩:=HN0.out
  exact⟨cs,h1,(zPp _ _ _ _ (by show w.heap.size≠rb;omega)).trans h2⟩
 rw[Int.natCast_add]at hr1 hb1 hn1
 have HIL:=zPf (zIz ere L s)
 clear hvx HB0 HN0 c0 c2 rbl f2 hszx
 refine(zFW hr1).mono ?_;rintro e w2 ⟨m,any,p,hnum,rfl,hr2,hb2,hm256,hm0,hsp,hpl⟩
 have HR2:=zPf hr2
 have HB2:=zPf (hb1.trans (.inl rfl) hb2)
 have HN2:=zPf (show zCr w2 w.heap.size from by
  obtain⟨cs,h1,h2⟩:=hn1
  exact⟨cs,h1,(hb2.block _ (zCr.lt ⟨cs,h1,h2⟩) (by omega) (fun e=>by have:=HEV.out _ e.symm;omega)).trans h2⟩)
 simp only at HIL hsp
 rw[hnum]at HIL
 have HM0:=zPf hm0
 clear hr1 hb1 hn1 hr2 hb2 hnum hm0 HV
 obtain⟨cm,hcm⟩: ∃b,signAt L p 44=b:=⟨_,rfl⟩
 have HCM:=zPf hcm
 have HCS:=zPf ((zBH L p 44).trans hcm)
 have hcl:cm=true→p+1≤L.length:=fun h=>by rw[h]at hcm;exact zCC hcm
 clear hcm
 go_wp2_with fail
 refine(zBm HR2.out.v 0 rfl (by omega) 44 rfl).mono ?_;rintro e w3 ⟨rfl,hb3⟩
 rw[Nat.add_zero,HCM.out]
 have HR3:=zPf (HR2.out.below hb3)
 have HB3:=zPf (HB2.out.below hb3)
 have HN3:=zPf (HN2.out.below hb3)
 clear hb3 HR2 HB2 HN2
 have c2:=HR3.out.c2
 have rbl:=HR3.out.lt
 have f2:=HR3.out.fz 2
 simp only at c2
 go_upto_if 30 with fail
 go_cut [6] (fun x wd=> ∃(hi' hi:Int) (q:Nat),x= .int .i64 hi∧RfS wd rb ere mb mo cap L ⟨q,s.ended⟩ k ev∧zAr rb ev.ownBlock w wd∧zCr wd w.heap.size∧Hid (zAZ ere L s=zAw ere L s (if any then(m:Int)else -1) hi' q)∧(any=true→hi'=hi)∧ -1≤hi∧hi≤256∧q≤L.length)
 case first=>
  cases cm with
  |false=>
   go_wp2_with fail
   go_meet
   exact⟨(if any then(m:Int)else -1),(m:Int),p,rfl,HR3.out,HB3.out,HN3.out,(show zAZ ere L s=_ by rw[HIL.out,HCS.out];rfl),(fun h=>by rw[h];rfl),by omega,by omega,hpl⟩
  |true=>
   have hcl2:=hcl rfl
   have hr4:=HR3.out.setAt (j:=p+1) hcl2
   have hb4:=HB3.out.store 2 (.int .i64 ((p+1:Nat):Int))
   have hn4:zCr (w3.setCell ⟨rb,2,none⟩ (.int .i64 ((p+1:Nat):Int))) w.heap.size:=by
    obtain⟨cs,h1,h2⟩:=HN3.out
    exact⟨cs,h1,(zPp _ _ _ _ (by show w.heap.size≠rb;omega)).trans h2⟩
   rw[Int.natCast_add,show((1:Nat):Int)=1 from rfl]at hr4 hb4 hn4
   go_wp2_with fail
   refine(zFW hr4).mono ?_;rintro e w5 ⟨m2,any2,p2,hnum2,rfl,hr5,hb5,hm2,hm02,hsp2,hpl2⟩
   have HR5:=zPf hr5
   have HB5:=zPf (hb4.trans (.inl rfl) hb5)
   have HN5:=zPf (show zCr w5 w.heap.size from by
    obtain⟨cs,h1,h2⟩:=hn4
    exact⟨cs,h1,(hb5.block _ (zCr.lt ⟨cs,h1,h2⟩) (by omega) (fun e=>by have:=HEV.out _ e.symm;omega)).trans h2⟩)
   have HI2:=zPf (show zAZ ere L s=zAw ere L s (if any then(m:Int)else -1) (if any2 then(m2:Int)else -1) p2 by
    rw[HIL.out,if_pos HCS.out]
    simp only at hnum2
    rw[hnum2])
   clear hr4 hb4 hn4 hr5 hb5 hnum2 HIL hm02 HR3 HB3 HN3
   cases any2 with
   |true=>
    go_wp2_with fail
    go_meet
    exact⟨(m2:Int),(m2:Int),p2,rfl,HR5.out,HB5.out,HN5.out,HI2.out,(fun _=>rfl),by omega,by omega,hpl2⟩
   |false=>
    go_wp2_with fail
    go_meet
    exact⟨-1,-1,p2,rfl,HR5.out,HB5.out,HN5.out,HI2.out,(fun _=>rfl),by omega,by omega,hpl2⟩
 case rest=>
  obtain⟨hi',hi,q,rfl,hr,hb,hn,HIE,hh,hlo,hhi,hql⟩:=hcut
  have HR:=zPf hr
  have HB:=zPf hb
  have HN:=zPf hn
  clear hr hb hn HR3 HB3 HN3 HIL c2 rbl f2 hcl
  go_upto_region 11 with fail
  go_cut [68] (fun x wd=> ∃bad:Bool,x= .bool bad∧Hid (zAZ ere L s=if bad then .no 43 s.i else .ok ((m:Int),hi) ⟨q+zAY ere,s.ended⟩)∧(bad=false→q+zAY ere≤L.length)∧RfS wd rb ere mb mo cap L ⟨q,s.ended⟩ k ev∧zAr rb ev.ownBlock w wd∧zCr wd w.heap.size)
  case first=>
   cases any with
   |false=>
    have HE:=zPf (show zAZ ere L s= .no 43 s.i by rw[HIE.out,zAw,if_pos (by simp)])
    clear HIE
    go_wp2_with fail
    go_meet
    exact⟨true,rfl,HE.out,(fun h=>by cases h),HR.out,HB.out,HN.out⟩
   |true=>
    have h5:=hh rfl
    subst h5
    rw[show(if true=true then(m:Int)else -1)=(m:Int)from rfl]at HIE
    by_cases q1:255<m
    ·have q1':(255:Int)<(m:Int):=by omega
     have HE:=zPf (show zAZ ere L s= .no 43 s.i by rw[HIE.out,zAw,if_pos (by simp[q1'])])
     clear HIE
     go_wp2_with fail
     go_meet
     exact⟨true,rfl,HE.out,(fun h=>by cases h),HR.out,HB.out,HN.out⟩
    ·have q1': ¬(255:Int)<(m:Int):=by omega
     by_cases q2:(255:Int)<hi'
     ·skip
      have HE:=zPf (show zAZ ere L s= .no 43 s.i by rw[HIE.out,zAw,if_pos (by simp[q2])])
      clear HIE
      go_wp2_with fail
      go_meet
      exact⟨true,rfl,HE.out,(fun h=>by cases h),HR.out,HB.out,HN.out⟩
     ·have q3d:(0:Int)≤hi'∧hi'<(m:Int)∨ ¬((0:Int)≤hi'∧hi'<(m:Int)):=Decidable.em _
      rcases q3d with ⟨q3,q4⟩|q3
      ·skip
       have HE:=zPf (show zAZ ere L s= .no 43 s.i by rw[HIE.out,zAw,if_pos (by simp[q3,q4])])
       clear HIE
       go_wp2_with fail
       go_meet
       exact⟨true,rfl,HE.out,(fun h=>by cases h),HR.out,HB.out,HN.out⟩
      ·obtain⟨sg,hsg⟩: ∃b,seesAt L q (zA7 ere 125)=b:=⟨_,rfl⟩
       have HSG:=zPf hsg
       have hle:sg=true→q+zAY ere≤L.length:=fun h=>by rw[h]at hsg;exact zBM hsg
       have HE:=zPf (show zAZ ere L s=if !sg then .no 43 s.i else .ok ((m:Int),hi') ⟨q+zAY ere,s.ended⟩by
        rw[HIE.out,zAw,hsg]
        have e1:decide ((m:Int)<0)=false:=zPr (by omega)
        have e2:decide ((255:Int)<(m:Int))=false:=zPr q1'
        have e3:decide ((255:Int)<hi')=false:=zPr q2
        have e4:(decide ((0:Int)≤hi')&&decide (hi'<(m:Int)))=false:=by
         rw[Bool.and_eq_false_iff]
         by_cases h0:(0:Int)≤hi'
         ·exact .inr (zPr fun h=>q3 ⟨h0,h⟩)
         ·exact .inl (zPr h0)
        rw[e1,e2,e3,e4];simp)
       clear hsg HIE
       by_cases q4:(0:Int)≤hi'
       ·have q5: ¬hi'<(m:Int):=fun h=>q3 ⟨q4,h⟩
        clear q3
        go_wp2_with fail
        refine(zB3 HR.out.v 125 rfl).mono ?_;rintro e w6 ⟨rfl,hb6⟩
        rw[HSG.out]
        have HR6:=zPf (HR.out.below hb6)
        have HB6:=zPf (HB.out.below hb6)
        have HNX:=zPf (HN.out.below hb6)
        clear hb6
        go_wp2_with fail
        go_meet
        exact⟨!sg,by cases sg<;>rfl,HE.out,(fun h=>hle (by simpa using h)),HR6.out,HB6.out,HNX.out⟩
       ·clear q3
        go_wp2_with fail
        refine(zB3 HR.out.v 125 rfl).mono ?_;rintro e w6 ⟨rfl,hb6⟩
        rw[HSG.out]
        have HR6:=zPf (HR.out.below hb6)
        have HB6:=zPf (HB.out.below hb6)
        have HNX:=zPf (HN.out.below hb6)
        clear hb6
        go_wp2_with fail
        go_meet
        exact⟨!sg,by cases sg<;>rfl,HE.out,(fun h=>hle (by simpa using h)),HR6.out,HB6.out,HNX.out⟩
  case rest=>
   obtain⟨bad,rfl,HE,hbad,hr,hb,hn⟩:=hcut
   have HR:=zPf hr
   have HB:=zPf hb
   have HN:=zPf hn
   cases bad with
   |true=>
    rw[if_pos rfl]at HE
    clear hr hb hn HIE
    go_wp2_with fail
    refine(zA4 HR.out 43 s.i rfl rfl).mono ?_;rintro e w7 ⟨rfl,hnt⟩
    have HNT:=zPf hnt
    have HN7:=zPf (show zCr w7 w.heap.size from by
     obtain⟨cs,h1,h2⟩:=HN.out
     exact⟨cs,h1,((hnt.1 none _ (zAr.refl rb none _)).block _ (zCr.lt ⟨cs,h1,h2⟩) (by omega) (by simp)).trans h2⟩)
    obtain⟨a0,a1,a2,a3,a4,a5,a6,a7,a8,m0,m1,m2,m3,m4,m5,m6,m7,m8,fz⟩:=HN7.out.cells
    have hnl:=HN7.out.lt
    clear hnt
    go_wp2_with fail
    rw[zBK]
    refine zDa Tryz.results192 rfl rfl HN7.out rfl ?_
    have hk:=HNT.out.belowK (zAm (zPh w.heap.size) 0 0 0 0 0 0 0 0 0) hrw w ev.ownBlock HB.out (zPh _)
    exact⟨hk.1,by rw[HE.out];exact⟨rfl,by decide,hk.2⟩⟩
   |false=>
    rw[if_neg (by decide)]at HE
    have hq2:=hbad rfl
    have c0:=hr.c0
    have c2:=hr.c2
    have rbl:=hr.lt
    have f2:=hr.fz 2
    have hnl:=hn.lt
    clear hr hb hn HIE hbad
    go_wp2_with fail
    refine zAA (X:=none) 10 [([0,1,2,3,4,5],6)] [7,8,9] (by kernel_rfl) (by kernel_rfl) rfl (fun _ _ _ _ _ h=>h) ?_
    simp only[zAI,zAC,zAF,zAD,zAB,List.getD_cons_zero,List.getD_cons_succ,List.drop_succ_cons,List.drop_zero]
    repeat (go_big_quiet_step (fail))
    refine wpQuiet_nil ?_
    go_wp2_with fail
    refine(zD1 (w:=wc.drew) rbl c0).mono ?_;rintro e w7 ⟨rfl,rfl⟩
    go_wp2_with fail
    refine⟨zAJ.refl _,?_⟩
    repeat (go_big_quiet_step (fail))
    refine wpQuiet_nil ?_
    have hr8:=(HR.out.setAt (j:=q+zAY ere) hq2).drew
    have hb8:=(HB.out.store 2 (.int .i64 ((q+zAY ere:Nat):Int))).drew
    have hn8:zCr ((wc.setCell ⟨rb,2,none⟩ (.int .i64 ((q+zAY ere:Nat):Int))).drew) w.heap.size:=by
     obtain⟨cs,h1,h2⟩:=HN.out
     exact⟨cs,h1,(zPp _ _ _ _ (by show w.heap.size≠rb;omega)).trans h2⟩
    rw[Int.natCast_add]at hr8 hb8 hn8
    simp only at hr8
    go_upto_region 15 with fail
    revert hr8 hb8 hn8
    generalize (wc.setCell ⟨rb,2,none⟩ (.int .i64 ((q:Int)+(zAY ere:Int)))).drew=w9
    intro hr8 hb8 hn8
    have HR9:=zPf hr8
    have HB9:=zPf hb8
    have HN9:=zPf hn8
    clear hr8 hb8 hn8 c0 c2 f2 rbl hnl
    obtain⟨a0,a1,a2,a3,a4,a5,a6,a7,a8,m0,m1,m2,m3,m4,m5,m6,m7,m8,fz⟩:=HN9.out.cells
    have hnl:=HN9.out.lt
    go_wp2_with fail
    rw[zBK]
    refine zDa Tryz.results192 rfl rfl HN9.out rfl ?_
    have hb:=zAm (w:=w9) (zPh w.heap.size) 6 0 0 0 0 0 m hi 1
    exact⟨HB9.out.belowK (zPh _) hb,by rw[HE.out];exact⟨_,ev,rfl,HR9.out.belowK hb hrw HEV.out,zAo.refl _ _,rfl⟩⟩
theorem zGH {w:World} {B C:Nat} (h:C≠B) (s0 s1 s2 s3 s4 s5 s6 s7 s8:Int):(zGI w B s0 s1 s2 s3 s4 s5 s6 s7 s8).heap[C]?=w.heap[C]?:=by
 unfold zGI
 iterate 9 rw[zPp _ _ _ _ (by exact h)]
theorem zHW {w w1:World} {eb eb':Option Nat} (h:zAo w1 eb eb') (hs:w.heap.size≤w1.heap.size):zAo w eb eb':=h.imp id fun h g hg=>zP2 hs (h g hg)
theorem zMW {i:Nat} (h:zAe ere L i=true) (h42:signAt L i 42=false):(ere=false→signAt L i 43=false∧signAt L i 63=false)∧((ere&&signAt L i 43)=false→(ere&&signAt L i 63)=false→i+zAY ere≤L.length):=by
 have h1:(ere&&(signAt L i 43||signAt L i 63)||seesAt L i (zA7 ere 123))=true:=by
  rw[zAe,zBH,zBH,zBH,h42,Bool.false_or]at h
  exact h
 refine⟨fun he=>?_,fun h3 h4=>?_⟩
 ·subst he
  rw[Bool.false_and,Bool.false_or,zHu,if_neg (by decide),Bool.and_eq_true]at h1
  have h5:=h1.1
  simp only[signAt,Bool.and_eq_true,beq_iff_eq]at h5
  constructor<;>simp[signAt,h5.2.1]
 ·have h5:(ere&&(signAt L i 43||signAt L i 63))=false:=by rw[Bool.and_or_distrib_left,h3,h4];rfl
  rw[h5,Bool.false_or]at h1
  exact zBM h1
theorem zOz (ere:Bool) (L:List Mk) (s:Rst):zEY ere L s=if signAt L s.i 42 then .ok (zEf 0 (-1)) ⟨s.i+1,s.ended⟩
 else if signAt L s.i 43 then .ok (zEf 1 (-1)) ⟨s.i+1,s.ended⟩
 else if signAt L s.i 63 then .ok (zEf 0 1) ⟨s.i+1,s.ended⟩
 else match zAZ ere L s with
  | .no e i=> .no e i
  | .ok (lo,hi) t=> .ok (zEf lo hi) t:=by
 rw[zEY,zBH,zBH,zBH]
 rfl
theorem zKz (hv:RfS w rb ere mb mo cap L s k ev) (hrp:zAe ere L s.i=true):
  Calls Tryz.prog 163 #[.pointer (some ⟨rb,0,none⟩)] w (zCl w rb ere mb mo cap L k ev (zEY ere L s) (ndV Nd.zero) fun d v _=>v=ndV d):=by
 have hlen:=hv.m.len
 have hrw:=hv.lt
 have HEV:=zPf hv.evlt
 have HD:=zPf (zOz ere L s)
 have HSG:=zPf (fun h=>zMW hrp h)
 have hat1: ∀c,signAt L s.i c=true→s.i+1≤L.length:=fun c h=>zCC h
 have HAT:=zPf hat1
 have HV:=zPf hv
 clear hv hat1 hrp
 go_enter Tryz.func163,Tryz.ntmps163
 go_upto_region 3 with fail
 have hN:zCr ((w.alloc (.cells #[.int .i8 0,.int .u64 0,.int .u64 0,.int .u64 0,.int .u64 0,.int .i64 0,.int .i64 0,.int .i64 0,.int .i64 0] 78)).alloc (.cells #[.int .i8 6,.int .u64 0,.int .u64 0,.int .u64 0,.int .u64 0,.int .i64 0,.int .i64 0,.int .i64 0,.int .i64 1] 78)) w.heap.size:=⟨_,rfl,(zPt _ _ (by simp)).trans (zPs w _)⟩
 have h6:((w.alloc (.cells #[.int .i8 0,.int .u64 0,.int .u64 0,.int .u64 0,.int .u64 0,.int .i64 0,.int .i64 0,.int .i64 0,.int .i64 0] 78)).alloc (.cells #[.int .i8 6,.int .u64 0,.int .u64 0,.int .u64 0,.int .u64 0,.int .i64 0,.int .i64 0,.int .i64 0,.int .i64 1] 78)).heap[w.heap.size+1]?=some (.cells #[.int .i8 6,.int .u64 0,.int .u64 0,.int .u64 0,.int .u64 0,.int .i64 0,.int .i64 0,.int .i64 0,.int .i64 1] 78 (0,0)):=zBc (by simp)
 have hal:Below w.heap.size w ((w.alloc (.cells #[.int .i8 0,.int .u64 0,.int .u64 0,.int .u64 0,.int .u64 0,.int .i64 0,.int .i64 0,.int .i64 0,.int .i64 0] 78)).alloc (.cells #[.int .i8 6,.int .u64 0,.int .u64 0,.int .u64 0,.int .u64 0,.int .i64 0,.int .i64 0,.int .i64 0,.int .i64 1] 78)):=(by repeat (first|exact zPg _ _|assumption|refine zP8 ?_|refine zP6 ?_ (by first|(simp;done)|(simp;omega)|omega) _|refine zP7 ?_ (by first|(simp;done)|(simp;omega)|omega) _))
 revert hN h6 hal
 generalize (w.alloc (.cells #[.int .i8 0,.int .u64 0,.int .u64 0,.int .u64 0,.int .u64 0,.int .i64 0,.int .i64 0,.int .i64 0,.int .i64 0] 78)).alloc (.cells #[.int .i8 6,.int .u64 0,.int .u64 0,.int .u64 0,.int .u64 0,.int .i64 0,.int .i64 0,.int .i64 0,.int .i64 1] 78)=wx
 intro hN h6 hal
 have HR0:=zPf (HV.out.below hal)
 have HB0:=zPf (zAr.of_below (rb:=rb) (eb:=ev.ownBlock) hal)
 have HN0:=zPf hN
 have H60:=zPf h6
 clear hal hN h6 HV
 obtain⟨st,hst⟩: ∃b,signAt L s.i 42=b:=⟨_,rfl⟩
 have HST:=zPf hst
 rw[hst]at HD
 clear hst
 go_wp2_with fail
 refine(zBm HR0.out.v 0 rfl (by omega) 42 rfl).mono ?_;rintro e w1 ⟨rfl,hb1⟩
 rw[Nat.add_zero,HST.out]
 have HR1:=zPf (HR0.out.below hb1)
 have HB1:=zPf (HB0.out.below hb1)
 have HN1:=zPf (HN0.out.below hb1)
 have H61:=zPf ((hb1.block _ (zPn.1 H60.out).1).trans H60.out)
 clear hb1 HR0 HB0 HN0 H60
 cases st with
 |true=>
  have HE:=zPf (show zEY _ L s= .ok (zEf 0 (-1)) ⟨s.i+1,s.ended⟩from HD.out)
  have hat:=HAT.out 42 HST.out
  have h6l:w.heap.size+1<w1.heap.size:=(zPn.1 H61.out).1
  have h6c: ∀j,w1.cell? ⟨w.heap.size+1,j,none⟩=_:=fun j=>zPu _ _ j _ _ (0,0) H61.out
  have h6f:=zAE H61.out
  have g6:=h6c 6
  have g7:=h6c 7
  simp only[List.getElem?_toArray,List.getElem?_cons_zero,List.getElem?_cons_succ]at g6 g7
  clear h6c HD
  go_upto_region 10 with fail
  have hbs:Below (w.heap.size+1) w1 ((w1.setCell ⟨w.heap.size+1,7,none⟩ (.int .i64 (-1)))):=((zPg _ _).setCell (p:=⟨w.heap.size+1,7,none⟩) (zPh _) _)
  have hx:((w1.setCell ⟨w.heap.size+1,7,none⟩ (.int .i64 (-1)))).heap[w.heap.size+1]?=some (.cells #[.int .i8 6,.int .u64 0,.int .u64 0,.int .u64 0,.int .u64 0,.int .i64 0,.int .i64 0,.int .i64 (-1),.int .i64 1] 78 (0,0)):=by
   have h:=H61.out
   simp[World.setCell,Array.getElem?_modify,h]
  have hr:=HR1.out.belowK hbs (by omega) (fun g hg=>by have:=HEV.out g hg;omega)
  have hb:=HB1.out.belowK (Nat.le_succ _) hbs
  have hn:zCr ((w1.setCell ⟨w.heap.size+1,7,none⟩ (.int .i64 (-1)))) w.heap.size:=by
   obtain⟨cs,h1,h2⟩:=HN1.out
   exact⟨cs,h1,(hbs.block _ (Nat.lt_succ_self _)).trans h2⟩
  revert hx hr hb hn
  generalize (w1.setCell ⟨w.heap.size+1,7,none⟩ (.int .i64 (-1)))=w7
  intro hx hr hb hn
  have HX7:=zPf hx
  have HR7:=zPf hr
  have HB7:=zPf hb
  have HN7:=zPf hn
  have c2:=hr.c2
  have rbl:=hr.lt
  have f2:=hr.fz 2
  clear hx hr hb hn hbs g6 g7 h6f h6l HR1 HB1 HN1 H61
  go_upto_region 11 with fail
  have hr8:=HR7.out.setAt (j:=s.i+1) hat
  have hb8:=HB7.out.store 2 (.int .i64 ((s.i+1:Nat):Int))
  have hn8:zCr (w7.setCell ⟨rb,2,none⟩ (.int .i64 ((s.i+1:Nat):Int))) w.heap.size:=by
   obtain⟨cs,h1,h2⟩:=HN7.out
   exact⟨cs,h1,(zPp _ _ _ _ (by show w.heap.size≠rb;omega)).trans h2⟩
  have hx8:(w7.setCell ⟨rb,2,none⟩ (.int .i64 ((s.i+1:Nat):Int))).heap[w.heap.size+1]?=_:=(zPp _ _ _ _ (by show w.heap.size+1≠rb;omega)).trans HX7.out
  rw[Int.natCast_add,show((1:Nat):Int)=1 from rfl]at hr8 hb8 hn8 hx8
  revert hr8 hb8 hn8 hx8
  generalize w7.setCell ⟨rb,2,none⟩ (.int .i64 ((s.i:Int)+1))=w9
  intro hr8 hb8 hn8 hx8
  have HR9:=zPf hr8
  have HB9:=zPf hb8
  have HN9:=zPf hn8
  have hxl:=(zPn.1 hx8).1
  have hxc: ∀j,w9.cell? ⟨w.heap.size+1,j,none⟩=_:=fun j=>zPu _ _ j _ _ (0,0) hx8
  have x0:=hxc 0
  have x1:=hxc 1
  have x2:=hxc 2
  have x3:=hxc 3
  have x4:=hxc 4
  have x5:=hxc 5
  have x6:=hxc 6
  have x7:=hxc 7
  have x8:=hxc 8
  simp only[List.getElem?_toArray,List.getElem?_cons_zero,List.getElem?_cons_succ]at x0 x1 x2 x3 x4 x5 x6 x7 x8
  clear hr8 hb8 hn8 hx8 hxc c2 rbl f2 HX7 HR7 HB7 HN7
  obtain⟨a0,a1,a2,a3,a4,a5,a6,a7,a8,m0,m1,m2,m3,m4,m5,m6,m7,m8,fz⟩:=HN9.out.cells
  have hnl:=HN9.out.lt
  go_wp2_with fail
  rw[zBK]
  refine zDa Tryz.results163 rfl rfl HN9.out rfl ?_
  have hb:=zAm (w:=w9) (zPh w.heap.size) 6 0 0 0 0 0 0 (-1) 1
  exact⟨HB9.out.belowK (zPh _) hb,by rw[HE.out];exact⟨_,ev,rfl,HR9.out.belowK hb hrw HEV.out,zAo.refl _ _,rfl⟩⟩
 |false=>
  obtain⟨hq1,hq2⟩:=HSG.out HST.out
  have HQ1:=zPf hq1
  have HQ2:=zPf hq2
  clear hq1 hq2 HSG
  have c0:=HR1.out.c0
  have rbl:=HR1.out.lt
  cases ere with
  |true=>
   obtain⟨pl,hpl⟩: ∃b,signAt L s.i 43=b:=⟨_,rfl⟩
   have HPL:=zPf hpl
   rw[hpl]at HD
   clear hpl
   go_wp2_with fail
   refine(zBm HR1.out.v 0 rfl (by omega) 43 rfl).mono ?_;rintro e w2 ⟨rfl,hb2⟩
   rw[Nat.add_zero,HPL.out]
   have HR2:=zPf (HR1.out.below hb2)
   have HB2:=zPf (HB1.out.below hb2)
   have HN2:=zPf (HN1.out.below hb2)
   have H62:=zPf ((hb2.block _ (zPn.1 H61.out).1).trans H61.out)
   clear hb2 HR1 HB1 HN1 H61 c0 rbl
   cases pl with
   |true=>
    have HE:=zPf (show zEY _ L s= .ok (zEf 1 (-1)) ⟨s.i+1,s.ended⟩from HD.out)
    have hat:=HAT.out 43 HPL.out
    have h6l:w.heap.size+1<w2.heap.size:=(zPn.1 H62.out).1
    have h6c: ∀j,w2.cell? ⟨w.heap.size+1,j,none⟩=_:=fun j=>zPu _ _ j _ _ (0,0) H62.out
    have h6f:=zAE H62.out
    have g6:=h6c 6
    have g7:=h6c 7
    simp only[List.getElem?_toArray,List.getElem?_cons_zero,List.getElem?_cons_succ]at g6 g7
    clear h6c HD
    go_upto_region 10 with fail
    have hbs:Below (w.heap.size+1) w2 (((w2.setCell ⟨w.heap.size+1,6,none⟩ (.int .i64 1)).setCell ⟨w.heap.size+1,7,none⟩ (.int .i64 (-1)))):=(((zPg _ _).setCell (p:=⟨w.heap.size+1,6,none⟩) (zPh _) _).setCell (p:=⟨w.heap.size+1,7,none⟩) (zPh _) _)
    have hx:(((w2.setCell ⟨w.heap.size+1,6,none⟩ (.int .i64 1)).setCell ⟨w.heap.size+1,7,none⟩ (.int .i64 (-1)))).heap[w.heap.size+1]?=some (.cells #[.int .i8 6,.int .u64 0,.int .u64 0,.int .u64 0,.int .u64 0,.int .i64 0,.int .i64 1,.int .i64 (-1),.int .i64 1] 78 (0,0)):=by
     have h:=H62.out
     simp[World.setCell,Array.getElem?_modify,h]
    have hr:=HR2.out.belowK hbs (by omega) (fun g hg=>by have:=HEV.out g hg;omega)
    have hb:=HB2.out.belowK (Nat.le_succ _) hbs
    have hn:zCr (((w2.setCell ⟨w.heap.size+1,6,none⟩ (.int .i64 1)).setCell ⟨w.heap.size+1,7,none⟩ (.int .i64 (-1)))) w.heap.size:=by
     obtain⟨cs,h1,h2⟩:=HN2.out
     exact⟨cs,h1,(hbs.block _ (Nat.lt_succ_self _)).trans h2⟩
    revert hx hr hb hn
    generalize ((w2.setCell ⟨w.heap.size+1,6,none⟩ (.int .i64 1)).setCell ⟨w.heap.size+1,7,none⟩ (.int .i64 (-1)))=w7
    intro hx hr hb hn
    have HX7:=zPf hx
    have HR7:=zPf hr
    have HB7:=zPf hb
    have HN7:=zPf hn
    have c2:=hr.c2
    have rbl:=hr.lt
    have f2:=hr.fz 2
    clear hx hr hb hn hbs g6 g7 h6f h6l HR2 HB2 HN2 H62
    go_upto_region 11 with fail
    have hr8:=HR7.out.setAt (j:=s.i+1) hat
    have hb8:=HB7.out.store 2 (.int .i64 ((s.i+1:Nat):Int))
    have hn8:zCr (w7.setCell ⟨rb,2,none⟩ (.int .i64 ((s.i+1:Nat):Int))) w.heap.size:=by
     obtain⟨cs,h1,h2⟩:=HN7.out
     exact⟨cs,h1,(zPp _ _ _ _ (by show w.heap.size≠rb;omega)).trans h2⟩
    have hx8:(w7.setCell ⟨rb,2,none⟩ (.int .i64 ((s.i+1:Nat):Int))).heap[w.heap.size+1]?=_:=(zPp _ _ _ _ (by show w.heap.size+1≠rb;omega)).trans HX7.out
    rw[Int.natCast_add,show((1:Nat):Int)=1 from rfl]at hr8 hb8 hn8 hx8
    revert hr8 hb8 hn8 hx8
    generalize w7.setCell ⟨rb,2,none⟩ (.int .i64 ((s.i:Int)+1))=w9
    intro hr8 hb8 hn8 hx8
    have HR9:=zPf hr8
    have HB9:=zPf hb8
    have HN9:=zPf hn8
    have hxl:=(zPn.1 hx8).1
    have hxc: ∀j,w9.cell? ⟨w.heap.size+1,j,none⟩=_:=fun j=>zPu _ _ j _ _ (0,0) hx8
    have x0:=hxc 0
    have x1:=hxc 1
    have x2:=hxc 2
    have x3:=hxc 3
    have x4:=hxc 4
    have x5:=hxc 5
    have x6:=hxc 6
    have x7:=hxc 7
    have x8:=hxc 8
    simp only[List.getElem?_toArray,List.getElem?_cons_zero,List.getElem?_cons_succ]at x0 x1 x2 x3 x4 x5 x6 x7 x8
    clear hr8 hb8 hn8 hx8 hxc c2 rbl f2 HX7 HR7 HB7 HN7
    obtain⟨a0,a1,a2,a3,a4,a5,a6,a7,a8,m0,m1,m2,m3,m4,m5,m6,m7,m8,fz⟩:=HN9.out.cells
    have hnl:=HN9.out.lt
    go_wp2_with fail
    rw[zBK]
    refine zDa Tryz.results163 rfl rfl HN9.out rfl ?_
    have hb:=zAm (w:=w9) (zPh w.heap.size) 6 0 0 0 0 0 1 (-1) 1
    exact⟨HB9.out.belowK (zPh _) hb,by rw[HE.out];exact⟨_,ev,rfl,HR9.out.belowK hb hrw HEV.out,zAo.refl _ _,rfl⟩⟩
   |false=>
    have c0:=HR2.out.c0
    have rbl:=HR2.out.lt
    obtain⟨qu,hqu⟩: ∃b,signAt L s.i 63=b:=⟨_,rfl⟩
    have HQU:=zPf hqu
    rw[hqu]at HD
    clear hqu
    go_wp2_with fail
    refine(zBm HR2.out.v 0 rfl (by omega) 63 rfl).mono ?_;rintro e w3 ⟨rfl,hb3⟩
    rw[Nat.add_zero,HQU.out]
    have HR3:=zPf (HR2.out.below hb3)
    have HB3:=zPf (HB2.out.below hb3)
    have HN3:=zPf (HN2.out.below hb3)
    have H63:=zPf ((hb3.block _ (zPn.1 H62.out).1).trans H62.out)
    clear hb3 HR2 HB2 HN2 H62 c0 rbl
    cases qu with
    |true=>
     have HE:=zPf (show zEY _ L s= .ok (zEf 0 1) ⟨s.i+1,s.ended⟩from HD.out)
     have hat:=HAT.out 63 HQU.out
     have h6l:w.heap.size+1<w3.heap.size:=(zPn.1 H63.out).1
     have h6c: ∀j,w3.cell? ⟨w.heap.size+1,j,none⟩=_:=fun j=>zPu _ _ j _ _ (0,0) H63.out
     have h6f:=zAE H63.out
     have g6:=h6c 6
     have g7:=h6c 7
     simp only[List.getElem?_toArray,List.getElem?_cons_zero,List.getElem?_cons_succ]at g6 g7
     clear h6c HD
     go_upto_region 10 with fail
     have hbs:Below (w.heap.size+1) w3 ((w3.setCell ⟨w.heap.size+1,7,none⟩ (.int .i64 1))):=((zPg _ _).setCell (p:=⟨w.heap.size+1,7,none⟩) (zPh _) _)
     have hx:((w3.setCell ⟨w.heap.size+1,7,none⟩ (.int .i64 1))).heap[w.heap.size+1]?=some (.cells #[.int .i8 6,.int .u64 0,.int .u64 0,.int .u64 0,.int .u64 0,.int .i64 0,.int .i64 0,.int .i64 1,.int .i64 1] 78 (0,0)):=by
      have h:=H63.out
      simp[World.setCell,Array.getElem?_modify,h]
     have hr:=HR3.out.belowK hbs (by omega) (fun g hg=>by have:=HEV.out g hg;omega)
     have hb:=HB3.out.belowK (Nat.le_succ _) hbs
     have hn:zCr ((w3.setCell ⟨w.heap.size+1,7,none⟩ (.int .i64 1))) w.heap.size:=by
      obtain⟨cs,h1,h2⟩:=HN3.out
      exact⟨cs,h1,(hbs.block _ (Nat.lt_succ_self _)).trans h2⟩
     revert hx hr hb hn
     generalize (w3.setCell ⟨w.heap.size+1,7,none⟩ (.int .i64 1))=w7
     intro hx hr hb hn
     have HX7:=zPf hx
     have HR7:=zPf hr
     have HB7:=zPf hb
     have HN7:=zPf hn
     have c2:=hr.c2
     have rbl:=hr.lt
     have f2:=hr.fz 2
     clear hx hr hb hn hbs g6 g7 h6f h6l HR3 HB3 HN3 H63
     go_upto_region 11 with fail
     have hr8:=HR7.out.setAt (j:=s.i+1) hat
     have hb8:=HB7.out.store 2 (.int .i64 ((s.i+1:Nat):Int))
     have hn8:zCr (w7.setCell ⟨rb,2,none⟩ (.int .i64 ((s.i+1:Nat):Int))) w.heap.size:=by
      obtain⟨cs,h1,h2⟩:=HN7.out
      exact⟨cs,h1,(zPp _ _ _ _ (by show w.heap.size≠rb;omega)).trans h2⟩
     have hx8:(w7.setCell ⟨rb,2,none⟩ (.int .i64 ((s.i+1:Nat):Int))).heap[w.heap.size+1]?=_:=(zPp _ _ _ _ (by show w.heap.size+1≠rb;omega)).trans HX7.out
     rw[Int.natCast_add,show((1:Nat):Int)=1 from rfl]at hr8 hb8 hn8 hx8
     revert hr8 hb8 hn8 hx8
     generalize w7.setCell ⟨rb,2,none⟩ (.int .i64 ((s.i:Int)+1))=w9
     intro hr8 hb8 hn8 hx8
     have HR9:=zPf hr8
     have HB9:=zPf hb8
     have HN9:=zPf hn8
     have hxl:=(zPn.1 hx8).1
     have hxc: ∀j,w9.cell? ⟨w.heap.size+1,j,none⟩=_:=fun j=>zPu _ _ j _ _ (0,0) hx8
     have x0:=hxc 0
     have x1:=hxc 1
     have x2:=hxc 2
     have x3:=hxc 3
     have x4:=hxc 4
     have x5:=hxc 5
     have x6:=hxc 6
     have x7:=hxc 7
     have x8:=hxc 8
     simp only[List.getElem?_toArray,List.getElem?_cons_zero,List.getElem?_cons_succ]at x0 x1 x2 x3 x4 x5 x6 x7 x8
     clear hr8 hb8 hn8 hx8 hxc c2 rbl f2 HX7 HR7 HB7 HN7
     obtain⟨a0,a1,a2,a3,a4,a5,a6,a7,a8,m0,m1,m2,m3,m4,m5,m6,m7,m8,fz⟩:=HN9.out.cells
     have hnl:=HN9.out.lt
     go_wp2_with fail
     rw[zBK]
     refine zDa Tryz.results163 rfl rfl HN9.out rfl ?_
     have hb:=zAm (w:=w9) (zPh w.heap.size) 6 0 0 0 0 0 0 1 1
     exact⟨HB9.out.belowK (zPh _) hb,by rw[HE.out];exact⟨_,ev,rfl,HR9.out.belowK hb hrw HEV.out,zAo.refl _ _,rfl⟩⟩
    |false=>
     have HWI:=zPf (HQ2.out (by rw[HPL.out];rfl) (by rw[HQU.out];rfl))
     have HE:=zPf (show zEY true L s=_ by rw[HD.out,if_neg (by decide),if_neg (by decide),if_neg (by decide)])
     clear HD
     go_wp2_with fail
     refine(zD9 HR3.out HWI.out).mono ?_;rintro e w5 ⟨hb5,hp5⟩
     cases hit:zAZ true L s with
     |no er p=>
      rw[hit]at hp5 HE
      obtain⟨rfl,her,h1,h2,h3⟩:=hp5
      have HB5:=zPf (HB3.out.trans (.inl rfl) hb5)
      have HN5:=zPf (show zCr w5 w.heap.size from by
       obtain⟨cs,h4,h5⟩:=HN3.out
       exact⟨cs,h4,(hb5.block _ (zCr.lt ⟨cs,h4,h5⟩) (by omega) (fun e=>by have:=HEV.out _ e.symm;omega)).trans h5⟩)
      have HF:=zPf (show er≠0∧rb<w5.heap.size∧w5.cell? ⟨rb,6,none⟩=some (.int .i64 er)∧w5.cell? ⟨rb,7,none⟩=some (.int .i64 p)from⟨her,h1,h2,h3⟩)
      clear hit hb5 her h1 h2 h3
      obtain⟨a0,a1,a2,a3,a4,a5,a6,a7,a8,m0,m1,m2,m3,m4,m5,m6,m7,m8,fz⟩:=HN5.out.cells
      have hnl:=HN5.out.lt
      go_wp2_with fail
      rw[zBK]
      refine zDa Tryz.results163 rfl rfl HN5.out rfl ?_
      have hb:=zAm (w:=w5) (zPh w.heap.size) 0 0 0 0 0 0 0 0 0
      exact⟨HB5.out.belowK (zPh _) hb,by rw[HE.out];exact⟨rfl,HF.out.1,zPi HF.out.2.1 hb.size,(zPj (a:=⟨rb,6,none⟩) (hb.block rb hrw)).trans HF.out.2.2.1,(zPj (a:=⟨rb,7,none⟩) (hb.block rb hrw)).trans HF.out.2.2.2⟩⟩
     |ok a t=>
      obtain⟨lo,hi⟩:=a
      rw[hit]at hp5 HE
      obtain⟨v,ev5,rfl,hr5,hn5,rfl⟩:=hp5
      have HB5:=zPf (HB3.out.trans (.inl rfl) hb5)
      have HN5:=zPf (show zCr w5 w.heap.size from by
       obtain⟨cs,h4,h5⟩:=HN3.out
       exact⟨cs,h4,(hb5.block _ (zCr.lt ⟨cs,h4,h5⟩) (by omega) (fun e=>by have:=HEV.out _ e.symm;omega)).trans h5⟩)
      have HR5:=zPf hr5
      have HNO:=zPf hn5
      have hszn:=(HN3.out).lt
      have HEV5:=zPf (show∀g,ev5.ownBlock=some g→g≠w.heap.size from fun g hg e=>by
       rcases hn5 with h|h
       ·rw[h]at hg;have:=HEV.out g hg;omega
       ·have:=h g hg;omega)
      clear hit hb5 hr5 hn5
      obtain⟨a0,a1,a2,a3,a4,a5,a6,a7,a8,m0,m1,m2,m3,m4,m5,m6,m7,m8,fz⟩:=HN5.out.cells
      have hnl:=HN5.out.lt
      simp only[zEf]
      go_wp2_with fail
      rw[zBK]
      refine zDa Tryz.results163 rfl rfl HN5.out rfl ?_
      have hb:=zAm (w:=w5) (zPh w.heap.size) 6 0 0 0 0 0 lo hi 1
      have hoth: ∀g,g≠w.heap.size→(zGI w5 w.heap.size 6 0 0 0 0 0 lo hi 1).heap[g]?=w5.heap[g]?:=fun g hg=>zGH hg _ _ _ _ _ _ _ _ _
      exact⟨HB5.out.belowK (zPh _) hb,by rw[HE.out];exact⟨_,ev5,rfl,HR5.out.block (fun g hg=>hoth g (HEV5.out g hg)) (hoth rb (by omega)) (hoth mb (by have:=HR5.out.mlt;omega)) hb.size,zHW HNO.out (by have:=HB3.out.size;omega),rfl⟩⟩
  |false=>
   have HS4:=zPf (HQ1.out rfl)
   have HWI:=zPf (HQ2.out rfl rfl)
   have HE:=zPf (show zEY false L s=_ by rw[HD.out,if_neg (by decide),if_neg (by rw[HS4.out.1];decide),if_neg (by rw[HS4.out.2];decide)])
   clear HD
   go_wp2_with fail
   refine(zD9 HR1.out HWI.out).mono ?_;rintro e w5 ⟨hb5,hp5⟩
   cases hit:zAZ false L s with
   |no er p=>
    rw[hit]at hp5 HE
    obtain⟨rfl,her,h1,h2,h3⟩:=hp5
    have HB5:=zPf (HB1.out.trans (.inl rfl) hb5)
    have HN5:=zPf (show zCr w5 w.heap.size from by
     obtain⟨cs,h4,h5⟩:=HN1.out
     exact⟨cs,h4,(hb5.block _ (zCr.lt ⟨cs,h4,h5⟩) (by omega) (fun e=>by have:=HEV.out _ e.symm;omega)).trans h5⟩)
    have HF:=zPf (show er≠0∧rb<w5.heap.size∧w5.cell? ⟨rb,6,none⟩=some (.int .i64 er)∧w5.cell? ⟨rb,7,none⟩=some (.int .i64 p)from⟨her,h1,h2,h3⟩)
    clear hit hb5 her h1 h2 h3
    obtain⟨a0,a1,a2,a3,a4,a5,a6,a7,a8,m0,m1,m2,m3,m4,m5,m6,m7,m8,fz⟩:=HN5.out.cells
    have hnl:=HN5.out.lt
    go_wp2_with fail
    rw[zBK]
    refine zDa Tryz.results163 rfl rfl HN5.out rfl ?_
    have hb:=zAm (w:=w5) (zPh w.heap.size) 0 0 0 0 0 0 0 0 0
    exact⟨HB5.out.belowK (zPh _) hb,by rw[HE.out];exact⟨rfl,HF.out.1,zPi HF.out.2.1 hb.size,(zPj (a:=⟨rb,6,none⟩) (hb.block rb hrw)).trans HF.out.2.2.1,(zPj (a:=⟨rb,7,none⟩) (hb.block rb hrw)).trans HF.out.2.2.2⟩⟩
   |ok a t=>
    obtain⟨lo,hi⟩:=a
    rw[hit]at hp5 HE
    obtain⟨v,ev5,rfl,hr5,hn5,rfl⟩:=hp5
    have HB5:=zPf (HB1.out.trans (.inl rfl) hb5)
    have HN5:=zPf (show zCr w5 w.heap.size from by
     obtain⟨cs,h4,h5⟩:=HN1.out
     exact⟨cs,h4,(hb5.block _ (zCr.lt ⟨cs,h4,h5⟩) (by omega) (fun e=>by have:=HEV.out _ e.symm;omega)).trans h5⟩)
    have HR5:=zPf hr5
    have HNO:=zPf hn5
    have hszn:=(HN1.out).lt
    have HEV5:=zPf (show∀g,ev5.ownBlock=some g→g≠w.heap.size from fun g hg e=>by
     rcases hn5 with h|h
     ·rw[h]at hg;have:=HEV.out g hg;omega
     ·have:=h g hg;omega)
    clear hit hb5 hr5 hn5
    obtain⟨a0,a1,a2,a3,a4,a5,a6,a7,a8,m0,m1,m2,m3,m4,m5,m6,m7,m8,fz⟩:=HN5.out.cells
    have hnl:=HN5.out.lt
    simp only[zEf]
    go_wp2_with fail
    rw[zBK]
    refine zDa Tryz.results163 rfl rfl HN5.out rfl ?_
    have hb:=zAm (w:=w5) (zPh w.heap.size) 6 0 0 0 0 0 lo hi 1
    have hoth: ∀g,g≠w.heap.size→(zGI w5 w.heap.size 6 0 0 0 0 0 lo hi 1).heap[g]?=w5.heap[g]?:=fun g hg=>zGH hg _ _ _ _ _ _ _ _ _
    exact⟨HB5.out.belowK (zPh _) hb,by rw[HE.out];exact⟨_,ev5,rfl,HR5.out.block (fun g hg=>hoth g (HEV5.out g hg)) (hoth rb (by omega)) (hoth mb (by have:=HR5.out.mlt;omega)) hb.size,zHW HNO.out (by have:=HB1.out.size;omega),rfl⟩⟩
end
end
section
open Go.RowKit
theorem zID {l:List Nat} {k:Nat} (h:k<l.length) (c:Nat):(l.drop k).contains c=(l[k]==c||(l.drop (k+1)).contains c):=by
 rw[List.drop_eq_getElem_cons h,List.contains_cons]
 congr 1
 rw[Bool.eq_iff_iff];simp;exact eq_comm
theorem zGR (s:ByteArray) (hs:s.size≤100) (c:Nat) {w:World} :
  Calls Tryz.prog 216 #[.string s,.int .u8 (c:Nat)] w fun e w'=>e= .returned (.bool ((zAW s).contains c))∧w=w':=by
 obtain⟨R,hR⟩: ∃R,(zAW s).contains c=R:=⟨_,rfl⟩
 have HR:=zPf hR
 rw[hR]
 clear hR
 go_enter Tryz.func216,Tryz.ntmps216
 go_wp2_with fail
 go_loopg [5] s.size (fun gk iv wr=> ∃i:Nat,iv= .int .i64 (i:Nat)∧gk=s.size - i∧i≤s.size∧w=wr∧Hid (R=((zAW s).drop i).contains c))
 case atStart=>exact⟨0,rfl,by omega,by omega,rfl,HR.out.symm⟩
 case round=>
  obtain⟨i,rfl,hg,hi,rfl,HS⟩:=hrel
  have HG:=zPf hg
  clear hg
  by_cases hlt:i<s.size
  ·have hlt':(i:Int)<(s.size:Int):=by omega
   have HD:=zPf (zID (l:=zAW s) (k:=i) (by rw[zAh];exact hlt) c)
   have HX:=zPf (show(zAW s)[i]'(by rw[zAh];exact hlt)=s[i].toNat by
    have h1:=zDC s i hlt
    rw[zPo,zPw (by rw[zAh];exact hlt)]at h1
    simpa using h1)
   by_cases hq:s[i].toNat=c
   ·have HE:=zPf (show R=true by rw[HS.out,HD.out,HX.out,hq];simp)
    clear HS HD HX
    go_wp2_with fail
    go_ret
    exact⟨zAk HE.out.symm,rfl⟩
   ·have HE:=zPf (show R=((zAW s).drop (i+1)).contains c by rw[HS.out,HD.out,HX.out,zPl.2 hq];rfl)
    have hq':((s[i].toNat:Int)==(c:Int))=false:=zPl.2 (by omega)
    clear HS HD HX
    go_wp2_with fail
    go_roundg (s.size - (i+1))
    case measure=>have:=HG.out;omega
    case rel=>exact⟨i+1,by go_num,rfl,by omega,rfl,HE.out⟩
  ·have hlt': ¬(i:Int)<(s.size:Int):=by omega
   have HE:=zPf (show R=false by rw[HS.out,List.drop_eq_nil_of_le (by rw[zAh];omega)];rfl)
   clear HS
   go_wp2_with fail
   go_ret
   exact⟨zAk HE.out.symm,rfl⟩
theorem zOH (c:Nat) (hc:c<256):(zAW ⟨#[46,91,93,40,41,42,43,63,123,125,124,94,36,92,47]⟩).contains c=(zLc true).contains c:=by
 have h: ∀c,c<256→((zAW ⟨#[46,91,93,40,41,42,43,63,123,125,124,94,36,92,47]⟩).contains c==(zLc true).contains c)=true:=by decide+kernel
 exact beq_iff_eq.1 (h c hc)
def zEV (ere:Bool) (L:List Mk) (s:Rst):Out (List Nd):=
 if s.i+1=L.length then .no 40 s.i
 else if (zAH L (s.i+1)).p then .no 40 s.i
 else if (zAH L (s.i+1)).b=110 then .ok [zCe 10] ⟨s.i+2,s.ended⟩
 else if (zLc ere).contains (zAH L (s.i+1)).b then .ok [zCe (zAH L (s.i+1)).b] ⟨s.i+2,s.ended⟩
 else if !ere&&decide (49≤(zAH L (s.i+1)).b)&&decide ((zAH L (s.i+1)).b≤57)then
  if s.ended.length<(zAH L (s.i+1)).b - 48 then .no 44 s.i
  else if !s.ended.getD ((zAH L (s.i+1)).b - 48 - 1) false then .no 44 s.i
  else .ok [zF1 ((zAH L (s.i+1)).b - 48)] ⟨s.i+2,s.ended⟩
 else .no 40 s.i
theorem zFn (ere:Bool) (L:List Mk) (grp:Rst→Out (List Nd)) (s:Rst) (h:(ere|| !signAt L (s.i+1) 40)=true):zA0 ere L grp s=zAx (zEV ere L s):=by
 unfold zA0 zEV
 by_cases h1:s.i+1=L.length
 ·rw[if_pos h1,if_pos h1];rfl
 rw[if_neg h1,if_neg h1]
 by_cases h2:(zAH L (s.i+1)).p=true
 ·rw[if_pos h2,if_pos h2];rfl
 rw[if_neg h2,if_neg h2]
 have h3:(!ere&&(zAH L (s.i+1)).b==40)=false:=by
  cases ere with
  |true=>rfl
  |false=>
   rw[Bool.false_or,Bool.not_eq_true']at h
   have h4:(zAH L (s.i+1)).p=false:=by simpa using h2
   by_cases h5:s.i+1<L.length
   ·simpa [signAt,h5,h4]using h
   ·have h6:zAH L (s.i+1)=⟨0,false⟩:=by simp[zAH,List.getD_eq_getElem?_getD,show L.length≤s.i+1 by omega]
    rw[h6];rfl
 simp only[h3,Bool.false_eq_true,if_false]
 repeat' split
 all_goals rfl
section
variable {rb:Nat} {ere:Bool} {mb mo cap:Nat} {L:List Mk} {k:Nat}
theorem zIf {w:World} {s:Rst} {ev:Value} (hv:RfS w rb ere mb mo cap L s k ev) (hs:s.i<L.length):
  Calls Tryz.prog 190 #[.pointer (some ⟨rb,0,none⟩)] w (zCl w rb ere mb mo cap L k ev (zEV ere L s) (.slice none 0 0) fun re v w'=>Nds w' w.heap.size v re):=by
 have hlen:=hv.m.len
 have c0:=hv.c0
 have c1:=hv.c1
 have c2:=hv.c2
 have rbl:=hv.lt
 have mbl:=hv.m.lt
 have f2:=hv.fz 2
 have HR:=zPf hv
 have HS0:=zPf (show zEV ere L s=_ from rfl)
 by_cases hend:s.i+1=L.length
 ·have hend':(s.i:Int)+1=(L.length:Int):=by omega
  have hend2:(L.length:Int)≤(s.i:Int)+1:=by omega
  have hend3:decide ((L.length:Int)≤(s.i:Int)+1)=true:=zPq hend2
  have HE:=zPf (show zEV ere L s= .no 40 s.i by unfold zEV;rw[if_pos hend])
  clear hv hend HS0 hend' hend2
  go_enter Tryz.func190,Tryz.ntmps190
  go_wp2_with fail
  refine(zA4 HR.out 40 s.i rfl rfl).mono ?_;rintro e wf ⟨rfl,hnt⟩
  have HNT:=zPf hnt
  clear hnt
  go_wp2_with fail
  go_ret
  exact zCl.no HE.out (zAr.refl _ _ _) HNT.out (by decide)
 have hi1:s.i+1<L.length:=by omega
 have hi1':(s.i:Int)+1<(L.length:Int):=by omega
 have hend3:decide ((L.length:Int)≤(s.i:Int)+1)=false:=zPr (by omega)
 have hn1:((s.i:Int)+1).toNat=s.i+1:=by omega
 have cb:=hv.m.b (s.i+1) hi1
 have cp:=hv.m.p (s.i+1) hi1
 have hu:=hv.m.u (s.i+1) hi1
 have HS1:=zPf (show zEV ere L s=_ by unfold zEV;rw[if_neg hend])
 generalize zAH L (s.i+1)=m at cb cp hu HS1
 obtain⟨c,pl⟩:=m
 simp only at cb cp hu
 clear hv HS0 hend
 cases pl with
 |true=>
  have HE:=zPf (show zEV ere L s= .no 40 s.i by rw[HS1.out,if_pos rfl])
  clear HS1
  go_enter Tryz.func190,Tryz.ntmps190
  go_wp2_with fail
  refine(zA4 HR.out 40 s.i rfl rfl).mono ?_;rintro e wf ⟨rfl,hnt⟩
  have HNT:=zPf hnt
  clear hnt
  go_wp2_with fail
  go_ret
  exact zCl.no HE.out (zAr.refl _ _ _) HNT.out (by decide)
 |false=>
  have HS:=zPf (show zEV ere L s=_ by rw[HS1.out,if_neg (by simp)])
  clear HS1
  have HM:=zPf (show True from trivial)
  cases ere with
  |true=>
   go_enter Tryz.func190,Tryz.ntmps190
   have hi2:s.i+2≤L.length:=by omega
   have hr2:=HR.out.setAt (j:=s.i+2) hi2
   have hb2:=(zAr.refl rb ev.ownBlock w).store 2 (.int .i64 ((s.i+2:Nat):Int))
   rw[Int.natCast_add,show((2:Nat):Int)=2 from rfl]at hr2 hb2
   have HR2:=zPf hr2
   have HB2:=zPf hb2
   go_upto_region 10 with fail
   clear hr2 hb2 c0 c1 c2 cb cp f2 rbl mbl
   revert HR2 HB2
   generalize w.setCell ⟨rb,2,none⟩ (.int .i64 ((s.i:Int)+2))=w2
   intro HR2 HB2
   by_cases h110:c=110
   ·have HE:=zPf (show zEV true L s= .ok [zCe 10] ⟨s.i+2,s.ended⟩by rw[HS.out,if_pos h110])
    subst h110
    go_wp2_with fail
    refine(zCo (b:=10) (by decide)).mono ?_;rintro e ws ⟨⟨v,rfl,hv⟩,hb⟩
    have HV:=zPf hv
    have HR9:=zPf (HR2.out.below hb)
    have HB9:=zPf (HB2.out.below hb)
    clear hv hb
    go_wp2_with fail
    go_ret
    exact⟨HB9.out,by rw[HE.out];exact⟨_,ev,rfl,HR9.out,zAo.refl _ _,HV.out.mono HB2.out.size⟩⟩
   have h110':((c:Int)==110)=false:=zPl.2 (by omega)
   have HS2:=zPf (show zEV true L s=_ by rw[HS.out,if_neg h110])
   clear HS h110
   obtain⟨ow,how⟩: ∃b,(zLc true).contains c=b:=⟨_,rfl⟩
   rw[how]at HS2
   have HOW:=zPf how
   clear how
   go_wp2_with fail
   refine(zGR _ (by decide) c).mono ?_;rintro e w3 ⟨rfl,rfl⟩
   rw[show(zAW ⟨#[46,91,93,40,41,42,43,63,123,125,124,94,36,92,47]⟩).contains c=ow from(zOH c hu).trans HOW.out]
   cases ow with
   |true=>
    have HE:=zPf (show zEV true L s= .ok [zCe c] ⟨s.i+2,s.ended⟩by rw[HS2.out,if_pos rfl])
    go_wp2_with fail
    refine(zCo (b:=c) hu).mono ?_;rintro e ws ⟨⟨v,rfl,hv⟩,hb⟩
    have HV:=zPf hv
    have HR9:=zPf (HR2.out.below hb)
    have HB9:=zPf (HB2.out.below hb)
    clear hv hb
    go_wp2_with fail
    go_ret
    exact⟨HB9.out,by rw[HE.out];exact⟨_,ev,rfl,HR9.out,zAo.refl _ _,HV.out.mono HB2.out.size⟩⟩
   |false=>
    have c0:=HR2.out.c0
    have rbl:=HR2.out.lt
    have HE:=zPf (show zEV true L s= .no 40 s.i by rw[HS2.out,if_neg (by decide),if_neg (by simp)])
    go_wp2_with fail
    refine(zA4 HR2.out 40 s.i rfl rfl).mono ?_;rintro e wf ⟨rfl,hnt⟩
    have HNT:=zPf hnt
    clear hnt
    go_wp2_with fail
    go_ret
    exact zCl.no HE.out HB2.out HNT.out (by decide)
  |false=>
   go_enter Tryz.func190,Tryz.ntmps190
   have hi2:s.i+2≤L.length:=by omega
   have hr2:=HR.out.setAt (j:=s.i+2) hi2
   have hb2:=(zAr.refl rb ev.ownBlock w).store 2 (.int .i64 ((s.i+2:Nat):Int))
   rw[Int.natCast_add,show((2:Nat):Int)=2 from rfl]at hr2 hb2
   have HR2:=zPf hr2
   have HB2:=zPf hb2
   go_upto_region 10 with fail
   clear hr2 hb2 c0 c1 c2 cb cp f2 rbl mbl
   revert HR2 HB2
   generalize w.setCell ⟨rb,2,none⟩ (.int .i64 ((s.i:Int)+2))=w2
   intro HR2 HB2
   by_cases h110:c=110
   ·have HE:=zPf (show zEV false L s= .ok [zCe 10] ⟨s.i+2,s.ended⟩by rw[HS.out,if_pos h110])
    subst h110
    go_wp2_with fail
    refine(zCo (b:=10) (by decide)).mono ?_;rintro e ws ⟨⟨v,rfl,hv⟩,hb⟩
    have HV:=zPf hv
    have HR9:=zPf (HR2.out.below hb)
    have HB9:=zPf (HB2.out.below hb)
    clear hv hb
    go_wp2_with fail
    go_ret
    exact⟨HB9.out,by rw[HE.out];exact⟨_,ev,rfl,HR9.out,zAo.refl _ _,HV.out.mono HB2.out.size⟩⟩
   have h110':((c:Int)==110)=false:=zPl.2 (by omega)
   have HS2:=zPf (show zEV false L s=_ by rw[HS.out,if_neg h110])
   clear HS h110
   obtain⟨ow,how⟩: ∃b,(zLc false).contains c=b:=⟨_,rfl⟩
   rw[how]at HS2
   have HOW:=zPf how
   clear how
   go_wp2_with fail
   refine(zGR _ (by decide) c).mono ?_;rintro e w3 ⟨rfl,rfl⟩
   rw[show(zAW ⟨#[46,91,93,42,94,36,92,47]⟩).contains c=ow from HOW.out]
   cases ow with
   |true=>
    have HE:=zPf (show zEV false L s= .ok [zCe c] ⟨s.i+2,s.ended⟩by rw[HS2.out,if_pos rfl])
    go_wp2_with fail
    refine(zCo (b:=c) hu).mono ?_;rintro e ws ⟨⟨v,rfl,hv⟩,hb⟩
    have HV:=zPf hv
    have HR9:=zPf (HR2.out.below hb)
    have HB9:=zPf (HB2.out.below hb)
    clear hv hb
    go_wp2_with fail
    go_ret
    exact⟨HB9.out,by rw[HE.out];exact⟨_,ev,rfl,HR9.out,zAo.refl _ _,HV.out.mono HB2.out.size⟩⟩
   |false=>
    have c0:=HR2.out.c0
    have rbl:=HR2.out.lt
    have HS3:=zPf (show zEV false L s=_ by rw[HS2.out,if_neg (by decide)])
    clear HS2
    by_cases h49:c<49
    ·have e1:decide ((49:Int)≤(c:Int))=false:=zPr (by omega)
     have HE:=zPf (show zEV false L s= .no 40 s.i by rw[HS3.out,if_neg (by simp;omega)])
     clear h49
     go_wp2_with fail
     refine(zA4 HR2.out 40 s.i rfl rfl).mono ?_;rintro e wf ⟨rfl,hnt⟩
     have HNT:=zPf hnt
     clear hnt
     go_wp2_with fail
     go_ret
     exact zCl.no HE.out HB2.out HNT.out (by decide)
    by_cases h57:57<c
    ·have e1:decide ((49:Int)≤(c:Int))=true:=zPq (by omega)
     have e2:decide ((c:Int)≤57)=false:=zPr (by omega)
     have HE:=zPf (show zEV false L s= .no 40 s.i by rw[HS3.out,if_neg (by simp;omega)])
     clear h49 h57
     go_wp2_with fail
     refine(zA4 HR2.out 40 s.i rfl rfl).mono ?_;rintro e wf ⟨rfl,hnt⟩
     have HNT:=zPf hnt
     clear hnt
     go_wp2_with fail
     go_ret
     exact zCl.no HE.out HB2.out HNT.out (by decide)
    obtain⟨d,hd⟩: ∃d,c=49+d:=⟨c - 49,by omega⟩
    subst hd
    have HS4:=zPf (show zEV false L s=if s.ended.length<d+1 then .no 44 s.i else if !s.ended.getD d false then .no 44 s.i else .ok [zF1 (d+1)] ⟨s.i+2,s.ended⟩by
     rw[HS3.out,if_pos (by simp;omega),show 49+d - 48=d+1 by omega,Nat.add_sub_cancel])
    have e1:decide ((49:Int)≤((49+d:Nat):Int))=true:=zPq (by omega)
    have e2:decide (((49+d:Nat):Int)≤57)=true:=zPq (by omega)
    have e3:((49+d:Nat):Int) - 48=(d:Int)+1:=by omega
    have hd9:d≤8:=by omega
    generalize hcc:49+d=c at e1 e2 e3 ⊢
    clear HS3 h49 h57 hu hcc h110' HOW HM
    have c3:=HR2.out.c3
    by_cases hgr:s.ended.length<d+1
    ·have e4:(s.ended.length:Int)<(d:Int)+1:=by omega
     have HE:=zPf (show zEV false L s= .no 44 s.i by rw[HS4.out,if_pos hgr])
     clear hgr
     go_wp2_with fail
     refine(zA4 HR2.out 44 s.i rfl rfl).mono ?_;rintro e wf ⟨rfl,hnt⟩
     have HNT:=zPf hnt
     clear hnt
     go_wp2_with fail
     go_ret
     exact zCl.no HE.out HB2.out HNT.out (by decide)
    ·have e4: ¬(s.ended.length:Int)<(d:Int)+1:=by omega
     have e5:(d:Int)<(s.ended.length:Int):=by omega
     obtain⟨g,cp,hev,hg1,hg2⟩:=HR2.out.row (by show 0<s.ended.length;omega)
     have c4:=HR2.out.c4
     rw[hev]at c4
     have cg:w2.cell? ⟨g,d,none⟩=some (.bool (s.ended.getD d false)):=by
      rw[zP4 (hev▸HR2.out.own) _ (by show d<s.ended.length*1;omega)]
      simp[List.getD_eq_getElem?_getD,show d<s.ended.length by omega]
     obtain⟨en,hen⟩: ∃b,s.ended.getD d false=b:=⟨_,rfl⟩
     rw[hen]at cg
     have HS5:=zPf (show zEV false L s=if !en then .no 44 s.i else .ok [zF1 (d+1)] ⟨s.i+2,s.ended⟩by rw[HS4.out,if_neg hgr,hen])
     have hel:s.ended.length≤255:=HR2.out.el
     clear hgr hen hev HS4
     simp only at c3 c4
     cases en with
     |false=>
      have HE:=zPf (show zEV false L s= .no 44 s.i from HS5.out)
      go_wp2_with fail
      refine(zA4 HR2.out 44 s.i rfl rfl).mono ?_;rintro e wf ⟨rfl,hnt⟩
      have HNT:=zPf hnt
      clear hnt
      go_wp2_with fail
      go_ret
      exact zCl.no HE.out HB2.out HNT.out (by decide)
     |true=>
      have HE:=zPf (show zEV false L s= .ok [zF1 (d+1)] ⟨s.i+2,s.ended⟩from HS5.out)
      have HL:=zPf (Nds.lit w2 w.heap.size (zF1 (d+1)) HB2.out.size)
      have HR9:=zPf (HR2.out.alloc (.cells (zAO (zF1 (d+1))) 78))
      have HB9:=zPf (HB2.out.alloc (.cells (zAO (zF1 (d+1))) 78))
      have hx:zF1 (d+1)=⟨8,Cls.zero,(d:Int)+1,0,0,0⟩:=by rw[zF1,Int.natCast_add,show((1:Nat):Int)=1 from rfl]
      rw[hx]at HL HR9 HB9
      have HX:=zPf hx
      clear hx
      go_wp2_with fail
      go_ret
      exact⟨HB9.out,by rw[HE.out];exact⟨_,ev,rfl,HR9.out,zAo.refl _ _,by rw[HX.out];exact HL.out⟩⟩
end
end
end Go.Proofs.YtfjbnpdffillbaaGreatDoor
