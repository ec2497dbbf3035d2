/- Parts: Bc Ib Bh Bf Ic. -/
import Derived.Test.YtfjbnpdffillbaaGreatDoorQ6
import Derived.Deep.LoopGhost
import Derived.Deep.DeepCutAuto
namespace Go.Proofs.YtfjbnpdffillbaaGreatDoor
open Go.RowKit
def fB (n i:Nat):List Value:=[.int .u8 ((31*(n:Int)+7*(i:Int)+3) % 256)]
theorem st_fB (w:World) (g k n i:Nat):stAll w g k (fB n i)=(w.setCell ⟨g,k,none⟩ (.int .u8 ((31*(n:Int)+7*(i:Int)+3) % 256))):=rfl
theorem fB_len (n i:Nat):(fB n i).length=1:=rfl
theorem fB_one (n i:Nat): ∀u∈fB n i,u.oneCell'=true:=by
 intro u hu
 simp only[fB,List.mem_cons,List.not_mem_nil,or_false]at hu
 rcases hu with rfl|rfl|rfl|rfl|rfl|rfl|rfl|rfl|rfl<;>rfl
theorem elSB:ElT Tryz.prog 30 22 1 24 (.slice none 0 0):=⟨Tryz.underlying30,by kernel_rfl,rfl,by decide⟩
section
variable {w:World} {base:Nat} {vs:List Value} {ns:List Nat} {X:Nat→List Value} {gb:Nat} {bv:Value}
end
end Go.Proofs.YtfjbnpdffillbaaGreatDoor
namespace Go.Proofs.YtfjbnpdffillbaaGreatDoor
open Go.RowKit
abbrev BgBM (w:World) (base:Nat) (vs:List Value) (ns:List Nat) (X:Nat→List Value) (gb:Nat) (bv:Value):Prop:=BglM w base 5 22 1 vs ns X gb 0 bv
section
variable {w:World} {base:Nat} {vs:List Value} {ns:List Nat} {X:Nat→List Value} {gb:Nat} {bv:Value}
set_option maxRecDepth 100000 in
set_option maxHeartbeats 6400000 in
theorem apartBytesM {ob:Option Addr} {cb:Nat} (hb0:base≤w.heap.size) (hm:vs.length≤400) (hn: ∀(i n:Nat),ns[i]?=some n→n≤4294967296) (hB:BgBM w base vs ns X gb (.slice ob vs.length cb)):
  Calls Tryz.prog 59 #[.pointer (some ⟨gb,0,none⟩)] w fun e w'=>e= .returned (.bool true)∧Kept w w' (Blk vs)∧BgBM w' base vs ns (fun i=>Mc fB i (ns.getD i 0)) gb (.slice ob vs.length cb):=by
 have HB:=Lib.hid hB
 have HN:=Lib.hid hn
 clear hB hn
 go_enter Tryz.func59,Tryz.ntmps59
 go_wp2_with fail
 go_loopg [3] vs.length (fun k iv wr=> ∃(d:Nat) (Y:Nat→List Value),iv= .int .i64 (d:Nat)∧k=vs.length - d∧d≤vs.length∧BgBM wr base vs ns Y gb (.slice ob vs.length cb)∧(∀j,j<d→Y j=Mc fB j (ns.getD j 0))∧Kept w wr (Blk vs))
 case atStart=>exact⟨0,X,rfl,by omega,by omega,HB.out,fun j hj=>by omega,Kept.refl _ _⟩
 case round=>
  obtain⟨d,Y,rfl,hg,hd,hb,hy,hk⟩:=hrel
  have HG:=Lib.hid hg
  have HBY:=Lib.hid hb
  have HY:=Lib.hid hy
  have HK:=Lib.hid hk
  clear hg hb hy hk
  have c0:=HBY.out.c
  have cl:=HBY.out.cl
  by_cases hlt:d<vs.length
  ·have hlt':(d:Int)<(vs.length:Int):=by omega
   obtain⟨v,hv⟩: ∃v,vs[d]?=some v:=⟨_,List.getElem?_eq_getElem hlt⟩
   obtain⟨n,hnn⟩: ∃n,ns[d]?=some n:=⟨_,List.getElem?_eq_getElem (by rw[HBY.out.len];exact hlt)⟩
   obtain⟨o,cv,rfl⟩:=(HBY.out.a d v n hv hnn).form
   obtain⟨gl,rfl,hgl,hcl⟩:=HBY.out.rows hlt
   have hc:=hcl d _ hv
   have HV:=Lib.hid hv
   have HNN:=Lib.hid hnn
   have hnb:=HN.out d n hnn
   clear hv hnn hcl
   go_wp2_with fail
   obtain⟨wo,rfl⟩: ∃wo:World,wo=wr:=⟨_,rfl⟩
   go_loopg [4] n (fun k jv wr=> ∃(e:Nat) (Y:Nat→List Value),jv= .int .i64 (e:Nat)∧k=n - e∧e≤n∧BgBM wr base vs ns Y gb (.slice (some ⟨gl,0,none⟩) vs.length cb)∧(∀j,j<d→Y j=Mc fB j (ns.getD j 0))∧(Y d).take (e*1)=Mc fB d e∧Kept w wr (Blk vs))
   case atStart=>exact⟨0,Y,rfl,by omega,by omega,HBY.out,HY.out,by simp[Mc],HK.out⟩
   case round=>
    clear c0 cl hgl hc HBY HY HK
    obtain⟨e,Y2,rfl,hg,he,hb,hy,ht,hk⟩:=hrel
    have HG2:=Lib.hid hg
    have HBY:=Lib.hid hb
    have HY:=Lib.hid hy
    have HT:=Lib.hid ht
    have HK:=Lib.hid hk
    have c0:=hb.c
    have cl:=hb.cl
    obtain⟨gl',hgl',hgl,hcl⟩:=hb.rows hlt
    cases hgl'
    have hc:=hcl d _ HV.out
    have hr:=hb.a d _ n HV.out HNN.out
    clear hg hb hy ht hk hcl
    by_cases hle:e<n
    ·have hle':(e:Int)<(n:Int):=by omega
     obtain⟨_,g,rfl,hgg,hcc,hfz⟩:=hr.some (by omega)
     obtain⟨z0,_,y0⟩:=hcc (e) (by omega)
     have zf0:=hfz (e) (by omega)
     clear hr hcc hfz
     have hlen:(Y2 d).length=n*1:=(HBY.out.a d _ n HV.out HNN.out).len
     have HL:=Lib.hid hlen
     clear hlen
     go_wp2_with fail
     have hp:=HBY.out.put HV.out HNN.out (e) (fB d e)
     rw[st_fB]at hp
     have HP:=Lib.hid hp
     clear hp
     go_roundg (n - (e+1))
     case measure=>have:=HG2.out;omega
     case rel=>
      refine⟨e+1,_,by go_num,rfl,by omega,HP.out.1,fun j hj=>?_,?_,(HK.out.trans HP.out.2 fun _ _ h=>h)⟩
      ·rw[if_neg (by omega)];exact HY.out j hj
      ·rw[if_pos rfl]
       exact fill_step HL.out hle HT.out (by omega) rfl
    ·have hle': ¬(e:Int)<(n:Int):=by omega
     clear hr
     go_wp2_with fail
     go_roundg (vs.length - (d+1))
     case measure=>have:=HG.out;omega
     case rel=>
      refine⟨d+1,Y2,by go_num,rfl,by omega,HBY.out,fun j hj=>?_,HK.out⟩
      by_cases hjd:j<d
      ·exact HY.out j hjd
      ·obtain rfl:j=d:=by omega
       have h1:=HT.out
       obtain rfl:e=n:=by omega
       rw[List.take_of_length_le (by rw[(HBY.out.a j _ e HV.out HNN.out).len];exact Nat.le_refl _)]at h1
       rw[h1,List.getD_eq_getElem?_getD,HNN.out];rfl
  ·have hlt': ¬(d:Int)<(vs.length:Int):=by omega
   obtain rfl:d=vs.length:=by omega
   have hX:BgBM wr base vs ns (fun i=>Mc fB i (ns.getD i 0)) gb (.slice ob vs.length cb):=by
    have b:=HBY.out
    exact⟨b.len,fun i v n hv hn=>by have:=b.a i v n hv hn;rw[HY.out i (List.getElem?_eq_some_iff.1 hv).1]at this;exact this,b.ap,b.r,b.ra,b.c,b.cl,b.ca,b.rc⟩
   have HX:=Lib.hid hX
   have hb1:base≤wr.heap.size:=Nat.le_trans hb0 HK.out.size
   clear hX HB HBY HY hd
   go_wp2_with fail
   obtain⟨w1,rfl⟩: ∃w1:World,w1=wr:=⟨_,rfl⟩
   obtain⟨tag0,hG0⟩:=GrM.start HX.out
   have HG0:=Lib.hid hG0
   clear hG0
   go_loopg [5,6,7] vs.length (fun k ov lv iv wr=> ∃(d:Nat) (tag:Nat→Nat) (os ls:List Value),iv= .int .i64 (d:Nat)∧k=vs.length - d∧os.length=d∧ls.length=d∧GrM w1 wr base 5 22 1 vs ns fB gb 0 (.slice ob vs.length cb) tag os ls ov lv)
   case atStart=>exact⟨0,tag0,[],[],rfl,by omega,rfl,rfl,HG0.out⟩
   case round=>
    clear HG0 c0 cl
    obtain⟨d,tag,os,ls,rfl,hg,hos,hls,hG⟩:=hrel
    have HG2:=Lib.hid hg
    have HGr:=Lib.hid hG
    have HOS:=Lib.hid hos
    have HLS:=Lib.hid hls
    have c0:=hG.g.c
    have cl:=hG.g.cl
    have hdm:d≤vs.length:=by rw[←hos];exact hG.ol
    have hbr:base≤wr.heap.size:=Nat.le_trans hb1 hG.kp.size
    clear hg hG hos hls
    by_cases hlt:d<vs.length
    ·have hlt':(d:Int)<(vs.length:Int):=by omega
     obtain⟨v,hv⟩: ∃v,vs[d]?=some v:=⟨_,List.getElem?_eq_getElem hlt⟩
     obtain⟨n,hnn⟩: ∃n,ns[d]?=some n:=⟨_,List.getElem?_eq_getElem (by rw[HGr.out.g.len];exact hlt)⟩
     have hnd:ns.getD d 0=n:=by rw[List.getD_eq_getElem?_getD,hnn];rfl
     have hrow:=HGr.out.g.a d v n hv hnn
     simp only[hnd]at hrow
     obtain⟨o,cv,rfl⟩:=hrow.form
     have HR0:=Lib.hid hrow
     have HT0:=Lib.hid (HGr.out.tv d _ hv)
     obtain⟨gl,rfl,hgl,hcl⟩:=HGr.out.g.rows hlt
     have hc:=hcl d _ hv
     have HV:=Lib.hid hv
     have HNN:=Lib.hid hnn
     have HND:=Lib.hid hnd
     have hnb:=HN.out d n hnn
     clear hv hnn hnd hcl hrow
     go_wp2_with fail
     obtain⟨wo,rfl⟩: ∃wo:World,wo=wr:=⟨_,rfl⟩
     go_loopg [5,8,9] 70 (fun k ov l jv wr=> ∃(e:Nat) (tag:Nat→Nat) (os:List Value),jv= .int .i64 (e:Nat)∧k=n+70 - e∧n≤e∧e≤n+70∧(e=n→os.length=d)∧(n<e→os.length=d+1)∧GrM w1 wr base 5 22 1 vs ns fB gb 0 (.slice (some ⟨gl,0,none⟩) vs.length cb) tag os ls ov u6∧OwnM wr base 5 1 l e (Mc fB d e)∧Tg tag d l)
     case atStart=>exact⟨n,tag,os,rfl,by omega,by omega,by omega,fun _=>HOS.out,fun h=>by omega,HGr.out,HR0.out,HT0.out⟩
     case round=>
      clear c0 cl hgl hc HGr HR0 HT0 hbr
      obtain⟨e,tag,os,rfl,hg,hne,hen,hos1,hos2,hG,hl,ht⟩:=hrel
      have HG3:=Lib.hid hg
      have HGr:=Lib.hid hG
      have HOS1:=Lib.hid hos1
      have HOS2:=Lib.hid hos2
      have HL:=Lib.hid hl
      have HT:=Lib.hid ht
      have c0:=hG.g.c
      have cl:=hG.g.cl
      have hbr:base≤wr.heap.size:=Nat.le_trans hb1 hG.kp.size
      obtain⟨gl',hgl',hgl,hcl⟩:=hG.g.rows hlt
      cases hgl'
      have hc:=hcl d _ HV.out
      clear hg hG hos1 hos2 hl ht hcl
      by_cases hle:e<n+70
      ·have hle':(e:Int)<(n:Int)+70:=by omega
       go_wp2_with (at_builtin;refine wpList_app2M elU8 rfl _ _ rfl base (n:=e) (m:=1) (xs:=Mc fB d e) (news:=fB d e) rfl (HL.out.alloc _) rfl rfl (newAt wr (fB d e) _) rfl (fB_one d e) (by decide) (by unfold maxLen;omega) (by omega) (by simp;omega) ?_)
       intro v1 w2 hown hgr hbk hold
       obtain⟨tag2,hG2,hT2⟩:=(HGr.out.lt (.cells (fB d e).toArray 5)).grow hlt HLS.out.symm (by rw[HND.out];exact hne) (fun h=>by rw[HND.out];by_cases h2:e=n;(have:=HOS1.out h2;omega);omega) (HL.out.alloc _) HT.out hgr (by simpa using hbk) hold
       have HG4:=Lib.hid hG2
       have HT2:=Lib.hid hT2
       have HL2:=Lib.hid (show OwnM w2 base 5 1 v1 (e+1) (Mc fB d (e+1))from .inl (by rw[Mc_succ];exact hown))
       clear c0 cl hc hgl hown hgr hbk hold hG2 hT2 HGr HL HT hbr
       have c0:=HG4.out.g.c
       have cl:=HG4.out.g.cl
       obtain⟨gl',hgl',hgl,hcl⟩:=HG4.out.g.rows hlt
       cases hgl'
       have hc:=hcl d _ HV.out
       clear hcl
       by_cases hee:e=n
       ·have hee':((e:Int)==(n:Int))=true:=by rw[hee];exact beq_self_eq_true _
        have HE:=Lib.hid hee
        clear hee
        obtain⟨o1,c1,rfl⟩:=HL2.out.form
        go_wp2_with (at_builtin;refine wpList_app2 elSB rfl _ _ rfl w1.heap.size (n:=os.length) (m:=1) (xs:=os) (news:=[.slice o1 (e+1) c1]) rfl (HG4.out.ov.1.alloc _) rfl rfl (newAt w2 [.slice o1 (e+1) c1] _) rfl (by simpa using HL2.out.one) (by unfold maxLen;have:=HOS1.out HE.out;omega) (by have:=HOS1.out HE.out;omega) (by have:=HG4.out.kp.size;simp;omega) ?_)
        intro v2 w3 hown hgr hbk _
        obtain⟨tag3,hG5,hT3,hL3⟩:=(HG4.out.lt (.cells [.slice o1 (e+1) c1].toArray 22)).one hlt (HOS1.out HE.out).symm (by rw[HND.out,←HE.out];exact HL2.out.alloc _) HT2.out hgr (by simpa using hbk) hown
        have HG5:=Lib.hid hG5
        have HT3:=Lib.hid hT3
        have HL3:=Lib.hid hL3
        clear hown hgr hbk hG5 hT3 hL3 c0 cl hgl hc
        go_wp2_with fail
        go_roundg (n+70 - (e+1))
        case measure=>have:=HG3.out;omega
        case rel=>exact⟨e+1,tag3,os++[.slice o1 (e+1) c1],by go_num,rfl,by omega,by omega,fun h=>by have:=HE.out;omega,fun _=>by rw[List.length_append,HOS1.out HE.out];rfl,HG5.out,by rw[HND.out,←HE.out]at HL3;exact HL3.out,HT3.out⟩
       ·have hee':((e:Int)==(n:Int))=false:=beq_eq_false_iff_ne.2 (by omega)
        have HE:=Lib.hid hee
        clear hee
        go_wp2_with fail
        go_roundg (n+70 - (e+1))
        case measure=>have:=HG3.out;omega
        case rel=>exact⟨e+1,tag2,os,by go_num,rfl,by omega,by omega,fun h=>by omega,fun _=>HOS2.out (by have:=HE.out;omega),HG4.out,HL2.out,HT2.out⟩
      ·have hle': ¬(e:Int)<(n:Int)+70:=by omega
       obtain rfl:e=n+70:=by omega
       obtain⟨o1,c1,rfl⟩:=HL.out.form
       go_wp2_with (at_builtin;refine wpList_app2 elSB rfl _ _ rfl w1.heap.size (n:=ls.length) (m:=1) (xs:=ls) (news:=[.slice o1 (n+70) c1]) rfl (HGr.out.lv.1.alloc _) rfl rfl (newAt wr [.slice o1 (n+70) c1] _) rfl (by simpa using HL.out.one) (by unfold maxLen;have:=HLS.out;omega) (by have:=HLS.out;omega) (by have:=HGr.out.kp.size;simp;omega) ?_)
       intro v2 w3 hown hgr hbk _
       obtain⟨tag3,hG5⟩:=(HGr.out.lt (.cells [.slice o1 (n+70) c1].toArray 22)).many hlt HLS.out.symm (by have:=HOS2.out (by omega);omega) (by rw[HND.out];exact HL.out.alloc _) HT.out hgr (by simpa using hbk) hown
       have HG5:=Lib.hid hG5
       clear hown hgr hbk hG5 c0 cl hgl hc
       go_wp2_with fail
       go_roundg (vs.length - (d+1))
       case measure=>have:=HG2.out;omega
       case rel=>exact⟨d+1,tag3,os,ls++[.slice o1 (n+70) c1],by go_num,rfl,HOS2.out (by omega),by rw[List.length_append,HLS.out];rfl,HG5.out⟩
    ·have hlt': ¬(d:Int)<(vs.length:Int):=by omega
     obtain rfl:d=vs.length:=by omega
     obtain⟨w2,rfl⟩: ∃w2:World,w2=wr:=⟨_,rfl⟩
     have hlv:=HGr.out.lv.1
     have hov:=HGr.out.ov.1
     rw[HLS.out]at hlv
     rw[HOS.out]at hov
     obtain⟨oL,cL,rfl⟩:=own_form hlv
     obtain⟨oO,cO,rfl⟩:=own_form hov
     have HLV:=Lib.hid hlv
     have HOV:=Lib.hid hov
     clear hlv hov
     go_wp2_with fail
     go_loopg [10] vs.length (fun k iv wr=> ∃d:Nat,iv= .int .i64 (d:Nat)∧k=vs.length - d∧d≤vs.length∧Below w2.heap.size w2 wr)
     case atStart=>exact⟨0,rfl,by omega,by omega,Below.refl _ _⟩
     case round=>
      obtain⟨d,rfl,hg,hd,hbw⟩:=hrel
      have HG6:=Lib.hid hg
      have HBW:=Lib.hid hbw
      have c0:=(hbw.cell (p:=⟨gb,0,none⟩) HGr.out.g.cl).trans HGr.out.g.c
      have cl:=Nat.lt_of_lt_of_le HGr.out.g.cl hbw.size
      clear hg hbw
      by_cases hlt:d<vs.length
      ·have hlt':(d:Int)<(vs.length:Int):=by omega
       obtain⟨v,hv⟩: ∃v,vs[d]?=some v:=⟨_,List.getElem?_eq_getElem hlt⟩
       obtain⟨n,hnn⟩: ∃n,ns[d]?=some n:=⟨_,List.getElem?_eq_getElem (by rw[HGr.out.g.len];exact hlt)⟩
       have hnd:ns.getD d 0=n:=by rw[List.getD_eq_getElem?_getD,hnn];rfl
       have hrow:=HGr.out.g.a d v n hv hnn
       simp only[hnd]at hrow
       obtain⟨lv,hlv⟩: ∃lv,ls[d]?=some lv:=⟨_,List.getElem?_eq_getElem (by rw[HLS.out];exact hlt)⟩
       obtain⟨ov,hov⟩: ∃ov,os[d]?=some ov:=⟨_,List.getElem?_eq_getElem (by rw[HOS.out];exact hlt)⟩
       have hrl:=(HGr.out.l d lv n hlv hnn).1
       have hro:=(HGr.out.o d ov n hov hnn).1
       obtain⟨o1,c1,rfl⟩:=hrow.form
       obtain⟨o2,c2,rfl⟩:=hrl.form
       obtain⟨o3,c3,rfl⟩:=hro.form
       obtain⟨gl,rfl,hgl,hcl⟩:=HGr.out.g.rows hlt
       obtain⟨gL,rfl,hgL,hcL⟩:=row_cell HLV.out hlt hlv
       obtain⟨gO,rfl,hgO,hcO⟩:=row_cell HOV.out hlt hov
       have HC0:=Lib.hid (hcl d _ hv)
       have HCL:=Lib.hid hcL
       have HCO:=Lib.hid hcO
       have HGL:=Lib.hid hgl
       have HGLL:=Lib.hid hgL
       have HGO:=Lib.hid hgO
       have hc:=(HBW.out.cell (p:=⟨gl,d,none⟩) HGL.out).trans HC0.out
       have hcL':=(HBW.out.cell (p:=⟨gL,d,none⟩) HGLL.out).trans HCL.out
       have hgl':=Nat.lt_of_lt_of_le hgl HBW.out.size
       have hgL':=Nat.lt_of_lt_of_le hgL HBW.out.size
       have HR1:=Lib.hid hrow
       have HR2:=Lib.hid hrl
       have HR3:=Lib.hid hro
       have hnb:=HN.out d n hnn
       clear hv hnn hnd hcl hrow hrl hro hlv hov hcL hcO hgl hgL hgO
       go_wp2_with fail
       obtain⟨w3,rfl⟩: ∃w3:World,w3=wr:=⟨_,rfl⟩
       go_loopg [11,12,13] (n+70) (fun k jv _ _ wr=> ∃e:Nat,jv= .int .i64 (e:Nat)∧k=n+70 - e∧e≤n+70∧Below w2.heap.size w2 wr)
       case atStart=>exact⟨0,rfl,by omega,by omega,HBW.out⟩
       case round=>
        clear c0 cl hc hcL' hgl' hgL' HBW
        obtain⟨e,rfl,hg,he,hbw⟩:=hrel
        have HG7:=Lib.hid hg
        have HBW:=Lib.hid hbw
        have c0:=(hbw.cell (p:=⟨gb,0,none⟩) HGr.out.g.cl).trans HGr.out.g.c
        have cl:=Nat.lt_of_lt_of_le HGr.out.g.cl hbw.size
        have hc:=(hbw.cell (p:=⟨gl,d,none⟩) HGL.out).trans HC0.out
        have hcL':=(hbw.cell (p:=⟨gL,d,none⟩) HGLL.out).trans HCL.out
        have hgl':=Nat.lt_of_lt_of_le HGL.out hbw.size
        have hgL':=Nat.lt_of_lt_of_le HGLL.out hbw.size
        have hws:=hbw.size
        clear hg hbw
        by_cases hle:e<n+70
        ·have hle':(e:Int)<(n:Int)+70:=by omega
         obtain⟨g2,rfl,hg2,hc2⟩:=mc_cellM fB_len (OwnM.block HR2.out fun b hb=>HBW.out.block b (HR2.out.lt b hb).2) hle
         have z0:=hc2 0 (e) (by decide) (by omega)
         simp only[fB,List.getElem?_cons_zero]at z0
         clear hc2
         by_cases hen:e<n
         ·have hen':(e:Int)<(n:Int):=by omega
          have hne':((e:Int)==(n:Int))=false:=beq_eq_false_iff_ne.2 (by omega)
          obtain⟨g1,rfl,hg1,hc1⟩:=mc_cellM fB_len (OwnM.block HR1.out fun b hb=>HBW.out.block b (HR1.out.lt b hb).2) hen
          have y0:=hc1 0 (e) (by decide) (by omega)
          simp only[fB,List.getElem?_cons_zero]at y0
          clear hc1
          go_wp2_with fail
          go_roundg (n+70 - (e+1))
          case measure=>have:=HG7.out;omega
          case rel=>exact⟨e+1,by go_num,rfl,by omega,HBW.out⟩
         ·have hen': ¬(e:Int)<(n:Int):=by omega
          by_cases hee:e=n
          ·have hne':((e:Int)==(n:Int))=true:=by rw[hee];exact beq_self_eq_true _
           have HE:=Lib.hid hee
           have hlo:(e:Int)<(n:Int)+1:=by omega
           obtain⟨g3,rfl,hg3,hc3⟩:=mc_cellM fB_len (OwnM.block HR3.out fun b hb=>HBW.out.block b (HR3.out.lt b hb).2) (show e<n+1 by omega)
           have y0:=hc3 0 (e) (by decide) (by omega)
           simp only[fB,List.getElem?_cons_zero]at y0
           have hcO':=(HBW.out.cell (p:=⟨gO,d,none⟩) HGO.out).trans HCO.out
           have hgO':=Nat.lt_of_lt_of_le HGO.out hws
           clear hc3 hee
           go_wp2_with fail
           go_roundg (n+70 - (e+1))
           case measure=>have:=HG7.out;omega
           case rel=>exact⟨e+1,by go_num,rfl,by omega,HBW.out⟩
          ·have hne':((e:Int)==(n:Int))=false:=beq_eq_false_iff_ne.2 (by omega)
           clear hee
           go_wp2_with fail
           go_roundg (n+70 - (e+1))
           case measure=>have:=HG7.out;omega
           case rel=>exact⟨e+1,by go_num,rfl,by omega,HBW.out⟩
        ·have hle': ¬(e:Int)<(n:Int)+70:=by omega
         go_wp2_with fail
         go_roundg (vs.length - (d+1))
         case measure=>have:=HG6.out;omega
         case rel=>exact⟨d+1,by go_num,rfl,by omega,HBW.out⟩
      ·have hlt': ¬(d:Int)<(vs.length:Int):=by omega
       go_wp2_with fail
       go_ret
       exact⟨rfl,(HK.out.trans HGr.out.kp fun _ _ h=>h).trans (Kept.of_below HBW.out (fun _=>False) fun j h1 h2=>by omega) fun _ _ h=>h.elim,HGr.out.g.kept (Kept.of_below HBW.out (fun _=>False) fun j h1 h2=>by omega) fun _ h=>h.elim⟩
end
end Go.Proofs.YtfjbnpdffillbaaGreatDoor
namespace Go.Proofs.YtfjbnpdffillbaaGreatDoor
open Go.RowKit
set_option maxRecDepth 100000 in
set_option maxHeartbeats 1600000 in
theorem addBytes_call {w:World} {gb:Nat} {bb bm bn:Value} (h:bagAt w gb bb bm bn) {vs:List Value} (hr:w.ownsRow (gb+1) 22 1 bb vs.length vs) (hl:vs.length<400) (o:Option Addr) (n c:Nat):
  Calls Tryz.prog 30 #[.pointer (some ⟨gb,0,none⟩),.slice o n c] w fun e w'=>e= .returned (.tuple #[])∧ ∃b',bagAt w' gb b' bm bn∧w'.ownsRow (gb+1) 22 1 b' (vs++[Value.slice o n c]).length (vs++[.slice o n c])∧Kept w w' (fun k=>k=gb∨bb.ownBlock=some k)∧(b'.ownBlock=bb.ownBlock∨ ∃k,b'.ownBlock=some k∧w.heap.size≤k):=by
 have c0:=h.cell 0
 rw[show(bagC bb bm bn)[0]?=some bb from rfl]at c0
 have zf:=h.frozen 0
 have gl:=h.lt
 obtain⟨ob,cb,hf⟩:=own_form hr
 subst hf
 have H:=Lib.hid h
 have HR:=Lib.hid hr
 have hl':(vs.length:Int)<400:=by omega
 clear h hr
 go_enter Tryz.func30,Tryz.ntmps30
 go_wp2_with (at_builtin;refine wpList_app2 elSB rfl _ _ rfl (gb+1) (n:=vs.length) (m:=1) (xs:=vs) (news:=[.slice o n c]) rfl (HR.out.alloc _) rfl rfl (newAt w [.slice o n c] _) rfl (by simp[Value.oneCell']) (by unfold maxLen;omega) (by omega) (by simp;omega) ?_)
 intro v1 w1 hown hgr hbk _
 obtain⟨o1,c1,rfl⟩:=own_form hown
 have hne: ∀k,(Value.slice ob vs.length cb).ownBlock=some k→k≠gb:=fun k hk e=>by have:=(HR.out.lt k hk).1;omega
 have hk1:Kept w w1 (fun k=>(Value.slice ob vs.length cb).ownBlock=some k):=(Kept.alloc w _ _).trans (Kept.of_grown hgr) fun _ _ e=>e.symm
 have h1:=H.out.kept hk1 (fun e=>hne _ e rfl)
 have c0:=h1.cell 0
 rw[show(bagC _ _ _)[0]?=some (Value.slice ob vs.length cb)from rfl]at c0
 have zf:=h1.frozen 0
 have gl1:=h1.lt
 have H1:=Lib.hid (h1.setB (.slice o1 (vs.length+1) c1))
 have HK:Hid (Kept w (w1.setCell ⟨gb,0,none⟩ (.slice o1 (vs.length+1) c1)) (fun k=>k=gb∨(Value.slice ob vs.length cb).ownBlock=some k)):=(hk1.mono fun _ _ e=> .inr e).trans (Kept.setCell w1 ⟨gb,0,none⟩ (.slice o1 (vs.length+1) c1)) fun _ _ e=> .inl e
 have HO:=Lib.hid ((Kept.setCell w1 ⟨gb,0,none⟩ (.slice o1 (vs.length+1) c1)).row hown fun k hk e=>by have:=(hown.lt k hk).1;have e':k=gb:=e;omega)
 have HBk:=Lib.hid hbk
 clear hown hgr hbk hk1 h1
 go_wp2_with fail
 go_end0
 refine⟨rfl,_,H1.out,by rw[List.length_append];exact HO.out,HK.out,?_⟩
 rcases HBk.out with h|h
 ·exact .inl h
 ·exact .inr ⟨_,h,by simp⟩
end Go.Proofs.YtfjbnpdffillbaaGreatDoor
namespace Go.Proofs.YtfjbnpdffillbaaGreatDoor
open Go.RowKit
set_option maxRecDepth 100000 in
set_option maxHeartbeats 1600000 in
theorem apartInts_none {w:World} {gb:Nat} (hc:w.cell? ⟨gb,1,none⟩=some (.slice none 0 0)):
  Calls Tryz.prog 60 #[.pointer (some ⟨gb,0,none⟩)] w fun e w'=>e= .returned (.bool true)∧w=w':=by
 go_enter Tryz.func60,Tryz.ntmps60
 go_wp2_with fail
 refine wp_loop_rounds 1 ?_
 rw[rounds_succ]
 go_wp2_with fail
 refine wp_loop_rounds 1 ?_
 rw[rounds_succ]
 go_wp2_with fail
 refine wp_loop_rounds 1 ?_
 rw[rounds_succ]
 go_wp2_with fail
 go_ret
 exact⟨rfl,rfl⟩
set_option maxRecDepth 100000 in
set_option maxHeartbeats 1600000 in
theorem apartBools_none {w:World} {gb:Nat} (hc:w.cell? ⟨gb,2,none⟩=some (.slice none 0 0)):
  Calls Tryz.prog 61 #[.pointer (some ⟨gb,0,none⟩)] w fun e w'=>e= .returned (.bool true)∧w=w':=by
 go_enter Tryz.func61,Tryz.ntmps61
 go_wp2_with fail
 refine wp_loop_rounds 1 ?_
 rw[rounds_succ]
 go_wp2_with fail
 refine wp_loop_rounds 1 ?_
 rw[rounds_succ]
 go_wp2_with fail
 refine wp_loop_rounds 1 ?_
 rw[rounds_succ]
 go_wp2_with fail
 go_ret
 exact⟨rfl,rfl⟩
set_option maxRecDepth 100000 in
set_option maxHeartbeats 1600000 in
theorem apartTexts_none {w:World} {gb:Nat} (hc:w.cell? ⟨gb,3,none⟩=some (.slice none 0 0)):
  Calls Tryz.prog 62 #[.pointer (some ⟨gb,0,none⟩)] w fun e w'=>e= .returned (.bool true)∧w=w':=by
 go_enter Tryz.func62,Tryz.ntmps62
 go_wp2_with fail
 refine wp_loop_rounds 1 ?_
 rw[rounds_succ]
 go_wp2_with fail
 refine wp_loop_rounds 1 ?_
 rw[rounds_succ]
 go_wp2_with fail
 refine wp_loop_rounds 1 ?_
 rw[rounds_succ]
 go_wp2_with fail
 go_ret
 exact⟨rfl,rfl⟩
set_option maxRecDepth 100000 in
set_option maxHeartbeats 1600000 in
theorem apartMarks_none {w:World} {gb:Nat} (hc:w.cell? ⟨gb,4,none⟩=some (.slice none 0 0)):
  Calls Tryz.prog 63 #[.pointer (some ⟨gb,0,none⟩)] w fun e w'=>e= .returned (.bool true)∧w=w':=by
 go_enter Tryz.func63,Tryz.ntmps63
 go_wp2_with fail
 refine wp_loop_rounds 1 ?_
 rw[rounds_succ]
 go_wp2_with fail
 refine wp_loop_rounds 1 ?_
 rw[rounds_succ]
 go_wp2_with fail
 refine wp_loop_rounds 1 ?_
 rw[rounds_succ]
 go_wp2_with fail
 go_ret
 exact⟨rfl,rfl⟩
set_option maxRecDepth 100000 in
set_option maxHeartbeats 1600000 in
theorem apartSpans_none {w:World} {gb:Nat} (hc:w.cell? ⟨gb,5,none⟩=some (.slice none 0 0)):
  Calls Tryz.prog 64 #[.pointer (some ⟨gb,0,none⟩)] w fun e w'=>e= .returned (.bool true)∧w=w':=by
 go_enter Tryz.func64,Tryz.ntmps64
 go_wp2_with fail
 refine wp_loop_rounds 1 ?_
 rw[rounds_succ]
 go_wp2_with fail
 refine wp_loop_rounds 1 ?_
 rw[rounds_succ]
 go_wp2_with fail
 refine wp_loop_rounds 1 ?_
 rw[rounds_succ]
 go_wp2_with fail
 go_ret
 exact⟨rfl,rfl⟩
set_option maxRecDepth 100000 in
set_option maxHeartbeats 1600000 in
theorem apartRuns_none {w:World} {gb:Nat} (hc:w.cell? ⟨gb,6,none⟩=some (.slice none 0 0)):
  Calls Tryz.prog 65 #[.pointer (some ⟨gb,0,none⟩)] w fun e w'=>e= .returned (.bool true)∧w=w':=by
 go_enter Tryz.func65,Tryz.ntmps65
 go_wp2_with fail
 refine wp_loop_rounds 1 ?_
 rw[rounds_succ]
 go_wp2_with fail
 refine wp_loop_rounds 1 ?_
 rw[rounds_succ]
 go_wp2_with fail
 refine wp_loop_rounds 1 ?_
 rw[rounds_succ]
 go_wp2_with fail
 go_ret
 exact⟨rfl,rfl⟩
set_option maxRecDepth 100000 in
set_option maxHeartbeats 1600000 in
theorem apartClasses_none {w:World} {gb:Nat} (hc:w.cell? ⟨gb,7,none⟩=some (.slice none 0 0)):
  Calls Tryz.prog 66 #[.pointer (some ⟨gb,0,none⟩)] w fun e w'=>e= .returned (.bool true)∧w=w':=by
 go_enter Tryz.func66,Tryz.ntmps66
 go_wp2_with fail
 refine wp_loop_rounds 1 ?_
 rw[rounds_succ]
 go_wp2_with fail
 refine wp_loop_rounds 1 ?_
 rw[rounds_succ]
 go_wp2_with fail
 refine wp_loop_rounds 1 ?_
 rw[rounds_succ]
 go_wp2_with fail
 go_ret
 exact⟨rfl,rfl⟩
set_option maxRecDepth 100000 in
set_option maxHeartbeats 1600000 in
theorem apartNodes_none {w:World} {gb:Nat} (hc:w.cell? ⟨gb,8,none⟩=some (.slice none 0 0)):
  Calls Tryz.prog 67 #[.pointer (some ⟨gb,0,none⟩)] w fun e w'=>e= .returned (.bool true)∧w=w':=by
 go_enter Tryz.func67,Tryz.ntmps67
 go_wp2_with fail
 refine wp_loop_rounds 1 ?_
 rw[rounds_succ]
 go_wp2_with fail
 refine wp_loop_rounds 1 ?_
 rw[rounds_succ]
 go_wp2_with fail
 refine wp_loop_rounds 1 ?_
 rw[rounds_succ]
 go_wp2_with fail
 go_ret
 exact⟨rfl,rfl⟩
set_option maxRecDepth 100000 in
set_option maxHeartbeats 1600000 in
theorem apartInstrs_none {w:World} {gb:Nat} (hc:w.cell? ⟨gb,9,none⟩=some (.slice none 0 0)):
  Calls Tryz.prog 68 #[.pointer (some ⟨gb,0,none⟩)] w fun e w'=>e= .returned (.bool true)∧w=w':=by
 go_enter Tryz.func68,Tryz.ntmps68
 go_wp2_with fail
 refine wp_loop_rounds 1 ?_
 rw[rounds_succ]
 go_wp2_with fail
 refine wp_loop_rounds 1 ?_
 rw[rounds_succ]
 go_wp2_with fail
 refine wp_loop_rounds 1 ?_
 rw[rounds_succ]
 go_wp2_with fail
 go_ret
 exact⟨rfl,rfl⟩
set_option maxRecDepth 100000 in
set_option maxHeartbeats 1600000 in
theorem apartFaults_none {w:World} {gb:Nat} (hc:w.cell? ⟨gb,10,none⟩=some (.slice none 0 0)):
  Calls Tryz.prog 69 #[.pointer (some ⟨gb,0,none⟩)] w fun e w'=>e= .returned (.bool true)∧w=w':=by
 go_enter Tryz.func69,Tryz.ntmps69
 go_wp2_with fail
 refine wp_loop_rounds 1 ?_
 rw[rounds_succ]
 go_wp2_with fail
 refine wp_loop_rounds 1 ?_
 rw[rounds_succ]
 go_wp2_with fail
 refine wp_loop_rounds 1 ?_
 rw[rounds_succ]
 go_wp2_with fail
 go_ret
 exact⟨rfl,rfl⟩
set_option maxRecDepth 100000 in
set_option maxHeartbeats 1600000 in
theorem apartNotes_none {w:World} {gb:Nat} (hc:w.cell? ⟨gb,11,none⟩=some (.slice none 0 0)):
  Calls Tryz.prog 70 #[.pointer (some ⟨gb,0,none⟩)] w fun e w'=>e= .returned (.bool true)∧w=w':=by
 go_enter Tryz.func70,Tryz.ntmps70
 go_wp2_with fail
 refine wp_loop_rounds 1 ?_
 rw[rounds_succ]
 go_wp2_with fail
 refine wp_loop_rounds 1 ?_
 rw[rounds_succ]
 go_wp2_with fail
 refine wp_loop_rounds 1 ?_
 rw[rounds_succ]
 go_wp2_with fail
 go_ret
 exact⟨rfl,rfl⟩
set_option maxRecDepth 100000 in
set_option maxHeartbeats 1600000 in
theorem apartParts_none {w:World} {gb:Nat} (hc:w.cell? ⟨gb,12,none⟩=some (.slice none 0 0)):
  Calls Tryz.prog 71 #[.pointer (some ⟨gb,0,none⟩)] w fun e w'=>e= .returned (.bool true)∧w=w':=by
 go_enter Tryz.func71,Tryz.ntmps71
 go_wp2_with fail
 refine wp_loop_rounds 1 ?_
 rw[rounds_succ]
 go_wp2_with fail
 refine wp_loop_rounds 1 ?_
 rw[rounds_succ]
 go_wp2_with fail
 refine wp_loop_rounds 1 ?_
 rw[rounds_succ]
 go_wp2_with fail
 go_ret
 exact⟨rfl,rfl⟩
set_option maxRecDepth 100000 in
set_option maxHeartbeats 1600000 in
theorem apartRows_none {w:World} {gb:Nat} (hc:w.cell? ⟨gb,13,none⟩=some (.slice none 0 0)):
  Calls Tryz.prog 72 #[.pointer (some ⟨gb,0,none⟩)] w fun e w'=>e= .returned (.bool true)∧w=w':=by
 go_enter Tryz.func72,Tryz.ntmps72
 go_wp2_with fail
 refine wp_loop_rounds 1 ?_
 rw[rounds_succ]
 go_wp2_with fail
 refine wp_loop_rounds 1 ?_
 rw[rounds_succ]
 go_wp2_with fail
 refine wp_loop_rounds 1 ?_
 rw[rounds_succ]
 go_wp2_with fail
 go_ret
 exact⟨rfl,rfl⟩
set_option maxRecDepth 100000 in
set_option maxHeartbeats 1600000 in
theorem apartIntss_none {w:World} {gb:Nat} (hc:w.cell? ⟨gb,14,none⟩=some (.slice none 0 0)):
  Calls Tryz.prog 73 #[.pointer (some ⟨gb,0,none⟩)] w fun e w'=>e= .returned (.bool true)∧w=w':=by
 go_enter Tryz.func73,Tryz.ntmps73
 go_wp2_with fail
 refine wp_loop_rounds 1 ?_
 rw[rounds_succ]
 go_wp2_with fail
 refine wp_loop_rounds 1 ?_
 rw[rounds_succ]
 go_wp2_with fail
 refine wp_loop_rounds 1 ?_
 rw[rounds_succ]
 go_wp2_with fail
 go_ret
 exact⟨rfl,rfl⟩
set_option maxRecDepth 100000 in
set_option maxHeartbeats 1600000 in
theorem apartSpanss_none {w:World} {gb:Nat} (hc:w.cell? ⟨gb,15,none⟩=some (.slice none 0 0)):
  Calls Tryz.prog 74 #[.pointer (some ⟨gb,0,none⟩)] w fun e w'=>e= .returned (.bool true)∧w=w':=by
 go_enter Tryz.func74,Tryz.ntmps74
 go_wp2_with fail
 refine wp_loop_rounds 1 ?_
 rw[rounds_succ]
 go_wp2_with fail
 refine wp_loop_rounds 1 ?_
 rw[rounds_succ]
 go_wp2_with fail
 refine wp_loop_rounds 1 ?_
 rw[rounds_succ]
 go_wp2_with fail
 go_ret
 exact⟨rfl,rfl⟩
set_option maxRecDepth 100000 in
set_option maxHeartbeats 1600000 in
theorem apartPieces_none {w:World} {gb:Nat} (hc:w.cell? ⟨gb,16,none⟩=some (.slice none 0 0)):
  Calls Tryz.prog 75 #[.pointer (some ⟨gb,0,none⟩)] w fun e w'=>e= .returned (.bool true)∧w=w':=by
 go_enter Tryz.func75,Tryz.ntmps75
 go_wp2_with fail
 refine wp_loop_rounds 1 ?_
 rw[rounds_succ]
 go_wp2_with fail
 refine wp_loop_rounds 1 ?_
 rw[rounds_succ]
 go_wp2_with fail
 refine wp_loop_rounds 1 ?_
 rw[rounds_succ]
 go_wp2_with fail
 go_ret
 exact⟨rfl,rfl⟩
set_option maxRecDepth 100000 in
set_option maxHeartbeats 1600000 in
theorem apartFiles_none {w:World} {gb:Nat} (hc:w.cell? ⟨gb,17,none⟩=some (.slice none 0 0)):
  Calls Tryz.prog 76 #[.pointer (some ⟨gb,0,none⟩)] w fun e w'=>e= .returned (.bool true)∧w=w':=by
 go_enter Tryz.func76,Tryz.ntmps76
 go_wp2_with fail
 refine wp_loop_rounds 1 ?_
 rw[rounds_succ]
 go_wp2_with fail
 refine wp_loop_rounds 1 ?_
 rw[rounds_succ]
 go_wp2_with fail
 refine wp_loop_rounds 1 ?_
 rw[rounds_succ]
 go_wp2_with fail
 go_ret
 exact⟨rfl,rfl⟩
set_option maxRecDepth 100000 in
set_option maxHeartbeats 1600000 in
theorem apartCmds_none {w:World} {gb:Nat} (hc:w.cell? ⟨gb,18,none⟩=some (.slice none 0 0)):
  Calls Tryz.prog 77 #[.pointer (some ⟨gb,0,none⟩)] w fun e w'=>e= .returned (.bool true)∧w=w':=by
 go_enter Tryz.func77,Tryz.ntmps77
 go_wp2_with fail
 refine wp_loop_rounds 1 ?_
 rw[rounds_succ]
 go_wp2_with fail
 refine wp_loop_rounds 1 ?_
 rw[rounds_succ]
 go_wp2_with fail
 refine wp_loop_rounds 1 ?_
 rw[rounds_succ]
 go_wp2_with fail
 go_ret
 exact⟨rfl,rfl⟩
end Go.Proofs.YtfjbnpdffillbaaGreatDoor
namespace Go.Proofs.YtfjbnpdffillbaaGreatDoor
open Go.RowKit
theorem BglM.not_gb {w:World} {base:Nat} {e es:TypeId} {size:Nat} {vs:List Value} {ns:List Nat} {X:Nat→List Value} {gb fld:Nat} {bv:Value} (h:BglM w base e es size vs ns X gb fld bv): ∀k,Blk vs k→k≠gb:=fun k ⟨i,v,hv,hb⟩ e=>h.ca i v hv (by rw[hb,e])
section
variable {w:World} {base gb:Nat} {vb:List Value} {nb:List Nat} {Xb:Nat→List Value} {bb:Value}
set_option maxRecDepth 100000 in
set_option maxHeartbeats 6400000 in
theorem apartM_call (hb0:base≤w.heap.size) (lb:vb.length≤400) (zb: ∀(i n:Nat),nb[i]?=some n→n≤4294967296) (hA:bagAt w gb bb (.slice none 0 0) (.slice none 0 0)) (h:BgBM w base vb nb Xb gb bb):
  Calls Tryz.prog 22 #[.pointer (some ⟨gb,0,none⟩)] w fun e w'=>e= .returned (.bool true)∧Kept w w' (Blk vb):=by
 obtain⟨ob,cb,hfb⟩:=own_form h.r
 subst hfb
 have ZB:=Lib.hid zb
 have HB:=Lib.hid h
 have HA:=Lib.hid hA
 have hsz:=hb0
 clear h zb hA
 go_enter Tryz.func22,Tryz.ntmps22
 go_wp2_with fail
 refine(apartBytesM hsz lb ZB.out HB.out).mono ?_;rintro e w1 ⟨rfl,hk,hb⟩
 have HA1:=Lib.hid (HA.out.kept hk fun s=>HB.out.not_gb _ s rfl)
 have HK1:=Lib.hid hk
 clear hk hb
 go_wp2_with fail
 refine(apartInts_none (w:=w1) (gb:=gb) (HA1.out.cell 1)).mono ?_;rintro e w9 ⟨rfl,rfl⟩
 go_wp2_with fail
 refine(apartBools_none (w:=w1) (gb:=gb) (HA1.out.cell 2)).mono ?_;rintro e w9 ⟨rfl,rfl⟩
 go_wp2_with fail
 refine(apartTexts_none (w:=w1) (gb:=gb) (HA1.out.cell 3)).mono ?_;rintro e w9 ⟨rfl,rfl⟩
 go_wp2_with fail
 refine(apartMarks_none (w:=w1) (gb:=gb) (HA1.out.cell 4)).mono ?_;rintro e w9 ⟨rfl,rfl⟩
 go_wp2_with fail
 refine(apartSpans_none (w:=w1) (gb:=gb) (HA1.out.cell 5)).mono ?_;rintro e w9 ⟨rfl,rfl⟩
 go_wp2_with fail
 refine(apartRuns_none (w:=w1) (gb:=gb) (HA1.out.cell 6)).mono ?_;rintro e w9 ⟨rfl,rfl⟩
 go_wp2_with fail
 refine(apartClasses_none (w:=w1) (gb:=gb) (HA1.out.cell 7)).mono ?_;rintro e w9 ⟨rfl,rfl⟩
 go_wp2_with fail
 refine(apartNodes_none (w:=w1) (gb:=gb) (HA1.out.cell 8)).mono ?_;rintro e w9 ⟨rfl,rfl⟩
 go_wp2_with fail
 refine(apartInstrs_none (w:=w1) (gb:=gb) (HA1.out.cell 9)).mono ?_;rintro e w9 ⟨rfl,rfl⟩
 go_wp2_with fail
 refine(apartFaults_none (w:=w1) (gb:=gb) (HA1.out.cell 10)).mono ?_;rintro e w9 ⟨rfl,rfl⟩
 go_wp2_with fail
 refine(apartNotes_none (w:=w1) (gb:=gb) (HA1.out.cell 11)).mono ?_;rintro e w9 ⟨rfl,rfl⟩
 go_wp2_with fail
 refine(apartParts_none (w:=w1) (gb:=gb) (HA1.out.cell 12)).mono ?_;rintro e w9 ⟨rfl,rfl⟩
 go_wp2_with fail
 refine(apartRows_none (w:=w1) (gb:=gb) (HA1.out.cell 13)).mono ?_;rintro e w9 ⟨rfl,rfl⟩
 go_wp2_with fail
 refine(apartIntss_none (w:=w1) (gb:=gb) (HA1.out.cell 14)).mono ?_;rintro e w9 ⟨rfl,rfl⟩
 go_wp2_with fail
 refine(apartSpanss_none (w:=w1) (gb:=gb) (HA1.out.cell 15)).mono ?_;rintro e w9 ⟨rfl,rfl⟩
 go_wp2_with fail
 refine(apartPieces_none (w:=w1) (gb:=gb) (HA1.out.cell 16)).mono ?_;rintro e w9 ⟨rfl,rfl⟩
 go_wp2_with fail
 refine(apartFiles_none (w:=w1) (gb:=gb) (HA1.out.cell 17)).mono ?_;rintro e w9 ⟨rfl,rfl⟩
 go_wp2_with fail
 refine(apartCmds_none (w:=w1) (gb:=gb) (HA1.out.cell 18)).mono ?_;rintro e w9 ⟨rfl,rfl⟩
 go_wp2_with fail
 go_ret
 exact⟨rfl,HK1.out⟩
end
end Go.Proofs.YtfjbnpdffillbaaGreatDoor
