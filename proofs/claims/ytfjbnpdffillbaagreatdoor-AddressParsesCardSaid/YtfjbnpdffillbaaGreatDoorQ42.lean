/- Parts: Be Bi Je Jf Ji. -/
import Derived.Test.YtfjbnpdffillbaaGreatDoorQ38
import Derived.Test.YtfjbnpdffillbaaGreatDoorQ5
import Derived.Test.YtfjbnpdffillbaaGreatDoorQ6
import Derived.Test.YtfjbnpdffillbaaGreatDoorQ9
import Derived.Test.YtfjbnpdffillbaaGreatDoorQ43
import Derived.Deep.LoopGhost
import Derived.Deep.DeepCutAuto
set_option maxHeartbeats 6400000
set_option maxRecDepth 100000
namespace Go.Proofs.YtfjbnpdffillbaaGreatDoor
section
open Go.RowKit
def fN (n i:Nat):List Value:=[.int .i8 0,.int .u64 0,.int .u64 0,.int .u64 0,.int .u64 0,.int .i64 (1048576*(n:Int)+(i:Int)+1),.int .i64 (-7),.int .i64 0,.int .i64 0]
theorem zPG (w:World) (g k n i:Nat):zKl w g k (fN n i)=(((((((((w.setCell ⟨g,k,none⟩ (.int .i8 0)).setCell ⟨g,k+1,none⟩ (.int .u64 0)).setCell ⟨g,k+2,none⟩ (.int .u64 0)).setCell ⟨g,k+3,none⟩ (.int .u64 0)).setCell ⟨g,k+4,none⟩ (.int .u64 0)).setCell ⟨g,k+5,none⟩ (.int .i64 (1048576*(n:Int)+(i:Int)+1))).setCell ⟨g,k+6,none⟩ (.int .i64 (-7))).setCell ⟨g,k+7,none⟩ (.int .i64 0)).setCell ⟨g,k+8,none⟩ (.int .i64 0)):=rfl
theorem zMT (n i:Nat):(fN n i).length=9:=rfl
theorem zOy (n i:Nat): ∀u∈fN n i,u.oneCell'=true:=by
 intro u hu
 simp only[fN,List.mem_cons,List.not_mem_nil,or_false]at hu
 rcases hu with rfl|rfl|rfl|rfl|rfl|rfl|rfl|rfl|rfl<;>rfl
abbrev BgN (w:World) (base:Nat) (vs:List Value) (ns:List Nat) (X:Nat→List Value) (gb:Nat) (bv:Value):Prop:=Bgl w base 78 52 9 vs ns X gb 8 bv
theorem zPL:ElT Tryz.prog 38 52 1 24 (.slice none 0 0):=⟨Tryz.underlying38,by kernel_rfl,rfl,by decide⟩
theorem zPc (n i:Nat) (w:World):(binOp .eql 78 (.agg #[.int .i8 0,.int .u64 0,.int .u64 0,.int .u64 0,.int .u64 0,.int .i64 (1048576*(n:Int)+(i:Int)+1),.int .i64 (-7),.int .i64 0,.int .i64 0]) (.agg #[.int .i8 0,.int .u64 0,.int .u64 0,.int .u64 0,.int .u64 0,.int .i64 (1048576*(n:Int)+(i:Int)+1),.int .i64 (-7),.int .i64 0,.int .i64 0])).run Tryz.prog w= .ok (.bool true) w:=by
 rw[run_eql_struct]
 have hcl:=zNt 0 0 0 0 0 0 0 0 w
 simp[go_sem,hcl]
section
variable {w:World} {base:Nat} {vs:List Value} {ns:List Nat} {X:Nat→List Value} {gb:Nat} {bv:Value}
theorem zGo {ob:Option Addr} {cb:Nat} (hb0:base≤w.heap.size) (hm:vs.length≤400) (hn: ∀(i n:Nat),ns[i]?=some n→n≤4294967296) (hB:BgN w base vs ns X gb (.slice ob vs.length cb)):
  Calls Tryz.prog 67 #[.pointer (some ⟨gb,0,none⟩)] w fun e w'=>e= .returned (.bool true)∧zCJ w w' (Blk vs)∧BgN w' base vs ns (fun i=>Mc fN i (ns.getD i 0)) gb (.slice ob vs.length cb):=by
 have HB:=zPf hB
 have HN:=zPf hn
 clear hB hn
 go_enter Tryz.func67,Tryz.ntmps67
 go_wp2_with fail
 go_loopg [3] vs.length (fun k iv wr=> ∃(d:Nat) (Y:Nat→List Value),iv= .int .i64 (d:Nat)∧k=vs.length - d∧d≤vs.length∧BgN wr base vs ns Y gb (.slice ob vs.length cb)∧(∀j,j<d→Y j=Mc fN j (ns.getD j 0))∧zCJ w wr (Blk vs))
 case atStart=>exact⟨0,X,rfl,by omega,by omega,HB.out,fun j hj=>by omega,zCJ.refl _ _⟩
 case round=>
  obtain⟨d,Y,rfl,hg,hd,hb,hy,hk⟩:=hrel
  have HG:=zPf hg
  have HBY:=zPf hb
  have HY:=zPf hy
  have HK:=zPf hk
  clear hg hb hy hk
  have c0:=HBY.out.c
  have cl:=HBY.out.cl
  by_cases hlt:d<vs.length
  ·have hlt':(d:Int)<(vs.length:Int):=by omega
   obtain⟨v,hv⟩: ∃v,vs[d]?=some v:=⟨_,zPw hlt⟩
   obtain⟨n,hnn⟩: ∃n,ns[d]?=some n:=⟨_,zPw (by rw[HBY.out.len];exact hlt)⟩
   obtain⟨o,cv,rfl⟩:=zBJ (HBY.out.a d v n hv hnn)
   obtain⟨gl,rfl,hgl,hcl⟩:=HBY.out.rows hlt
   have hc:=hcl d _ hv
   have HV:=zPf hv
   have HNN:=zPf hnn
   have hnb:=HN.out d n hnn
   clear hv hnn hcl
   go_wp2_with fail
   obtain⟨wo,rfl⟩: ∃wo:World,wo=wr:=⟨_,rfl⟩
   go_loopg [4] n (fun k jv wr=> ∃(e:Nat) (Y:Nat→List Value),jv= .int .i64 (e:Nat)∧k=n - e∧e≤n∧BgN wr base vs ns Y gb (.slice (some ⟨gl,0,none⟩) vs.length cb)∧(∀j,j<d→Y j=Mc fN j (ns.getD j 0))∧(Y d).take (e*9)=Mc fN d e∧zCJ w wr (Blk vs))
   case atStart=>exact⟨0,Y,rfl,by omega,by omega,HBY.out,HY.out,by simp[Mc],HK.out⟩
   case round=>
    clear c0 cl hgl hc HBY HY HK
    obtain⟨e,Y2,rfl,hg,he,hb,hy,ht,hk⟩:=hrel
    have HG2:=zPf hg
    have HBY:=zPf hb
    have HY:=zPf hy
    have HT:=zPf ht
    have HK:=zPf hk
    have c0:=hb.c
    have cl:=hb.cl
    obtain⟨gl',hgl',hgl,hcl⟩:=hb.rows hlt
    cases hgl'
    have hc:=hcl d _ HV.out
    have hr:=hb.a d _ n HV.out HNN.out
    clear hg hb hy ht hk hcl
    by_cases hle:e<n
    ·have hle':(e:Int)<(n:Int):=by omega
     obtain⟨_,g,rfl,hgg,hcc,hfz⟩:=zF4 hr (by omega)
     obtain⟨z0,_,y0⟩:=hcc (e*9) (by omega)
     have zf0:=hfz (e*9)
     obtain⟨z1,_,y1⟩:=hcc (e*9+1) (by omega)
     have zf1:=hfz (e*9+1)
     obtain⟨z2,_,y2⟩:=hcc (e*9+2) (by omega)
     have zf2:=hfz (e*9+2)
     obtain⟨z3,_,y3⟩:=hcc (e*9+3) (by omega)
     have zf3:=hfz (e*9+3)
     obtain⟨z4,_,y4⟩:=hcc (e*9+4) (by omega)
     have zf4:=hfz (e*9+4)
     obtain⟨z5,_,y5⟩:=hcc (e*9+5) (by omega)
     have zf5:=hfz (e*9+5)
     obtain⟨z6,_,y6⟩:=hcc (e*9+6) (by omega)
     have zf6:=hfz (e*9+6)
     obtain⟨z7,_,y7⟩:=hcc (e*9+7) (by omega)
     have zf7:=hfz (e*9+7)
     obtain⟨z8,_,y8⟩:=hcc (e*9+8) (by omega)
     have zf8:=hfz (e*9+8)
     clear hr hcc hfz
     have hlen:(Y2 d).length=n*9:=(HBY.out.a d _ n HV.out HNN.out).1
     have HL:=zPf hlen
     clear hlen
     go_upto_region 7 with fail
     refine zAA (X:=none) 13 [([0,1,2,3,4,5,6,7,8,9],10)] [11,12] (by kernel_rfl) (by kernel_rfl) rfl (fun _ _ _ _ _ h=>h) ?_
     simp only[zAI,zAC,zAF,zAD,zAB,List.getD_cons_zero,List.getD_cons_succ,List.drop_succ_cons,List.drop_zero]
     repeat (go_big_quiet_step (fail))
     refine wpQuiet_nil ?_
     go_wp2_with fail
     refine(zC8 (d:Int) (e:Int) (by omega) (by omega) (by omega) (by omega)).mono ?_;rintro e2 w5 ⟨rfl,rfl⟩
     go_wp2_with fail
     refine⟨zAJ.refl _,?_⟩
     repeat (go_big_quiet_step (fail))
     refine wpQuiet_nil ?_
     go_wp2_with fail
     have hp:=HBY.out.put HV.out HNN.out (e*9) (fN d e)
     rw[zPG]at hp
     have HP:=zPf hp
     clear hp
     go_roundg (n - (e+1))
     case measure=>have:=HG2.out;omega
     case rel=>
      refine⟨e+1,_,by go_num,rfl,by omega,HP.out.1.kept (zCJ.drew _ (fun _=>False)) fun _ h=>h.elim,fun j hj=>?_,?_,(HK.out.trans HP.out.2 fun _ _ h=>h).trans (zCJ.drew _ (fun _=>False)) fun _ _ h=>h.elim⟩
      ·rw[if_neg (by omega)];exact HY.out j hj
      ·rw[if_pos rfl]
       exact zMS HL.out hle HT.out (by omega) rfl
    ·have hle': ¬(e:Int)<(n:Int):=by omega
     clear hr
     go_wp2_with fail
     go_roundg (vs.length - (d+1))
     case measure=>have:=HG.out;omega
     case rel=>
      refine⟨d+1,Y2,by go_num,rfl,by omega,HBY.out,fun j hj=>?_,HK.out⟩
      by_cases hjd:j<d
      ·exact HY.out j hjd
      ·obtain rfl:j=d:=by omega
       have h1:=HT.out
       obtain rfl:e=n:=by omega
       rw[List.take_of_length_le (by rw[(HBY.out.a j _ e HV.out HNN.out).1];exact zPh _)]at h1
       rw[h1,zPo,HNN.out];rfl
  ·have hlt': ¬(d:Int)<(vs.length:Int):=by omega
   obtain rfl:d=vs.length:=by omega
   have hX:BgN wr base vs ns (fun i=>Mc fN i (ns.getD i 0)) gb (.slice ob vs.length cb):=by
    have b:=HBY.out
    exact⟨b.len,fun i v n hv hn=>by have:=b.a i v n hv hn;rw[HY.out i (zPm.1 hv).1]at this;exact this,b.ap,b.r,b.ra,b.c,b.cl,b.ca,b.rc⟩
   have HX:=zPf hX
   have hb1:base≤wr.heap.size:=zP2 hb0 HK.out.size
   clear hX HB HBY HY hd
   go_wp2_with fail
   obtain⟨w1,rfl⟩: ∃w1:World,w1=wr:=⟨_,rfl⟩
   obtain⟨tag0,hG0⟩:=Gr.start HX.out
   have HG0:=zPf hG0
   clear hG0
   go_loopg [5,6,7] vs.length (fun k ov lv iv wr=> ∃(d:Nat) (tag:Nat→Nat) (os ls:List Value),iv= .int .i64 (d:Nat)∧k=vs.length - d∧os.length=d∧ls.length=d∧Gr w1 wr base 78 52 9 vs ns fN gb 8 (.slice ob vs.length cb) tag os ls ov lv)
   case atStart=>exact⟨0,tag0,[],[],rfl,by omega,rfl,rfl,HG0.out⟩
   case round=>
    clear HG0 c0 cl
    obtain⟨d,tag,os,ls,rfl,hg,hos,hls,hG⟩:=hrel
    have HG2:=zPf hg
    have HGr:=zPf hG
    have HOS:=zPf hos
    have HLS:=zPf hls
    have c0:=hG.g.c
    have cl:=hG.g.cl
    have hdm:d≤vs.length:=by rw[←hos];exact hG.ol
    have hbr:base≤wr.heap.size:=zP2 hb1 hG.kp.size
    clear hg hG hos hls
    by_cases hlt:d<vs.length
    ·have hlt':(d:Int)<(vs.length:Int):=by omega
     obtain⟨v,hv⟩: ∃v,vs[d]?=some v:=⟨_,zPw hlt⟩
     obtain⟨n,hnn⟩: ∃n,ns[d]?=some n:=⟨_,zPw (by rw[HGr.out.g.len];exact hlt)⟩
     have hnd:ns.getD d 0=n:=by rw[zPo,hnn];rfl
     have hrow:=HGr.out.g.a d v n hv hnn
     simp only[hnd]at hrow
     obtain⟨o,cv,rfl⟩:=zBJ hrow
     have HR0:=zPf hrow
     have HT0:=zPf (HGr.out.tv d _ hv)
     obtain⟨gl,rfl,hgl,hcl⟩:=HGr.out.g.rows hlt
     have hc:=hcl d _ hv
     have HV:=zPf hv
     have HNN:=zPf hnn
     have HND:=zPf hnd
     have hnb:=HN.out d n hnn
     clear hv hnn hnd hcl hrow
     go_wp2_with fail
     obtain⟨wo,rfl⟩: ∃wo:World,wo=wr:=⟨_,rfl⟩
     go_loopg [5,8,9] 70 (fun k ov l jv wr=> ∃(e:Nat) (tag:Nat→Nat) (os:List Value),jv= .int .i64 (e:Nat)∧k=n+70 - e∧n≤e∧e≤n+70∧(e=n→os.length=d)∧(n<e→os.length=d+1)∧Gr w1 wr base 78 52 9 vs ns fN gb 8 (.slice (some ⟨gl,0,none⟩) vs.length cb) tag os ls ov u6∧wr.ownsRow base 78 9 l e (Mc fN d e)∧Tg tag d l)
     case atStart=>exact⟨n,tag,os,rfl,by omega,by omega,by omega,fun _=>HOS.out,fun h=>by omega,HGr.out,HR0.out,HT0.out⟩
     case round=>
      clear c0 cl hgl hc HGr HR0 HT0 hbr
      obtain⟨e,tag,os,rfl,hg,hne,hen,hos1,hos2,hG,hl,ht⟩:=hrel
      have HG3:=zPf hg
      have HGr:=zPf hG
      have HOS1:=zPf hos1
      have HOS2:=zPf hos2
      have HL:=zPf hl
      have HT:=zPf ht
      have c0:=hG.g.c
      have cl:=hG.g.cl
      have hbr:base≤wr.heap.size:=zP2 hb1 hG.kp.size
      obtain⟨gl',hgl',hgl,hcl⟩:=hG.g.rows hlt
      cases hgl'
      have hc:=hcl d _ HV.out
      clear hg hG hos1 hos2 hl ht hcl
      by_cases hle:e<n+70
      ·have hle':(e:Int)<(n:Int)+70:=by omega
       go_wp2_with fail
       refine(zC8 (d:Int) (e:Int) (by omega) (by omega) (by omega) (by omega)).mono ?_;rintro e2 w5 ⟨rfl,rfl⟩
       go_wp2_with (at_builtin;refine zDX zPS rfl _ _ rfl base (n:=e) (m:=1) (xs:=Mc fN d e) (news:=fN d e) rfl (HL.out.alloc _) rfl rfl (zNK wr (fN d e) _) rfl (zOy d e) (by unfold maxLen;omega) (by omega) (by simp;omega) ?_)
       intro v1 w2 hown hgr hbk hold
       obtain⟨tag2,hG2,hT2⟩:=(HGr.out.lt (.cells (fN d e).toArray 78)).grow (by decide) hlt HLS.out.symm (by rw[HND.out];exact hne) (fun h=>by rw[HND.out];by_cases h2:e=n;(have:=HOS1.out h2;omega);omega) (HL.out.alloc _) HT.out hgr (by simpa using hbk) hold
       have HG4:=zPf hG2
       have HT2:=zPf hT2
       have HL2:=zPf (show w2.ownsRow base 78 9 v1 (e+1) (Mc fN d (e+1))by rw[zIJ];exact hown)
       clear c0 cl hc hgl hown hgr hbk hold hG2 hT2 HGr HL HT hbr
       have c0:=HG4.out.g.c
       have cl:=HG4.out.g.cl
       obtain⟨gl',hgl',hgl,hcl⟩:=HG4.out.g.rows hlt
       cases hgl'
       have hc:=hcl d _ HV.out
       clear hcl
       by_cases hee:e=n
       ·have hee':((e:Int)==(n:Int))=true:=by rw[hee];exact beq_self_eq_true _
        have HE:=zPf hee
        clear hee
        obtain⟨o1,c1,rfl⟩:=zBJ HL2.out
        go_wp2_with (at_builtin;refine zDX zPL rfl _ _ rfl w1.heap.size (n:=os.length) (m:=1) (xs:=os) (news:=[.slice o1 (e+1) c1]) rfl (HG4.out.ov.1.alloc _) rfl rfl (zNK w2 [.slice o1 (e+1) c1] _) rfl (by simpa using zL8 HL2.out) (by unfold maxLen;have:=HOS1.out HE.out;omega) (by have:=HOS1.out HE.out;omega) (by have:=HG4.out.kp.size;simp;omega) ?_)
        intro v2 w3 hown hgr hbk _
        obtain⟨tag3,hG5,hT3,hL3⟩:=(HG4.out.lt (.cells [.slice o1 (e+1) c1].toArray 52)).one hlt (HOS1.out HE.out).symm (by rw[HND.out,←HE.out];exact HL2.out.alloc _) HT2.out hgr (by simpa using hbk) hown
        have HG5:=zPf hG5
        have HT3:=zPf hT3
        have HL3:=zPf hL3
        clear hown hgr hbk hG5 hT3 hL3 c0 cl hgl hc
        go_wp2_with fail
        go_roundg (n+70 - (e+1))
        case measure=>have:=HG3.out;omega
        case rel=>exact⟨e+1,tag3,os++[.slice o1 (e+1) c1],by go_num,rfl,by omega,by omega,fun h=>by have:=HE.out;omega,fun _=>by rw[zPz,HOS1.out HE.out];rfl,HG5.out,by rw[HND.out,←HE.out]at HL3;exact HL3.out,HT3.out⟩
       ·have hee':((e:Int)==(n:Int))=false:=zPl.2 (by omega)
        have HE:=zPf hee
        clear hee
        go_wp2_with fail
        go_roundg (n+70 - (e+1))
        case measure=>have:=HG3.out;omega
        case rel=>exact⟨e+1,tag2,os,by go_num,rfl,by omega,by omega,fun h=>by omega,fun _=>HOS2.out (by have:=HE.out;omega),HG4.out,HL2.out,HT2.out⟩
      ·have hle': ¬(e:Int)<(n:Int)+70:=by omega
       obtain rfl:e=n+70:=by omega
       obtain⟨o1,c1,rfl⟩:=zBJ HL.out
       go_wp2_with (at_builtin;refine zDX zPL rfl _ _ rfl w1.heap.size (n:=ls.length) (m:=1) (xs:=ls) (news:=[.slice o1 (n+70) c1]) rfl (HGr.out.lv.1.alloc _) rfl rfl (zNK wr [.slice o1 (n+70) c1] _) rfl (by simpa using zL8 HL.out) (by unfold maxLen;have:=HLS.out;omega) (by have:=HLS.out;omega) (by have:=HGr.out.kp.size;simp;omega) ?_)
       intro v2 w3 hown hgr hbk _
       obtain⟨tag3,hG5⟩:=(HGr.out.lt (.cells [.slice o1 (n+70) c1].toArray 52)).many hlt HLS.out.symm (by have:=HOS2.out (by omega);omega) (by rw[HND.out];exact HL.out.alloc _) HT.out hgr (by simpa using hbk) hown
       have HG5:=zPf hG5
       clear hown hgr hbk hG5 c0 cl hgl hc
       go_wp2_with fail
       go_roundg (vs.length - (d+1))
       case measure=>have:=HG2.out;omega
       case rel=>exact⟨d+1,tag3,os,ls++[.slice o1 (n+70) c1],by go_num,rfl,HOS2.out (by omega),by rw[zPz,HLS.out];rfl,HG5.out⟩
    ·have hlt': ¬(d:Int)<(vs.length:Int):=by omega
     obtain rfl:d=vs.length:=by omega
     obtain⟨w2,rfl⟩: ∃w2:World,w2=wr:=⟨_,rfl⟩
     have hlv:=HGr.out.lv.1
     have hov:=HGr.out.ov.1
     rw[HLS.out]at hlv
     rw[HOS.out]at hov
     obtain⟨oL,cL,rfl⟩:=zBJ hlv
     obtain⟨oO,cO,rfl⟩:=zBJ hov
     have HLV:=zPf hlv
     have HOV:=zPf hov
     clear hlv hov
     go_wp2_with fail
     go_loopg [10] vs.length (fun k iv wr=> ∃d:Nat,iv= .int .i64 (d:Nat)∧k=vs.length - d∧d≤vs.length∧Below w2.heap.size w2 wr)
     case atStart=>exact⟨0,rfl,by omega,by omega,zPg _ _⟩
     case round=>
      obtain⟨d,rfl,hg,hd,hbw⟩:=hrel
      have HG6:=zPf hg
      have HBW:=zPf hbw
      have c0:=(hbw.cell (p:=⟨gb,8,none⟩) HGr.out.g.cl).trans HGr.out.g.c
      have cl:=zPi HGr.out.g.cl hbw.size
      clear hg hbw
      by_cases hlt:d<vs.length
      ·have hlt':(d:Int)<(vs.length:Int):=by omega
       obtain⟨v,hv⟩: ∃v,vs[d]?=some v:=⟨_,zPw hlt⟩
       obtain⟨n,hnn⟩: ∃n,ns[d]?=some n:=⟨_,zPw (by rw[HGr.out.g.len];exact hlt)⟩
       have hnd:ns.getD d 0=n:=by rw[zPo,hnn];rfl
       have hrow:=HGr.out.g.a d v n hv hnn
       simp only[hnd]at hrow
       obtain⟨lv,hlv⟩: ∃lv,ls[d]?=some lv:=⟨_,zPw (by rw[HLS.out];exact hlt)⟩
       obtain⟨ov,hov⟩: ∃ov,os[d]?=some ov:=⟨_,zPw (by rw[HOS.out];exact hlt)⟩
       have hrl:=(HGr.out.l d lv n hlv hnn).1
       have hro:=(HGr.out.o d ov n hov hnn).1
       obtain⟨o1,c1,rfl⟩:=zBJ hrow
       obtain⟨o2,c2,rfl⟩:=zBJ hrl
       obtain⟨o3,c3,rfl⟩:=zBJ hro
       obtain⟨gl,rfl,hgl,hcl⟩:=HGr.out.g.rows hlt
       obtain⟨gL,rfl,hgL,hcL⟩:=zKI HLV.out hlt hlv
       obtain⟨gO,rfl,hgO,hcO⟩:=zKI HOV.out hlt hov
       have HC0:=zPf (hcl d _ hv)
       have HCL:=zPf hcL
       have HCO:=zPf hcO
       have HGL:=zPf hgl
       have HGLL:=zPf hgL
       have HGO:=zPf hgO
       have hc:=(HBW.out.cell (p:=⟨gl,d,none⟩) HGL.out).trans HC0.out
       have hcL':=(HBW.out.cell (p:=⟨gL,d,none⟩) HGLL.out).trans HCL.out
       have hgl':=zPi hgl HBW.out.size
       have hgL':=zPi hgL HBW.out.size
       have HR1:=zPf hrow
       have HR2:=zPf hrl
       have HR3:=zPf hro
       have hnb:=HN.out d n hnn
       clear hv hnn hnd hcl hrow hrl hro hlv hov hcL hcO hgl hgL hgO
       go_wp2_with fail
       obtain⟨w3,rfl⟩: ∃w3:World,w3=wr:=⟨_,rfl⟩
       go_loopg [11,12,13] (n+70) (fun k jv _ _ wr=> ∃e:Nat,jv= .int .i64 (e:Nat)∧k=n+70 - e∧e≤n+70∧Below w2.heap.size w2 wr)
       case atStart=>exact⟨0,rfl,by omega,by omega,HBW.out⟩
       case round=>
        clear c0 cl hc hcL' hgl' hgL' HBW
        obtain⟨e,rfl,hg,he,hbw⟩:=hrel
        have HG7:=zPf hg
        have HBW:=zPf hbw
        have c0:=(hbw.cell (p:=⟨gb,8,none⟩) HGr.out.g.cl).trans HGr.out.g.c
        have cl:=zPi HGr.out.g.cl hbw.size
        have hc:=(hbw.cell (p:=⟨gl,d,none⟩) HGL.out).trans HC0.out
        have hcL':=(hbw.cell (p:=⟨gL,d,none⟩) HGLL.out).trans HCL.out
        have hgl':=zPi HGL.out hbw.size
        have hgL':=zPi HGLL.out hbw.size
        have hws:=hbw.size
        clear hg hbw
        by_cases hle:e<n+70
        ·have hle':(e:Int)<(n:Int)+70:=by omega
         obtain⟨g2,rfl,hg2,hc2⟩:=zJ0 zMT (zBs HR2.out fun b hb=>HBW.out.block b (HR2.out.lt b hb).2) hle
         have z0:=hc2 0 (e*9) (by decide) (by omega)
         have z1:=hc2 1 (e*9+1) (by decide) (by omega)
         have z2:=hc2 2 (e*9+2) (by decide) (by omega)
         have z3:=hc2 3 (e*9+3) (by decide) (by omega)
         have z4:=hc2 4 (e*9+4) (by decide) (by omega)
         have z5:=hc2 5 (e*9+5) (by decide) (by omega)
         have z6:=hc2 6 (e*9+6) (by decide) (by omega)
         have z7:=hc2 7 (e*9+7) (by decide) (by omega)
         have z8:=hc2 8 (e*9+8) (by decide) (by omega)
         simp only[fN,List.getElem?_cons_zero,List.getElem?_cons_succ]at z0 z1 z2 z3 z4 z5 z6 z7 z8
         clear hc2
         have hq:=zPc d e
         by_cases hen:e<n
         ·have hen':(e:Int)<(n:Int):=by omega
          have hne':((e:Int)==(n:Int))=false:=zPl.2 (by omega)
          obtain⟨g1,rfl,hg1,hc1⟩:=zJ0 zMT (zBs HR1.out fun b hb=>HBW.out.block b (HR1.out.lt b hb).2) hen
          have y0:=hc1 0 (e*9) (by decide) (by omega)
          have y1:=hc1 1 (e*9+1) (by decide) (by omega)
          have y2:=hc1 2 (e*9+2) (by decide) (by omega)
          have y3:=hc1 3 (e*9+3) (by decide) (by omega)
          have y4:=hc1 4 (e*9+4) (by decide) (by omega)
          have y5:=hc1 5 (e*9+5) (by decide) (by omega)
          have y6:=hc1 6 (e*9+6) (by decide) (by omega)
          have y7:=hc1 7 (e*9+7) (by decide) (by omega)
          have y8:=hc1 8 (e*9+8) (by decide) (by omega)
          simp only[fN,List.getElem?_cons_zero,List.getElem?_cons_succ]at y0 y1 y2 y3 y4 y5 y6 y7 y8
          clear hc1
          go_upto_region 31 with fail
          refine zAA (X:=none) 7 [([0,1,2],3)] [4,5,6] (by kernel_rfl) (by kernel_rfl) rfl (fun _ _ _ _ _ h=>h) ?_
          simp only[zAI,zAC,zAF,zAD,zAB,List.getD_cons_zero,List.getD_cons_succ,List.drop_succ_cons,List.drop_nil]
          repeat (go_big_quiet_step (fail))
          refine wpQuiet_nil ?_
          go_wp2_with fail
          refine(zC8 (d:Int) (e:Int) (by omega) (by omega) (by omega) (by omega)).mono ?_;rintro e2 w5 ⟨rfl,rfl⟩
          go_wp2_with fail
          refine⟨zAJ.refl _,?_⟩
          repeat (go_big_quiet_step (fail))
          refine wpQuiet_nil ?_
          go_upto_region 33 with fail
          refine zAA (X:=none) 11 [([0,1,2,3,4,5],6)] [7,8,9,10] (by kernel_rfl) (by kernel_rfl) rfl (fun _ _ _ _ _ h=>h) ?_
          simp only[zAI,zAC,zAF,zAD,zAB,List.getD_cons_zero,List.getD_cons_succ,List.drop_succ_cons,List.drop_nil]
          repeat (go_big_quiet_step (fail))
          refine wpQuiet_nil ?_
          go_wp2_with fail
          refine(zC8 (d:Int) (e:Int) (by omega) (by omega) (by omega) (by omega)).mono ?_;rintro e2 w5 ⟨rfl,rfl⟩
          go_wp2_with fail
          refine⟨zAJ.refl _,?_⟩
          repeat (go_big_quiet_step (fail))
          refine wpQuiet_nil ?_
          go_wp2_with fail
          go_roundg (n+70 - (e+1))
          case measure=>have:=HG7.out;omega
          case rel=>exact⟨e+1,by go_num,rfl,by omega,(by have b:=HBW.out;clear HBW;exact(by repeat (first|exact zPg _ _|assumption|refine zP8 ?_|refine zP6 ?_ (by first|(simp;done)|(simp;omega)|omega) _|refine zP7 ?_ (by first|(simp;done)|(simp;omega)|omega) _)))⟩
         ·have hen': ¬(e:Int)<(n:Int):=by omega
          by_cases hee:e=n
          ·have hne':((e:Int)==(n:Int))=true:=by rw[hee];exact beq_self_eq_true _
           have HE:=zPf hee
           have hlo:(e:Int)<(n:Int)+1:=by omega
           obtain⟨g3,rfl,hg3,hc3⟩:=zJ0 zMT (zBs HR3.out fun b hb=>HBW.out.block b (HR3.out.lt b hb).2) (show e<n+1 by omega)
           have y0:=hc3 0 (e*9) (by decide) (by omega)
           have y1:=hc3 1 (e*9+1) (by decide) (by omega)
           have y2:=hc3 2 (e*9+2) (by decide) (by omega)
           have y3:=hc3 3 (e*9+3) (by decide) (by omega)
           have y4:=hc3 4 (e*9+4) (by decide) (by omega)
           have y5:=hc3 5 (e*9+5) (by decide) (by omega)
           have y6:=hc3 6 (e*9+6) (by decide) (by omega)
           have y7:=hc3 7 (e*9+7) (by decide) (by omega)
           have y8:=hc3 8 (e*9+8) (by decide) (by omega)
           simp only[fN,List.getElem?_cons_zero,List.getElem?_cons_succ]at y0 y1 y2 y3 y4 y5 y6 y7 y8
           have hcO':=(HBW.out.cell (p:=⟨gO,d,none⟩) HGO.out).trans HCO.out
           have hgO':=zPi HGO.out hws
           clear hc3 hee
           go_upto_region 31 with fail
           refine zAA (X:=none) 7 [([0,1,2],3)] [4,5,6] (by kernel_rfl) (by kernel_rfl) rfl (fun _ _ _ _ _ h=>h) ?_
           simp only[zAI,zAC,zAF,zAD,zAB,List.getD_cons_zero,List.getD_cons_succ,List.drop_succ_cons,List.drop_nil]
           repeat (go_big_quiet_step (fail))
           refine wpQuiet_nil ?_
           go_wp2_with fail
           refine(zC8 (d:Int) (e:Int) (by omega) (by omega) (by omega) (by omega)).mono ?_;rintro e2 w5 ⟨rfl,rfl⟩
           go_wp2_with fail
           refine⟨zAJ.refl _,?_⟩
           repeat (go_big_quiet_step (fail))
           refine wpQuiet_nil ?_
           go_upto_region 33 with fail
           refine zAA (X:=none) 11 [([0,1,2,3,4,5],6)] [7,8,9,10] (by kernel_rfl) (by kernel_rfl) rfl (fun _ _ _ _ _ h=>h) ?_
           simp only[zAI,zAC,zAF,zAD,zAB,List.getD_cons_zero,List.getD_cons_succ,List.drop_succ_cons,List.drop_nil]
           repeat (go_big_quiet_step (fail))
           refine wpQuiet_nil ?_
           go_wp2_with fail
           refine(zC8 (d:Int) (e:Int) (by omega) (by omega) (by omega) (by omega)).mono ?_;rintro e2 w5 ⟨rfl,rfl⟩
           go_wp2_with fail
           refine⟨zAJ.refl _,?_⟩
           repeat (go_big_quiet_step (fail))
           refine wpQuiet_nil ?_
           go_wp2_with fail
           go_roundg (n+70 - (e+1))
           case measure=>have:=HG7.out;omega
           case rel=>exact⟨e+1,by go_num,rfl,by omega,(by have b:=HBW.out;clear HBW;exact(by repeat (first|exact zPg _ _|assumption|refine zP8 ?_|refine zP6 ?_ (by first|(simp;done)|(simp;omega)|omega) _|refine zP7 ?_ (by first|(simp;done)|(simp;omega)|omega) _)))⟩
          ·have hne':((e:Int)==(n:Int))=false:=zPl.2 (by omega)
           clear hee
           go_upto_region 31 with fail
           refine zAA (X:=none) 7 [([0,1,2],3)] [4,5,6] (by kernel_rfl) (by kernel_rfl) rfl (fun _ _ _ _ _ h=>h) ?_
           simp only[zAI,zAC,zAF,zAD,zAB,List.getD_cons_zero,List.getD_cons_succ,List.drop_succ_cons,List.drop_nil]
           repeat (go_big_quiet_step (fail))
           refine wpQuiet_nil ?_
           go_wp2_with fail
           refine(zC8 (d:Int) (e:Int) (by omega) (by omega) (by omega) (by omega)).mono ?_;rintro e2 w5 ⟨rfl,rfl⟩
           go_wp2_with fail
           refine⟨zAJ.refl _,?_⟩
           repeat (go_big_quiet_step (fail))
           refine wpQuiet_nil ?_
           go_upto_region 33 with fail
           refine zAA (X:=none) 11 [([0,1,2,3,4,5],6)] [7,8,9,10] (by kernel_rfl) (by kernel_rfl) rfl (fun _ _ _ _ _ h=>h) ?_
           simp only[zAI,zAC,zAF,zAD,zAB,List.getD_cons_zero,List.getD_cons_succ,List.drop_succ_cons,List.drop_nil]
           repeat (go_big_quiet_step (fail))
           refine wpQuiet_nil ?_
           go_wp2_with fail
           refine(zC8 (d:Int) (e:Int) (by omega) (by omega) (by omega) (by omega)).mono ?_;rintro e2 w5 ⟨rfl,rfl⟩
           go_wp2_with fail
           refine⟨zAJ.refl _,?_⟩
           repeat (go_big_quiet_step (fail))
           refine wpQuiet_nil ?_
           go_wp2_with fail
           go_roundg (n+70 - (e+1))
           case measure=>have:=HG7.out;omega
           case rel=>exact⟨e+1,by go_num,rfl,by omega,(by have b:=HBW.out;clear HBW;exact(by repeat (first|exact zPg _ _|assumption|refine zP8 ?_|refine zP6 ?_ (by first|(simp;done)|(simp;omega)|omega) _|refine zP7 ?_ (by first|(simp;done)|(simp;omega)|omega) _)))⟩
        ·have hle': ¬(e:Int)<(n:Int)+70:=by omega
         go_wp2_with fail
         go_roundg (vs.length - (d+1))
         case measure=>have:=HG6.out;omega
         case rel=>exact⟨d+1,by go_num,rfl,by omega,HBW.out⟩
      ·have hlt': ¬(d:Int)<(vs.length:Int):=by omega
       go_wp2_with fail
       go_ret
       exact⟨rfl,(HK.out.trans HGr.out.kp fun _ _ h=>h).trans (zCJ.of_below HBW.out (fun _=>False) fun j h1 h2=>by omega) fun _ _ h=>h.elim,HGr.out.g.kept (zCJ.of_below HBW.out (fun _=>False) fun j h1 h2=>by omega) fun _ h=>h.elim⟩
end
end
section
open Go.RowKit
theorem zIH {w:World} {gb:Nat} {bb bm bn:Value} (h:zCZ w gb bb bm bn) {vs:List Value} (hr:w.ownsRow (gb+1) 52 1 bn vs.length vs) (hl:vs.length<400) (o:Option Addr) (n c:Nat):
  Calls Tryz.prog 19 #[.pointer (some ⟨gb,0,none⟩),.slice o n c] w fun e w'=>e= .returned (.tuple #[])∧ ∃b',zCZ w' gb bb bm b'∧w'.ownsRow (gb+1) 52 1 b' (vs++[Value.slice o n c]).length (vs++[.slice o n c])∧zCJ w w' (fun k=>k=gb∨bn.ownBlock=some k)∧(b'.ownBlock=bn.ownBlock∨ ∃k,b'.ownBlock=some k∧w.heap.size≤k):=by
 have c0:=h.cell 8
 rw[show(zNw bb bm bn)[8]?=some bn from rfl]at c0
 have zf:=h.frozen 8
 have gl:=h.lt
 obtain⟨ob,cb,hf⟩:=zBJ hr
 subst hf
 have H:=zPf h
 have HR:=zPf hr
 have hl':(vs.length:Int)<400:=by omega
 clear h hr
 go_enter Tryz.func19,Tryz.ntmps19
 go_wp2_with (at_builtin;refine zDX zPL rfl _ _ rfl (gb+1) (n:=vs.length) (m:=1) (xs:=vs) (news:=[.slice o n c]) rfl (HR.out.alloc _) rfl rfl (zNK w [.slice o n c] _) rfl (by simp[Value.oneCell']) (by unfold maxLen;omega) (by omega) (by simp;omega) ?_)
 intro v1 w1 hown hgr hbk _
 obtain⟨o1,c1,rfl⟩:=zBJ hown
 have hne: ∀k,(Value.slice ob vs.length cb).ownBlock=some k→k≠gb:=fun k hk e=>by have:=(HR.out.lt k hk).1;omega
 have hk1:zCJ w w1 (fun k=>(Value.slice ob vs.length cb).ownBlock=some k):=(zCJ.alloc w _ _).trans (zCJ.of_grown hgr) fun _ _ e=>e.symm
 have h1:=H.out.kept hk1 (fun e=>hne _ e rfl)
 have c0:=h1.cell 8
 rw[show(zNw _ _ _)[8]?=some (Value.slice ob vs.length cb)from rfl]at c0
 have zf:=h1.frozen 8
 have gl1:=h1.lt
 have H1:=zPf (h1.setN (.slice o1 (vs.length+1) c1))
 have HK:Hid (zCJ w (w1.setCell ⟨gb,8,none⟩ (.slice o1 (vs.length+1) c1)) (fun k=>k=gb∨(Value.slice ob vs.length cb).ownBlock=some k)):=(hk1.mono fun _ _ e=> .inr e).trans (zCJ.setCell w1 ⟨gb,8,none⟩ (.slice o1 (vs.length+1) c1)) fun _ _ e=> .inl e
 have HO:=zPf ((zCJ.setCell w1 ⟨gb,8,none⟩ (.slice o1 (vs.length+1) c1)).row hown fun k hk e=>by have:=(hown.lt k hk).1;have e':k=gb:=e;omega)
 have HBk:=zPf hbk
 clear hown hgr hbk hk1 h1
 go_wp2_with fail
 go_end0
 refine⟨rfl,_,H1.out,by rw[zPz];exact HO.out,HK.out,?_⟩
 rcases HBk.out with h|h
 ·exact .inl h
 ·exact .inr ⟨_,h,by simp⟩
end
section
open Go.RowKit
theorem zIG {w:World} {gb:Nat} {bb bm bn:Value} (h:zCZ w gb bb bm bn) {vs:List Value} (hr:w.ownsRow (gb+1) 52 1 bn vs.length vs) (hl: ¬vs.length<400) (o:Option Addr) (n c:Nat):
  Calls Tryz.prog 19 #[.pointer (some ⟨gb,0,none⟩),.slice o n c] w fun e w'=>e= .returned (.tuple #[])∧w=w':=by
 have c0:=h.cell 8
 rw[show(zNw bb bm bn)[8]?=some bn from rfl]at c0
 have gl:=h.lt
 obtain⟨ob,cb,hf⟩:=zBJ hr
 subst hf
 have hl': ¬(vs.length:Int)<400:=by omega
 clear h hr hl
 go_enter Tryz.func19,Tryz.ntmps19
 go_wp2_with fail
 go_end0
 exact⟨rfl,rfl⟩
end
section
open Go.RowKit
theorem Bgl.notGb {w:World} {base:Nat} {e es:TypeId} {size:Nat} {vs:List Value} {ns:List Nat} {X:Nat→List Value} {gb fld:Nat} {bv:Value} (h:Bgl w base e es size vs ns X gb fld bv): ∀k,Blk vs k→k≠gb:=fun k ⟨i,v,hv,hb⟩ e=>h.ca i v hv (by rw[hb,e])
section
variable {w:World} {base gb:Nat} {vb:List Value} {nb:List Nat} {Xb:Nat→List Value} {bb:Value}
theorem zKA (hb0:base≤w.heap.size) (lb:vb.length≤400) (zb: ∀(i n:Nat),nb[i]?=some n→n≤4294967296) (hA:zCZ w gb (.slice none 0 0) (.slice none 0 0) bb) (h:BgN w base vb nb Xb gb bb):
  Calls Tryz.prog 22 #[.pointer (some ⟨gb,0,none⟩)] w fun e w'=>e= .returned (.bool true)∧zCJ w w' (Blk vb):=by
 obtain⟨ob,cb,hfb⟩:=zBJ h.r
 subst hfb
 have ZB:=zPf zb
 have HB:=zPf h
 have HA:=zPf hA
 have hsz:=hb0
 clear h zb hA
 go_enter Tryz.func22,Tryz.ntmps22
 go_wp2_with fail
 refine(zGs (w:=w) (gb:=gb) (HA.out.cell 0)).mono ?_;rintro e w9 ⟨rfl,rfl⟩
 go_wp2_with fail
 refine(zHD (w:=w) (gb:=gb) (HA.out.cell 1)).mono ?_;rintro e w9 ⟨rfl,rfl⟩
 go_wp2_with fail
 refine(zGt (w:=w) (gb:=gb) (HA.out.cell 2)).mono ?_;rintro e w9 ⟨rfl,rfl⟩
 go_wp2_with fail
 refine(zGk (w:=w) (gb:=gb) (HA.out.cell 3)).mono ?_;rintro e w9 ⟨rfl,rfl⟩
 go_wp2_with fail
 refine(zGp (w:=w) (gb:=gb) (HA.out.cell 4)).mono ?_;rintro e w9 ⟨rfl,rfl⟩
 go_wp2_with fail
 refine(zGl (w:=w) (gb:=gb) (HA.out.cell 5)).mono ?_;rintro e w9 ⟨rfl,rfl⟩
 go_wp2_with fail
 refine(zHB (w:=w) (gb:=gb) (HA.out.cell 6)).mono ?_;rintro e w9 ⟨rfl,rfl⟩
 go_wp2_with fail
 refine(zFQ (w:=w) (gb:=gb) (HA.out.cell 7)).mono ?_;rintro e w9 ⟨rfl,rfl⟩
 go_wp2_with fail
 refine(zGo hsz lb ZB.out HB.out).mono ?_;rintro e w1 ⟨rfl,hk,hb⟩
 have HA1:=zPf (HA.out.kept hk fun s=>HB.out.notGb _ s rfl)
 have HK1:=zPf hk
 clear hk hb
 go_wp2_with fail
 refine(zFu (w:=w1) (gb:=gb) (HA1.out.cell 9)).mono ?_;rintro e w9 ⟨rfl,rfl⟩
 go_wp2_with fail
 refine(zFv (w:=w1) (gb:=gb) (HA1.out.cell 10)).mono ?_;rintro e w9 ⟨rfl,rfl⟩
 go_wp2_with fail
 refine(zGn (w:=w1) (gb:=gb) (HA1.out.cell 11)).mono ?_;rintro e w9 ⟨rfl,rfl⟩
 go_wp2_with fail
 refine(zGm (w:=w1) (gb:=gb) (HA1.out.cell 12)).mono ?_;rintro e w9 ⟨rfl,rfl⟩
 go_wp2_with fail
 refine(zHC (w:=w1) (gb:=gb) (HA1.out.cell 13)).mono ?_;rintro e w9 ⟨rfl,rfl⟩
 go_wp2_with fail
 refine(zGq (w:=w1) (gb:=gb) (HA1.out.cell 14)).mono ?_;rintro e w9 ⟨rfl,rfl⟩
 go_wp2_with fail
 refine(zFs (w:=w1) (gb:=gb) (HA1.out.cell 15)).mono ?_;rintro e w9 ⟨rfl,rfl⟩
 go_wp2_with fail
 refine(zFt (w:=w1) (gb:=gb) (HA1.out.cell 16)).mono ?_;rintro e w9 ⟨rfl,rfl⟩
 go_wp2_with fail
 refine(zGr (w:=w1) (gb:=gb) (HA1.out.cell 17)).mono ?_;rintro e w9 ⟨rfl,rfl⟩
 go_wp2_with fail
 refine(zHE (w:=w1) (gb:=gb) (HA1.out.cell 18)).mono ?_;rintro e w9 ⟨rfl,rfl⟩
 go_wp2_with fail
 go_ret
 exact⟨rfl,HK1.out⟩
end
end
section
open Go.RowKit
theorem zCK {α:Type} {l:List α} {x y:α} {i:Nat} (h:(l++[x])[i]?=some y):l[i]?=some y∨(i=l.length∧y=x):=by
 rcases Nat.lt_or_ge i l.length with hi|hi
 ·rw[zP0 hi]at h;exact .inl h
 ·rw[zP1 hi]at h
  have:i - l.length=0:=by
   have:=(zPm.1 h).1
   simp at this
   omega
  rw[this]at h
  exact .inr ⟨by omega,(zQB h).symm⟩
theorem BgN.snoc {w0 w:World} {base gb:Nat} {vs:List Value} {ns:List Nat} {X:Nat→List Value} {b bb v:Value} {n:Nat} {x:List Value} (h:BgN w0 base vs ns X gb b)
  (ha: ∀(i:Nat) (v:Value) (n:Nat),vs[i]?=some v→ns[i]?=some n→w.ownsRow base 78 9 v n (X i))
  (hv:w.ownsRow base 78 9 v n x) (hd: ∀k,v.ownBlock=some k→ ¬Blk vs k∧bb.ownBlock≠some k∧k≠gb) (ho: ∀k,Blk vs k→bb.ownBlock≠some k)
  (r:w.ownsRow (gb+1) 52 1 bb (vs++[v]).length (vs++[v])) (hb:base≤gb+1) (c:w.cell? ⟨gb,8,none⟩=some bb) (cl:gb<w.heap.size):BgN w base (vs++[v]) (ns++[n]) (fun i=>if i=vs.length then x else X i) gb bb:=by
 have hl:=h.len
 refine⟨by simp[hl],fun i u m hu hm=>?_,fun i j u t k hu ht hk1 hk2=>?_,zA6 r hb,fun i u k hu hk=>?_,c,cl,fun i u hu hg=>?_,fun hg=>?_⟩
 ·rcases zCK hu with hu|⟨rfl,rfl⟩
  ·have hi:=(zPm.1 hu).1
   rw[zP0 (by omega)]at hm
   simp only[if_neg (show¬i=vs.length by omega)]
   exact ha i u m hu hm
  ·rw[zP1 (by omega),hl,Nat.sub_self]at hm
   injection hm with hm
   subst hm
   simp only[if_pos]
   exact hv
 ·rcases zCK hu with h1|⟨e1,e2⟩<;>rcases zCK ht with h3|⟨e3,e4⟩
  ·exact h.ap i j u t k h1 h3 hk1 hk2
  ·exact absurd ⟨i,u,h1,hk1⟩ (hd k (e4▸hk2)).1
  ·exact absurd ⟨j,t,h3,hk2⟩ (hd k (e2▸hk1)).1
  ·rw[e1,e3]
 ·rcases zCK hu with hu|⟨rfl,rfl⟩
  ·exact ho k ⟨i,u,hu,hk⟩
  ·exact(hd k hk).2.1
 ·rcases zCK hu with hu|⟨rfl,rfl⟩
  ·exact h.ca i u hu hg
  ·exact(hd gb hg).2.2 rfl
 ·have:=(r.lt gb hg).1;omega
end
end Go.Proofs.YtfjbnpdffillbaaGreatDoor
