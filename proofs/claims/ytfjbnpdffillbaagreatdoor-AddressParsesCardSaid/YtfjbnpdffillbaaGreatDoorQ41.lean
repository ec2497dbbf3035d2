/- Parts: Jd Jg. -/
import Derived.Test.YtfjbnpdffillbaaGreatDoorQ36
import Derived.Test.YtfjbnpdffillbaaGreatDoorQ33
import Derived.Test.YtfjbnpdffillbaaGreatDoorQ40
import Derived.Test.YtfjbnpdffillbaaGreatDoorQ42
import Derived.Deep.DeepCutAuto
set_option maxHeartbeats 6400000
set_option maxRecDepth 100000
namespace Go.Proofs.YtfjbnpdffillbaaGreatDoor
section
open Go.RowKit
structure PqS (w:World) (wb:Nat) (oa:Option Addr) (cap:Nat) (T:List Nat) (j:Nat) (W:World):Prop where
 v:WdS W wb oa cap T j
 a:AdB W w.heap.size (.int .i8 0) (.int .i64 0) (.slice none 0 0)
 b:zBi w.heap.size wb w W
 l:wb<w.heap.size
 t:0<T.length→ ∀g,oa=some ⟨g,0,none⟩→g<w.heap.size
section
variable {w W W':World} {wb:Nat} {oa:Option Addr} {cap:Nat} {T:List Nat} {i j:Nat}
theorem PqS.new (hv:WdS w wb oa cap T i):PqS w wb oa cap T i (w.alloc (.cells #[.int .i8 0,.int .i64 0,.slice none 0 0] 54)):=
 ⟨hv.alloc _,AdB.new _ _ _ _,(zBi.refl _ _ _).alloc (zPh _) _,hv.lt,fun hp=>hv.tlt hp⟩
theorem PqS.below (h:PqS w wb oa cap T j W) (hb:Below W.heap.size W W'):PqS w wb oa cap T j W':=
 ⟨h.v.below hb,h.a.below hb,h.b.below hb (Nat.le_of_lt h.a.lt),h.l,h.t⟩
theorem PqS.nbut (h:PqS w wb oa cap T j W) (hb:zBi W.heap.size wb W W') (hv:WdS W' wb oa cap T i):PqS w wb oa cap T i W':=
 ⟨hv,h.a.nbut hb h.a.lt (by have:=h.l;omega),h.b.trans (hb.mono (Nat.le_of_lt h.a.lt)),h.l,h.t⟩
theorem PqS.ret {a:Act} {r:Ad × Nat × Nat} {o:Option Addr} {c er:Nat} {k n ee:Int} {re:List Nd} {len:Nat} (h:PqS w wb oa cap T j W) (hn:Nds W (w.heap.size+1) (.slice o len c) re) (hl:len=re.length) (he:(er:Int)=ee) (hr:((⟨k,n,re⟩,er,j):Ad × Nat × Nat)=r)
  (h4:a.tmps.getD 4 undef= .pointer (some ⟨w.heap.size,0,none⟩)) (h5:a.tmps.getD 5 undef= .int .i64 ee) (hd:a.defers=[]):
  bodyPost Tryz.prog Tryz.f15 (fun e w'=>zG2 wb oa cap T w.heap.size r e w'∧zBi w.heap.size wb w w') .ret a (((W.setCell ⟨w.heap.size,0,none⟩ (.int .i8 k)).setCell ⟨w.heap.size,1,none⟩ (.int .i64 n)).setCell ⟨w.heap.size,2,none⟩ (.slice o len c)):=by
 subst hr he hl
 have hne:w.heap.size≠wb:=by have:=h.l;omega
 have hts:0<T.length→ ∀g,oa=some ⟨g,0,none⟩→g≠w.heap.size:=fun hp g hg=>by have:=h.t hp g hg;omega
 have hA:=h.a.set (.int .i8 k) (.int .i64 n) (.slice o re.length c)
 refine zQG (v:= .tuple #[.agg #[.int .i8 k,.int .i64 n,.slice o re.length c],.int .i64 (er:Nat)]) ?_ hd ⟨⟨_,rfl,?_,((h.v.store hne hts _ _).store hne hts _ _).store hne hts _ _⟩,((h.b.store (.inr (zPh _)) _ _).store (.inr (zPh _)) _ _).store (.inr (zPh _)) _ _⟩
 ·have c0:=hA.c0
  have c1:=hA.c1
  have c2:=hA.c2
  simp only[Array.getD_eq_getD_getElem?]at h4 h5
  simp[results,Tryz.results15,go_sem,h4,h5,c0,c1,c2]
 ·refine zA6 (zAU hn fun g hg=>?_) (Nat.le_succ _)
  have:=(World.ownsRow.lt hn g hg).1
  exact(zPp _ _ _ _ (by show g≠w.heap.size;omega)).trans ((zPp _ _ _ _ (by show g≠w.heap.size;omega)).trans (zPp _ _ _ _ (by show g≠w.heap.size;omega)))
theorem zH1 (hv:WdS w wb oa cap T i) (ere:Bool):
  Calls Tryz.prog 15 #[.pointer (some ⟨wb,0,none⟩),.bool ere] w fun e w'=>zG2 wb oa cap T w.heap.size (zCa ere T i) e w'∧zBi w.heap.size wb w w':=by
 obtain⟨r,hr⟩: ∃r,zCa ere T i=r:=⟨_,rfl⟩
 rw[hr]
 have HR:=zPf hr
 have HS:=zPf (PqS.new hv)
 have hlen:=hv.len
 obtain⟨b,hb⟩: ∃b,T.getD i 0=b:=⟨_,rfl⟩
 have HBE:=zPf hb
 have hb256:b<256:=by have:=hv.u i;omega
 have HP:=zPf (zFX HS.out.v)
 have c2:=HS.out.v.c2
 rw[hb]at HP
 clear hb hr hv
 go_enter Tryz.func15,Tryz.ntmps15
 go_wp2_with fail
 refine HP.out.mono ?_;rintro e w1 ⟨rfl,hb1⟩
 have HS1:=zPf (HS.out.below hb1)
 clear hb1 HS HP c2
 have k0:=HS1.out.a.c0
 have k1:=HS1.out.a.c1
 have k2:=HS1.out.a.c2
 have f0:=HS1.out.a.fz
 by_cases hlt:i<T.length
 case neg=>
  have HE:=zPf ((zGx ere (by omega)).symm.trans HR.out)
  rw[zPr hlt]
  clear hlt
  go_wp2_with fail
  exact HS1.out.ret (re:=[]) (er:=0) (Nds.nil _ _) rfl rfl HE.out rfl rfl rfl
 rw[zPq hlt]
 have HLT:=zPf hlt
 clear hlt
 by_cases hd:48≤b∧b≤57
 ·have q1:(48:Int)≤(b:Int):=by omega
  have q2:(b:Int)≤57:=by omega
  have HE:=zPf ((zGw ere HLT.out (HBE.out▸hd)).symm.trans HR.out)
  clear hd k0 k1 k2 f0
  go_wp2_with fail
  refine(zG5 (most:=2147483647) HS1.out.v (zPh _) (by omega)).mono ?_;rintro e w2 ⟨hr2,hb2⟩
  cases hq:zIK T 2147483647 i with
  |none=>
   rw[hq]at hr2 HE
   obtain⟨rfl,hv2⟩:=hr2
   have HS2:=zPf (HS1.out.nbut hb2 hv2)
   clear hv2 hq hb2
   have k0:=HS2.out.a.c0
   have k1:=HS2.out.a.c1
   have k2:=HS2.out.a.c2
   have f0:=HS2.out.a.fz
   go_wp2_with fail
   exact HS2.out.ret (re:=[]) (er:=71) (Nds.nil _ _) rfl rfl HE.out rfl rfl rfl
  |some p=>
   obtain⟨x,j⟩:=p
   rw[hq]at hr2 HE
   obtain⟨rfl,hv2⟩:=hr2
   have HS2:=zPf (HS1.out.nbut hb2 hv2)
   clear hv2 hq hb2
   have k0:=HS2.out.a.c0
   have k1:=HS2.out.a.c1
   have k2:=HS2.out.a.c2
   have f0:=HS2.out.a.fz
   by_cases hx:x=0
   ·subst hx
    have HE2:Hid ((Ad.zero,71,j)=r):=HE
    go_wp2_with fail
    exact HS2.out.ret (re:=[]) (er:=71) (Nds.nil _ _) rfl rfl HE2.out rfl rfl rfl
   ·have HE2:Hid ((⟨1,x,[]⟩,0,j)=r):=zPf ((if_neg hx).symm.trans HE.out)
    have hx':((x:Int)==0)=false:=zPl.2 (by omega)
    clear hx
    go_wp2_with fail
    exact HS2.out.ret (re:=[]) (er:=0) (Nds.nil _ _) rfl rfl HE2.out rfl rfl rfl
 by_cases h36:b=36
 ·subst h36
  have HE:=zPf ((zFR ere HLT.out HBE.out).symm.trans HR.out)
  have HTK:=zPf (zCV HS1.out.v)
  rw[if_pos HLT.out]at HTK
  clear hd k0 k1 k2 f0
  go_wp2_with fail
  refine HTK.out.mono ?_;rintro e w2 ⟨rfl,hv2,hb2⟩
  have HS2:=zPf (HS1.out.nbut hb2 hv2)
  clear hv2 hb2 HTK
  have k0:=HS2.out.a.c0
  have k1:=HS2.out.a.c1
  have k2:=HS2.out.a.c2
  have f0:=HS2.out.a.fz
  go_wp2_with fail
  exact HS2.out.ret (re:=[]) (er:=0) (Nds.nil _ _) rfl rfl HE.out rfl rfl rfl
 have q36:((b:Int)==36)=false:=zPl.2 (by omega)
 by_cases hsl:b=47∨b=92
 ·have HSL:=zPf hsl
  clear hd h36 hsl k0 k1 k2 f0
  go_upto_region 4 with fail
  go_cut [30] (fun x wd=>x= .bool false∧wd=w1)
  case first=>
   rcases HSL.out with rfl|rfl
   ·go_wp2_with fail
    go_meet
    exact⟨rfl,rfl⟩
   ·go_wp2_with fail
    go_meet
    exact⟨rfl,rfl⟩
  case rest=>
  obtain⟨rfl,rfl⟩:=hcut
  go_upto_region 14 with fail
  go_cut [63] (fun x wd=>x= .bool true∧wd=wc)
  case first=>
   rcases HSL.out with rfl|rfl
   ·go_wp2_with fail
    go_meet
    exact⟨rfl,rfl⟩
   ·go_wp2_with fail
    go_meet
    exact⟨rfl,rfl⟩
  case rest=>
  obtain⟨rfl,rfl⟩:=hcut
  have HTK:=zPf (zCV HS1.out.v)
  rw[if_pos HLT.out,HBE.out,zPq HLT.out]at HTK
  go_wp2_with fail
  refine HTK.out.mono ?_;rintro e w2 ⟨rfl,hv2,hb2⟩
  have HS2:=zPf (HS1.out.nbut hb2 hv2)
  clear hv2 hb2 HTK HS1
  go_upto_if 76 with fail
  go_cut [6,7] (fun dv x wd=> ∃d kk:Nat,dv= .int .u8 (d:Nat)∧d<256∧kk+1≤T.length∧Hid (zLl ere kk (zCM T d false (kk+1))=r)∧PqS w wb oa cap T (kk+1) wd)
  case first=>
   rcases HSL.out with rfl|rfl
   ·go_wp2_with fail
    go_meet
    exact⟨47,i,rfl,by decide,HLT.out,zPf ((zEi HBE.out).symm.trans ((zEc ere HLT.out HBE.out).symm.trans HR.out)),HS2.out⟩
   ·have HTK:=zPf (zCV HS2.out.v)
    obtain⟨d,hde⟩: ∃d,T.getD (i+1) 0=d:=⟨_,rfl⟩
    have hd256:d<256:=by have:=HS2.out.v.u (i+1);omega
    rw[hde]at HTK
    have HDE:=zPf hde
    clear hde
    by_cases hln:i+1<T.length
    ·rw[if_pos hln,zPq hln]at HTK
     have HLN:=zPf hln
     clear hln
     go_wp2_with fail
     refine HTK.out.mono ?_;rintro e w3 ⟨rfl,hv3,hb3⟩
     have HS3:=zPf (HS2.out.nbut hb3 hv3)
     clear hv3 hb3 HTK
     go_wp2_with fail
     go_meet
     exact⟨d,i+1,rfl,hd256,HLN.out,zPf ((zEi HDE.out).symm.trans ((zGv ere HLT.out HBE.out HLN.out).symm.trans HR.out)),HS3.out⟩
    ·rw[if_neg hln,zPr hln]at HTK
     have HE:=zPf ((zGy ere HLT.out HBE.out (by omega)).symm.trans HR.out)
     clear hln
     go_wp2_with fail
     refine HTK.out.mono ?_;rintro e w3 ⟨rfl,hv3,hb3⟩
     have HS3:=zPf (HS2.out.nbut hb3 hv3)
     clear hv3 hb3 HTK
     have k0:=HS3.out.a.c0
     have k1:=HS3.out.a.c1
     have k2:=HS3.out.a.c2
     have f0:=HS3.out.a.fz
     go_wp2_with fail
     exact HS3.out.ret (re:=[]) (er:=70) (Nds.nil _ _) rfl rfl HE.out rfl rfl rfl
  case rest=>
  obtain⟨d,kk,rfl,hd256,hkl,HE,hs3⟩:=hcut
  have HS3:=zPf hs3
  clear hs3 HS2
  go_wp2_with fail
  refine(zIh HS3.out.v hd256 false).mono ?_;rintro e w5 ⟨hr5,hb5⟩
  cases hq:zCM T d false (kk+1)with
  |none=>
   rw[hq]at hr5 HE
   obtain⟨rfl,hv5⟩:=hr5
   have HS5:=zPf (HS3.out.nbut hb5 hv5)
   clear hv5 hb5 hq
   have k0:=HS5.out.a.c0
   have k1:=HS5.out.a.c1
   have k2:=HS5.out.a.c2
   have f0:=HS5.out.a.fz
   go_wp2_with fail
   exact HS5.out.ret (re:=[]) (er:=70) (Nds.nil _ _) rfl rfl HE.out rfl rfl rfl
  |some p=>
   obtain⟨l,j⟩:=p
   have hu:=zH2 hd256 HS3.out.v.u hq
   have hll:=zF3 hq
   rw[hq]at hr5 HE
   obtain⟨v5,rfl,hm5,hv5⟩:=hr5
   have HU:=zPf hu
   simp only at hll
   have hl32:l.length≤4294967296:=by omega
   obtain⟨o5,c5,rfl⟩:=hm5.form
   have HM5:=zPf hm5
   have HS5:=zPf (HS3.out.nbut hb5 hv5)
   clear hv5 hm5 hb5 hq hu hll
   rcases l with _|⟨m,l⟩
   ·have HE2:Hid ((⟨3,0,[]⟩,0,j)=r):=zPf ((zEh (ere:=ere) (k:=kk) (j:=j)).symm.trans HE.out)
    have k0:=HS5.out.a.c0
    have k1:=HS5.out.a.c1
    have k2:=HS5.out.a.c2
    have f0:=HS5.out.a.fz
    go_wp2_with fail
    exact HS5.out.ret (re:=[]) (er:=0) (Nds.nil _ _) rfl rfl HE2.out rfl rfl rfl
   ·obtain⟨L,hL⟩: ∃L,m::l=L:=⟨_,rfl⟩
    have hLp:0<L.length:=by rw[←hL];simp
    rw[hL]at HE HU hl32 HM5 ⊢
    clear hL
    have qLp:((L.length:Int)==0)=false:=zPl.2 (by omega)
    obtain⟨o6,c6,hv6,hmv⟩:=HM5.out.toV (fun i hi=>HU.out _ (zD5 hi))
    have HMV:=zPf hmv
    injection hv6 with e1 _ e3
    subst e1
    subst e3
    clear hmv
    have HE2:=zPf ((zD0 (ere:=ere) (k:=kk) (j:=j) (l:=L) (by intro e;rw[e]at hLp;simp at hLp)).symm.trans HE.out)
    go_wp2_with fail
    refine(zJd (ere:=ere) (cap:=c5) HMV.out.arg).mono ?_;rintro e w6 ⟨hrp,hbp⟩
    have HS6:=zPf (HS5.out.below hbp)
    have S56:=zPf HS5.out.a.lt
    clear hbp
    have k0:=HS6.out.a.c0
    have k1:=HS6.out.a.c1
    have k2:=HS6.out.a.c2
    have f0:=HS6.out.a.fz
    cases hp:zA5 ere L with
    |error q=>
     obtain⟨e0,i0⟩:=q
     rw[hp]at hrp HE2
     simp only[zN1]at hrp
     subst hrp
     have hbad:=zFI HMV.out.u hp
     have hne0:((e0:Int) !=0)=true:=by rw[bne_iff_ne];have:=hbad.1;omega
     clear hp hbad
     go_wp2_with fail
     exact HS6.out.ret (re:=[]) (er:=e0) (Nds.nil _ _) rfl rfl HE2.out rfl rfl rfl
    |ok re=>
     rw[hp]at hrp HE2
     obtain⟨v6,rfl,hn6⟩:=hrp
     obtain⟨o7,c7,rfl⟩:=hn6.form
     have HN6:=zPf (hn6.mono S56.out)
     clear hp hn6
     go_wp2_with fail
     exact HS6.out.ret (re:=re) (er:=0) HN6.out rfl rfl HE2.out rfl rfl rfl
 have HE:=zPf ((zEd ere HLT.out (HBE.out▸hd) (HBE.out▸h36) (HBE.out▸fun h=>hsl (.inr h)) (HBE.out▸fun h=>hsl (.inl h))).symm.trans HR.out)
 have q47:((b:Int)==47)=false:=zPl.2 (by omega)
 have q92:((b:Int)==92)=false:=zPl.2 (by omega)
 by_cases hlo:b<48
 ·have q1:(b:Int)<48:=by omega
  clear hd h36 hsl hlo
  go_wp2_with fail
  exact HS1.out.ret (re:=[]) (er:=0) (Nds.nil _ _) rfl rfl HE.out rfl rfl rfl
 ·have q1:(48:Int)≤(b:Int):=by omega
  have q2:(57:Int)<(b:Int):=by omega
  clear hd h36 hsl hlo
  go_wp2_with fail
  exact HS1.out.ret (re:=[]) (er:=0) (Nds.nil _ _) rfl rfl HE.out rfl rfl rfl
end
end
section
open Go.RowKit
structure LpS (w:World) (wb rb gb:Nat) (oa ra:Option Addr) (ca rc:Nat) (T:List Nat) (i j:Nat) (bn:Value) (vs:List Value) (ns:List Nat) (X:Nat→List Value) (W:World):Prop where
 v:WdS W wb oa ca T i
 r:WdS W rb ra rc T j
 g:zCZ W gb (.slice none 0 0) (.slice none 0 0) bn
 n:BgN W w.heap.size vs ns X gb bn
 q:W.ownsRow (gb+1) 52 1 bn vs.length vs
 c:vs.length≤400
 z: ∀(i n:Nat),ns[i]?=some n→n≤4294967296
 b:Below w.heap.size w W
 lw:w.heap.size≤wb
 lr:w.heap.size≤rb
 wr:wb≠rb
 wg:wb<gb
 rg:rb<gb
 tw:0<T.length→ ∀g,oa=some ⟨g,0,none⟩→g<gb
 tr:0<T.length→ ∀g,ra=some ⟨g,0,none⟩→g<gb
 kv: ∀k,Blk vs k→gb<k
theorem WdS.tne {W:World} {wb:Nat} {oa:Option Addr} {ca:Nat} {T:List Nat} {i:Nat} (h:WdS W wb oa ca T i) {b:Nat} {o:Option Addr} {n c:Nat} (hc:W.cell? ⟨b,0,none⟩=some (.slice o n c)):0<T.length→ ∀g,oa=some ⟨g,0,none⟩→g≠b:=fun hp g e hgb=>by
 obtain⟨g',h1,_,_,h4⟩:=h.tx hp
 rw[e]at h1
 cases h1
 have:=h4 0 hp
 rw[hgb,hc]at this
 cases this
section
variable {w W W':World} {wb rb gb:Nat} {oa ra:Option Addr} {ca rc:Nat} {T:List Nat} {i j i':Nat} {bn:Value} {vs:List Value} {ns:List Nat} {X:Nat→List Value}
theorem LpS.below (h:LpS w wb rb gb oa ra ca rc T i j bn vs ns X W) (hb:Below W.heap.size W W'):LpS w wb rb gb oa ra ca rc T i j bn vs ns X W':=
 {h with v:=h.v.below hb,r:=h.r.below hb,g:=(hb.block gb h.g.lt).trans h.g,n:=h.n.kept (S:=fun _=>False) (zCJ.of_below hb _ fun k h1 h2=>by omega) (fun _ s=>s.elim),q:=zBs h.q fun g hg=>hb.block g (h.q.lt g hg).2,b:=h.b.trans (hb.mono h.b.size) }
theorem LpS.words (h:LpS w wb rb gb oa ra ca rc T i j bn vs ns X W) (hb:zBi W.heap.size wb W W') (hv:WdS W' wb oa ca T i'):LpS w wb rb gb oa ra ca rc T i' j bn vs ns X W':=
 have hk:zCJ W W' (fun k=>k=wb):=⟨hb.os,hb.tape,hb.output,hb.size,fun k h1 h2=>hb.block k h1 h2⟩
 have hg:=h.wg
 {h with
  v:=hv
  r:=h.r.block (hb.block rb h.r.lt (Ne.symm h.wr)) (fun hp g e hg=>hb.block g hg (h.r.tne h.v.c0 hp g e)) hb.size
  g:=(hb.block gb h.g.lt (by omega)).trans h.g
  n:=h.n.kept hk (fun k e _=>by subst e;exact⟨fun s=>by have:=h.kv _ s;omega,fun s=>by have:=(h.q.lt _ s).1;omega,by omega⟩)
  q:=hk.row h.q fun k s e=>by subst e;have:=(h.q.lt _ s).1;omega
  b:=h.b.trans (hk.below (k:=w.heap.size) h.b.size fun k hk e=>by have:=h.lw;omega) }
theorem LpS.ref (h:LpS w wb rb gb oa ra ca rc T i j bn vs ns X W) (hb:zBi W.heap.size rb W W') (hv:WdS W' rb ra rc T i'):LpS w wb rb gb oa ra ca rc T i i' bn vs ns X W':=
 have hk:zCJ W W' (fun k=>k=rb):=⟨hb.os,hb.tape,hb.output,hb.size,fun k h1 h2=>hb.block k h1 h2⟩
 have hg:=h.rg
 {h with
  r:=hv
  v:=h.v.block (hb.block wb h.v.lt h.wr) (fun hp g e hg=>hb.block g hg (h.v.tne h.r.c0 hp g e)) hb.size
  g:=(hb.block gb h.g.lt (by omega)).trans h.g
  n:=h.n.kept hk (fun k e _=>by subst e;exact⟨fun s=>by have:=h.kv _ s;omega,fun s=>by have:=(h.q.lt _ s).1;omega,by omega⟩)
  q:=hk.row h.q fun k s e=>by subst e;have:=(h.q.lt _ s).1;omega
  b:=h.b.trans (hk.below (k:=w.heap.size) h.b.size fun k hk e=>by have:=h.lr;omega) }
theorem LpS.fresh (h:LpS w wb rb gb oa ra ca rc T i j bn vs ns X W) {k:Nat} (hk:W.heap.size≤k):gb<k∧ ¬Blk vs k∧bn.ownBlock≠some k:=by
 refine⟨by have:=h.g.lt;omega,fun⟨i,v,h1,h2⟩=>?_,fun s=>by have:=(h.q.lt _ s).2;omega⟩
 have hi:i<ns.length:=by rw[h.n.len];exact(zPm.1 h1).1
 have:=((h.n.a i v _ h1 (zPw hi)).lt k h2).2
 omega
theorem LpS.add (h:LpS w wb rb gb oa ra ca rc T i j bn vs ns X W) {base:Nat} {o:Option Addr} {n c:Nat} {x:List Value} (hr:W.ownsRow base 78 9 (.slice o n c) n x) (hb0:w.heap.size≤base)
  (hd: ∀k,base≤k→gb<k∧ ¬Blk vs k∧bn.ownBlock≠some k) (hn:n≤4294967296):
  Calls Tryz.prog 19 #[.pointer (some ⟨gb,0,none⟩),.slice o n c] W fun e W'=>e= .returned (.tuple #[])∧ ∃bn' vs' ns' X',LpS w wb rb gb oa ra ca rc T i j bn' vs' ns' X' W':=by
 have hwg:=h.wg
 have hrg:=h.rg
 have hlw:=h.lw
 by_cases hl:vs.length<400
 ·refine(zIH h.g h.q hl o n c).mono ?_
  rintro e W' ⟨rfl,b',hg',hq',hk,hbk⟩
  have hk1: ∀k,k<gb→ ¬(k=gb∨bn.ownBlock=some k):=fun k hk s=>by
   rcases s with s|s
   ·omega
   ·have:=(h.q.lt _ s).1;omega
  have hnb: ∀k,(Value.slice o n c).ownBlock=some k→gb<k∧ ¬Blk vs k∧bn.ownBlock≠some k:=fun k hk=>hd k (hr.lt k hk).1
  have hw:gb<W.heap.size:=h.g.lt
  have hb2: ∀k,k<W.heap.size→gb<k→bn.ownBlock≠some k→b'.ownBlock≠some k:=fun k h1 h2 h3 s=>by
   rcases hbk with e|⟨m,e,hm⟩
   ·rw[e]at s;exact h3 s
   ·rw[e]at s;cases s;omega
  refine⟨rfl,b',_,ns++[n],_,{ h with
   v:=h.v.block (hk.block wb h.v.lt (hk1 _ hwg)) (fun hp g e hg=>hk.block g hg (hk1 _ (h.tw hp g e))) hk.size
   r:=h.r.block (hk.block rb h.r.lt (hk1 _ hrg)) (fun hp g e hg=>hk.block g hg (hk1 _ (h.tr hp g e))) hk.size
   g:=hg'
   n:=BgN.snoc h.n (fun i v m h1 h2=>hk.row (h.n.a i v m h1 h2) fun k s e=>?_) (zA6 (hk.row hr fun k s e=>?_) hb0) (fun k s=>⟨(hnb k s).2.1,hb2 k (hr.lt k s).2 (hnb k s).1 (hnb k s).2.2,by have:=(hnb k s).1;omega⟩) (fun k s=>?_) hq' (by omega) (hg'.cell 8) hg'.lt
   q:=hq'
   c:=by rw[zPz];simp only[List.length_cons,List.length_nil];omega
   z:=fun i m hm=>?_
   b:=h.b.trans (hk.below (k:=w.heap.size) h.b.size fun k h1=>hk1 k (by omega))
   kv:=fun k ⟨i,v,h1,h2⟩=>?_ }⟩
  ·have hB:Blk vs k:=⟨i,v,h1,s⟩
   rcases e with e|e
   ·have:=h.kv k hB;omega
   ·exact h.n.ra i v k h1 s e
  ·rcases e with e|e
   ·have:=(hnb k s).1;omega
   ·exact(hnb k s).2.2 e
  ·obtain⟨i,v,h1,h2⟩:=s
   have hi:i<ns.length:=by rw[h.n.len];exact(zPm.1 h1).1
   exact hb2 k ((h.n.a i v _ h1 (zPw hi)).lt k h2).2 (h.kv k ⟨i,v,h1,h2⟩) (h.n.ra i v k h1 h2)
  ·rcases zCK hm with hm|⟨_,rfl⟩
   ·exact h.z i m hm
   ·exact hn
  ·rcases zCK h1 with h1|⟨_,rfl⟩
   ·exact h.kv k ⟨i,v,h1,h2⟩
   ·exact(hnb k h2).1
 ·refine(zIG h.g h.q hl o n c).mono ?_
  rintro e W' ⟨rfl,rfl⟩
  exact⟨rfl,_,_,_,_,h⟩
theorem LpS.apart (h:LpS w wb rb gb oa ra ca rc T i j bn vs ns X W):Calls Tryz.prog 22 #[.pointer (some ⟨gb,0,none⟩)] W fun e W'=>e= .returned (.bool true)∧Below w.heap.size w W':=by
 refine(zKA h.b.size h.c h.z h.g h.n).mono ?_
 rintro e W' ⟨rfl,hk⟩
 exact⟨rfl,h.b.trans (hk.below (k:=w.heap.size) h.b.size fun k h1 s=>by have:=h.kv k s;have:=h.wg;have:=h.lw;omega)⟩
theorem LpS.new {w1 w2:World} (hv:WdS w1 wb oa ca T 0) (hb1:Below w.heap.size w w1) (hl:w.heap.size≤wb) (hr:WdS w2 rb ra rc T 0) (hb2:Below w1.heap.size w1 w2) (hl2:w1.heap.size≤rb):
  LpS w wb rb w2.heap.size oa ra ca rc T 0 0 (.slice none 0 0) [] [] (fun _=>[]) (w2.alloc (.cells (zNw (.slice none 0 0) (.slice none 0 0) (.slice none 0 0)) 50)):=
 have hlt:=hv.lt
 have hrl:=hr.lt
 have h1:=hb1.size
 have h2:=hb2.size
 have hn:=zCZ.new w2
 {v:=(hv.below hb2).alloc _
  r:=hr.alloc _
  g:=hn
  n:=⟨rfl,fun i v n hv=>by simp at hv,fun i j v u b hv=>by simp at hv,zPv _ _ _ _,fun i v b hv=>by simp at hv,hn.cell 8,hn.lt,fun i v hv=>by simp at hv,fun e=>by cases e⟩
  q:=zPv _ _ _ _
  c:=Nat.zero_le _
  z:=fun i n h=>by simp at h
  b:=(hb1.trans (hb2.mono h1)).alloc (by omega) _
  lw:=hl
  lr:=by omega
  wr:=by omega
  wg:=by omega
  rg:=hrl
  tw:=fun hp g e=>by have:=hv.tlt hp g e;omega
  tr:=fun hp g e=>hr.tlt hp g e
  kv:=fun k ⟨i,v,h1,_⟩=>by simp at h1 }
end
end
end Go.Proofs.YtfjbnpdffillbaaGreatDoor
