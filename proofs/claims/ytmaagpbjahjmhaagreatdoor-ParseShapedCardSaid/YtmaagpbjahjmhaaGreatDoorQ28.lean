/- Parts: Fl. -/
import Derived.Test.YtmaagpbjahjmhaaGreatDoorQ6
import Derived.Test.YtmaagpbjahjmhaaGreatDoorQ20
import Derived.Test.YtmaagpbjahjmhaaGreatDoorQ26
import Derived.Test.YtmaagpbjahjmhaaGreatDoorQ7
import Derived.Test.YtmaagpbjahjmhaaGreatDoorQ13
import Derived.Test.YtmaagpbjahjmhaaGreatDoorQ27
import Derived.Test.YtmaagpbjahjmhaaGreatDoorQ1
set_option maxHeartbeats 6400000
set_option maxRecDepth 100000
namespace Go.Proofs.YtmaagpbjahjmhaaGreatDoor
open Go.RowKit
section
variable {w w':World} {b:Nat} {k n v:Value}
theorem Nds.form {w:World} {base:Nat} {v:Value} {L:List Nd} (h:Nds w base v L): ∃o c,v= .slice o L.length c:=by
 rcases h.2 with ⟨h1,h2⟩|⟨g,cp,_,h1,_⟩
 ·exact⟨none,0,by rw[h1,h2]⟩
 ·exact⟨_,_,h1⟩
theorem zBO {Q:Ending→World→Prop} {a:Act} {oa:Option Addr} {len cp:Nat} {kk nn ee:Int} (h4:a.tmps.getD 4 undef= .pointer (some ⟨b,0,none⟩)) (h5:a.tmps.getD 5 undef= .int .i64 ee) (hd:a.defers=[])
  (h:AdB w b (.int .i8 kk) (.int .i64 nn) (.slice oa len cp)) (hQ:Q (.returned (.tuple #[.agg #[.int .i8 kk,.int .i64 nn,.slice oa len cp],.int .i64 ee])) w):
  bodyPost Tryz.prog Tryz.f149 Q .ret a w:=by
 refine zRQ (v:= .tuple #[.agg #[.int .i8 kk,.int .i64 nn,.slice oa len cp],.int .i64 ee]) ?_ hd hQ
 have c0:=h.c0
 have c1:=h.c1
 have c2:=h.c2
 simp only[Array.getD_eq_getD_getElem?]at h4 h5
 simp[results,Tryz.results149,go_sem,h4,h5,c0,c1,c2]
end
section
variable {w:World} {wb:Nat} {oa:Option Addr} {cap:Nat} {T:List Nat} {i:Nat}
def zHG (wb:Nat) (oa:Option Addr) (cap:Nat) (T:List Nat) (base:Nat) (r:Ad × Nat × Nat) (e:Ending) (w':World):Prop:=
 ∃v,e= .returned (.tuple #[.agg #[.int .i8 r.1.kind,.int .i64 r.1.n,v],.int .i64 (r.2.1:Nat)])∧Nds w' base v r.1.re∧WdS w' wb oa cap T r.2.2
theorem zHG.mk {base:Nat} {r r':Ad × Nat × Nat} {e:Ending} {w':World} (h:r=r') (hr:zHG wb oa cap T base r' e w'):zHG wb oa cap T base r e w':=h▸hr
def reA (ere:Bool) (l:List Mk) (j:Nat):Ad × Nat × Nat:=
 if l=[]then(⟨3,0,[]⟩,0,j)
 else match zBN ere l with
  | .error e=>(Ad.zero,e.1,j)
  | .ok re=>(⟨3,0,re⟩,0,j)
def zNU (ere:Bool) (k:Nat):Option (List Mk × Nat)→Ad × Nat × Nat
 |none=>(Ad.zero,70,k+1)
 |some (l,j)=>reA ere l j
def zNV (ere:Bool) (T:List Nat) (k:Nat):Ad × Nat × Nat:=
 match zBf T (T.getD k 0) false (k+1)with
 |none=>(Ad.zero,70,k+1)
 |some (l,j)=>
  if l=[]then(⟨3,0,[]⟩,0,j)
  else match zBN ere l with
   | .error e=>(Ad.zero,e.1,j)
   | .ok re=>(⟨3,0,re⟩,0,j)
theorem zJ6 {ere:Bool} {k d:Nat} (h:T.getD k 0=d):zNV ere T k=zNU ere k (zBf T d false (k+1)):=by
 unfold zNV zNU
 rw[h]
 cases zBf T d false (k+1)<;>rfl
theorem zHr {ere:Bool} {k j:Nat} :zNU ere k (some ([],j))=(⟨3,0,[]⟩,0,j):=rfl
def zQP (j:Nat):Except (Nat × Nat) (List Nd)→Ad × Nat × Nat
 | .error e=>(Ad.zero,e.1,j)
 | .ok re=>(⟨3,0,re⟩,0,j)
theorem zGc {ere:Bool} {k j:Nat} {l:List Mk} (h:l≠[]):zNU ere k (some (l,j))=zQP j (zBN ere l):=by
 show reA ere l j=_
 unfold reA zQP
 rw[if_neg h]
theorem zNE (ere:Bool) (h:T.length≤i):zCE ere T i=(Ad.zero,0,i):=by unfold zCE;rw[if_pos h]
def zQQ (i:Nat):Option (Nat × Nat)→Ad × Nat × Nat
 |none=>(Ad.zero,71,i)
 |some (v,j)=>if v=0 then(Ad.zero,71,j)else(⟨1,v,[]⟩,0,j)
theorem zND (ere:Bool) (h:i<T.length) (hd:48≤T.getD i 0∧T.getD i 0≤57):zCE ere T i=zQQ i (zHg T 2147483647 i):=by
 unfold zCE zQQ;rw[if_neg (by omega)];simp only;rw[if_pos hd];cases zHg T 2147483647 i<;>rfl
theorem zLj (ere:Bool) (h:i<T.length) (hd:T.getD i 0=36):zCE ere T i=(⟨2,0,[]⟩,0,i+1):=by unfold zCE;rw[if_neg (by omega)];simp only;rw[if_neg (by omega),if_pos hd]
theorem zNF (ere:Bool) (h:i<T.length) (hd:T.getD i 0=92) (hl:T.length≤i+1):zCE ere T i=(Ad.zero,70,i+1):=by unfold zCE;rw[if_neg (by omega)];simp only;rw[if_neg (by omega),if_neg (by omega),if_pos ⟨hd,hl⟩]
theorem zNC (ere:Bool) (_:i<T.length) (hd:T.getD i 0=92) (hl:i+1<T.length):zCE ere T i=zNV ere T (i+1):=by
 unfold zCE;rw[if_neg (by omega)];simp only;rw[if_neg (by omega),if_neg (by omega),if_neg (by omega),if_pos (.inr hd),if_pos hd];rfl
theorem zJ1 (ere:Bool) (h:i<T.length) (hd:T.getD i 0=47):zCE ere T i=zNV ere T i:=by
 unfold zCE;rw[if_neg (by omega)];simp only;rw[if_neg (by omega),if_neg (by omega),if_neg (by omega),if_pos (.inl hd),if_neg (by omega)];rfl
theorem zJ2 (ere:Bool) (h:i<T.length) (h1: ¬(48≤T.getD i 0∧T.getD i 0≤57)) (h2: ¬T.getD i 0=36) (h3: ¬T.getD i 0=92) (h4: ¬T.getD i 0=47):zCE ere T i=(Ad.zero,0,i):=by
 unfold zCE;rw[if_neg (by omega)];simp only;rw[if_neg h1,if_neg h2,if_neg (by omega),if_neg (by omega)]
theorem zJ0 (hv:WdS w wb oa cap T i) (ere:Bool) (hI: ∀j,j<T.length→zPQ (T.getD j 0)):
  Calls Tryz.prog 149 #[.pointer (some ⟨wb,0,none⟩),.bool ere] w fun e w'=>zHG wb oa cap T w.heap.size (zCE ere T i) e w'∧zBU w.heap.size wb w w':=by
 obtain⟨r,hr⟩: ∃r,zCE ere T i=r:=⟨_,rfl⟩
 rw[hr]
 have HR:=zQr hr
 clear hr
 have HI:=zQr hI
 have lt:=hv.lt
 have hts0:=zQr (fun hp=>hv.tlt hp)
 have hat:=hv.at_
 have hlen:=hv.len
 have hne:w.heap.size≠wb:=by omega
 have hts:0<T.length→ ∀g,oa=some ⟨g,0,none⟩→g≠w.heap.size:=fun hp g hg=>by have:=hts0.out hp g hg;omega
 have HV:=zQr (hv.alloc (.cells #[.int .i8 0,.int .i64 0,.slice none 0 0] 31))
 have HA:=zQr (AdB.new w (.int .i8 0) (.int .i64 0) (.slice none 0 0))
 have HB:=zQr ((zBU.refl w.heap.size wb w).alloc (zQt _) (.cells #[.int .i8 0,.int .i64 0,.slice none 0 0] 31))
 clear hv hI
 obtain⟨b,hb⟩: ∃b,T.getD i 0=b:=⟨_,rfl⟩
 have HBE:=zQr hb
 have hb256:b<256:=by have:=HV.out.u i;omega
 have HP:=zQr (zAz HV.out)
 rw[hb]at HP
 clear hb
 go_enter Tryz.func149,Tryz.ntmps149
 go_wp2_with fail
 refine HP.out.mono ?_;rintro e w1 ⟨rfl,hb1⟩
 have HV1:=zQr (HV.out.below hb1)
 have HA1:=zQr (HA.out.below hb1)
 have HB1:=zQr (HB.out.below hb1 (by simp))
 have hsz1:w.heap.size<w1.heap.size:=HA1.out.lt
 clear hb1 HV HA HB HP
 by_cases hlt:i<T.length
 ·rw[zQ2 hlt]
  have HLT:=zQr hlt
  clear hlt
  by_cases hd:48≤b∧b≤57
  ·have q1:(48:Int)≤(b:Int):=by omega
   have q2:(b:Int)≤57:=by omega
   have HE:=zQr ((zND ere HLT.out (HBE.out▸hd)).symm.trans HR.out)
   clear hd
   go_wp2_with fail
   refine(zF5 (most:=2147483647) HV1.out (zQt _) HI.out).mono ?_;rintro e w2 ⟨hr2,hb2⟩
   have HA2:=zQr (HA1.out.nbut hb2 (by have:=HA1.out.lt;omega) hne)
   have HB2:=zQr (HB1.out.trans (hb2.mono (by omega)))
   clear hb2
   cases hq:zHg T 2147483647 i with
   |none=>
    rw[hq]at hr2 HE
    obtain⟨rfl,hv2⟩:=hr2
    have HV2:=zQr hv2
    clear hv2 hq
    have k0:=HA2.out.c0
    have k1:=HA2.out.c1
    have k2:=HA2.out.c2
    have f0:=HA2.out.fz
    go_wp2_with fail
    refine zBO rfl rfl rfl (HA2.out.set (.int .i8 0) (.int .i64 0) (.slice none 0 0)) ⟨zHG.mk HE.out.symm ⟨_,rfl,Nds.nil _ _,((HV2.out.store hne (hts) _ _).store hne hts _ _).store hne hts _ _⟩,((HB2.out.store (.inr (zQt _)) _ _).store (.inr (zQt _)) _ _).store (.inr (zQt _)) _ _⟩
   |some p=>
    obtain⟨x,j⟩:=p
    rw[hq]at hr2 HE
    obtain⟨rfl,hv2⟩:=hr2
    have HV2:=zQr hv2
    clear hv2 hq
    have k0:=HA2.out.c0
    have k1:=HA2.out.c1
    have k2:=HA2.out.c2
    have f0:=HA2.out.fz
    by_cases hx:x=0
    ·subst hx
     have HE2:Hid ((Ad.zero,71,j)=r):=HE
     go_wp2_with fail
     refine zBO rfl rfl rfl (HA2.out.set (.int .i8 0) (.int .i64 0) (.slice none 0 0)) ⟨zHG.mk HE2.out.symm ⟨_,rfl,Nds.nil _ _,((HV2.out.store hne (hts) _ _).store hne hts _ _).store hne hts _ _⟩,((HB2.out.store (.inr (zQt _)) _ _).store (.inr (zQt _)) _ _).store (.inr (zQt _)) _ _⟩
    ·have HE2:Hid ((⟨1,x,[]⟩,0,j)=r):=zQr ((if_neg hx).symm.trans HE.out)
     have hx':((x:Int)==0)=false:=zQx.2 (by omega)
     clear hx
     go_wp2_with fail
     refine zBO rfl rfl rfl (HA2.out.set (.int .i8 1) (.int .i64 (x:Nat)) (.slice none 0 0)) ⟨zHG.mk HE2.out.symm ⟨_,rfl,Nds.nil _ _,((HV2.out.store hne hts _ _).store hne hts _ _).store hne hts _ _⟩,((HB2.out.store (.inr (zQt _)) _ _).store (.inr (zQt _)) _ _).store (.inr (zQt _)) _ _⟩
  by_cases h36:b=36
  ·subst h36
   have HE:=zQr ((zLj ere HLT.out HBE.out).symm.trans HR.out)
   have HTK:=zQr (zB5 HV1.out)
   rw[if_pos HLT.out]at HTK
   clear hd
   go_wp2_with fail
   refine HTK.out.mono ?_;rintro e w2 ⟨rfl,hv2,hb2⟩
   have HV2:=zQr hv2
   have HA2:=zQr (HA1.out.nbut hb2 (by omega) hne)
   have HB2:=zQr (HB1.out.trans (hb2.mono (by omega)))
   clear hv2 hb2 HTK
   have k0:=HA2.out.c0
   have k1:=HA2.out.c1
   have k2:=HA2.out.c2
   have f0:=HA2.out.fz
   go_wp2_with fail
   refine zBO rfl rfl rfl (HA2.out.set (.int .i8 2) (.int .i64 0) (.slice none 0 0)) ⟨zHG.mk HE.out.symm ⟨_,rfl,Nds.nil _ _,((HV2.out.store hne hts _ _).store hne hts _ _).store hne hts _ _⟩,((HB2.out.store (.inr (zQt _)) _ _).store (.inr (zQt _)) _ _).store (.inr (zQt _)) _ _⟩
  by_cases h92:b=92
  ·subst h92
   have HTK:=zQr (zB5 HV1.out)
   rw[if_pos HLT.out]at HTK
   clear hd h36
   go_wp2_with fail
   refine HTK.out.mono ?_;rintro e w2 ⟨rfl,hv2,hb2⟩
   have HV2:=zQr hv2
   have HA2:=zQr (HA1.out.nbut hb2 (by omega) hne)
   have HB2:=zQr (HB1.out.trans (hb2.mono (by omega)))
   have hsz2:w.heap.size<w2.heap.size:=HA2.out.lt
   obtain⟨d,hde⟩: ∃d,T.getD (i+1) 0=d:=⟨_,rfl⟩
   have HDE:=zQr hde
   have hd256:d<256:=by have:=hv2.u (i+1);omega
   have HP:=zQr (zAz hv2)
   rw[hde]at HP
   clear hv2 hb2 HTK hde
   go_wp2_with fail
   refine HP.out.mono ?_;rintro e w3 ⟨rfl,hb3⟩
   have HV3:=zQr (HV2.out.below hb3)
   have HA3:=zQr (HA2.out.below hb3)
   have HB3:=zQr (HB2.out.below hb3 (by omega))
   clear hb3 HP HV2 HA2 HB2
   by_cases hln:i+1<T.length
   ·rw[zQ2 hln]
    have HDL:=zQr hln
    have HE:=zQr ((zNC ere HLT.out HBE.out hln).symm.trans HR.out)
    clear hln
    have HTK:=zQr (zB5 HV3.out)
    rw[if_pos HDL.out]at HTK
    go_wp2_with fail
    refine HTK.out.mono ?_;rintro e w4 ⟨rfl,hv4,hb4⟩
    have HV4:=zQr hv4
    have HA4:=zQr (HA3.out.nbut hb4 (by have:=HA3.out.lt;omega) hne)
    have HB4:=zQr (HB3.out.trans (hb4.mono (by have:=HA3.out.lt;omega)))
    clear hv4 hb4 HTK
    go_wp2_with fail
    refine(zDm HV4.out hd256 false).mono ?_;rintro e w5 ⟨hr5,hb5⟩
    have HA5:=zQr (HA4.out.nbut hb5 (by have:=HA4.out.lt;omega) hne)
    have HB5:=zQr (HB4.out.trans (hb5.mono (by have:=HA4.out.lt;omega)))
    have HTL:=zQr (zJ6 (ere:=ere) HDE.out)
    have hs4:w.heap.size<w4.heap.size:=HA4.out.lt
    have HSZ:=zQr hb5.size
    clear hb5
    cases hq:zBf T d false ((i+1)+1)with
    |none=>
     rw[hq]at hr5 HTL
     obtain⟨rfl,hv5⟩:=hr5
     have HV5:=zQr hv5
     have HE:=zQr (HTL.out.symm.trans HE.out)
     clear hv5 hq
     have k0:=HA5.out.c0
     have k1:=HA5.out.c1
     have k2:=HA5.out.c2
     have f0:=HA5.out.fz
     go_wp2_with fail
     refine zBO rfl rfl rfl (HA5.out.set (.int .i8 0) (.int .i64 0) (.slice none 0 0)) ⟨zHG.mk HE.out.symm ⟨_,rfl,Nds.nil _ _,((HV5.out.store hne hts _ _).store hne hts _ _).store hne hts _ _⟩,((HB5.out.store (.inr (zQt _)) _ _).store (.inr (zQt _)) _ _).store (.inr (zQt _)) _ _⟩
    |some p=>
     obtain⟨l,j⟩:=p
     have hu:=zJX hd256 HV4.out.u hq
     rw[hq]at hr5 HTL
     obtain⟨v5,rfl,hm5,hv5⟩:=hr5
     have HU:=zQr hu
     have hll:=zBr hq
     simp only at hll
     have hl32:l.length≤4294967296:=by have:=HV4.out.len;omega
     obtain⟨o5,c5,rfl⟩:=hm5.form
     have HM5:=zQr hm5
     have HV5:=zQr (hv5.alloc (.cells #[.int .i8 3,.int .i64 0,.slice none 0 0] 31))
     have HB5':=zQr (HB5.out.alloc (by have:=HA5.out.lt;omega) (.cells #[.int .i8 3,.int .i64 0,.slice none 0 0] 31))
     have HA5':=zQr (HA5.out.below ((zQs _ _).alloc (zQt _) (.cells #[.int .i8 3,.int .i64 0,.slice none 0 0] 31)))
     have HC5:=zQr (AdB.new w5 (.int .i8 3) (.int .i64 0) (.slice none 0 0))
     have HM6:=zQr (HM5.out.below ((zQs _ _).alloc (zQt _) (.cells #[.int .i8 3,.int .i64 0,.slice none 0 0] 31)))
     have hsW:(w5.alloc (.cells #[.int .i8 3,.int .i64 0,.slice none 0 0] 31)).heap.size=w5.heap.size+1:=by simp
     clear hv5 hm5 hq hu hll HA5 HB5 HM5
     go_upto_region 27 with fail
     obtain⟨W5,hW5⟩: ∃W,w5.alloc (.cells #[.int .i8 3,.int .i64 0,.slice none 0 0] 31)=W:=⟨_,rfl⟩
     rw[hW5]
     rw[hW5]at HV5 HB5' HA5' HC5 HM6 hsW
     clear hW5
     have hs5:w.heap.size<w5.heap.size:=zQu hs4 HSZ.out
     have hneC:w5.heap.size≠wb:=by omega
     have hneB:w.heap.size≠w5.heap.size:=by omega
     have htsC:0<T.length→ ∀g,oa=some ⟨g,0,none⟩→g≠w5.heap.size:=fun hp g hg=>by have:=hts0.out hp g hg;omega
     have hwC:w.heap.size≤w5.heap.size:=by omega
     have j0:=HC5.out.c0
     have j1:=HC5.out.c1
     have j2:=HC5.out.c2
     have k0:=HA5'.out.c0
     have k1:=HA5'.out.c1
     have k2:=HA5'.out.c2
     have f0:=HA5'.out.fz
     rcases l with _|⟨m,l⟩
     ·have HE:Hid ((⟨3,0,[]⟩,0,j)=r):=zQr ((zHr (ere:=ere) (k:=(i+1)) (j:=j)).symm.trans (HTL.out.symm.trans HE.out))
      go_wp2_with fail
      refine zBO rfl rfl rfl (HA5'.out.set (.int .i8 3) (.int .i64 0) (.slice none 0 0)) ⟨zHG.mk HE.out.symm ⟨_,rfl,Nds.nil _ _,((HV5.out.store hne hts _ _).store hne hts _ _).store hne hts _ _⟩,((HB5'.out.store (.inr (zQt _)) _ _).store (.inr (zQt _)) _ _).store (.inr (zQt _)) _ _⟩
     ·obtain⟨L,hL⟩: ∃L,m::l=L:=⟨_,rfl⟩
      have HL:=zQr hL
      have hLp:0<L.length:=by rw[←hL];simp
      rw[hL]at HTL HU hl32 HM6 ⊢
      clear hL
      have hLp':(0:Int)<(L.length:Int):=by omega
      obtain⟨o6,c6,hv6,hmv⟩:=HM6.out.toV (fun i hi=>HU.out _ (zE9 hi))
      have HMV:=zQr hmv
      injection hv6 with e1 _ e3
      subst e1
      subst e3
      clear hmv
      have HE:=zQr ((zGc (ere:=ere) (k:=(i+1)) (j:=j) (l:=L) (by intro e;rw[e]at hLp;simp at hLp)).symm.trans (HTL.out.symm.trans HE.out))
      clear j0 j1 j2 k0 k1 k2 f0
      go_wp2_with fail
      refine(zE2 (ere:=ere) (cap:=c5) HMV.out.arg).mono ?_;rintro e w6 ⟨hrp,hbp⟩
      have HV6:=zQr (HV5.out.below hbp)
      have HB6:=zQr (HB5'.out.below hbp (by omega))
      have HA6:=zQr (HA5'.out.below hbp)
      have HC6:=zQr (HC5.out.below hbp)
      have hs6:=hbp.size
      clear hbp
      have j0:=HC6.out.c0
      have j1:=HC6.out.c1
      have j2:=HC6.out.c2
      have k0:=HA6.out.c0
      have k1:=HA6.out.c1
      have k2:=HA6.out.c2
      have f0:=HA6.out.fz
      have g0:=HC6.out.fz
      cases hp:zBN ere L with
      |error q=>
       obtain⟨e0,i0⟩:=q
       rw[hp]at hrp HE
       simp only[zPZ]at hrp
       subst hrp
       have hbad:=zE3 HMV.out.u hp
       have hne0:((e0:Int) !=0)=true:=by rw[bne_iff_ne];have:=hbad.1;omega
       clear hp hbad
       go_wp2_with fail
       refine zBO rfl rfl rfl ((HA6.out.other hneB _ _).set (.int .i8 0) (.int .i64 0) (.slice none 0 0)) ⟨zHG.mk HE.out.symm ⟨_,rfl,Nds.nil _ _,(((HV6.out.store hneC htsC _ _).store hne hts _ _).store hne hts _ _).store hne hts _ _⟩,(((HB6.out.store (.inr hwC) _ _).store (.inr (zQt _)) _ _).store (.inr (zQt _)) _ _).store (.inr (zQt _)) _ _⟩
      |ok re=>
       rw[hp]at hrp HE
       obtain⟨v6,rfl,hn6⟩:=hrp
       obtain⟨o7,c7,rfl⟩:=hn6.form
       have hblk:=hn6.lt
       have HN6:=zQr hn6
       have HBK:=zQr hblk
       clear hp hn6 hblk
       go_wp2_with fail
       refine zBO rfl rfl rfl ((HA6.out.other hneB _ _).set (.int .i8 3) (.int .i64 0) (.slice o7 re.length c7)) ⟨zHG.mk HE.out.symm ⟨_,rfl,?_,(((HV6.out.store hneC htsC _ _).store hne hts _ _).store hne hts _ _).store hne hts _ _⟩,(((HB6.out.store (.inr hwC) _ _).store (.inr (zQt _)) _ _).store (.inr (zQt _)) _ _).store (.inr (zQt _)) _ _⟩
       refine zAR (zAV HN6.out fun g hg=>?_) (by omega)
       have:=(HBK.out g hg).1
       exact((zQ1 _ _ _ _ (by show g≠w.heap.size;omega)).trans ((zQ1 _ _ _ _ (by show g≠w.heap.size;omega)).trans ((zQ1 _ _ _ _ (by show g≠w.heap.size;omega)).trans (zQ1 _ _ _ _ (by show g≠w5.heap.size;omega)))))
   ·rw[zQ3 hln]
    have HE:=zQr ((zNF ere HLT.out HBE.out (by omega)).symm.trans HR.out)
    clear hln
    have k0:=HA3.out.c0
    have k1:=HA3.out.c1
    have k2:=HA3.out.c2
    have f0:=HA3.out.fz
    go_wp2_with fail
    refine zBO rfl rfl rfl (HA3.out.set (.int .i8 0) (.int .i64 0) (.slice none 0 0)) ⟨zHG.mk HE.out.symm ⟨_,rfl,Nds.nil _ _,((HV3.out.store hne (hts) _ _).store hne hts _ _).store hne hts _ _⟩,((HB3.out.store (.inr (zQt _)) _ _).store (.inr (zQt _)) _ _).store (.inr (zQt _)) _ _⟩
  by_cases h47:b=47
  ·subst h47
   have HE:=zQr ((zJ1 ere HLT.out HBE.out).symm.trans HR.out)
   obtain⟨d,hde⟩: ∃d,d=47:=⟨_,rfl⟩
   have HDE:Hid (T.getD i 0=d):=zQr (HBE.out.trans hde.symm)
   have hd256:d<256:=by omega
   have HDL:=zQr HLT.out
   clear hd h36 h92
   subst hde
   have HTK:=zQr (zB5 HV1.out)
   rw[if_pos HDL.out]at HTK
   go_wp2_with fail
   refine HTK.out.mono ?_;rintro e w4 ⟨rfl,hv4,hb4⟩
   have HV4:=zQr hv4
   have HA4:=zQr (HA1.out.nbut hb4 (by have:=HA1.out.lt;omega) hne)
   have HB4:=zQr (HB1.out.trans (hb4.mono (by have:=HA1.out.lt;omega)))
   clear hv4 hb4 HTK
   go_wp2_with fail
   refine(zDm HV4.out hd256 false).mono ?_;rintro e w5 ⟨hr5,hb5⟩
   have HA5:=zQr (HA4.out.nbut hb5 (by have:=HA4.out.lt;omega) hne)
   have HB5:=zQr (HB4.out.trans (hb5.mono (by have:=HA4.out.lt;omega)))
   have HTL:=zQr (zJ6 (ere:=ere) HDE.out)
   have hs4:w.heap.size<w4.heap.size:=HA4.out.lt
   have HSZ:=zQr hb5.size
   clear hb5
   cases hq:zBf T 47 false (i+1)with
   |none=>
    rw[hq]at hr5 HTL
    obtain⟨rfl,hv5⟩:=hr5
    have HV5:=zQr hv5
    have HE:=zQr (HTL.out.symm.trans HE.out)
    clear hv5 hq
    have k0:=HA5.out.c0
    have k1:=HA5.out.c1
    have k2:=HA5.out.c2
    have f0:=HA5.out.fz
    go_wp2_with fail
    refine zBO rfl rfl rfl (HA5.out.set (.int .i8 0) (.int .i64 0) (.slice none 0 0)) ⟨zHG.mk HE.out.symm ⟨_,rfl,Nds.nil _ _,((HV5.out.store hne hts _ _).store hne hts _ _).store hne hts _ _⟩,((HB5.out.store (.inr (zQt _)) _ _).store (.inr (zQt _)) _ _).store (.inr (zQt _)) _ _⟩
   |some p=>
    obtain⟨l,j⟩:=p
    have hu:=zJX hd256 HV4.out.u hq
    rw[hq]at hr5 HTL
    obtain⟨v5,rfl,hm5,hv5⟩:=hr5
    have HU:=zQr hu
    have hll:=zBr hq
    simp only at hll
    have hl32:l.length≤4294967296:=by have:=HV4.out.len;omega
    obtain⟨o5,c5,rfl⟩:=hm5.form
    have HM5:=zQr hm5
    have HV5:=zQr (hv5.alloc (.cells #[.int .i8 3,.int .i64 0,.slice none 0 0] 31))
    have HB5':=zQr (HB5.out.alloc (by have:=HA5.out.lt;omega) (.cells #[.int .i8 3,.int .i64 0,.slice none 0 0] 31))
    have HA5':=zQr (HA5.out.below ((zQs _ _).alloc (zQt _) (.cells #[.int .i8 3,.int .i64 0,.slice none 0 0] 31)))
    have HC5:=zQr (AdB.new w5 (.int .i8 3) (.int .i64 0) (.slice none 0 0))
    have HM6:=zQr (HM5.out.below ((zQs _ _).alloc (zQt _) (.cells #[.int .i8 3,.int .i64 0,.slice none 0 0] 31)))
    have hsW:(w5.alloc (.cells #[.int .i8 3,.int .i64 0,.slice none 0 0] 31)).heap.size=w5.heap.size+1:=by simp
    clear hv5 hm5 hq hu hll HA5 HB5 HM5
    go_upto_region 27 with fail
    obtain⟨W5,hW5⟩: ∃W,w5.alloc (.cells #[.int .i8 3,.int .i64 0,.slice none 0 0] 31)=W:=⟨_,rfl⟩
    rw[hW5]
    rw[hW5]at HV5 HB5' HA5' HC5 HM6 hsW
    clear hW5
    have hs5:w.heap.size<w5.heap.size:=zQu hs4 HSZ.out
    have hneC:w5.heap.size≠wb:=by omega
    have hneB:w.heap.size≠w5.heap.size:=by omega
    have htsC:0<T.length→ ∀g,oa=some ⟨g,0,none⟩→g≠w5.heap.size:=fun hp g hg=>by have:=hts0.out hp g hg;omega
    have hwC:w.heap.size≤w5.heap.size:=by omega
    have j0:=HC5.out.c0
    have j1:=HC5.out.c1
    have j2:=HC5.out.c2
    have k0:=HA5'.out.c0
    have k1:=HA5'.out.c1
    have k2:=HA5'.out.c2
    have f0:=HA5'.out.fz
    rcases l with _|⟨m,l⟩
    ·have HE:Hid ((⟨3,0,[]⟩,0,j)=r):=zQr ((zHr (ere:=ere) (k:=i) (j:=j)).symm.trans (HTL.out.symm.trans HE.out))
     go_wp2_with fail
     refine zBO rfl rfl rfl (HA5'.out.set (.int .i8 3) (.int .i64 0) (.slice none 0 0)) ⟨zHG.mk HE.out.symm ⟨_,rfl,Nds.nil _ _,((HV5.out.store hne hts _ _).store hne hts _ _).store hne hts _ _⟩,((HB5'.out.store (.inr (zQt _)) _ _).store (.inr (zQt _)) _ _).store (.inr (zQt _)) _ _⟩
    ·obtain⟨L,hL⟩: ∃L,m::l=L:=⟨_,rfl⟩
     have HL:=zQr hL
     have hLp:0<L.length:=by rw[←hL];simp
     rw[hL]at HTL HU hl32 HM6 ⊢
     clear hL
     have hLp':(0:Int)<(L.length:Int):=by omega
     obtain⟨o6,c6,hv6,hmv⟩:=HM6.out.toV (fun i hi=>HU.out _ (zE9 hi))
     have HMV:=zQr hmv
     injection hv6 with e1 _ e3
     subst e1
     subst e3
     clear hmv
     have HE:=zQr ((zGc (ere:=ere) (k:=i) (j:=j) (l:=L) (by intro e;rw[e]at hLp;simp at hLp)).symm.trans (HTL.out.symm.trans HE.out))
     clear j0 j1 j2 k0 k1 k2 f0
     go_wp2_with fail
     refine(zE2 (ere:=ere) (cap:=c5) HMV.out.arg).mono ?_;rintro e w6 ⟨hrp,hbp⟩
     have HV6:=zQr (HV5.out.below hbp)
     have HB6:=zQr (HB5'.out.below hbp (by omega))
     have HA6:=zQr (HA5'.out.below hbp)
     have HC6:=zQr (HC5.out.below hbp)
     have hs6:=hbp.size
     clear hbp
     have j0:=HC6.out.c0
     have j1:=HC6.out.c1
     have j2:=HC6.out.c2
     have k0:=HA6.out.c0
     have k1:=HA6.out.c1
     have k2:=HA6.out.c2
     have f0:=HA6.out.fz
     have g0:=HC6.out.fz
     cases hp:zBN ere L with
     |error q=>
      obtain⟨e0,i0⟩:=q
      rw[hp]at hrp HE
      simp only[zPZ]at hrp
      subst hrp
      have hbad:=zE3 HMV.out.u hp
      have hne0:((e0:Int) !=0)=true:=by rw[bne_iff_ne];have:=hbad.1;omega
      clear hp hbad
      go_wp2_with fail
      refine zBO rfl rfl rfl ((HA6.out.other hneB _ _).set (.int .i8 0) (.int .i64 0) (.slice none 0 0)) ⟨zHG.mk HE.out.symm ⟨_,rfl,Nds.nil _ _,(((HV6.out.store hneC htsC _ _).store hne hts _ _).store hne hts _ _).store hne hts _ _⟩,(((HB6.out.store (.inr hwC) _ _).store (.inr (zQt _)) _ _).store (.inr (zQt _)) _ _).store (.inr (zQt _)) _ _⟩
     |ok re=>
      rw[hp]at hrp HE
      obtain⟨v6,rfl,hn6⟩:=hrp
      obtain⟨o7,c7,rfl⟩:=hn6.form
      have hblk:=hn6.lt
      have HN6:=zQr hn6
      have HBK:=zQr hblk
      clear hp hn6 hblk
      go_wp2_with fail
      refine zBO rfl rfl rfl ((HA6.out.other hneB _ _).set (.int .i8 3) (.int .i64 0) (.slice o7 re.length c7)) ⟨zHG.mk HE.out.symm ⟨_,rfl,?_,(((HV6.out.store hneC htsC _ _).store hne hts _ _).store hne hts _ _).store hne hts _ _⟩,(((HB6.out.store (.inr hwC) _ _).store (.inr (zQt _)) _ _).store (.inr (zQt _)) _ _).store (.inr (zQt _)) _ _⟩
      refine zAR (zAV HN6.out fun g hg=>?_) (by omega)
      have:=(HBK.out g hg).1
      exact((zQ1 _ _ _ _ (by show g≠w.heap.size;omega)).trans ((zQ1 _ _ _ _ (by show g≠w.heap.size;omega)).trans ((zQ1 _ _ _ _ (by show g≠w.heap.size;omega)).trans (zQ1 _ _ _ _ (by show g≠w5.heap.size;omega)))))
  have HE:=zQr ((zJ2 ere HLT.out (HBE.out▸hd) (HBE.out▸h36) (HBE.out▸h92) (HBE.out▸h47)).symm.trans HR.out)
  have k0:=HA1.out.c0
  have k1:=HA1.out.c1
  have k2:=HA1.out.c2
  have f0:=HA1.out.fz
  have q36:((b:Int)==36)=false:=zQx.2 (by omega)
  have q47:((b:Int)==47)=false:=zQx.2 (by omega)
  have q92:((b:Int)==92)=false:=zQx.2 (by omega)
  by_cases hlo:b<48
  ·have q1: ¬(48:Int)≤(b:Int):=by omega
   clear hd h36 h92 h47 hlo
   go_wp2_with fail
   refine zBO rfl rfl rfl (HA1.out.set (.int .i8 0) (.int .i64 0) (.slice none 0 0)) ⟨zHG.mk HE.out.symm ⟨_,rfl,Nds.nil _ _,((HV1.out.store hne (hts) _ _).store hne hts _ _).store hne hts _ _⟩,((HB1.out.store (.inr (zQt _)) _ _).store (.inr (zQt _)) _ _).store (.inr (zQt _)) _ _⟩
  ·have q1:(48:Int)≤(b:Int):=by omega
   have q2: ¬(b:Int)≤57:=by omega
   clear hd h36 h92 h47 hlo
   go_wp2_with fail
   refine zBO rfl rfl rfl (HA1.out.set (.int .i8 0) (.int .i64 0) (.slice none 0 0)) ⟨zHG.mk HE.out.symm ⟨_,rfl,Nds.nil _ _,((HV1.out.store hne (hts) _ _).store hne hts _ _).store hne hts _ _⟩,((HB1.out.store (.inr (zQt _)) _ _).store (.inr (zQt _)) _ _).store (.inr (zQt _)) _ _⟩
 ·rw[zQ3 hlt]
  have HLT:=zQr hlt
  obtain rfl:i=T.length:=by have:=HLT.out;omega
  have HE:=zQr ((zNE ere (zQt _)).symm.trans HR.out)
  clear hlt
  go_wp2_with fail
  refine(zNP HV1.out).mono ?_;rintro e w2 ⟨rfl,hb2⟩
  have HV2:=zQr (HV1.out.below hb2)
  have HA2:=zQr (HA1.out.below hb2)
  have HB2:=zQr (HB1.out.below hb2 (by omega))
  clear hb2
  have k0:=HA2.out.c0
  have k1:=HA2.out.c1
  have k2:=HA2.out.c2
  have f0:=HA2.out.fz
  go_wp2_with fail
  refine zBO rfl rfl rfl (HA2.out.set (.int .i8 0) (.int .i64 0) (.slice none 0 0)) ⟨zHG.mk HE.out.symm ⟨_,rfl,Nds.nil _ _,((HV2.out.store hne (hts) _ _).store hne hts _ _).store hne hts _ _⟩,((HB2.out.store (.inr (zQt _)) _ _).store (.inr (zQt _)) _ _).store (.inr (zQt _)) _ _⟩
end
end Go.Proofs.YtmaagpbjahjmhaaGreatDoor
