/- Parts: Fl. -/
import Derived.Test.YtmaagpbjahjmhaaGreatDoorQ7
import Derived.Test.YtmaagpbjahjmhaaGreatDoorQ22
import Derived.Test.YtmaagpbjahjmhaaGreatDoorQ29
import Derived.Test.YtmaagpbjahjmhaaGreatDoorQ8
import Derived.Test.YtmaagpbjahjmhaaGreatDoorQ14
import Derived.Test.YtmaagpbjahjmhaaGreatDoorQ30
import Derived.Test.YtmaagpbjahjmhaaGreatDoorQ2
set_option maxHeartbeats 6400000
set_option maxRecDepth 100000
namespace Go.Proofs.YtmaagpbjahjmhaaGreatDoor
open Go.RowKit
section
variable {w w':World} {b:Nat} {k n v:Value}
theorem Nds.form {w:World} {base:Nat} {v:Value} {L:List Nd} (h:Nds w base v L): ∃o c,v= .slice o L.length c:=by
 rcases h.2 with ⟨h1,h2⟩|⟨g,cp,_,h1,_⟩
 ·exact⟨none,0,by rw[h1,h2]⟩
 ·exact⟨_,_,h1⟩
theorem zBO {Q:Ending→World→Prop} {a:Act} {oa:Option Addr} {len cp:Nat} {kk nn ee:Int} (h4:a.tmps.getD 4 undef= .pointer (some ⟨b,0,none⟩)) (h5:a.tmps.getD 5 undef= .int .i64 ee) (hd:a.defers=[])
  (h:AdB w b (.int .i8 kk) (.int .i64 nn) (.slice oa len cp)) (hQ:Q (.returned (.tuple #[.agg #[.int .i8 kk,.int .i64 nn,.slice oa len cp],.int .i64 ee])) w):
  bodyPost Tryz.prog Tryz.f149 Q .ret a w:=by
 refine bodyPost_ret (v:= .tuple #[.agg #[.int .i8 kk,.int .i64 nn,.slice oa len cp],.int .i64 ee]) ?_ hd hQ
 have c0:=h.c0
 have c1:=h.c1
 have c2:=h.c2
 simp only[Array.getD_eq_getD_getElem?]at h4 h5
 simp[results,Tryz.results149,go_sem,h4,h5,c0,c1,c2]
end
section
variable {w:World} {wb:Nat} {oa:Option Addr} {cap:Nat} {T:List Nat} {i:Nat}
def zHI (wb:Nat) (oa:Option Addr) (cap:Nat) (T:List Nat) (base:Nat) (r:Ad × Nat × Nat) (e:Ending) (w':World):Prop:=
 ∃v,e= .returned (.tuple #[.agg #[.int .i8 r.1.kind,.int .i64 r.1.n,v],.int .i64 (r.2.1:Nat)])∧Nds w' base v r.1.re∧WdS w' wb oa cap T r.2.2
theorem zHI.mk {base:Nat} {r r':Ad × Nat × Nat} {e:Ending} {w':World} (h:r=r') (hr:zHI wb oa cap T base r' e w'):zHI wb oa cap T base r e w':=h▸hr
def reA (ere:Bool) (l:List Mk) (j:Nat):Ad × Nat × Nat:=
 if l=[]then(⟨3,0,[]⟩,0,j)
 else match zAz ere l with
  | .error e=>(Ad.zero,e.1,j)
  | .ok re=>(⟨3,0,re⟩,0,j)
def zNg (ere:Bool) (k:Nat):Option (List Mk × Nat)→Ad × Nat × Nat
 |none=>(Ad.zero,70,k+1)
 |some (l,j)=>reA ere l j
def zNh (ere:Bool) (T:List Nat) (k:Nat):Ad × Nat × Nat:=
 match zAu T (T.getD k 0) false (k+1)with
 |none=>(Ad.zero,70,k+1)
 |some (l,j)=>
  if l=[]then(⟨3,0,[]⟩,0,j)
  else match zAz ere l with
   | .error e=>(Ad.zero,e.1,j)
   | .ok re=>(⟨3,0,re⟩,0,j)
theorem zKC {ere:Bool} {k d:Nat} (h:T.getD k 0=d):zNh ere T k=zNg ere k (zAu T d false (k+1)):=by
 unfold zNh zNg
 rw[h]
 cases zAu T d false (k+1)<;>rfl
theorem zH1 {ere:Bool} {k j:Nat} :zNg ere k (some ([],j))=(⟨3,0,[]⟩,0,j):=rfl
def zQQ (j:Nat):Except (Nat × Nat) (List Nd)→Ad × Nat × Nat
 | .error e=>(Ad.zero,e.1,j)
 | .ok re=>(⟨3,0,re⟩,0,j)
theorem zGm {ere:Bool} {k j:Nat} {l:List Mk} (h:l≠[]):zNg ere k (some (l,j))=zQQ j (zAz ere l):=by
 show reA ere l j=_
 unfold reA zQQ
 rw[if_neg h]
theorem zNR (ere:Bool) (h:T.length≤i):zBe ere T i=(Ad.zero,0,i):=by unfold zBe;rw[if_pos h]
def zQR (i:Nat):Option (Nat × Nat)→Ad × Nat × Nat
 |none=>(Ad.zero,71,i)
 |some (v,j)=>if v=0 then(Ad.zero,71,j)else(⟨1,v,[]⟩,0,j)
theorem zNP (ere:Bool) (h:i<T.length) (hd:48≤T.getD i 0∧T.getD i 0≤57):zBe ere T i=zQR i (zFD T 2147483647 i):=by
 unfold zBe zQR;rw[if_neg (by omega)];simp only;rw[if_pos hd];cases zFD T 2147483647 i<;>rfl
theorem zLt (ere:Bool) (h:i<T.length) (hd:T.getD i 0=36):zBe ere T i=(⟨2,0,[]⟩,0,i+1):=by unfold zBe;rw[if_neg (by omega)];simp only;rw[if_neg (by omega),if_pos hd]
theorem zNS (ere:Bool) (h:i<T.length) (hd:T.getD i 0=92) (hl:T.length≤i+1):zBe ere T i=(Ad.zero,70,i+1):=by unfold zBe;rw[if_neg (by omega)];simp only;rw[if_neg (by omega),if_neg (by omega),if_pos ⟨hd,hl⟩]
theorem zNO (ere:Bool) (_:i<T.length) (hd:T.getD i 0=92) (hl:i+1<T.length):zBe ere T i=zNh ere T (i+1):=by
 unfold zBe;rw[if_neg (by omega)];simp only;rw[if_neg (by omega),if_neg (by omega),if_neg (by omega),if_pos (.inr hd),if_pos hd];rfl
theorem zJ8 (ere:Bool) (h:i<T.length) (hd:T.getD i 0=47):zBe ere T i=zNh ere T i:=by
 unfold zBe;rw[if_neg (by omega)];simp only;rw[if_neg (by omega),if_neg (by omega),if_neg (by omega),if_pos (.inl hd),if_neg (by omega)];rfl
theorem zJ9 (ere:Bool) (h:i<T.length) (h1: ¬(48≤T.getD i 0∧T.getD i 0≤57)) (h2: ¬T.getD i 0=36) (h3: ¬T.getD i 0=92) (h4: ¬T.getD i 0=47):zBe ere T i=(Ad.zero,0,i):=by
 unfold zBe;rw[if_neg (by omega)];simp only;rw[if_neg h1,if_neg h2,if_neg (by omega),if_neg (by omega)]
theorem zJ6 (hv:WdS w wb oa cap T i) (ere:Bool) (hI: ∀j,j<T.length→zPg (T.getD j 0)):
  Calls Tryz.prog 149 #[.pointer (some ⟨wb,0,none⟩),.bool ere] w fun e w'=>zHI wb oa cap T w.heap.size (zBe ere T i) e w'∧zBV w.heap.size wb w w':=by
 obtain⟨r,hr⟩: ∃r,zBe ere T i=r:=⟨_,rfl⟩
 rw[hr]
 have HR:=Lib.hid hr
 clear hr
 have HI:=Lib.hid hI
 have lt:=hv.lt
 have hts0:=Lib.hid (fun hp=>hv.tlt hp)
 have hat:=hv.at_
 have hlen:=hv.len
 have hne:w.heap.size≠wb:=by omega
 have hts:0<T.length→ ∀g,oa=some ⟨g,0,none⟩→g≠w.heap.size:=fun hp g hg=>by have:=hts0.out hp g hg;omega
 have HV:=Lib.hid (hv.alloc (.cells #[.int .i8 0,.int .i64 0,.slice none 0 0] 31))
 have HA:=Lib.hid (AdB.new w (.int .i8 0) (.int .i64 0) (.slice none 0 0))
 have HB:=Lib.hid ((zBV.refl w.heap.size wb w).alloc (Nat.le_refl _) (.cells #[.int .i8 0,.int .i64 0,.slice none 0 0] 31))
 clear hv hI
 obtain⟨b,hb⟩: ∃b,T.getD i 0=b:=⟨_,rfl⟩
 have HBE:=Lib.hid hb
 have hb256:b<256:=by have:=HV.out.u i;omega
 have HP:=Lib.hid (zAx HV.out)
 rw[hb]at HP
 clear hb
 go_enter Tryz.func149,Tryz.ntmps149
 go_wp2_with fail
 refine HP.out.mono ?_;rintro e w1 ⟨rfl,hb1⟩
 have HV1:=Lib.hid (HV.out.below hb1)
 have HA1:=Lib.hid (HA.out.below hb1)
 have HB1:=Lib.hid (HB.out.below hb1 (by simp))
 have hsz1:w.heap.size<w1.heap.size:=HA1.out.lt
 clear hb1 HV HA HB HP
 by_cases hlt:i<T.length
 ·rw[decide_eq_true hlt]
  have HLT:=Lib.hid hlt
  clear hlt
  by_cases hd:48≤b∧b≤57
  ·have q1:(48:Int)≤(b:Int):=by omega
   have q2:(b:Int)≤57:=by omega
   have HE:=Lib.hid ((zNP ere HLT.out (HBE.out▸hd)).symm.trans HR.out)
   clear hd
   go_wp2_with fail
   refine(zGE (most:=2147483647) HV1.out (Nat.le_refl _) HI.out).mono ?_;rintro e w2 ⟨hr2,hb2⟩
   have HA2:=Lib.hid (HA1.out.nbut hb2 (by have:=HA1.out.lt;omega) hne)
   have HB2:=Lib.hid (HB1.out.trans (hb2.mono (by omega)))
   clear hb2
   cases hq:zFD T 2147483647 i with
   |none=>
    rw[hq]at hr2 HE
    obtain⟨rfl,hv2⟩:=hr2
    have HV2:=Lib.hid hv2
    clear hv2 hq
    have k0:=HA2.out.c0
    have k1:=HA2.out.c1
    have k2:=HA2.out.c2
    have f0:=HA2.out.fz
    go_wp2_with fail
    refine zBO rfl rfl rfl (HA2.out.set (.int .i8 0) (.int .i64 0) (.slice none 0 0)) ⟨zHI.mk HE.out.symm ⟨_,rfl,Nds.nil _ _,((HV2.out.store hne (hts) _ _).store hne hts _ _).store hne hts _ _⟩,((HB2.out.store (.inr (Nat.le_refl _)) _ _).store (.inr (Nat.le_refl _)) _ _).store (.inr (Nat.le_refl _)) _ _⟩
   |some p=>
    obtain⟨x,j⟩:=p
    rw[hq]at hr2 HE
    obtain⟨rfl,hv2⟩:=hr2
    have HV2:=Lib.hid hv2
    clear hv2 hq
    have k0:=HA2.out.c0
    have k1:=HA2.out.c1
    have k2:=HA2.out.c2
    have f0:=HA2.out.fz
    by_cases hx:x=0
    ·subst hx
     have HE2:Hid ((Ad.zero,71,j)=r):=HE
     go_wp2_with fail
     refine zBO rfl rfl rfl (HA2.out.set (.int .i8 0) (.int .i64 0) (.slice none 0 0)) ⟨zHI.mk HE2.out.symm ⟨_,rfl,Nds.nil _ _,((HV2.out.store hne (hts) _ _).store hne hts _ _).store hne hts _ _⟩,((HB2.out.store (.inr (Nat.le_refl _)) _ _).store (.inr (Nat.le_refl _)) _ _).store (.inr (Nat.le_refl _)) _ _⟩
    ·have HE2:Hid ((⟨1,x,[]⟩,0,j)=r):=Lib.hid ((if_neg hx).symm.trans HE.out)
     have hx':((x:Int)==0)=false:=beq_eq_false_iff_ne.2 (by omega)
     clear hx
     go_wp2_with fail
     refine zBO rfl rfl rfl (HA2.out.set (.int .i8 1) (.int .i64 (x:Nat)) (.slice none 0 0)) ⟨zHI.mk HE2.out.symm ⟨_,rfl,Nds.nil _ _,((HV2.out.store hne hts _ _).store hne hts _ _).store hne hts _ _⟩,((HB2.out.store (.inr (Nat.le_refl _)) _ _).store (.inr (Nat.le_refl _)) _ _).store (.inr (Nat.le_refl _)) _ _⟩
  by_cases h36:b=36
  ·subst h36
   have HE:=Lib.hid ((zLt ere HLT.out HBE.out).symm.trans HR.out)
   have HTK:=Lib.hid (zCC HV1.out)
   rw[if_pos HLT.out]at HTK
   clear hd
   go_wp2_with fail
   refine HTK.out.mono ?_;rintro e w2 ⟨rfl,hv2,hb2⟩
   have HV2:=Lib.hid hv2
   have HA2:=Lib.hid (HA1.out.nbut hb2 (by omega) hne)
   have HB2:=Lib.hid (HB1.out.trans (hb2.mono (by omega)))
   clear hv2 hb2 HTK
   have k0:=HA2.out.c0
   have k1:=HA2.out.c1
   have k2:=HA2.out.c2
   have f0:=HA2.out.fz
   go_wp2_with fail
   refine zBO rfl rfl rfl (HA2.out.set (.int .i8 2) (.int .i64 0) (.slice none 0 0)) ⟨zHI.mk HE.out.symm ⟨_,rfl,Nds.nil _ _,((HV2.out.store hne hts _ _).store hne hts _ _).store hne hts _ _⟩,((HB2.out.store (.inr (Nat.le_refl _)) _ _).store (.inr (Nat.le_refl _)) _ _).store (.inr (Nat.le_refl _)) _ _⟩
  by_cases h92:b=92
  ·subst h92
   have HTK:=Lib.hid (zCC HV1.out)
   rw[if_pos HLT.out]at HTK
   clear hd h36
   go_wp2_with fail
   refine HTK.out.mono ?_;rintro e w2 ⟨rfl,hv2,hb2⟩
   have HV2:=Lib.hid hv2
   have HA2:=Lib.hid (HA1.out.nbut hb2 (by omega) hne)
   have HB2:=Lib.hid (HB1.out.trans (hb2.mono (by omega)))
   have hsz2:w.heap.size<w2.heap.size:=HA2.out.lt
   obtain⟨d,hde⟩: ∃d,T.getD (i+1) 0=d:=⟨_,rfl⟩
   have HDE:=Lib.hid hde
   have hd256:d<256:=by have:=hv2.u (i+1);omega
   have HP:=Lib.hid (zAx hv2)
   rw[hde]at HP
   clear hv2 hb2 HTK hde
   go_wp2_with fail
   refine HP.out.mono ?_;rintro e w3 ⟨rfl,hb3⟩
   have HV3:=Lib.hid (HV2.out.below hb3)
   have HA3:=Lib.hid (HA2.out.below hb3)
   have HB3:=Lib.hid (HB2.out.below hb3 (by omega))
   clear hb3 HP HV2 HA2 HB2
   by_cases hln:i+1<T.length
   ·rw[decide_eq_true hln]
    have HDL:=Lib.hid hln
    have HE:=Lib.hid ((zNO ere HLT.out HBE.out hln).symm.trans HR.out)
    clear hln
    have HTK:=Lib.hid (zCC HV3.out)
    rw[if_pos HDL.out]at HTK
    go_wp2_with fail
    refine HTK.out.mono ?_;rintro e w4 ⟨rfl,hv4,hb4⟩
    have HV4:=Lib.hid hv4
    have HA4:=Lib.hid (HA3.out.nbut hb4 (by have:=HA3.out.lt;omega) hne)
    have HB4:=Lib.hid (HB3.out.trans (hb4.mono (by have:=HA3.out.lt;omega)))
    clear hv4 hb4 HTK
    go_wp2_with fail
    refine(zDu HV4.out hd256 false).mono ?_;rintro e w5 ⟨hr5,hb5⟩
    have HA5:=Lib.hid (HA4.out.nbut hb5 (by have:=HA4.out.lt;omega) hne)
    have HB5:=Lib.hid (HB4.out.trans (hb5.mono (by have:=HA4.out.lt;omega)))
    have HTL:=Lib.hid (zKC (ere:=ere) HDE.out)
    have hs4:w.heap.size<w4.heap.size:=HA4.out.lt
    have HSZ:=Lib.hid hb5.size
    clear hb5
    cases hq:zAu T d false ((i+1)+1)with
    |none=>
     rw[hq]at hr5 HTL
     obtain⟨rfl,hv5⟩:=hr5
     have HV5:=Lib.hid hv5
     have HE:=Lib.hid (HTL.out.symm.trans HE.out)
     clear hv5 hq
     have k0:=HA5.out.c0
     have k1:=HA5.out.c1
     have k2:=HA5.out.c2
     have f0:=HA5.out.fz
     go_wp2_with fail
     refine zBO rfl rfl rfl (HA5.out.set (.int .i8 0) (.int .i64 0) (.slice none 0 0)) ⟨zHI.mk HE.out.symm ⟨_,rfl,Nds.nil _ _,((HV5.out.store hne hts _ _).store hne hts _ _).store hne hts _ _⟩,((HB5.out.store (.inr (Nat.le_refl _)) _ _).store (.inr (Nat.le_refl _)) _ _).store (.inr (Nat.le_refl _)) _ _⟩
    |some p=>
     obtain⟨l,j⟩:=p
     have hu:=zHT hd256 HV4.out.u hq
     rw[hq]at hr5 HTL
     obtain⟨v5,rfl,hm5,hv5⟩:=hr5
     have HU:=Lib.hid hu
     have hll:=zBG hq
     simp only at hll
     have hl32:l.length≤4294967296:=by have:=HV4.out.len;omega
     obtain⟨o5,c5,rfl⟩:=hm5.form
     have HM5:=Lib.hid hm5
     have HV5:=Lib.hid (hv5.alloc (.cells #[.int .i8 3,.int .i64 0,.slice none 0 0] 31))
     have HB5':=Lib.hid (HB5.out.alloc (by have:=HA5.out.lt;omega) (.cells #[.int .i8 3,.int .i64 0,.slice none 0 0] 31))
     have HA5':=Lib.hid (HA5.out.below ((Below.refl _ _).alloc (Nat.le_refl _) (.cells #[.int .i8 3,.int .i64 0,.slice none 0 0] 31)))
     have HC5:=Lib.hid (AdB.new w5 (.int .i8 3) (.int .i64 0) (.slice none 0 0))
     have HM6:=Lib.hid (HM5.out.below ((Below.refl _ _).alloc (Nat.le_refl _) (.cells #[.int .i8 3,.int .i64 0,.slice none 0 0] 31)))
     have hsW:(w5.alloc (.cells #[.int .i8 3,.int .i64 0,.slice none 0 0] 31)).heap.size=w5.heap.size+1:=by simp
     clear hv5 hm5 hq hu hll HA5 HB5 HM5
     go_upto_region 27 with fail
     obtain⟨W5,hW5⟩: ∃W,w5.alloc (.cells #[.int .i8 3,.int .i64 0,.slice none 0 0] 31)=W:=⟨_,rfl⟩
     rw[hW5]
     rw[hW5]at HV5 HB5' HA5' HC5 HM6 hsW
     clear hW5
     have hs5:w.heap.size<w5.heap.size:=Nat.lt_of_lt_of_le hs4 HSZ.out
     have hneC:w5.heap.size≠wb:=by omega
     have hneB:w.heap.size≠w5.heap.size:=by omega
     have htsC:0<T.length→ ∀g,oa=some ⟨g,0,none⟩→g≠w5.heap.size:=fun hp g hg=>by have:=hts0.out hp g hg;omega
     have hwC:w.heap.size≤w5.heap.size:=by omega
     have j0:=HC5.out.c0
     have j1:=HC5.out.c1
     have j2:=HC5.out.c2
     have k0:=HA5'.out.c0
     have k1:=HA5'.out.c1
     have k2:=HA5'.out.c2
     have f0:=HA5'.out.fz
     rcases l with _|⟨m,l⟩
     ·have HE:Hid ((⟨3,0,[]⟩,0,j)=r):=Lib.hid ((zH1 (ere:=ere) (k:=(i+1)) (j:=j)).symm.trans (HTL.out.symm.trans HE.out))
      go_wp2_with fail
      refine zBO rfl rfl rfl (HA5'.out.set (.int .i8 3) (.int .i64 0) (.slice none 0 0)) ⟨zHI.mk HE.out.symm ⟨_,rfl,Nds.nil _ _,((HV5.out.store hne hts _ _).store hne hts _ _).store hne hts _ _⟩,((HB5'.out.store (.inr (Nat.le_refl _)) _ _).store (.inr (Nat.le_refl _)) _ _).store (.inr (Nat.le_refl _)) _ _⟩
     ·obtain⟨L,hL⟩: ∃L,m::l=L:=⟨_,rfl⟩
      have HL:=Lib.hid hL
      have hLp:0<L.length:=by rw[←hL];simp
      rw[hL]at HTL HU hl32 HM6 ⊢
      clear hL
      have hLp':(0:Int)<(L.length:Int):=by omega
      obtain⟨o6,c6,hv6,hmv⟩:=HM6.out.toV (fun i hi=>HU.out _ (zFI hi))
      have HMV:=Lib.hid hmv
      injection hv6 with e1 _ e3
      subst e1
      subst e3
      clear hmv
      have HE:=Lib.hid ((zGm (ere:=ere) (k:=(i+1)) (j:=j) (l:=L) (by intro e;rw[e]at hLp;simp at hLp)).symm.trans (HTL.out.symm.trans HE.out))
      clear j0 j1 j2 k0 k1 k2 f0
      go_wp2_with fail
      refine(zE9 (ere:=ere) (cap:=c5) HMV.out.arg).mono ?_;rintro e w6 ⟨hrp,hbp⟩
      have HV6:=Lib.hid (HV5.out.below hbp)
      have HB6:=Lib.hid (HB5'.out.below hbp (by omega))
      have HA6:=Lib.hid (HA5'.out.below hbp)
      have HC6:=Lib.hid (HC5.out.below hbp)
      have hs6:=hbp.size
      clear hbp
      have j0:=HC6.out.c0
      have j1:=HC6.out.c1
      have j2:=HC6.out.c2
      have k0:=HA6.out.c0
      have k1:=HA6.out.c1
      have k2:=HA6.out.c2
      have f0:=HA6.out.fz
      have g0:=HC6.out.fz
      cases hp:zAz ere L with
      |error q=>
       obtain⟨e0,i0⟩:=q
       rw[hp]at hrp HE
       simp only[zPo]at hrp
       subst hrp
       have hbad:=zD1 HMV.out.u hp
       have hne0:((e0:Int) !=0)=true:=by rw[bne_iff_ne];have:=hbad.1;omega
       clear hp hbad
       go_wp2_with fail
       refine zBO rfl rfl rfl ((HA6.out.other hneB _ _).set (.int .i8 0) (.int .i64 0) (.slice none 0 0)) ⟨zHI.mk HE.out.symm ⟨_,rfl,Nds.nil _ _,(((HV6.out.store hneC htsC _ _).store hne hts _ _).store hne hts _ _).store hne hts _ _⟩,(((HB6.out.store (.inr hwC) _ _).store (.inr (Nat.le_refl _)) _ _).store (.inr (Nat.le_refl _)) _ _).store (.inr (Nat.le_refl _)) _ _⟩
      |ok re=>
       rw[hp]at hrp HE
       obtain⟨v6,rfl,hn6⟩:=hrp
       obtain⟨o7,c7,rfl⟩:=hn6.form
       have hblk:=hn6.lt
       have HN6:=Lib.hid hn6
       have HBK:=Lib.hid hblk
       clear hp hn6 hblk
       go_wp2_with fail
       refine zBO rfl rfl rfl ((HA6.out.other hneB _ _).set (.int .i8 3) (.int .i64 0) (.slice o7 re.length c7)) ⟨zHI.mk HE.out.symm ⟨_,rfl,?_,(((HV6.out.store hneC htsC _ _).store hne hts _ _).store hne hts _ _).store hne hts _ _⟩,(((HB6.out.store (.inr hwC) _ _).store (.inr (Nat.le_refl _)) _ _).store (.inr (Nat.le_refl _)) _ _).store (.inr (Nat.le_refl _)) _ _⟩
       refine zAT (zAW HN6.out fun g hg=>?_) (by omega)
       have:=(HBK.out g hg).1
       exact((Below.heap_setCell _ _ _ _ (by show g≠w.heap.size;omega)).trans ((Below.heap_setCell _ _ _ _ (by show g≠w.heap.size;omega)).trans ((Below.heap_setCell _ _ _ _ (by show g≠w.heap.size;omega)).trans (Below.heap_setCell _ _ _ _ (by show g≠w5.heap.size;omega)))))
   ·rw[decide_eq_false hln]
    have HE:=Lib.hid ((zNS ere HLT.out HBE.out (by omega)).symm.trans HR.out)
    clear hln
    have k0:=HA3.out.c0
    have k1:=HA3.out.c1
    have k2:=HA3.out.c2
    have f0:=HA3.out.fz
    go_wp2_with fail
    refine zBO rfl rfl rfl (HA3.out.set (.int .i8 0) (.int .i64 0) (.slice none 0 0)) ⟨zHI.mk HE.out.symm ⟨_,rfl,Nds.nil _ _,((HV3.out.store hne (hts) _ _).store hne hts _ _).store hne hts _ _⟩,((HB3.out.store (.inr (Nat.le_refl _)) _ _).store (.inr (Nat.le_refl _)) _ _).store (.inr (Nat.le_refl _)) _ _⟩
  by_cases h47:b=47
  ·subst h47
   have HE:=Lib.hid ((zJ8 ere HLT.out HBE.out).symm.trans HR.out)
   obtain⟨d,hde⟩: ∃d,d=47:=⟨_,rfl⟩
   have HDE:Hid (T.getD i 0=d):=Lib.hid (HBE.out.trans hde.symm)
   have hd256:d<256:=by omega
   have HDL:=Lib.hid HLT.out
   clear hd h36 h92
   subst hde
   have HTK:=Lib.hid (zCC HV1.out)
   rw[if_pos HDL.out]at HTK
   go_wp2_with fail
   refine HTK.out.mono ?_;rintro e w4 ⟨rfl,hv4,hb4⟩
   have HV4:=Lib.hid hv4
   have HA4:=Lib.hid (HA1.out.nbut hb4 (by have:=HA1.out.lt;omega) hne)
   have HB4:=Lib.hid (HB1.out.trans (hb4.mono (by have:=HA1.out.lt;omega)))
   clear hv4 hb4 HTK
   go_wp2_with fail
   refine(zDu HV4.out hd256 false).mono ?_;rintro e w5 ⟨hr5,hb5⟩
   have HA5:=Lib.hid (HA4.out.nbut hb5 (by have:=HA4.out.lt;omega) hne)
   have HB5:=Lib.hid (HB4.out.trans (hb5.mono (by have:=HA4.out.lt;omega)))
   have HTL:=Lib.hid (zKC (ere:=ere) HDE.out)
   have hs4:w.heap.size<w4.heap.size:=HA4.out.lt
   have HSZ:=Lib.hid hb5.size
   clear hb5
   cases hq:zAu T 47 false (i+1)with
   |none=>
    rw[hq]at hr5 HTL
    obtain⟨rfl,hv5⟩:=hr5
    have HV5:=Lib.hid hv5
    have HE:=Lib.hid (HTL.out.symm.trans HE.out)
    clear hv5 hq
    have k0:=HA5.out.c0
    have k1:=HA5.out.c1
    have k2:=HA5.out.c2
    have f0:=HA5.out.fz
    go_wp2_with fail
    refine zBO rfl rfl rfl (HA5.out.set (.int .i8 0) (.int .i64 0) (.slice none 0 0)) ⟨zHI.mk HE.out.symm ⟨_,rfl,Nds.nil _ _,((HV5.out.store hne hts _ _).store hne hts _ _).store hne hts _ _⟩,((HB5.out.store (.inr (Nat.le_refl _)) _ _).store (.inr (Nat.le_refl _)) _ _).store (.inr (Nat.le_refl _)) _ _⟩
   |some p=>
    obtain⟨l,j⟩:=p
    have hu:=zHT hd256 HV4.out.u hq
    rw[hq]at hr5 HTL
    obtain⟨v5,rfl,hm5,hv5⟩:=hr5
    have HU:=Lib.hid hu
    have hll:=zBG hq
    simp only at hll
    have hl32:l.length≤4294967296:=by have:=HV4.out.len;omega
    obtain⟨o5,c5,rfl⟩:=hm5.form
    have HM5:=Lib.hid hm5
    have HV5:=Lib.hid (hv5.alloc (.cells #[.int .i8 3,.int .i64 0,.slice none 0 0] 31))
    have HB5':=Lib.hid (HB5.out.alloc (by have:=HA5.out.lt;omega) (.cells #[.int .i8 3,.int .i64 0,.slice none 0 0] 31))
    have HA5':=Lib.hid (HA5.out.below ((Below.refl _ _).alloc (Nat.le_refl _) (.cells #[.int .i8 3,.int .i64 0,.slice none 0 0] 31)))
    have HC5:=Lib.hid (AdB.new w5 (.int .i8 3) (.int .i64 0) (.slice none 0 0))
    have HM6:=Lib.hid (HM5.out.below ((Below.refl _ _).alloc (Nat.le_refl _) (.cells #[.int .i8 3,.int .i64 0,.slice none 0 0] 31)))
    have hsW:(w5.alloc (.cells #[.int .i8 3,.int .i64 0,.slice none 0 0] 31)).heap.size=w5.heap.size+1:=by simp
    clear hv5 hm5 hq hu hll HA5 HB5 HM5
    go_upto_region 27 with fail
    obtain⟨W5,hW5⟩: ∃W,w5.alloc (.cells #[.int .i8 3,.int .i64 0,.slice none 0 0] 31)=W:=⟨_,rfl⟩
    rw[hW5]
    rw[hW5]at HV5 HB5' HA5' HC5 HM6 hsW
    clear hW5
    have hs5:w.heap.size<w5.heap.size:=Nat.lt_of_lt_of_le hs4 HSZ.out
    have hneC:w5.heap.size≠wb:=by omega
    have hneB:w.heap.size≠w5.heap.size:=by omega
    have htsC:0<T.length→ ∀g,oa=some ⟨g,0,none⟩→g≠w5.heap.size:=fun hp g hg=>by have:=hts0.out hp g hg;omega
    have hwC:w.heap.size≤w5.heap.size:=by omega
    have j0:=HC5.out.c0
    have j1:=HC5.out.c1
    have j2:=HC5.out.c2
    have k0:=HA5'.out.c0
    have k1:=HA5'.out.c1
    have k2:=HA5'.out.c2
    have f0:=HA5'.out.fz
    rcases l with _|⟨m,l⟩
    ·have HE:Hid ((⟨3,0,[]⟩,0,j)=r):=Lib.hid ((zH1 (ere:=ere) (k:=i) (j:=j)).symm.trans (HTL.out.symm.trans HE.out))
     go_wp2_with fail
     refine zBO rfl rfl rfl (HA5'.out.set (.int .i8 3) (.int .i64 0) (.slice none 0 0)) ⟨zHI.mk HE.out.symm ⟨_,rfl,Nds.nil _ _,((HV5.out.store hne hts _ _).store hne hts _ _).store hne hts _ _⟩,((HB5'.out.store (.inr (Nat.le_refl _)) _ _).store (.inr (Nat.le_refl _)) _ _).store (.inr (Nat.le_refl _)) _ _⟩
    ·obtain⟨L,hL⟩: ∃L,m::l=L:=⟨_,rfl⟩
     have HL:=Lib.hid hL
     have hLp:0<L.length:=by rw[←hL];simp
     rw[hL]at HTL HU hl32 HM6 ⊢
     clear hL
     have hLp':(0:Int)<(L.length:Int):=by omega
     obtain⟨o6,c6,hv6,hmv⟩:=HM6.out.toV (fun i hi=>HU.out _ (zFI hi))
     have HMV:=Lib.hid hmv
     injection hv6 with e1 _ e3
     subst e1
     subst e3
     clear hmv
     have HE:=Lib.hid ((zGm (ere:=ere) (k:=i) (j:=j) (l:=L) (by intro e;rw[e]at hLp;simp at hLp)).symm.trans (HTL.out.symm.trans HE.out))
     clear j0 j1 j2 k0 k1 k2 f0
     go_wp2_with fail
     refine(zE9 (ere:=ere) (cap:=c5) HMV.out.arg).mono ?_;rintro e w6 ⟨hrp,hbp⟩
     have HV6:=Lib.hid (HV5.out.below hbp)
     have HB6:=Lib.hid (HB5'.out.below hbp (by omega))
     have HA6:=Lib.hid (HA5'.out.below hbp)
     have HC6:=Lib.hid (HC5.out.below hbp)
     have hs6:=hbp.size
     clear hbp
     have j0:=HC6.out.c0
     have j1:=HC6.out.c1
     have j2:=HC6.out.c2
     have k0:=HA6.out.c0
     have k1:=HA6.out.c1
     have k2:=HA6.out.c2
     have f0:=HA6.out.fz
     have g0:=HC6.out.fz
     cases hp:zAz ere L with
     |error q=>
      obtain⟨e0,i0⟩:=q
      rw[hp]at hrp HE
      simp only[zPo]at hrp
      subst hrp
      have hbad:=zD1 HMV.out.u hp
      have hne0:((e0:Int) !=0)=true:=by rw[bne_iff_ne];have:=hbad.1;omega
      clear hp hbad
      go_wp2_with fail
      refine zBO rfl rfl rfl ((HA6.out.other hneB _ _).set (.int .i8 0) (.int .i64 0) (.slice none 0 0)) ⟨zHI.mk HE.out.symm ⟨_,rfl,Nds.nil _ _,(((HV6.out.store hneC htsC _ _).store hne hts _ _).store hne hts _ _).store hne hts _ _⟩,(((HB6.out.store (.inr hwC) _ _).store (.inr (Nat.le_refl _)) _ _).store (.inr (Nat.le_refl _)) _ _).store (.inr (Nat.le_refl _)) _ _⟩
     |ok re=>
      rw[hp]at hrp HE
      obtain⟨v6,rfl,hn6⟩:=hrp
      obtain⟨o7,c7,rfl⟩:=hn6.form
      have hblk:=hn6.lt
      have HN6:=Lib.hid hn6
      have HBK:=Lib.hid hblk
      clear hp hn6 hblk
      go_wp2_with fail
      refine zBO rfl rfl rfl ((HA6.out.other hneB _ _).set (.int .i8 3) (.int .i64 0) (.slice o7 re.length c7)) ⟨zHI.mk HE.out.symm ⟨_,rfl,?_,(((HV6.out.store hneC htsC _ _).store hne hts _ _).store hne hts _ _).store hne hts _ _⟩,(((HB6.out.store (.inr hwC) _ _).store (.inr (Nat.le_refl _)) _ _).store (.inr (Nat.le_refl _)) _ _).store (.inr (Nat.le_refl _)) _ _⟩
      refine zAT (zAW HN6.out fun g hg=>?_) (by omega)
      have:=(HBK.out g hg).1
      exact((Below.heap_setCell _ _ _ _ (by show g≠w.heap.size;omega)).trans ((Below.heap_setCell _ _ _ _ (by show g≠w.heap.size;omega)).trans ((Below.heap_setCell _ _ _ _ (by show g≠w.heap.size;omega)).trans (Below.heap_setCell _ _ _ _ (by show g≠w5.heap.size;omega)))))
  have HE:=Lib.hid ((zJ9 ere HLT.out (HBE.out▸hd) (HBE.out▸h36) (HBE.out▸h92) (HBE.out▸h47)).symm.trans HR.out)
  have k0:=HA1.out.c0
  have k1:=HA1.out.c1
  have k2:=HA1.out.c2
  have f0:=HA1.out.fz
  have q36:((b:Int)==36)=false:=beq_eq_false_iff_ne.2 (by omega)
  have q47:((b:Int)==47)=false:=beq_eq_false_iff_ne.2 (by omega)
  have q92:((b:Int)==92)=false:=beq_eq_false_iff_ne.2 (by omega)
  by_cases hlo:b<48
  ·have q1: ¬(48:Int)≤(b:Int):=by omega
   clear hd h36 h92 h47 hlo
   go_wp2_with fail
   refine zBO rfl rfl rfl (HA1.out.set (.int .i8 0) (.int .i64 0) (.slice none 0 0)) ⟨zHI.mk HE.out.symm ⟨_,rfl,Nds.nil _ _,((HV1.out.store hne (hts) _ _).store hne hts _ _).store hne hts _ _⟩,((HB1.out.store (.inr (Nat.le_refl _)) _ _).store (.inr (Nat.le_refl _)) _ _).store (.inr (Nat.le_refl _)) _ _⟩
  ·have q1:(48:Int)≤(b:Int):=by omega
   have q2: ¬(b:Int)≤57:=by omega
   clear hd h36 h92 h47 hlo
   go_wp2_with fail
   refine zBO rfl rfl rfl (HA1.out.set (.int .i8 0) (.int .i64 0) (.slice none 0 0)) ⟨zHI.mk HE.out.symm ⟨_,rfl,Nds.nil _ _,((HV1.out.store hne (hts) _ _).store hne hts _ _).store hne hts _ _⟩,((HB1.out.store (.inr (Nat.le_refl _)) _ _).store (.inr (Nat.le_refl _)) _ _).store (.inr (Nat.le_refl _)) _ _⟩
 ·rw[decide_eq_false hlt]
  have HLT:=Lib.hid hlt
  obtain rfl:i=T.length:=by have:=HLT.out;omega
  have HE:=Lib.hid ((zNR ere (Nat.le_refl _)).symm.trans HR.out)
  clear hlt
  go_wp2_with fail
  refine(zNb HV1.out).mono ?_;rintro e w2 ⟨rfl,hb2⟩
  have HV2:=Lib.hid (HV1.out.below hb2)
  have HA2:=Lib.hid (HA1.out.below hb2)
  have HB2:=Lib.hid (HB1.out.below hb2 (by omega))
  clear hb2
  have k0:=HA2.out.c0
  have k1:=HA2.out.c1
  have k2:=HA2.out.c2
  have f0:=HA2.out.fz
  go_wp2_with fail
  refine zBO rfl rfl rfl (HA2.out.set (.int .i8 0) (.int .i64 0) (.slice none 0 0)) ⟨zHI.mk HE.out.symm ⟨_,rfl,Nds.nil _ _,((HV2.out.store hne (hts) _ _).store hne hts _ _).store hne hts _ _⟩,((HB2.out.store (.inr (Nat.le_refl _)) _ _).store (.inr (Nat.le_refl _)) _ _).store (.inr (Nat.le_refl _)) _ _⟩
end
end Go.Proofs.YtmaagpbjahjmhaaGreatDoor
