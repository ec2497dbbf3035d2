/- Parts: Jk. -/
import Derived.Test.YtfjbnpdffillbaaGreatDoorQ41
import Derived.Test.YtfjbnpdffillbaaGreatDoorQ44
import Derived.Test.YtfjbnpdffillbaaGreatDoorQ35
import Derived.Test.YtfjbnpdffillbaaGreatDoorQ17
import Derived.Test.YtfjbnpdffillbaaGreatDoorQ26
set_option maxHeartbeats 12800000
set_option maxRecDepth 100000
namespace Go.Proofs.YtfjbnpdffillbaaGreatDoor
open Go.RowKit
theorem zJr {ere:Bool} {T:List Nat} {i:Nat} {b:Ad} {e at_:Nat} (hT: ∀j,T.getD j 0<256) (h:zCa ere T i=(b,e,at_)):b.re.length≤16386∧ ∀x∈b.re,x.kids≤9223372036854775807:=by
 have nil: ∀(k n:Int),(⟨k,n,[]⟩:Ad).re.length≤16386∧ ∀x∈(⟨k,n,[]⟩:Ad).re,x.kids≤9223372036854775807:=fun k n=>⟨by simp,fun x hx=>by simp at hx⟩
 have tl: ∀k,zLm ere T k=(b,e,at_)→b.re.length≤16386∧ ∀x∈b.re,x.kids≤9223372036854775807:=by
  intro k h
  rw[zEi rfl]at h
  cases hq:zCM T (T.getD k 0) false (k+1)with
  |none=>rw[hq]at h;cases h;exact nil _ _
  |some p=>
   obtain⟨l,j⟩:=p
   have hu:=zH2 (hT k) hT hq
   rw[hq]at h
   by_cases hl:l=[]
   ·subst hl
    rw[zEh]at h
    cases h
    exact nil _ _
   ·rw[zD0 hl]at h
    cases hp:zA5 ere l with
    |error q=>rw[hp]at h;cases h;exact nil _ _
    |ok re=>
     rw[hp]at h
     cases h
     obtain⟨hfl,hfk,_⟩:=zK7 (fun i hi=>hu _ (zD5 hi)) hp
     exact⟨hfl,fun x hx=>by have:=hfk x hx;omega⟩
 by_cases hl:T.length≤i
 ·rw[zGx ere hl]at h;cases h;exact nil _ _
 have hl:i<T.length:=by omega
 by_cases hd:48≤T.getD i 0∧T.getD i 0≤57
 ·rw[zGw ere hl hd]at h
  cases hq:zIK T 2147483647 i with
  |none=>rw[hq]at h;cases h;exact nil _ _
  |some p=>
   obtain⟨v,j⟩:=p
   rw[hq,zPJ]at h
   split at h<;>cases h<;>exact nil _ _
 by_cases h36:T.getD i 0=36
 ·rw[zFR ere hl h36]at h;cases h;exact nil _ _
 by_cases h92:T.getD i 0=92
 ·by_cases h1:T.length≤i+1
  ·rw[zGy ere hl h92 h1]at h;cases h;exact nil _ _
  ·rw[zGv ere hl h92 (by omega)]at h
   exact tl _ h
 by_cases h47:T.getD i 0=47
 ·rw[zEc ere hl h47]at h
  exact tl _ h
 rw[zEd ere hl hd h36 h92 h47]at h;cases h;exact nil _ _
theorem zND {w w':World} {base wb:Nat} {e:TypeId} {size:Nat} {v:Value} {n:Nat} {xs:List Value} (h:w.ownsRow base e size v n xs) (hb:zBi w.heap.size wb w w') (hw:wb<base):w'.ownsRow base e size v n xs:=
 zBs h fun g hg=>hb.block g (h.lt g hg).2 (by have:=(h.lt g hg).1;omega)
theorem zEn {w w':World} {base:Nat} {e:TypeId} {size:Nat} {v:Value} {n:Nat} {xs:List Value} (h:w.ownsRow base e size v n xs) (hb:Below w.heap.size w w'):w'.ownsRow base e size v n xs:=
 zBs h fun g hg=>hb.block g (h.lt g hg).2
theorem zMG {w:World} {base:Nat} {o:Option Addr} {c:Nat} {re:List Nd} (h:w.ownsRow base 78 9 (.slice o re.length c) re.length (zG8 re)) (hk:re.length≤16386∧ ∀x∈re,x.kids≤9223372036854775807):NdV w o re:=by
 obtain⟨o',c',h1,_,h2⟩:=Nds.toV2 (w:=w) (base:=base) (v:= .slice o re.length c) (re:=re) h (by omega) hk.2
 cases h1
 exact h2
section
variable {w:World} {ob:Option Addr} {cb:Nat} {T:List Nat}
theorem zIk (hv:BtA w ob cb T) (ht:zMw w) (ere:Bool):
  Calls Tryz.prog 3 #[.slice ob T.length cb,.bool ere] w fun e w'=>e= .returned (.bool true)∧Below w.heap.size w w':=by
 have HT:=zPf ht
 have HV:=zPf hv
 clear hv ht
 go_enter Tryz.func3,Tryz.ntmps3
 go_wp2_with fail
 refine(zMM _).mono ?_;rintro e wz ⟨rfl,rfl⟩
 by_cases q1:(2147483647:Int)<(T.length:Int)
 ·rw[zPq q1]
  clear q1
  go_wp2_with fail
  go_ret
  exact⟨rfl,zPg _ _⟩
 rw[zPr q1]
 have HL:Hid (T.length≤2147483647):=zPf (by omega)
 clear q1
 go_wp2_with fail
 refine(zEF HV.out.src (by have:=HL.out;omega)).mono ?_
 rintro e w1 ⟨⟨v1,rfl,h1⟩,hb1⟩
 have HB1:=zPf hb1
 obtain⟨o1,c1,rfl,htx,hno⟩:=zOn h1
 have HTX:=zPf htx
 have HNO:=zPf hno
 clear h1 hb1 htx hno
 go_wp2_with fail
 refine(zIN (cap:=c1) HTX.out (by have:=HL.out;omega) HNO.out HV.out.u).mono ?_
 rintro e w2 ⟨wb,oa,ca,rfl,hwb,hw2,hb2⟩
 have HW2:=zPf hw2
 have HB2:=zPf (HB1.out.trans (hb2.mono HB1.out.size))
 have HWB:=zPf (zP2 HB1.out.size hwb)
 have HS2:=zPf (HV.out.below HB2.out).src
 clear hw2 hb2 hwb HTX HNO HB1
 go_wp2_with fail
 refine(zJs HS2.out (by have:=HL.out;omega) HV.out.u).mono ?_
 rintro e w3 ⟨rb,ra,rc,rfl,hrb,hr3,hb3⟩
 have hls:=LpS.new HW2.out HB2.out HWB.out hr3 hb3 hrb
 unfold zNw at hls
 have HLS:=zPf hls
 obtain⟨gb,hgb⟩: ∃gb,w3.heap.size=gb:=⟨_,rfl⟩
 rw[hgb]at HLS
 have HGB:=zPf hgb
 clear hls hr3 hb3 hrb HW2 HB2 HWB HS2 hgb
 go_wp2_with fail
 rw[HGB.out]
 go_loopg [8] T.length (fun n x wr=> ∃(i:Nat) (bn:Value) (vs:List Value) (ns:List Nat) (X:Nat→List Value),n=T.length - i∧LpS w wb rb gb oa ra ca rc T i i bn vs ns X wr)
 case atStart=>exact⟨0,_,_,_,_,by omega,HLS.out⟩
 case round=>
 obtain⟨i,bn,vs,ns,X,hg,hl⟩:=hrel
 have HG:=zPf hg
 have HP:=zPf hl
 have HI:=zPf hl.v.at_
 clear hg hl HLS HGB
 go_wp2_with fail
 refine(zEa HP.out.v ere (fun j _=>zM4 (HP.out.v.u j))).mono ?_
 rintro e x1 ⟨⟨v1,he,hn1,hv1⟩,hb1⟩
 obtain⟨r,hr⟩: ∃r,zCa ere T i=r:=⟨_,rfl⟩
 have hat:=zNh (ere:=ere) HI.out
 rw[hr]at he hn1 hv1 hat
 have HR:=zPf hr
 obtain⟨⟨k,n,re⟩,er,j⟩:=r
 simp only at he hn1 hv1 hat
 subst he
 have HK:=zPf (zJr HV.out.u HR.out)
 obtain⟨o1,c1,rfl⟩:=hn1.form
 have HAT:=zPf hat
 have HF:=zPf (fun k hk=>HP.out.fresh (k:=k) hk)
 have hp1:=HP.out.words hb1 hv1
 have hwr:wr.heap.size≤x1.heap.size:=hb1.size
 have hrbl:=HP.out.r.lt
 have hbl:w.heap.size≤wr.heap.size:=HP.out.b.size
 clear hr hat hb1 hv1 HP
 have hba:=(zPg x1.heap.size x1).alloc (zPh _) (.cells #[.int .i8 k,.int .i64 n,.slice o1 re.length c1] 54)
 have HA:=zPf (AdB.new x1 (.int .i8 k) (.int .i64 n) (.slice o1 re.length c1))
 have HP1:=zPf (hp1.below hba)
 have HN1:=zPf (zEn (show x1.ownsRow wr.heap.size 78 9 (.slice o1 re.length c1) re.length (zG8 re)from hn1) hba)
 go_upto_region 7 with fail
 obtain⟨W2,hW2⟩: ∃W,x1.alloc (.cells #[.int .i8 k,.int .i64 n,.slice o1 re.length c1] 54)=W:=⟨_,rfl⟩
 rw[hW2]at HA HP1 HN1 ⊢
 obtain⟨a1,ha1⟩: ∃a,x1.heap.size=a:=⟨_,rfl⟩
 rw[ha1]at HA ⊢
 have hra:rb<a1:=by omega
 have hwr2:wr.heap.size≤a1:=by omega
 clear hp1 hn1 hba hW2 ha1 hwr
 go_wp2_with fail
 refine(zH1 HP1.out.r ere).mono ?_
 rintro e x3 ⟨⟨v3,he,hn3,hv3⟩,hb3⟩
 rw[HR.out]at he hn3 hv3
 simp only at he hn3 hv3
 subst he
 obtain⟨o3,c3,rfl⟩:=hn3.form
 have hp3:=HP1.out.ref hb3 hv3
 have hA3:=HA.out.nbut hb3 HA.out.lt (by omega)
 have hN13:=zND HN1.out hb3 (by omega)
 clear hb3 hv3 HA HP1 HN1
 have hba:=(zPg x3.heap.size x3).alloc (zPh _) (.cells #[.int .i8 k,.int .i64 n,.slice o3 re.length c3] 54)
 have HD:=zPf (AdB.new x3 (.int .i8 k) (.int .i64 n) (.slice o3 re.length c3))
 have HP3:=zPf (hp3.below hba)
 have HA3:=zPf (hA3.below hba)
 have HN1:=zPf (zEn hN13 hba)
 have HN3:=zPf (zEn (show x3.ownsRow W2.heap.size 78 9 (.slice o3 re.length c3) re.length (zG8 re)from hn3) hba)
 go_upto_region 8 with fail
 obtain⟨W4,hW4⟩: ∃W,x3.alloc (.cells #[.int .i8 k,.int .i64 n,.slice o3 re.length c3] 54)=W:=⟨_,rfl⟩
 rw[hW4]at HD HP3 HA3 HN1 HN3 ⊢
 obtain⟨a3,ha3⟩: ∃a,x3.heap.size=a:=⟨_,rfl⟩
 rw[ha3]at HD ⊢
 clear hp3 hn3 hA3 hN13 hba hW4 ha3
 have a0:=HA3.out.c0
 have a1':=HA3.out.c1
 have a2:=HA3.out.c2
 have d0:=HD.out.c0
 have d1:=HD.out.c1
 have d2:=HD.out.c2
 have hee:((er:Int) !=(er:Int))=false:=by simp
 have hjj:((j:Int) !=(j:Int))=false:=by simp
 go_wp2_with fail
 refine(zEW (cap:=c1) (cb:=c3) k n (zMG HN1.out HK.out) (zMG HN3.out HK.out)).mono ?_
 rintro e x5 ⟨rfl,hb5⟩
 have HP5:=zPf (HP3.out.below hb5)
 have HA5:=zPf (HA3.out.below hb5)
 have HN5:=zPf (zEn HN1.out hb5)
 clear hb5 a0 a1' a2 d0 d1 d2 HD HP3 HA3 HN1 HN3
 go_wp2_with fail
 refine(zKE HP5.out.v).mono ?_;rintro e x6 ⟨rfl,rfl⟩
 go_wp2_with fail
 refine(zK1 HP5.out.r).mono ?_;rintro e x6 ⟨rfl,rfl⟩
 have a2:=HA5.out.c2
 go_wp2_with fail
 refine(HP5.out.add HN5.out hbl HF.out (by have:=HK.out.1;omega)).mono ?_
 rintro e x7 ⟨rfl,bn7,vs7,ns7,X7,hp7⟩
 have HP7:=zPf hp7
 clear hp7 a2 HA5 HN5 HP5 hee hjj
 have HTK:=zPf (zDH HP7.out.v)
 by_cases hlt:j<T.length
 ·have HLT:=zPf hlt
  rw[if_pos hlt,zPq hlt]at HTK
  clear hlt
  go_wp2_with fail
  refine HTK.out.mono ?_;rintro e x8 ⟨rfl,hv8,hb8⟩
  have HP8:=zPf (HP7.out.words hb8 hv8)
  have HTR:=zPf (zCV HP8.out.r)
  rw[if_pos HLT.out,zPq HLT.out]at HTR
  clear hv8 hb8 HTK HP7
  go_wp2_with fail
  refine HTR.out.mono ?_;rintro e x9 ⟨rfl,hv9,hb9⟩
  have HP9:=zPf (HP8.out.ref hb9 hv9)
  clear hv9 hb9 HTR HP8
  go_wp2_with fail
  go_roundg (T.length - (j+1))
  case measure=>have:=HG.out;have:=HAT.out;have:=HLT.out;omega
  case rel=>exact⟨j+1,_,_,_,_,rfl,HP9.out⟩
 rw[if_neg hlt,zPr hlt]at HTK
 have HLT:=zPf hlt
 clear hlt
 go_wp2_with fail
 refine HTK.out.mono ?_;rintro e x8 ⟨rfl,hv8,hb8⟩
 have HP8:=zPf (HP7.out.words hb8 hv8)
 have HTR:=zPf (zCV HP8.out.r)
 rw[if_neg HLT.out,zPr HLT.out]at HTR
 clear hv8 hb8 HTK HP7
 go_wp2_with fail
 refine HTR.out.mono ?_;rintro e x9 ⟨rfl,hv9,hb9⟩
 have hp9:=HP8.out.ref hb9 hv9
 have hba:=(zPg x9.heap.size x9).alloc (zPh _) (.cells #[.slice none 0 0,.int .i64 0,.bool false] 65)
 have HP9:=zPf (hp9.below hba)
 have HNO:Hid (NoW (x9.alloc (.cells #[.slice none 0 0,.int .i64 0,.bool false] 65)) (some ⟨x9.heap.size,0,none⟩)):=zPf (.inr ⟨_,rfl,by simp,(zPu _ _ 2 _ _ (0,0) (zPs x9 _)).trans rfl⟩)
 clear hv9 hb9 HTR HP8 hp9 hba HF HK HAT HG HR HI HLT hbl hwr2 hra hrbl
 go_upto_region 18 with fail
 obtain⟨W9,hW9⟩: ∃W,x9.alloc (.cells #[.slice none 0 0,.int .i64 0,.bool false] 65)=W:=⟨_,rfl⟩
 rw[hW9]at HP9 HNO ⊢
 obtain⟨z9,hz9⟩: ∃a,x9.heap.size=a:=⟨_,rfl⟩
 rw[hz9]at HNO ⊢
 clear hW9 hz9
 go_wp2_with fail
 refine(zJD (.inl rfl) ere).mono ?_;rintro e y1 ⟨rfl,hb1⟩
 have hp1:=HP9.out.below hb1
 have hn1:=HNO.out.below hb1
 have hba:=(zPg y1.heap.size y1).alloc (zPh _) (.cells #[.int .i8 0,.int .i64 0,.slice none 0 0] 54)
 have HA:=zPf (AdB.new y1 (.int .i8 0) (.int .i64 0) (.slice none 0 0))
 have HQ1:=zPf (hp1.below hba)
 have HN1:=zPf (hn1.below hba)
 clear hb1 hp1 hn1 hba HP9 HNO
 go_upto_region 19 with fail
 obtain⟨Y2,hY2⟩: ∃W,y1.alloc (.cells #[.int .i8 0,.int .i64 0,.slice none 0 0] 54)=W:=⟨_,rfl⟩
 rw[hY2]at HA HQ1 HN1 ⊢
 obtain⟨b1,hb1⟩: ∃a,y1.heap.size=a:=⟨_,rfl⟩
 rw[hb1]at HA ⊢
 clear hY2 hb1
 go_wp2_with fail
 refine(zJD HN1.out ere).mono ?_;rintro e y3 ⟨rfl,hb3⟩
 have hp3:=HQ1.out.below hb3
 have hA3:=HA.out.below hb3
 have hba:=(zPg y3.heap.size y3).alloc (zPh _) (.cells #[.int .i8 0,.int .i64 0,.slice none 0 0] 54)
 have HD:=zPf (AdB.new y3 (.int .i8 0) (.int .i64 0) (.slice none 0 0))
 have HQ3:=zPf (hp3.below hba)
 have HA3:=zPf (hA3.below hba)
 clear hb3 hp3 hA3 hba HQ1 HN1 HA
 go_upto_region 20 with fail
 obtain⟨Y4,hY4⟩: ∃W,y3.alloc (.cells #[.int .i8 0,.int .i64 0,.slice none 0 0] 54)=W:=⟨_,rfl⟩
 rw[hY4]at HD HQ3 HA3 ⊢
 obtain⟨b3,hb3⟩: ∃a,y3.heap.size=a:=⟨_,rfl⟩
 rw[hb3]at HD ⊢
 clear hY4 hb3
 have a0:=HA3.out.c0
 have a1:=HA3.out.c1
 have a2:=HA3.out.c2
 have nz: ∀W,NdV W none []:=fun W=>⟨by decide,fun h=>by simp at h⟩
 go_wp2_with fail
 refine(zEW (oa:=none) (cap:=0) (ob:=none) (cb:=0) (re:=[]) 0 0 (nz _) (nz _)).mono ?_
 rintro e y5 ⟨rfl,hb5⟩
 have HQ5:=zPf (HQ3.out.below hb5)
 have HD5:=zPf (HD.out.below hb5)
 clear hb5 a0 a1 a2 HQ3 HD HA3
 have d0:=HD5.out.c0
 have d1:=HD5.out.c1
 have d2:=HD5.out.c2
 go_wp2_with fail
 refine(zEW (oa:=none) (cap:=0) (ob:=none) (cb:=0) (re:=[]) 0 0 (nz _) (nz _)).mono ?_
 rintro e y6 ⟨rfl,hb6⟩
 have HQ6:=zPf (HQ5.out.below hb6)
 clear hb6 d0 d1 d2 HD5 HQ5 nz
 go_wp2_with fail
 refine HQ6.out.apart.mono ?_;rintro e y7 ⟨rfl,hb7⟩
 have HB7:=zPf hb7
 clear hb7 HQ6
 go_wp2_with fail
 refine(zKf (HT.out.below HB7.out)).mono ?_;rintro e y8 ⟨rfl,hb8⟩
 have HB8:=zPf (HB7.out.trans (hb8.mono HB7.out.size))
 clear hb8
 go_wp2_with fail
 go_ret
 exact⟨rfl,HB8.out⟩
end
end Go.Proofs.YtfjbnpdffillbaaGreatDoor
