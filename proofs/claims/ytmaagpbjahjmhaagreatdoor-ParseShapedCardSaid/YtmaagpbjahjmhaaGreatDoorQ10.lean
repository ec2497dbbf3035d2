/- Parts: Rl. -/
import Derived.Test.YtmaagpbjahjmhaaGreatDoorQ8
import Derived.Test.YtmaagpbjahjmhaaGreatDoorQ9
set_option maxHeartbeats 3200000
set_option maxRecDepth 100000
namespace Go.Proofs.YtmaagpbjahjmhaaGreatDoor
open Go.RowKit
section
variable {rb:Nat} {ere:Bool} {mb mo cap:Nat} {L:List Mk} {k:Nat}
theorem zOQ {first:Bool} {grp:Rst→Out (List Nd)} {s:Rst} (h:(zAI L s.i).p=true∨zCv ere (zAI L s.i).b=none):zDR ere first L grp s= .ok ([zEo (zAI L s.i).b],true) ⟨s.i+1,s.ended⟩:=by
 unfold zDR
 simp only
 rcases h with h|h
 ·rw[if_pos h]
 ·unfold zCv at h
  by_cases hp:(zAI L s.i).p=true
  ·rw[if_pos hp]
  ·rw[if_neg hp]
   repeat' split at h
   all_goals simp_all
theorem zLg {w:World} {s:Rst} {ev:Value} (hg:zHF rb ere mb mo cap L k) (hv:RdS w rb ere mb mo cap L s k ev) (hs:s.i<L.length) (hp:(zAI L s.i).p=false) {F:FuncId} (hF:zCv ere (zAI L s.i).b=some F) (fb:Bool):
  Calls Tryz.prog F #[.pointer (some ⟨rb,0,none⟩),.bool fb] w (zI3 w rb ere mb mo cap L k ev (zDR ere fb L (zAa ere L k) s) (zFW w)):=by
 unfold zCv at hF
 unfold zDR
 simp only[hp,Bool.false_eq_true,if_false]
 split at hF
 ·rename_i h;cases hF;rw[if_pos h];exact zIx hv hs fb
 ·rename_i h;rw[if_neg h]
  split at hF
  ·rename_i h;cases hF;rw[if_pos h];exact zJz hv (by simp[signAt,hs,h,hp]) fb
  ·rename_i h;rw[if_neg h]
   split at hF
   ·rename_i h;cases hF;rw[if_pos h];exact zLY hv hs fb (fun he h2=>hg w s ev fb hv (by rw[he];simp[zAY];omega))
   ·rename_i h;rw[if_neg h]
    split at hF
    ·rename_i h;cases hF;rw[if_pos h];exact zM5 hv hs fb
    ·rename_i h;rw[if_neg h]
     split at hF
     ·rename_i h;cases hF;rw[if_pos h];exact zPJ hv hs fb
     ·rename_i h;rw[if_neg h]
      split at hF
      ·rename_i h;cases hF;rw[if_pos h]
       simp only[Bool.and_eq_true]at h
       exact hg w s ev fb hv (by rw[h.1];simp[zAY];omega)
      ·cases hF
theorem zLh {b:Nat} {F:FuncId} (h:zCv ere b=some F):F=206∨F=207∨F=208∨F=209∨F=210∨F=211:=by
 unfold zCv at h
 repeat' split at h
 all_goals (first|(cases h;simp;done)|cases h)
structure St3 (w:World) (rb:Nat) (ere:Bool) (mb mo cap:Nat) (L:List Mk) (k:Nat) (ev:Value) (W:World) (t:Rst) (ev1:Value) (al:List Nd) (va:Value):Prop where
 r:RdS W rb ere mb mo cap L t k ev1
 b:zA6 rb ev.ownBlock w W
 n:zBK w ev.ownBlock ev1.ownBlock
 a:zA3 w al va W ev1
theorem St3.below {w W W':World} {ev ev1 va:Value} {t:Rst} {al:List Nd} (h:St3 w rb ere mb mo cap L k ev W t ev1 al va) (hb:Below W.heap.size W W'):St3 w rb ere mb mo cap L k ev W' t ev1 al va:=⟨h.r.below hb,h.b.below hb,h.n,h.a.below hb⟩
theorem St3.drew {w W:World} {ev ev1 va:Value} {t:Rst} {al:List Nd} (h:St3 w rb ere mb mo cap L k ev W t ev1 al va):St3 w rb ere mb mo cap L k ev W.drew t ev1 al va:=h.below (zQs _ _).drew
theorem St3.alloc {w W:World} {ev ev1 va:Value} {t:Rst} {al:List Nd} (h:St3 w rb ere mb mo cap L k ev W t ev1 al va) (o:Obj):St3 w rb ere mb mo cap L k ev (W.alloc o) t ev1 al va:=h.below ((zQs _ _).alloc (zQt _) o)
theorem St3.step {w W:World} {ev ev1 va:Value} {t:Rst} {al:List Nd} (h:St3 w rb ere mb mo cap L k ev W t ev1 al va) (hr:rb<w.heap.size) {j:Nat} (hj:j≤L.length) {x:Int} (hx:(j:Int)=x):St3 w rb ere mb mo cap L k ev (W.setCell ⟨rb,2,none⟩ (.int .i64 x)) ⟨j,t.ended⟩ ev1 al va:=by
 subst hx
 exact⟨h.r.setAt hj,h.b.store 2 _,h.n,h.a.store (fun g hg=>by have:=(h.a.lt g hg).1;omega) 2 _⟩
theorem zKD (hg:zHF rb ere mb mo cap L k):zQM rb ere mb mo cap L k:=by
 intro w s ev hv
 have hlen:=hv.m.len
 have hu:=zQr hv.m.u
 have hrw:=hv.lt
 have hsi:=hv.at_
 have hkl:=hv.kl
 go_enter Tryz.func212,Tryz.ntmps212
 go_wp2_with fail
 go_step3
 go_wp2_with fail
 go_step3
 go_wp2_with fail
 go_loopg [4,5,6] (L.length+1) (fun f va n ld wr=> ∃(st:Rst) (all:List Nd) (m:Nat) (lead:Bool) (ev':Value),n= .int .i64 (m:Nat)∧ld= .bool lead∧RdS wr rb ere mb mo cap L st k ev'∧zA6 rb ev.ownBlock w wr∧zBK w ev.ownBlock ev'.ownBlock∧zA3 w all va wr ev'∧
  Hid (zGS ere (k==64) L (zAa ere L k) s=zFJ ere (k==64) L (zAa ere L k) f all m lead st)∧L.length<f+st.i∧m+s.i≤st.i∧all.length+4*s.i≤4*st.i)
 case atStart=>exact⟨s,[],0,true,ev,rfl,rfl,hv,zA6.refl _ _ _,zBK.refl _ _,⟨Nds.nil _ _,fun g hg=>by cases hg⟩,rfl,by omega,by omega,by simp⟩
 case round=>
  obtain⟨st,all,m,lead,ev',rfl,rfl,hr,hb,hn,hal,HS,hf,hm,hal4⟩:=hrel
  have hst:=hr.at_
  obtain⟨f,hfg⟩: ∃f',gk=f'+1:=⟨gk - 1,by omega⟩
  rw[hfg]at HS hf
  have HFG:=zQr hfg
  have HR:=zQr hr
  have HB:=zQr hb
  have HN:=zQr hn
  have HA:=zQr hal
  have c0:=hr.c0
  have c1:=hr.c1
  have c2:=hr.c2
  have rbl:=hr.lt
  clear hr hb hn hal hv hfg
  generalize hva:u4=va at HA ⊢
  clear hva
  by_cases hlt:st.i<L.length
  ·have hlt':(st.i:Int)<(L.length:Int):=by omega
   have hnl: ¬L.length≤st.i:=by omega
   go_wp2_with fail
   refine zAA (X:=none) 10 [] [0,1,2,3,4,5,6,7,8,9] (by kernel_rfl) (by kernel_rfl) rfl (fun _ _ _ _ _ h=>h) ?_
   simp only[zAK,zAC,zAD,zAB,List.getD_cons_zero,List.getD_cons_succ,List.drop_succ_cons,List.drop_nil]
   repeat (go_big_quiet_step (fail))
   refine wpQuiet_nil ?_
   go_upto_region 6 with fail
   have SS:=zQr (show St3 w rb ere mb mo cap L k ev wr.drew st ev' all va from(⟨HR.out,HB.out,HN.out,HA.out⟩:St3 w rb ere mb mo cap L k ev wr st ev' all va).drew)
   have HS0:Hid (zGS ere (k==64) L (zAa ere L k) s=if ere&&seesAt L st.i [124]then .ok (m,all) st
     else if seesAt L st.i (zCw ere 41)then if k==64 then .no 41 st.i else .ok (m,all) st
     else if zAm ere L st.i&&(ere|| !lead|| !seesAt L st.i [42])then .no 42 st.i
     else match zDR ere (m==0) L (zAa ere L k) st with
      | .no e i=> .no e i
      | .ok (re,takes) t=>
       if takes&&zAm ere L t.i then
        match zGY ere L t with
        | .no e i=> .no e i
        | .ok d u=>zFJ ere (k==64) L (zAa ere L k) f (all++d::re) (m+1) ((re.getD 0 Nd.zero).op==2) u
       else zFJ ere (k==64) L (zAa ere L k) f (all++re) (m+1) ((re.getD 0 Nd.zero).op==2) t):=by rw[Hid,HS.out,zFJ,if_neg hnl];rfl
   clear HR HB HN HA HS hnl
   go_cut [23] (fun x wc=>x= .bool (ere&&seesAt L st.i [124])∧St3 w rb ere mb mo cap L k ev wc st ev' all va)
   case first=>
    have c0':=SS.out.r.c0
    cases ere with
    |false=>
     go_wp2_with fail
     go_meet
     exact⟨rfl,SS.out⟩
    |true=>
     go_wp2_with fail
     refine(zAj _ _ _ (by decide) (by rfl) rfl SS.out.r.v).mono ?_;rintro e w2 ⟨rfl,hb2⟩
     have S2:=zQr (SS.out.below hb2)
     clear hb2
     go_wp2_with fail
     go_meet
     exact⟨rfl,S2.out⟩
   case rest=>
    obtain⟨hx,hs2⟩:=hcut
    have SS:=zQr hs2
    have c0:=hs2.r.c0
    have c2:=hs2.r.c2
    have rbl:=hs2.r.lt
    clear hs2
    cases hbar:ere&&seesAt L st.i [124]with
    |true=>
     have HF:Hid (zGS ere (k==64) L (zAa ere L k) s= .ok (m,all) st):=by rw[Hid,HS0.out,if_pos hbar]
     rw[hbar]at hx
     subst hx
     go_wp2_with fail
     go_ret2
     exact⟨SS.out.b,by rw[HF.out];exact⟨_,ev',rfl,SS.out.r,SS.out.n,va,rfl,SS.out.a⟩⟩
    |false=>
     rw[hbar]at hx
     subst hx
     have HT1:=HS0.out
     rw[if_neg (by rw[hbar];decide)]at HT1
     have HS1:=zQr HT1;clear HT1
     clear HS0
     cases hcl:seesAt L st.i (zCw ere 41)with
     |true=>
      have c4:=SS.out.r.c4
      by_cases h64:k=64
      ·have HF:Hid (zGS ere (k==64) L (zAa ere L k) s= .no 41 st.i):=by rw[Hid,HS1.out,if_pos hcl,if_pos (by simp[h64])]
       have c4':((64 - k:Nat):Int)=0:=by omega
       rw[c4']at c4
       go_wp2_with fail
       refine(zBj 41 c0).mono ?_;rintro e w2 ⟨rfl,rfl⟩
       go_wp2_with fail
       refine(zAj _ _ _ (by rw[zDG];have:=zEN ere;omega) (zBk _ _) hcl SS.out.r.v).mono ?_;rintro e w3 ⟨rfl,hb3⟩
       have S3:=zQr (SS.out.below hb3)
       have d2:=S3.out.r.c2
       have d4:=S3.out.r.c4
       have dl:=S3.out.r.lt
       rw[c4']at d4
       clear hb3
       go_wp2_with fail
       refine(zAr 41 st.i rfl rfl _).mono ?_;rintro e w9 ⟨rfl,rfl⟩
       go_wp2_with fail
       exact⟨rfl,S3.out.b,by rw[HF.out];rfl⟩
      ·have HF:Hid (zGS ere (k==64) L (zAa ere L k) s= .ok (m,all) st):=by rw[Hid,HS1.out,if_pos hcl,if_neg (by simpa using h64)]
       have c4': ¬((64 - k:Nat):Int)=0:=by omega
       obtain⟨o,ho⟩: ∃o:Nat,64 - k=o:=⟨_,rfl⟩
       rw[ho]at c4 c4'
       go_wp2_with fail
       refine(zBj 41 c0).mono ?_;rintro e w2 ⟨rfl,rfl⟩
       go_wp2_with fail
       refine(zAj _ _ _ (by rw[zDG];have:=zEN ere;omega) (zBk _ _) hcl SS.out.r.v).mono ?_;rintro e w3 ⟨rfl,hb3⟩
       have S3:=zQr (SS.out.below hb3)
       have d4:=S3.out.r.c4
       have dl:=S3.out.r.lt
       rw[ho]at d4
       clear hb3 SS ho
       have SS:=S3
       go_wp2_with fail
       go_ret2
       exact⟨SS.out.b,by rw[HF.out];exact⟨_,ev',rfl,SS.out.r,SS.out.n,va,rfl,SS.out.a⟩⟩
     |false=>
      have HT2:=HS1.out
      rw[if_neg (by rw[hcl];decide)]at HT2
      have HS2:=zQr HT2;clear HT2
      clear HS1
      go_wp2_with fail
      refine(zBj 41 c0).mono ?_;rintro e w2 ⟨rfl,rfl⟩
      go_wp2_with fail
      refine(zAj _ _ _ (by rw[zDG];have:=zEN ere;omega) (zBk _ _) hcl SS.out.r.v).mono ?_;rintro e w3 ⟨rfl,hb3⟩
      have S3:=zQr (SS.out.below hb3)
      have d0:=S3.out.r.c0
      have d2:=S3.out.r.c2
      have dl:=S3.out.r.lt
      clear hb3 SS c0 c2 rbl
      go_upto_region 10 with fail
      go_cut [64] (fun x wc=>x= .bool (zAm ere L st.i&&(ere|| !lead|| !seesAt L st.i [42]))∧St3 w rb ere mb mo cap L k ev wc st ev' all va)
      case first=>
       clear HS2
       go_wp2_with fail
       refine(zFy S3.out.r.v).mono ?_;rintro e w4 ⟨rfl,hb4⟩
       have S4:=zQr (S3.out.below hb4)
       have e0:=S4.out.r.c0
       have el:=S4.out.r.lt
       clear hb4
       cases hrp:zAm ere L st.i with
       |false=>
        go_wp2_with fail
        go_meet
        exact⟨by rw[hrp];rfl,S4.out⟩
       |true=>
        cases ere with
        |true=>
         go_wp2_with fail
         go_meet
         exact⟨by rw[hrp];rfl,S4.out⟩
        |false=>
         cases lead with
         |false=>
          go_wp2_with fail
          go_meet
          exact⟨by rw[hrp];rfl,S4.out⟩
         |true=>
          go_wp2_with fail
          refine(zAj _ [42] _ (by decide) (by rfl) rfl S4.out.r.v).mono ?_;rintro e w5 ⟨rfl,hb5⟩
          have S5:=zQr (S4.out.below hb5)
          clear hb5
          go_wp2_with fail
          go_meet
          exact⟨by rw[hrp];rfl,S5.out⟩
      case rest=>
       obtain⟨hx,hs4⟩:=hcut
       have S4:=zQr hs4
       have c2:=hs4.r.c2
       have c1:=hs4.r.c1
       have rbl:=hs4.r.lt
       clear hs4 S3 d0 d2 dl
       cases hrp:zAm ere L st.i&&(ere|| !lead|| !seesAt L st.i [42])with
       |true=>
        have HF:Hid (zGS ere (k==64) L (zAa ere L k) s= .no 42 st.i):=by rw[Hid,HS2.out,if_pos hrp]
        rw[hrp]at hx
        subst hx
        go_wp2_with fail
        refine(zAr 42 st.i rfl rfl _).mono ?_;rintro e w9 ⟨rfl,rfl⟩
        go_wp2_with fail
        exact⟨rfl,S4.out.b,by rw[HF.out];rfl⟩
       |false=>
        have HT3:=HS2.out
        rw[if_neg (by rw[hrp];decide)]at HT3
        have HS3:=zQr HT3;clear HT3
        rw[hrp]at hx
        subst hx
        clear HS2 hrp hbar hcl
        have cb:=S4.out.r.m.b st.i hlt
        have cp:=S4.out.r.m.p st.i hlt
        have hub:=S4.out.r.m.u st.i hlt
        have mbl:=S4.out.r.m.lt
        have hat1: ∀x,zDR ere x L (zAa ere L k) st=zDR ere x L (zAa ere L k) st:=fun _=>rfl
        have HONE:=zQr (fun(h:(zAI L st.i).p=true∨zCv ere (zAI L st.i).b=none)=>zOQ (first:=(m==0)) (grp:=zAa ere L k) h)
        have HCALL:=zQr (fun(W:World) (e2:Value) (hv:RdS W rb ere mb mo cap L st k e2) (hp:(zAI L st.i).p=false) (F:FuncId) (hF:zCv ere (zAI L st.i).b=some F)=>zLg hg hv hlt hp hF (m==0))
        have htb:=S4.out.r.tb (zAI L st.i).b hub
        generalize hm:zAI L st.i=mk at cb cp hub HONE HCALL htb
        obtain⟨bb,pl⟩:=mk
        simp only at cb cp hub htb
        clear hat1
        go_wp2_with fail
        refine zAA (X:=none) 11 [([0,1,2,3,4,5,6,7,8,9],10)] [] (by kernel_rfl) (by kernel_rfl) rfl (fun _ _ _ _ _ h=>h) ?_
        simp only[zAK,zAC,zAE,zAD,zAB,List.getD_cons_zero,List.getD_cons_succ,List.drop_succ_cons,List.drop_zero]
        repeat (go_big_quiet_step (fail))
        refine wpQuiet_nil ?_
        go_wp2_with fail
        refine⟨zAn (zAc _ _),wpQuiet_nil ?_⟩
        go_upto_region 15 with fail
        have S5:=zQr ((S4.out.alloc (.cells #[.int .u8 (bb:Nat),.bool pl] 166)).drew)
        have hB0:((wc.alloc (.cells #[.int .u8 (bb:Nat),.bool pl] 166)).drew).cell? ⟨wc.heap.size,0,none⟩=some (.int .u8 (bb:Nat)):=(zQ6 (wc.alloc (.cells #[.int .u8 (bb:Nat),.bool pl] 166)) wc.heap.size 0 _ _ (0,0) (zQ4 wc _)).trans rfl
        have hB1:((wc.alloc (.cells #[.int .u8 (bb:Nat),.bool pl] 166)).drew).cell? ⟨wc.heap.size,1,none⟩=some (.bool pl):=(zQ6 (wc.alloc (.cells #[.int .u8 (bb:Nat),.bool pl] 166)) wc.heap.size 1 _ _ (0,0) (zQ4 wc _)).trans rfl
        have hBl:wc.heap.size<((wc.alloc (.cells #[.int .u8 (bb:Nat),.bool pl] 166)).drew).heap.size:=by show _<(wc.alloc _).heap.size;simp
        have hBn: ¬rb=wc.heap.size:=by omega
        have hBw:=S4.out.b.size
        clear S4 c1 c2 cb cp mbl htb
        revert S5 hB0 hB1 hBl
        generalize (wc.alloc (.cells #[.int .u8 (bb:Nat),.bool pl] 166)).drew=W5
        intro S5 hB0 hB1 hBl
        generalize wc.heap.size=B at hB0 hB1 hBl hBn hBw rbl ⊢
        have htb:=S5.out.r.tb bb hub
        have rb5:=S5.out.r.lt
        refine zAA (X:=none) 8 [] [0,1,2,3,4,5,6,7] (by kernel_rfl) (by kernel_rfl) rfl (fun _ _ _ _ _ h=>h) ?_
        simp only[zAK,zAC,zAD,zAB,List.getD_cons_zero,List.getD_cons_succ,List.drop_succ_cons,List.drop_nil]
        repeat (go_big_quiet_step (fail))
        refine wpQuiet_nil ?_
        go_upto_region 16 with fail
        have hq1: ∀w,(binOp .neq 258 .nilFunc .nilFunc).run Tryz.prog w= .ok (.bool false) w:=fun _=>by kernel_rfl
        have hq2: ∀F a b w,(binOp .neq 258 (.func (.func F) a b) .nilFunc).run Tryz.prog w= .ok (.bool true) w:=fun _ _ _ _=>by kernel_rfl
        go_cut [10,94] (fun z x wd=>z=zDj rb ere bb∧x= .bool ((zCv ere bb).isSome&& !pl)∧W5.drew=wd)
        case first=>
         cases hF:zCv ere bb with
         |none=>
          have hV:zDj rb ere bb= .nilFunc:=by simp[zDj,hF]
          rw[hV]
          go_wp2_with fail
          go_meet
          exact⟨hV.symm,by rw[hF];rfl,rfl⟩
         |some F=>
          have hV:zDj rb ere bb= .func (.func F) #[.pointer (some ⟨rb,0,none⟩)] #[]:=by simp[zDj,hF]
          rw[hV]
          cases pl with
          |true=>
           go_wp2_with fail
           go_meet
           exact⟨hV.symm,by rw[hF];rfl,rfl⟩
          |false=>
           go_wp2_with fail
           go_meet
           exact⟨hV.symm,by rw[hF];rfl,rfl⟩
        case rest=>
         obtain⟨rfl,hx,rfl⟩:=hcut
         go_upto_if 94 with fail
         go_cut [8,9,10] (fun x y _ wd=> ∃re tk t ev1,y= .bool tk∧zDR ere (m==0) L (zAa ere L k) st= .ok (re,tk) t∧St3 w rb ere mb mo cap L k ev wd t ev1 all va∧zA3 w re x wd ev1∧ ∀g,x.ownBlock=some g→some g≠va.ownBlock)
         case first=>
          subst hx
          cases hc:(zCv ere bb).isSome&& !pl with
          |false=>
           have hone:=HONE.out (by
            cases pl with
            |true=>exact .inl rfl
            |false=>cases hF:zCv ere bb with
             |none=>exact .inr rfl
             |some F=>rw[hF]at hc;cases hc)
           have H1:=zQr hone
           have d2:=S5.out.r.c2
           have f2:=S5.out.r.fz 2
           have S6:=zQr (S5.out.step hrw (j:=st.i+1) hlt (x:=(st.i:Int)+1) (by omega)).drew
           clear hone hc htb
           go_wp2_with fail
           refine(zEG bb hub _).mono ?_;rintro e w7 ⟨rfl,hb7⟩
           have S7:=zQr (S6.out.below hb7)
           clear hb7 S6
           have HO:=zQr (zA3.lit (ev:=ev') (w0:=w) (zEo bb) S7.out.b.size S7.out.r.evlt)
           have S8:=zQr (S7.out.alloc (.cells (zAT (zEo bb)) 101))
           generalize zEo bb=x at H1 HO S8 ⊢
           obtain⟨op,⟨x0,x1,x2,x3⟩,xn,xmin,xmax,xk⟩:=x
           go_wp2_with fail
           go_meet
           exact⟨_,true,_,ev',rfl,H1.out,S8.out,HO.out,fun g hg e=>by simp only[Value.ownBlock,Option.some.injEq]at hg;have:=(S7.out.a.lt g e.symm).2;omega⟩
          |true=>
           simp only[Bool.and_eq_true,Bool.not_eq_true',Option.isSome_iff_exists]at hc
           obtain⟨⟨F,hF⟩,hpl⟩:=hc
           have hV:zDj rb ere bb= .func (.func F) #[.pointer (some ⟨rb,0,none⟩)] #[]:=by simp[zDj,hF]
           have HC:=zQr (HCALL.out _ _ S5.out.r.drew hpl F hF)
           have hmb:((m:Int)==0)=(m==0):=by cases m<;>rfl
           have HMB:=zQr hmb
           rw[hV]
           have h6:=zLh hF
           clear hV hF htb hmb
           rcases h6 with rfl|rfl|rfl|rfl|rfl|rfl
           all_goals
            go_wp2_with fail
            rw[HMB.out]
            refine HC.out.mono ?_
            rintro e w7 ⟨hb7,hp7⟩
            cases hat:zDR ere (m==0) L (zAa ere L k) st with
            |no er p=>
             have HF:Hid (zGS ere (k==64) L (zAa ere L k) s= .no er p):=by rw[Hid,HS3.out,hat]
             rw[hat]at hp7
             simp only[zFP]at hp7
             subst hp7
             have HBT:=zQr (S5.out.b.drew.trans S5.out.n hb7)
             clear hb7
             go_wp2_with fail
             exact⟨rfl,HBT.out,by rw[HF.out];rfl⟩
            |ok a t=>
             obtain⟨re,tk⟩:=a
             rw[hat]at hp7
             simp only at hp7
             obtain⟨v7,ev7,rfl,hr7,hn7,v8,rfl,hrow7⟩:=hp7
             have HAT:=zQr hat
             have S7:=zQr (show St3 w rb ere mb mo cap L k ev w7 t ev7 all va from⟨hr7,S5.out.b.drew.trans S5.out.n hb7,S5.out.n.trans S5.out.b.drew.size hn7,S5.out.a.drew.part hb7 hn7 hrw⟩)
             have HRW:=zQr (hrow7.mono (w0:=w) S5.out.b.drew.size)
             have HDD:=zQr (show∀g,v8.ownBlock=some g→some g≠va.ownBlock from fun g hg e=>by have h1:=(hrow7.lt g hg).1;have h2:=(S5.out.a.lt g e.symm).2;change W5.heap.size≤g at h1;omega)
             clear hr7 hn7 hrow7 hb7 hat
             go_wp2_with fail
             go_meet
             exact⟨re,tk,t,ev7,rfl,HAT.out,S7.out,HRW.out,HDD.out⟩
         case rest=>
          obtain⟨re,tk,t,ev1,rfl,hat,hs6,hrw6,hdd⟩:=hcut
          have hsm:=zGN hu.out hlt (fun re t=>zDe hu.out k st re t) hat
          have hadv:=zEl hu.out hlt (fun re t=>zCK hu.out k st re t) hat
          obtain⟨g8,cp8,hu8,g8l,g8c⟩:=hrw6.nds.head hsm.1
          have HS4:Hid (zGS ere (k==64) L (zAa ere L k) s=if tk&&zAm ere L t.i then
            match zGY ere L t with
            | .no e i=> .no e i
            | .ok d u=>zFJ ere (k==64) L (zAa ere L k) f (all++d::re) (m+1) ((re.getD 0 Nd.zero).op==2) u
           else zFJ ere (k==64) L (zAa ere L k) f (all++re) (m+1) ((re.getD 0 Nd.zero).op==2) t):=by rw[Hid,HS3.out,hat]
          obtain⟨o8,ho8⟩: ∃o,(re.getD 0 Nd.zero).op=o:=⟨_,rfl⟩
          rw[ho8]at g8c HS4
          have hlt1:=hadv.lt
          have hle1:=hadv.le
          obtain⟨hsm1,hsm2⟩:=hsm
          simp only at hsm1 hsm2
          have hpos:(0:Int)<(re.length:Int):=by omega
          subst hu8
          have S6:=zQr hs6
          have HR6:=zQr hrw6
          have HD6:=zQr hdd
          clear hat hs6 hrw6 hdd hadv ho8 HS3 HONE HCALL S5 hB0 hB1 hBl htb rb5
          go_upto_region 21 with fail
          clear g8c
          go_cut [122] (fun x wd=>x= .bool (tk&&zAm ere L t.i)∧St3 w rb ere mb mo cap L k ev wd t ev1 all va∧zA3 w re (.slice (some ⟨g8,0,none⟩) re.length cp8) wd ev1)
          case first=>
           cases tk with
           |false=>
            go_wp2_with fail
            go_meet
            exact⟨rfl,S6.out,HR6.out⟩
           |true=>
            go_wp2_with fail
            refine(zFy S6.out.r.v).mono ?_;rintro e w8 ⟨rfl,hb8⟩
            have S7:=zQr (S6.out.below hb8)
            have HR7:=zQr (HR6.out.below hb8)
            clear hb8
            go_wp2_with fail
            go_meet
            exact⟨rfl,S7.out,HR7.out⟩
          case rest=>
           obtain⟨hx,hs7,hrw7⟩:=hcut
           have SA:=zQr hs7
           have HRA:=zQr hrw7
           clear hs7 hrw7 S6 HR6
           cases hb:tk&&zAm ere L t.i with
           |false=>
            have HSZ:Hid (zGS ere (k==64) L (zAa ere L k) s=zFJ ere (k==64) L (zAa ere L k) f (all++re) (m+1) (o8==2) t):=by rw[Hid,HS4.out,if_neg (by rw[hb];decide)]
            rw[hb]at hx
            subst hx
            clear HS4
            go_wp2_with (at_builtin;refine zCG rfl _ _ rfl w.heap.size rfl SA.out.a.nds rfl HRA.out.nds.src (by omega) SA.out.b.size ?_)
            intro v9 w9 hnd9 hgr9 hblk9
            obtain⟨hr9,hb9,ha9⟩:=zEm SA.out.r SA.out.b hrw SA.out.a hnd9 hgr9 hblk9
            have HZ:=zQr (show St3 w rb ere mb mo cap L k ev w9 t ev1 (all++re) v9 from⟨hr9,hb9,SA.out.n,ha9⟩)
            clear hnd9 hgr9 hblk9 hr9 hb9 ha9
            go_wp2_with fail
            obtain⟨z1,z2,z3,z4⟩:=HZ.out
            go_roundg f
            case measure=>have:=HFG.out;omega
            case rel=>exact⟨t,all++re,m+1,o8==2,ev1,by go_num,rfl,z1,z2,z3,z4,HSZ.out,by omega,by omega,by simp only[List.length_append];omega⟩
           |true=>
            have hrp:zAm ere L t.i=true:=by simp only[Bool.and_eq_true]at hb;exact hb.2
            rw[hb]at hx
            subst hx
            go_wp2_with fail
            refine(zGI SA.out.r hrp).mono ?_
            rintro e w8 ⟨hb8,hp8⟩
            cases hdp:zGY ere L t with
            |no er p=>
             have HF:Hid (zGS ere (k==64) L (zAa ere L k) s= .no er p):=by rw[Hid,HS4.out,if_pos hb,hdp]
             rw[hdp]at hp8
             simp only[zFP]at hp8
             subst hp8
             have HBT:=zQr (SA.out.b.trans SA.out.n hb8)
             clear hb8
             go_wp2_with fail
             exact⟨rfl,HBT.out,by rw[HF.out];rfl⟩
            |ok d u=>
             have HSZ:Hid (zGS ere (k==64) L (zAa ere L k) s=zFJ ere (k==64) L (zAa ere L k) f ((all++[d])++re) (m+1) (o8==2) u):=by rw[Hid,HS4.out,if_pos hb,hdp];simp
             have hdv:=zFe hrp hdp
             have hlt2:=hdv.lt
             have hle2:=hdv.le
             rw[hdp]at hp8
             obtain⟨v8,ev8,rfl,hr8,hn8,rfl,rfl⟩:=hp8
             have SB:=zQr (show St3 w rb ere mb mo cap L k ev w8 u ev8 all va from⟨hr8,SA.out.b.trans SA.out.n hb8,SA.out.n,SA.out.a.part hb8 (zBK.refl _ _) hrw⟩)
             have HRB:=zQr (HRA.out.part hb8 (zBK.refl _ _) hrw)
             have SC:=zQr (SB.out.alloc (.cells (zAT d) 101))
             have HRC:=zQr (HRB.out.below ((zQs _ _).alloc (zQt _) (.cells (zAT d) 101)))
             have HL:=zQr (Nds.lit w8 w.heap.size d SB.out.b.size).src
             clear hr8 hn8 hb8 hdv hdp SA HRA HS4 SB HRB
             obtain⟨dop,⟨x0,x1,x2,x3⟩,xn,xmin,xmax,xk⟩:=d
             go_wp2_with (at_builtin;refine zCG rfl _ _ rfl w.heap.size rfl SC.out.a.nds rfl HL.out (by simp only[List.length_singleton];omega) SC.out.b.size ?_)
             intro v6 w6 hnd6 hgr6 hblk6
             have hap:=zEm SC.out.r SC.out.b hrw SC.out.a hnd6 hgr6 (by simpa using hblk6)
             have SA:=zQr (show St3 w rb ere mb mo cap L k ev w6 u ev8 (all++[⟨dop,⟨x0,x1,x2,x3⟩,xn,xmin,xmax,xk⟩]) v6 from⟨hap.1,hap.2.1,SC.out.n,hap.2.2⟩)
             have HRA:=zQr (show zA3 w re (.slice (some ⟨g8,0,none⟩) re.length cp8) w6 ev8 from⟨zAV HRC.out.1 fun g hg=>hgr6.block g (HRC.out.lt g hg).2 (HD6.out g hg),HRC.out.2⟩)
             clear hnd6 hgr6 hblk6 hap SC HRC HL
             obtain⟨al2,hal2⟩: ∃l,all++[(⟨dop,⟨x0,x1,x2,x3⟩,xn,xmin,xmax,xk⟩:Nd)]=l:=⟨_,rfl⟩
             have hll:al2.length=all.length+1:=by rw[←hal2];simp
             rw[hal2]at SA HSZ
             clear hal2
             go_wp2_with (at_builtin;refine zCG rfl _ _ rfl w.heap.size rfl SA.out.a.nds rfl HRA.out.nds.src (by omega) SA.out.b.size ?_)
             intro v9 w9 hnd9 hgr9 hblk9
             obtain⟨hr9,hb9,ha9⟩:=zEm SA.out.r SA.out.b hrw SA.out.a hnd9 hgr9 hblk9
             have HZ:=zQr (show St3 w rb ere mb mo cap L k ev w9 u ev8 (al2++re) v9 from⟨hr9,hb9,SA.out.n,ha9⟩)
             clear hnd9 hgr9 hblk9 hr9 hb9 ha9
             go_wp2_with fail
             obtain⟨z1,z2,z3,z4⟩:=HZ.out
             go_roundg f
             case measure=>have:=HFG.out;omega
             case rel=>exact⟨u,al2++re,m+1,o8==2,ev8,by go_num,rfl,z1,z2,z3,z4,HSZ.out,by omega,by omega,by simp only[List.length_append];omega⟩
  ·have hlt': ¬(st.i:Int)<(L.length:Int):=by omega
   have HF:Hid (zGS ere (k==64) L (zAa ere L k) s= .ok (m,all) st):=by rw[Hid,HS.out,zFJ,if_pos (by omega)]
   go_wp2_with fail
   refine zAA (X:=none) 10 [] [0,1,2,3,4,5,6,7,8,9] (by kernel_rfl) (by kernel_rfl) rfl (fun _ _ _ _ _ h=>h) ?_
   simp only[zAK,zAC,zAD,zAB,List.getD_cons_zero,List.getD_cons_succ,List.drop_succ_cons,List.drop_nil]
   repeat (go_big_quiet_step (fail))
   refine wpQuiet_nil ?_
   go_wp2_with fail
   go_ret2
   exact⟨HB.out.drew,by rw[HF.out];exact⟨_,ev',rfl,HR.out.drew,HN.out,va,rfl,HA.out.drew⟩⟩
end
end Go.Proofs.YtmaagpbjahjmhaaGreatDoor
