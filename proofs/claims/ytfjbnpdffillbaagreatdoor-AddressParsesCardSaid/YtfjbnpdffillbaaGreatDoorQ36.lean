/- Parts: Gj Ja Jb Jc. -/
import Derived.Test.YtfjbnpdffillbaaGreatDoorQ20
import Derived.Test.YtfjbnpdffillbaaGreatDoorQ22
import Derived.Test.YtfjbnpdffillbaaGreatDoorQ30
import Derived.Test.YtfjbnpdffillbaaGreatDoorQ35
import Derived.Test.YtfjbnpdffillbaaGreatDoorQ10
import Derived.Test.YtfjbnpdffillbaaGreatDoorQ17
import Derived.Test.YtfjbnpdffillbaaGreatDoorQ26
import Derived.Test.YtfjbnpdffillbaaGreatDoorQ5
import Derived.Test.YtfjbnpdffillbaaGreatDoorQ7
import Derived.Test.YtfjbnpdffillbaaGreatDoorQ8
import Derived.Test.YtfjbnpdffillbaaGreatDoorQ32
import Derived.Shelf.LaysM
import Derived.Shelf.Strconv.AppendUint10
import Derived.Shelf.Strconv.AppendInt10
import Derived.Shelf.Strconv.AppendIntPublic10
import Derived.Test.YtfjbnpdffillbaaGreatDoorChecked
set_option maxHeartbeats 6400000
set_option maxRecDepth 100000
namespace Go.Proofs.YtfjbnpdffillbaaGreatDoor
section
open Go.RowKit
theorem zM4 {c:Nat} (h:c<256):zOZ c:=by
 by_cases hc:c<128
 ·exact zHr hc
 ·exact zLk (by omega) h
theorem Src.below {w w':World} {v:Value} {m:Nat} {xs:List Value} (h:Src w v m xs) (hb:Below w.heap.size w w'):Src w' v m xs:=by
 rcases h with h|⟨a,c,h,hj⟩
 ·exact .inl h
 ·exact .inr ⟨a,c,h,fun j u hu=>(hb.cell (zQC w _ (hj j u hu))).trans (hj j u hu)⟩
section
variable {w:World} {oa:Option Addr} {cap:Nat} {re:List Nd} {T:List Nat}
theorem zEF (hs:Src w (.slice oa T.length cap) T.length (u8s T)) (hl:T.length≤140737488355328):
  Calls Tryz.prog 12 #[.slice oa T.length cap] w fun e w'=>(∃v,e= .returned v∧w'.ownsRow w.heap.size 5 1 v T.length (u8s T))∧Below w.heap.size w w':=by
 have HS:=zPf hs
 clear hs
 go_enter Tryz.func12,Tryz.ntmps12
 go_wp2_with (at_builtin;refine zAt zMs rfl _ _ rfl w.heap.size (n:=0) (m:=T.length) (news:=u8s T) rfl (zPv w w.heap.size _ _) rfl HS.out (by simp[u8s]) (zLi T) (by unfold maxLen;omega) (by omega) (Nat.le_refl _) ?_)
 intro v1 w1 hown hgr _
 have HO:=zPf hown
 have HB:=zPf ((zPg w.heap.size w).grown hgr (zPh _) (fun k hk=>by cases hk))
 clear hown hgr
 go_wp2_with fail
 go_ret
 exact⟨⟨_,rfl,by have h:=HO.out;simpa using h⟩,HB.out⟩
theorem zEW (k n:Int) {ob:Option Addr} {cb:Nat} (ha:NdV w oa re) (hb:NdV w ob re):
  Calls Tryz.prog 16 #[.agg #[.int .i8 k,.int .i64 n,.slice oa re.length cap],.agg #[.int .i8 k,.int .i64 n,.slice ob re.length cb]] w fun e w'=>e= .returned (.bool true)∧Below w.heap.size w w':=by
 have hb1:=((zPg w.heap.size w).alloc (zPh _) (.cells #[.int .i8 k,.int .i64 n,.slice oa re.length cap] 54)).alloc (by simp) (.cells #[.int .i8 k,.int .i64 n,.slice ob re.length cb] 54)
 have HE:=zPf (zI3 (ca:=cap) (cb:=cb) (ha.below hb1) (hb.below hb1))
 have HB:=zPf hb1
 rw[show decide (re=re)=true from zPq rfl]at HE
 clear ha hb hb1
 go_enter Tryz.func16,Tryz.ntmps16
 go_wp2_with fail
 refine HE.out.mono ?_;rintro e w1 ⟨rfl,hb1⟩
 have HB1:=zPf (HB.out.trans (hb1.mono HB.out.size))
 clear hb1
 go_wp2_with fail
 go_ret
 exact⟨rfl,HB1.out⟩
end
end
section
open Go.RowKit
theorem WdS.newT {w w1:World} (t:TypeId) {v:Value} {T:List Nat} (h:w1.ownsRow w.heap.size 5 1 v T.length (u8s T)) (hl:T.length≤4294967296) (hu: ∀j,T.getD j 0<256):
  ∃oa cap,v= .slice oa T.length cap∧WdS (w1.alloc (.cells #[v,.int .i64 0,.bool true] t)) w1.heap.size oa cap T 0:=by
 have hB:(w1.alloc (.cells #[v,.int .i64 0,.bool true] t)).heap[w1.heap.size]?=some (.cells #[v,.int .i64 0,.bool true] t (0,0)):=zPs w1 _
 have k0: ∀v',v=v'→(w1.alloc (.cells #[v,.int .i64 0,.bool true] t)).cell? ⟨w1.heap.size,0,none⟩=some v':=fun v' e=>by subst e;exact(zPu _ _ 0 _ _ (0,0) hB).trans rfl
 have k1:(w1.alloc (.cells #[v,.int .i64 0,.bool true] t)).cell? ⟨w1.heap.size,1,none⟩=some (.int .i64 0):=(zPu _ _ 1 _ _ (0,0) hB).trans rfl
 have k2:(w1.alloc (.cells #[v,.int .i64 0,.bool true] t)).cell? ⟨w1.heap.size,2,none⟩=some (.bool true):=(zPu _ _ 2 _ _ (0,0) hB).trans rfl
 have kf: ∀o,(w1.alloc (.cells #[v,.int .i64 0,.bool true] t)).frozen? ⟨w1.heap.size,o,none⟩=false:=fun o=>zAE hB o
 have h0:=h
 rcases h.2 with ⟨rfl,hn⟩|⟨g,cap,cur,rfl,hb,hg,_⟩
 ·refine⟨none,0,by rw[hn],⟨by simp,k0 _ (by rw[hn]),k1,k2,kf,fun hp=>by omega,Nat.zero_le _,hl,hu⟩⟩
 ·have hlt:g<w1.heap.size:=(zPn.1 hg).1
  refine⟨_,cap,rfl,⟨by simp,k0 _ rfl,k1,k2,kf,fun _=>⟨g,rfl,by omega,by simp;omega,fun j hj=>?_⟩,Nat.zero_le _,hl,hu⟩⟩
  refine(zPj (w:=w1) (a:=⟨g,j,none⟩) (zPt _ _ (by omega))).trans ?_
  have hadd:(⟨g,0,none⟩:Addr).add j=⟨g,j,none⟩:=by rw[zDf,Nat.zero_add]
  rw[←hadd]
  refine h0.cells (g:=g) rfl j _ ?_
  simp[u8s,hj,List.getD_eq_getElem?_getD]
section
variable {w:World} {wb:Nat} {oa:Option Addr} {cap:Nat} {T:List Nat} {i:Nat}
theorem zJs (h:Src w (.slice oa T.length cap) T.length (u8s T)) (hl:T.length≤4294967296) (hu: ∀j,T.getD j 0<256):
  Calls Tryz.prog 13 #[.slice oa T.length cap] w fun e w'=> ∃wb ob cb,e= .returned (.pointer (some ⟨wb,0,none⟩))∧w.heap.size≤wb∧WdS w' wb ob cb T 0∧Below w.heap.size w w':=by
 have HC:=zPf (zEF (cap:=cap) h (by omega))
 clear h
 go_enter Tryz.func13,Tryz.ntmps13
 go_wp2_with fail
 refine HC.out.mono ?_;rintro e w1 ⟨⟨v,rfl,h1⟩,hb1⟩
 obtain⟨ob,cb,rfl,hws⟩:=WdS.newT 116 h1 hl hu
 have HW:=zPf hws
 have HB:=zPf hb1
 have HS:=zPf hb1.size
 clear hws hb1 h1 HC
 go_wp2_with fail
 go_ret
 exact⟨_,ob,cb,rfl,HS.out,HW.out,HB.out.alloc HS.out _⟩
theorem zBt (h:w.cell? ⟨wb,2,none⟩=some (.bool true)):
  Calls Tryz.prog 58 #[.pointer (some ⟨wb,0,none⟩)] w fun e w'=>e= .returned (.bool false)∧w=w':=by
 go_enter Tryz.func58,Tryz.ntmps58
 go_wp2_with fail
 go_ret
 exact⟨rfl,rfl⟩
theorem zK1 (h:WdS w wb oa cap T i):
  Calls Tryz.prog 18 #[.pointer (some ⟨wb,0,none⟩)] w fun e w'=>e= .returned (.int .i64 (i:Nat))∧w=w':=by
 have c1:=h.c1
 have c2:=h.c2
 clear h
 go_enter Tryz.func18,Tryz.ntmps18
 go_wp2_with fail
 refine(zBt c2).mono ?_;rintro e w1 ⟨rfl,rfl⟩
 go_wp2_with fail
 go_ret
 exact⟨rfl,rfl⟩
theorem zFX (h:WdS w wb oa cap T i):
  Calls Tryz.prog 52 #[.pointer (some ⟨wb,0,none⟩)] w fun e w'=>e= .returned (.tuple #[.int .u8 (T.getD i 0:Nat),.bool (decide (i<T.length))])∧Below w.heap.size w w':=by
 have c0:=h.c0
 have c1:=h.c1
 have c2:=h.c2
 have lt:=h.lt
 have hat:=h.at_
 by_cases hi:i=T.length
 ·have HT:Hid (T.getD T.length 0=0):=zPf (by simp[List.getD_eq_getElem?_getD])
  rw[hi]at c1 ⊢
  clear h hat hi
  go_enter Tryz.func52,Tryz.ntmps52
  go_upto_region 1 with fail
  refine zAA (X:=none) 14 [([0],1)] [2,3,4,5,6,7,8,9,10,11,12,13] (by kernel_rfl) (by kernel_rfl) rfl (fun _ _ _ _ _ h=>h) ?_
  simp only[zAI,zAC,zAF,zAD,zAB,List.getD_cons_zero,List.getD_cons_succ,List.drop_succ_cons,List.drop_nil]
  repeat (go_big_quiet_step (fail))
  refine wpQuiet_nil ?_
  go_wp2_with fail
  refine(zBt (w:=w.drew) c2).mono ?_;rintro e w1 ⟨rfl,rfl⟩
  go_wp2_with fail
  refine⟨zAJ.refl _,?_⟩
  repeat (go_big_quiet_step (fail))
  refine wpQuiet_nil ?_
  go_wp2_with fail
  go_ret2
  exact⟨by rw[HT.out,zPr (Nat.lt_irrefl _)];rfl,(zPg _ _).drew⟩
 ·have hlt:i<T.length:=by omega
  obtain⟨g,rfl,hgw,hgl,hc⟩:=h.tx (by omega)
  have hx:=hc i hlt
  have hne: ¬(i:Int)=(T.length:Int):=by omega
  have hlt':(i:Int)<(T.length:Int):=by omega
  have HD:Hid (decide (i<T.length)=true):=zPf (zPq hlt)
  have hlen:=h.len
  obtain⟨b,hbe⟩: ∃b,T.getD i 0=b:=⟨_,rfl⟩
  rw[hbe]at hx ⊢
  clear h hc hi hat hbe
  go_enter Tryz.func52,Tryz.ntmps52
  go_upto_region 1 with fail
  refine zAA (X:=none) 14 [([0],1)] [2,3,4,5,6,7,8,9,10,11,12,13] (by kernel_rfl) (by kernel_rfl) rfl (fun _ _ _ _ _ h=>h) ?_
  simp only[zAI,zAC,zAF,zAD,zAB,List.getD_cons_zero,List.getD_cons_succ,List.drop_succ_cons,List.drop_nil]
  repeat (go_big_quiet_step (fail))
  refine wpQuiet_nil ?_
  go_wp2_with fail
  refine(zBt (w:=w.drew) c2).mono ?_;rintro e w1 ⟨rfl,rfl⟩
  go_wp2_with fail
  refine⟨zAJ.refl _,?_⟩
  repeat (go_big_quiet_step (fail))
  refine wpQuiet_nil ?_
  go_wp2_with fail
  refine zAA (X:=none) 12 [] [0,1,2,3,4,5,6,7,8,9,10,11] (by kernel_rfl) (by kernel_rfl) rfl (fun _ _ _ _ _ h=>h) ?_
  simp only[zAI,zAC,zAD,zAB,List.getD_cons_zero,List.getD_cons_succ,List.drop_succ_cons,List.drop_nil]
  repeat (go_big_quiet_step (fail))
  refine wpQuiet_nil ?_
  go_wp2_with fail
  go_ret2
  exact⟨by rw[HD.out];rfl,(zPg _ _).drew.drew⟩
theorem zCV (h:WdS w wb oa cap T i):
  Calls Tryz.prog 21 #[.pointer (some ⟨wb,0,none⟩)] w fun e w'=>e= .returned (.tuple #[.int .u8 (T.getD i 0:Nat),.bool (decide (i<T.length))])∧WdS w' wb oa cap T (if i<T.length then i+1 else i)∧zBi w.heap.size wb w w':=by
 have HP:=zPf (zFX h)
 have HH:=zPf h
 by_cases hlt:i<T.length
 ·rw[if_pos hlt]
  rw[zPq hlt]at HP ⊢
  have HL:=zPf hlt
  have hle:i≤4294967296:=by have:=h.len;omega
  clear h hlt
  go_enter Tryz.func21,Tryz.ntmps21
  go_wp2_with fail
  refine HP.out.mono ?_;rintro e w1 ⟨rfl,hb1⟩
  have HW:=zPf (HH.out.below hb1)
  have HB:=zPf hb1
  have c1:=HW.out.c1
  have f1:=HW.out.fz 1
  clear hb1
  go_wp2_with fail
  go_ret2
  exact⟨rfl,HW.out.setAt (by have:=HL.out;omega) (by go_num),(zBi.of_below HB.out (zPh _)).store (.inl rfl) _ _⟩
 ·rw[if_neg hlt]
  rw[zPr hlt]at HP ⊢
  clear h hlt
  go_enter Tryz.func21,Tryz.ntmps21
  go_wp2_with fail
  refine HP.out.mono ?_;rintro e w1 ⟨rfl,hb1⟩
  have HW:=zPf (HH.out.below hb1)
  have HB:=zPf hb1
  clear hb1
  go_wp2_with fail
  go_ret2
  exact⟨rfl,HW.out,zBi.of_below HB.out (zPh _)⟩
end
end
section
open Go.RowKit
section
variable {w:World} {wb most:Nat} {oa:Option Addr} {cap:Nat} {T:List Nat} {i:Nat}
theorem zG5 (hv:WdS w wb oa cap T i) (hm:most≤2147483647) (h9:9≤most):
  Calls Tryz.prog 53 #[.pointer (some ⟨wb,0,none⟩),.int .i64 (most:Nat)] w fun e w'=>zPV wb oa cap T i (zIK T most i) e w'∧zBi w.heap.size wb w w':=by
 have HV:=zPf hv
 have c0:=hv.c0
 have c1:=hv.c1
 have c2:=hv.c2
 have f1:=hv.fz 1
 have hlen:=hv.len
 have hat:=hv.at_
 have hmn: ¬(most:Int)<0:=by omega
 have hml:(most:Int)≤2147483647:=by omega
 have H9:=zPf h9
 obtain⟨r,hr⟩: ∃r,zF5 T most (T.length - i) i 0 false=r:=⟨_,rfl⟩
 have HR:=zPf hr
 have HNS:Hid (zIK T most i=if r.2.2=i∨r.2.1=true then none else some (r.1,r.2.2)):=zPf (by unfold zIK;rw[hr])
 clear hv hr h9 hm
 go_enter Tryz.func53,Tryz.ntmps53
 go_wp2_with fail
 refine(zBt c2).mono ?_;rintro e w1 ⟨rfl,rfl⟩
 go_wp2_with fail
 go_loopg [6,7,8] (T.length - i) (fun n jv vv hb wr=> ∃(j v:Nat) (h:Bool),jv= .int .i64 (j:Nat)∧vv= .int .i64 (v:Nat)∧hb= .bool h∧n=T.length - j∧i≤j∧j≤T.length∧v≤most∧Hid (zF5 T most (T.length - j) j v h=r)∧wr=w)
 case atStart=>exact⟨i,0,false,rfl,rfl,rfl,rfl,zPh _,hat,Nat.zero_le _,HR.out,rfl⟩
 case round=>
  obtain⟨j,v,h,rfl,rfl,rfl,hg,hij,hjl,hvm,hn,rfl⟩:=hrel
  have HG:=zPf hg
  have HN:=zPf hn.out
  clear hg hn
  have way:(j<T.length∧48≤T.getD j 0∧T.getD j 0≤57)∨ ¬j<T.length∨(j<T.length∧ ¬48≤T.getD j 0)∨(j<T.length∧48≤T.getD j 0∧ ¬T.getD j 0≤57):=by omega
  rcases way with ⟨hlt,hd1,hd2⟩|hlt|⟨hlt,hd1⟩|⟨hlt,hd1,hd2⟩
  ·have hlt':(j:Int)<(T.length:Int):=by omega
   obtain⟨g,rfl,hgw,hgl,hc⟩:=HV.out.tx (by omega)
   have hx:=hc j hlt
   have HNN:=zPf ((zHV (most:=most) (v:=v) (h:=h) hlt ⟨hd1,hd2⟩).symm.trans HN.out)
   have HLT:=zPf hlt
   obtain⟨b,hbe⟩: ∃b,T.getD j 0=b:=⟨_,rfl⟩
   rw[hbe]at hx hd1 hd2 HNN
   have q1:(48:Int)≤(b:Int):=by omega
   have q2:(b:Int)≤57:=by omega
   clear hc hbe hlt HN
   by_cases hh:(most - (b - 48)) / 10<v
   ·have HST:Hid (zIS most (b - 48) v h=(v,true)):=zPf (if_pos (.inr hh))
    rw[HST.out]at HNN
    have qh:((most:Int) - ((b:Int) - 48)) / 10<(v:Int):=by have:=H9.out;omega
    have qm: ¬(most:Int)<(b:Int) - 48:=by have:=H9.out;omega
    clear hh hd1 hd2
    go_wp2_with fail
    go_roundg (T.length - (j+1))
    case measure=>have:=HG.out;have:=HLT.out;omega
    case rel=>exact⟨j+1,v,true,by go_num,rfl,rfl,rfl,by omega,by have:=HLT.out;omega,hvm,HNN.out,rfl⟩
   ·have hnm: ¬(most<b - 48∨(most - (b - 48)) / 10<v):=by have:=H9.out;omega
    have HST:Hid (zIS most (b - 48) v h=(10*v+(b - 48),h)):=zPf (if_neg hnm)
    rw[HST.out]at HNN
    have qh: ¬((most:Int) - ((b:Int) - 48)) / 10<(v:Int):=by have:=H9.out;omega
    have qm: ¬(most:Int)<(b:Int) - 48:=by have:=H9.out;omega
    have HLE:Hid (10*v+(b - 48)≤most):=zPf (by have:=H9.out;omega)
    have HBI:Hid (((10*v+(b - 48):Nat):Int)=10*(v:Int)+((b:Int) - 48)):=zPf (by omega)
    have hle1:(10:Int)*(v:Int)+((b:Int) - 48)≤2147483647:=by have:=H9.out;omega
    clear hh hd1 hd2 hnm
    go_wp2_with fail
    go_roundg (T.length - (j+1))
    case measure=>have:=HG.out;have:=HLT.out;omega
    case rel=>exact⟨j+1,10*v+(b - 48),h,by go_num,by rw[HBI.out],rfl,rfl,by omega,by have:=HLT.out;omega,HLE.out,HNN.out,rfl⟩
  all_goals
   have HRE:Hid (r=(v,h,j)):=zPf (by rw[←HN.out];first|exact zKL hlt|exact zIo hlt (by omega))
   have HNS2:Hid (zIK T most i=if j=i∨h=true then none else some (v,j)):=zPf (by rw[HNS.out,HRE.out])
   first
    |have hlt': ¬(j:Int)<(T.length:Int):=by omega
    |obtain⟨g,rfl,hgw,hgl,hc⟩:=HV.out.tx (by omega)
     have hx:=hc j hlt
     have hlt':(j:Int)<(T.length:Int):=by omega
     obtain⟨b,hbe⟩: ∃b,T.getD j 0=b:=⟨_,rfl⟩
     rw[hbe]at hx hd1
     first
      |have q1:(b:Int)<48:=by omega
      |rw[hbe]at hd2
       have q1:(48:Int)≤(b:Int):=by omega
       have q2:(57:Int)<(b:Int):=by omega
       clear hd2
     clear hc hbe hd1
   clear hlt HN HRE HNS HR
   by_cases hji:j=i
   ·have HO:Hid (zIK T most i=none):=zPf (by rw[HNS2.out,if_pos (.inl hji)])
    have qj:((j:Int)==(i:Int))=true:=by rw[hji];exact beq_self_eq_true _
    clear hji
    go_wp2_with fail
    go_ret2
    exact⟨by rw[HO.out];exact⟨rfl,HV.out⟩,zBi.refl _ _ _⟩
   ·have qj:((j:Int)==(i:Int))=false:=zPl.2 (by omega)
    cases h with
    |true=>
     have HO:Hid (zIK T most i=none):=zPf (by rw[HNS2.out,if_pos (.inr rfl)])
     clear hji
     go_wp2_with fail
     go_ret2
     exact⟨by rw[HO.out];exact⟨rfl,HV.out⟩,zBi.refl _ _ _⟩
    |false=>
     have HO:Hid (zIK T most i=some (v,j)):=zPf (by rw[HNS2.out,if_neg (by rintro(h|h);exact hji h;cases h)])
     clear hji
     go_wp2_with fail
     go_ret2
     exact⟨by rw[HO.out];exact⟨rfl,HV.out.setAt hjl rfl⟩,(zBi.refl _ _ _).store (.inl rfl) _ _⟩
end
end
section
open Go.RowKit
section
variable {w:World} {wb:Nat} {oa:Option Addr} {cap:Nat} {T:List Nat} {i:Nat}
theorem zIh (hv:WdS w wb oa cap T i) {d:Nat} (hd:d<256) (ends:Bool):
  Calls Tryz.prog 54 #[.pointer (some ⟨wb,0,none⟩),.int .u8 (d:Nat),.bool ends] w fun e w'=>zO3 wb oa cap T i w.heap.size (zCM T d ends i) e w'∧zBi w.heap.size wb w w':=by
 have HV:=zPf hv
 have c0:=hv.c0
 have c1:=hv.c1
 have c2:=hv.c2
 have lt:=hv.lt
 have hlen:=hv.len
 have hat:=hv.at_
 clear hv
 by_cases h92:d=92
 ·have HP:Hid (zCM T d ends i=none):=zPf (by unfold zCM;rw[if_pos (.inl h92)])
  subst h92
  go_enter Tryz.func54,Tryz.ntmps54
  go_wp2_with fail
  refine(zBt c2).mono ?_;rintro e w1 ⟨rfl,rfl⟩
  go_wp2_with fail
  go_ret2
  exact⟨by rw[HP.out];exact⟨rfl,HV.out⟩,zBi.refl _ _ _⟩
 by_cases h10:d=10
 ·have HP:Hid (zCM T d ends i=none):=zPf (by unfold zCM;rw[if_pos (.inr h10)])
  subst h10
  go_enter Tryz.func54,Tryz.ntmps54
  go_wp2_with fail
  refine(zBt c2).mono ?_;rintro e w1 ⟨rfl,rfl⟩
  go_wp2_with fail
  go_ret2
  exact⟨by rw[HP.out];exact⟨rfl,HV.out⟩,zBi.refl _ _ _⟩
 have q92:((d:Int)==92)=false:=zPl.2 (by omega)
 have q10:((d:Int)==10)=false:=zPl.2 (by omega)
 obtain⟨r,hr⟩: ∃r,zCM T d ends i=r:=⟨_,rfl⟩
 rw[hr]
 have HR:Hid (zB0 T d ends (T.length - i) i []=r):=zPf (by rw[←hr];unfold zCM;rw[if_neg (by omega)])
 have H92:=zPf h92
 have H10:=zPf h10
 clear hr h92 h10
 go_enter Tryz.func54,Tryz.ntmps54
 go_wp2_with fail
 refine(zBt c2).mono ?_;rintro e w1 ⟨rfl,rfl⟩
 go_wp2_with fail
 go_loopg [8,9] (T.length - i) (fun n lv iv wr=> ∃(j:Nat) (acc:List Mk),iv= .int .i64 (j:Nat)∧n=T.length - j∧i≤j∧j≤T.length∧acc.length≤j∧Hid (zB0 T d ends (T.length - j) j acc=r)∧Mks wr w.heap.size lv acc∧Below w.heap.size w wr)
 case atStart=>exact⟨i,[],rfl,rfl,zPh _,hat,Nat.zero_le _,HR.out,Mks.nil _ _,zPg _ _⟩
 case round=>
  obtain⟨j,acc,rfl,hg,hij,hjl,hal,hn,hm,hb⟩:=hrel
  have HG:=zPf hg
  have HN:=zPf hn.out
  have HM:=zPf hm
  have HB:=zPf hb
  have HW:=zPf (HV.out.below hb)
  have hBs:=hb.size
  have k0:=HW.out.c0
  have kl:=HW.out.lt
  clear hg hn hm hb c0 c1 c2
  by_cases hlt:j<T.length
  ·have hlt':(j:Int)<(T.length:Int):=by omega
   obtain⟨g,hoa,hgw,hgl,hc⟩:=HW.out.tx (by omega)
   subst hoa
   obtain⟨b,hbe⟩: ∃b,T.getD j 0=b:=⟨_,rfl⟩
   have hx:=hc j hlt
   rw[hbe]at hx
   have HC:=zPf hc
   have HBE:=zPf hbe
   have hb256:b<256:=by have:=HW.out.u j;omega
   clear hc hbe
   by_cases hbd:b=d
   ·have HNX:=zPf ((zEB (acc:=acc) (ends:=ends) hlt (HBE.out.trans hbd)).symm.trans HN.out)
    have k1: ∃z,wr.cell? ⟨wb,1,none⟩=some z:=⟨_,HW.out.c1⟩
    have f1:=HW.out.fz 1
    have qd:((b:Int)==(d:Int))=true:=by rw[hbd];exact beq_self_eq_true _
    clear hbd
    obtain⟨z,k1⟩:=k1
    go_wp2_with fail
    go_ret2
    refine⟨?_,((zBi.refl w.heap.size wb w).below HB.out (zPh _)).store (.inl rfl) _ _⟩
    rw[←HNX.out]
    refine⟨_,rfl,HM.out.block fun g hg=>zPp _ _ _ _ (by have:=(HM.out.lt g hg).1;show g≠wb;omega),HW.out.setAt (by omega) (by go_num)⟩
   have qd:((b:Int)==(d:Int))=false:=zPl.2 (by omega)
   have HBD:=zPf hbd
   clear hbd
   by_cases hb10:b=10
   ·have HNX:=zPf ((zEs (acc:=acc) (ends:=ends) hlt (HBE.out▸HBD.out) (HBE.out.trans hb10)).symm.trans HN.out)
    have q1:((b:Int)==10)=true:=by rw[hb10];rfl
    clear hb10
    go_wp2_with fail
    go_ret2
    refine⟨?_,(zBi.refl w.heap.size wb w).below HB.out (zPh _)⟩
    rw[←HNX.out]
    exact⟨rfl,HV.out.below HB.out⟩
   have q1:((b:Int)==10)=false:=zPl.2 (by omega)
   have HB10:=zPf hb10
   clear hb10
   by_cases hb92:b=92
   ·have q2:((b:Int)==92)=true:=by rw[hb92];rfl
    have HB92:=zPf hb92
    clear hb92
    by_cases hjn:j+1=T.length
    ·have HNX:=zPf ((zEt (acc:=acc) (ends:=ends) hlt (HBE.out▸HBD.out) (HBE.out.trans HB92.out) hjn).symm.trans HN.out)
     have hjn':(j:Int)+1=(T.length:Int):=by omega
     clear hjn
     go_wp2_with fail
     go_ret2
     refine⟨?_,(zBi.refl w.heap.size wb w).below HB.out (zPh _)⟩
     rw[←HNX.out]
     exact⟨rfl,HV.out.below HB.out⟩
    have hjn': ¬(j:Int)+1=(T.length:Int):=by omega
    have hjl':(j:Int)+1<(T.length:Int):=by omega
    obtain⟨x,hxe⟩: ∃x,T.getD (j+1) 0=x:=⟨_,rfl⟩
    have hy:=HC.out (j+1) (by omega)
    rw[hxe]at hy
    have HXE:=zPf hxe
    have hx256:x<256:=by have:=HW.out.u (j+1);omega
    have HJN:Hid (j+1<T.length):=zPf (by omega)
    clear hxe
    by_cases hw:x=10∧ends=false
    ·obtain⟨rfl,rfl⟩:=hw
     have HNX:=zPf ((zEr (acc:=acc) hlt (HBE.out▸HBD.out) (HBE.out.trans HB92.out) HJN.out HXE.out).symm.trans HN.out)
     go_wp2_with fail
     go_ret2
     refine⟨?_,(zBi.refl w.heap.size wb w).below HB.out (zPh _)⟩
     rw[←HNX.out]
     exact⟨rfl,HV.out.below HB.out⟩
    have HTW:=zPf ((zFY (acc:=acc) hlt (HBE.out▸HBD.out) (HBE.out.trans HB92.out) HJN.out (HXE.out.symm▸hw)).symm.trans HN.out)
    rw[HXE.out]at HTW
    have HWR:=zPf hw
    clear hw
    by_cases hxd:x=d
    ·have q3:((x:Int)==10)=false:=zPl.2 (by have:=H10.out;omega)
     have q4:((x:Int)==(d:Int))=true:=by rw[hxd];exact beq_self_eq_true _
     have HNX:Hid (zB0 T d ends (T.length - (j+2)) (j+2) (acc++[⟨x,true⟩])=r):=zPf (by have h:=HTW.out;rw[if_pos hxd]at h;rw[hxd];exact h)
     clear hxd
     have HM1:=zPf (HM.out.below ((zPg wr.heap.size wr).alloc (zPh _) (.cells #[.int .u8 (x:Nat),.bool true] 131)))
     go_wp2_with (at_builtin;refine zBA rfl _ _ rfl w.heap.size rfl HM1.out (ys:=[⟨x,true⟩]) rfl (Src.new wr (zDW [⟨x,true⟩]) _ _ _) (by simp;omega) (by simp;omega) ?_)
     intro v1 w2 hm2 hgr2 hblk2
     have HM2:=zPf hm2
     have HB2:=zPf ((HB.out.alloc HB.out.size (.cells #[.int .u8 (x:Nat),.bool true] 131)).grown hgr2 (by simp;omega) (fun k hk=>(HM1.out.lt k hk).1))
     clear hm2 hgr2 hblk2
     go_wp2_with fail
     go_roundg (T.length - (j+2))
     case measure=>have:=HG.out;omega
     case rel=>exact⟨j+2,_,by go_num,rfl,by omega,by have:=HJN.out;omega,by simp;omega,HNX.out,HM2.out,HB2.out⟩
    have q4:((x:Int)==(d:Int))=false:=zPl.2 (by omega)
    have HNX:=zPf HTW.out
    rw[if_neg hxd]at HNX
    have HB92':=HB92.out
    clear hxd
    subst HB92'
    by_cases hx10:x=10
    ·have q3:((x:Int)==10)=true:=by rw[hx10];rfl
     cases ends with
     |false=>exact absurd ⟨hx10,rfl⟩ HWR.out
     |true=>
     clear hx10
     have HM1:=zPf (HM.out.below ((zPg wr.heap.size wr).alloc (zPh _) (.cells #[.int .u8 92,.bool false,.int .u8 (x:Nat),.bool false] 131)))
     go_wp2_with (at_builtin;refine zBA rfl _ _ rfl w.heap.size rfl HM1.out (ys:=[⟨92,false⟩,⟨x,false⟩]) rfl (Src.new wr (zDW [⟨92,false⟩,⟨x,false⟩]) _ _ _) (by simp;omega) (by simp;omega) ?_)
     intro v1 w2 hm2 hgr2 hblk2
     have HM2:=zPf hm2
     have HB2:=zPf ((HB.out.alloc HB.out.size (.cells #[.int .u8 92,.bool false,.int .u8 (x:Nat),.bool false] 131)).grown hgr2 (by simp;omega) (fun k hk=>(HM1.out.lt k hk).1))
     clear hm2 hgr2 hblk2
     go_wp2_with fail
     go_roundg (T.length - (j+2))
     case measure=>have:=HG.out;omega
     case rel=>exact⟨j+2,_,by go_num,rfl,by omega,by have:=HJN.out;omega,by simp;omega,HNX.out,HM2.out,HB2.out⟩
    ·have q3:((x:Int)==10)=false:=zPl.2 (by omega)
     clear hx10
     have HM1:=zPf (HM.out.below ((zPg wr.heap.size wr).alloc (zPh _) (.cells #[.int .u8 92,.bool false,.int .u8 (x:Nat),.bool false] 131)))
     go_wp2_with (at_builtin;refine zBA rfl _ _ rfl w.heap.size rfl HM1.out (ys:=[⟨92,false⟩,⟨x,false⟩]) rfl (Src.new wr (zDW [⟨92,false⟩,⟨x,false⟩]) _ _ _) (by simp;omega) (by simp;omega) ?_)
     intro v1 w2 hm2 hgr2 hblk2
     have HM2:=zPf hm2
     have HB2:=zPf ((HB.out.alloc HB.out.size (.cells #[.int .u8 92,.bool false,.int .u8 (x:Nat),.bool false] 131)).grown hgr2 (by simp;omega) (fun k hk=>(HM1.out.lt k hk).1))
     clear hm2 hgr2 hblk2
     go_wp2_with fail
     go_roundg (T.length - (j+2))
     case measure=>have:=HG.out;omega
     case rel=>exact⟨j+2,_,by go_num,rfl,by omega,by have:=HJN.out;omega,by simp;omega,HNX.out,HM2.out,HB2.out⟩
   have q2:((b:Int)==92)=false:=zPl.2 (by omega)
   have HNX:=zPf ((zEA (acc:=acc) (ends:=ends) hlt (HBE.out▸HBD.out) (HBE.out▸HB10.out) (HBE.out▸hb92)).symm.trans HN.out)
   rw[HBE.out]at HNX
   clear hb92
   have HM1:=zPf (HM.out.below ((zPg wr.heap.size wr).alloc (zPh _) (.cells #[.int .u8 (b:Nat),.bool false] 131)))
   go_wp2_with (at_builtin;refine zBA rfl _ _ rfl w.heap.size rfl HM1.out (ys:=[⟨b,false⟩]) rfl (Src.new wr (zDW [⟨b,false⟩]) _ _ _) (by simp;omega) (by simp;omega) ?_)
   intro v1 w2 hm2 hgr2 hblk2
   have HM2:=zPf hm2
   have HB2:=zPf ((HB.out.alloc HB.out.size (.cells #[.int .u8 (b:Nat),.bool false] 131)).grown hgr2 (by simp;omega) (fun k hk=>(HM1.out.lt k hk).1))
   clear hm2 hgr2 hblk2
   go_wp2_with fail
   go_roundg (T.length - (j+1))
   case measure=>have:=HG.out;omega
   case rel=>exact⟨j+1,_,by go_num,rfl,by omega,by omega,by simp;omega,HNX.out,HM2.out,HB2.out⟩
  ·obtain rfl:j=T.length:=by omega
   have HNX:=zPf ((zDN (acc:=acc) (n:=T.length - T.length) (d:=d) (ends:=ends) (zPh _)).symm.trans HN.out)
   go_wp2_with fail
   go_ret2
   refine⟨?_,(zBi.refl w.heap.size wb w).below HB.out (zPh _)⟩
   rw[←HNX.out]
   exact⟨rfl,HV.out.below HB.out⟩
end
end
end Go.Proofs.YtfjbnpdffillbaaGreatDoor
