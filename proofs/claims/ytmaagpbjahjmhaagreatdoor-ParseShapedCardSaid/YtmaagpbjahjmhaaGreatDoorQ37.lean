/- Parts: Yo Zg Zh Zi. -/
import Derived.Test.YtmaagpbjahjmhaaGreatDoorQ33
import Derived.Test.YtmaagpbjahjmhaaGreatDoorQ36
import Derived.Test.YtmaagpbjahjmhaaGreatDoorQ35
import Derived.Test.YtmaagpbjahjmhaaGreatDoorQ32
import Derived.Test.YtmaagpbjahjmhaaGreatDoorQ31
import Derived.Test.YtmaagpbjahjmhaaGreatDoorQ29
import Derived.Test.YtmaagpbjahjmhaaGreatDoorQ13
set_option maxHeartbeats 6400000
set_option maxRecDepth 100000
namespace Go.Proofs.YtmaagpbjahjmhaaGreatDoor
section
open Go.RowKit
theorem zOw (T:List Nat):zDZ T 0=(T.takeWhile zAw).length:=by
 have h:=zGJ zAw T T.length 0 (by omega)
 rw[List.drop_zero]at h
 have h1:=congrArg List.length h
 rw[List.length_drop]at h1
 have h2:=zCX zAw (Nat.zero_le T.length)
 have h3:(T.takeWhile zAw).length+(T.dropWhile zAw).length=T.length:=by rw[←zRB,List.takeWhile_append_dropWhile]
 unfold zDZ
 omega
theorem zIr: ∀T:List Nat,(∀b∈T,b<256)→Lib.index (Lib.bytesOf (T.map fun b:Nat=>(b:Int))) [10]=if (T.takeWhile zAw).length<T.length then((T.takeWhile zAw).length:Int)else -1
 |[],_=>rfl
 |x::T,h=>by
  have ih:=zIr T fun b hb=>h b (by simp[hb])
  have hx:=h x (by simp)
  rw[show Lib.bytesOf ((x::T).map fun b:Nat=>(b:Int))=UInt8.ofNat x::Lib.bytesOf (T.map fun b:Nat=>(b:Int))from by simp[Lib.bytesOf]]
  unfold Lib.index
  by_cases h1:x=10
  ·subst h1
   rfl
  ·have hne:(10==UInt8.ofNat x)=false:=zQx.2 fun e=>by
    have h1':=congrArg UInt8.toNat e
    simp only[UInt8.toNat_ofNat']at h1'
    have:(10:UInt8).toNat=10:=rfl
    omega
   have hp:([10]:List UInt8).isPrefixOf (UInt8.ofNat x::Lib.bytesOf (T.map fun b:Nat=>(b:Int)))=false:=by simp[List.isPrefixOf,hne]
   rw[hp,ih,List.takeWhile_cons_of_pos (by simp[zAw,h1])]
   simp only[Bool.false_eq_true,if_false,List.length_cons]
   by_cases h2:(T.takeWhile zAw).length<T.length
   ·have e:(((T.takeWhile zAw).length:Int)== -1)=false:=zQx.2 (by omega)
    simp only[if_pos h2,e,Bool.false_eq_true,if_false,if_pos (show(T.takeWhile zAw).length+1<T.length+1 by omega)]
    omega
   ·simp only[if_neg h2,if_neg (show¬(T.takeWhile zAw).length+1<T.length+1 by omega)]
    rfl
section
variable {w:World} {oa:Option Addr} {T:List Nat} {cap:Nat}
theorem zOH {sb:Nat} (h:zD2 w oa T) (hu: ∀b∈T,b<256) (hcap:T.length≤cap) (hnil:oa=none→cap=0) (hl:T.length≤65536) (hs:w.cell? ⟨sb,0,none⟩=some (.int .u8 10)) (U:U8V w):
  Calls Tryz.prog 36 #[.slice oa T.length cap,.slice (some ⟨sb,0,none⟩) 1 1] w fun e w'=>(∃v b,e= .returned (.tuple #[.slice oa (zDZ T 0) cap,v,.bool b]))∧ ∃q,w'=w.drewN q:=by
 obtain⟨m,hm⟩:=U.m
 refine(Any.bytes_Cut_all zQm oa (some ⟨sb,0,none⟩) T.length cap 1 1 (T.map fun b:Nat=>(b:Int)) [10] m w (by simp) rfl ?_ ?_ ?_ ?_ hnil hcap (by omega) (by decide) hm).mono ?_
 ·intro x hx
  obtain⟨b,hb,rfl⟩:=List.mem_map.1 hx
  have:=hu b hb
  omega
 ·intro y hy
  simp at hy
  omega
 ·intro hp
  obtain⟨g,o,rfl,hc⟩:=h hp
  exact⟨g,o,rfl,fun i hi=>by rw[hc i hi];simp[List.getD_eq_getElem?_getD,hi]⟩
 ·intro _
  exact⟨sb,0,rfl,fun i hi=>by rw[show i=0 by omega,Nat.add_zero,hs];rfl⟩
 ·rintro e w' ⟨rfl,hw⟩
  refine⟨?_,hw⟩
  have hix:=zIr T hu
  rw[show Lib.bytesOf [10]=[10]from rfl,hix,zOw]
  unfold Lib.cutV
  by_cases h2:(T.takeWhile zAw).length<T.length
  ·rw[if_pos h2,if_pos (by omega)]
   exact⟨_,_,rfl⟩
  ·rw[if_neg h2,if_neg (by decide)]
   have h3:(T.takeWhile zAw).length≤T.length:=(List.takeWhile_prefix _).length_le
   rw[show(T.takeWhile zAw).length=T.length by omega]
   exact⟨_,_,rfl⟩
theorem zPL (h:zD2 w oa T) {m:Nat} (hm:m≤T.length) (hnil:oa=none→cap=0) (hs: ∀g o s,oa≠some ⟨g,o,some s⟩):(convert 22 9 (.slice oa m cap)).run Tryz.prog w= .ok (.string (strOfNums ((T.take m).map fun b:Nat=>(b:Int)))) w:=by
 cases oa with
 |none=>
  have h0:T.length=0:=by
   by_cases hp:0<T.length
   ·obtain⟨g,o,h1,_⟩:=h hp
    cases h1
   ·omega
  obtain rfl:m=0:=by omega
  rw[hnil rfl,List.take_zero]
  exact run_convert_bytes_nil w _ _ Tryz.underlying22 Tryz.underlying5 _ _ _ Tryz.underlying9
 |some a=>
  obtain⟨g,o,sp⟩:=a
  obtain rfl:sp=none:=by
   cases sp with
   |none=>rfl
   |some x=>exact absurd rfl (hs g o x)
  refine run_convert_bytes_arg w _ _ Tryz.underlying22 Tryz.underlying5 g o m cap _ (by simp;omega) (fun i hi=>?_) _ Tryz.underlying9
  obtain⟨g2,o2,h1,hc⟩:=h (by omega)
  cases h1
  rw[hc i (by omega)]
  simp[List.getD_eq_getElem?_getD,hi,List.getElem?_eq_getElem (show i<T.length by omega)]
theorem zNi {l:List Nat} (h: ∀b∈l,b<256):((strOfNums (l.map fun b:Nat=>(b:Int))).toList==(⟨#[35,110]⟩:ByteArray).toList)=(l==[35,110]):=by
 rw[Lib.toList_data,Lib.toList_data,strOfNums_data,Bool.eq_iff_iff,beq_iff_eq,beq_iff_eq]
 constructor
 ·intro e
  have hl:=congrArg List.length e
  simp at hl
  obtain⟨a,b,rfl⟩: ∃a b,l=[a,b]:=by
   match l,hl with
   |[a,b],_=>exact⟨a,b,rfl⟩
  have ha:=h a (by simp)
  have hb:=h b (by simp)
  simp only[List.map_cons,List.map_nil,Int.toNat_natCast,List.cons.injEq,and_true]at e
  have e1:=congrArg UInt8.toNat e.1
  have e2:=congrArg UInt8.toNat e.2
  simp only[UInt8.toNat_ofNat']at e1 e2
  have f1:(35:UInt8).toNat=35:=rfl
  have f2:(110:UInt8).toNat=110:=rfl
  rw[f1]at e1
  rw[f2]at e2
  rw[show a=35 by omega,show b=110 by omega]
 ·rintro rfl
  rfl
end
end
section
open Go.RowKit
theorem zOF {l:List Nat} {k:Nat} (h:k<l.length) (c:Nat):(l.drop k).contains c=(l[k]==c||(l.drop (k+1)).contains c):=by
 rw[List.drop_eq_getElem_cons h,List.contains_cons]
 congr 1
 rw[Bool.eq_iff_iff];simp;exact eq_comm
section
variable {w:World} {oa:Option Addr} {T:List Nat} {cap b:Nat}
theorem zIy (s:ByteArray) (hs:s.size≤100) (c:Nat):
  Calls Tryz.prog 56 #[.string s,.int .u8 (c:Nat)] w fun e w'=>e= .returned (.bool ((zAg s).contains c))∧w=w':=by
 obtain⟨R,hR⟩: ∃R,(zAg s).contains c=R:=⟨_,rfl⟩
 have HR:=zQr hR
 rw[hR]
 clear hR
 go_enter Tryz.func56,Tryz.ntmps56
 go_wp2_with fail
 go_loopg [5] s.size (fun gk iv wr=> ∃i:Nat,iv= .int .i64 (i:Nat)∧gk=s.size - i∧i≤s.size∧w=wr∧Hid (R=((zAg s).drop i).contains c))
 case atStart=>exact⟨0,rfl,by omega,by omega,rfl,HR.out.symm⟩
 case round=>
  obtain⟨i,rfl,hg,hi,rfl,HS⟩:=hrel
  have HG:=zQr hg
  clear hg
  by_cases hlt:i<s.size
  ·have hlt':(i:Int)<(s.size:Int):=by omega
   have HD:=zQr (zOF (l:=zAg s) (k:=i) (by rw[zAv];exact hlt) c)
   have HX:=zQr (show(zAg s)[i]'(by rw[zAv];exact hlt)=s[i].toNat by
    have h1:=zCy s i hlt
    rw[zQ0,zQ8 (by rw[zAv];exact hlt)]at h1
    simpa using h1)
   by_cases hq:s[i].toNat=c
   ·have HE:=zQr (show R=true by rw[HS.out,HD.out,HX.out,hq];simp)
    clear HS HD HX
    go_wp2_with fail
    go_ret
    exact⟨zAH HE.out.symm,rfl⟩
   ·have HE:=zQr (show R=((zAg s).drop (i+1)).contains c by rw[HS.out,HD.out,HX.out,zQx.2 hq];rfl)
    have hq':((s[i].toNat:Int)==(c:Int))=false:=zQx.2 (by omega)
    clear HS HD HX
    go_wp2_with fail
    go_roundg (s.size - (i+1))
    case measure=>have:=HG.out;omega
    case rel=>exact⟨i+1,by go_num,rfl,by omega,rfl,HE.out⟩
  ·have hlt': ¬(i:Int)<(s.size:Int):=by omega
   have HE:=zQr (show R=false by rw[HS.out,List.drop_eq_nil_of_le (by rw[zAv];omega)];rfl)
   clear HS
   go_wp2_with fail
   go_ret
   exact⟨zAH HE.out.symm,rfl⟩
theorem zFG (s:ByteArray) (l:List Nat) (hl:zAg s=l) (hs:s.size≤100):Calls Tryz.prog 56 #[.string s,.int .u8 (b:Nat)] w fun e w'=>e= .returned (.bool (decide (b∈l)))∧w=w':=
 (zIy s hs b).mono fun e w' h=>by rw[hl,List.contains_eq_mem]at h;exact h
theorem zGj:Calls Tryz.prog 17 #[.int .u8 (b:Nat)] w fun e w'=>e= .returned (.int .i64 (zFT (zCd b)))∧w=w':=by
 have H0:=zQr (fun w=>zFG (w:=w) (b:=b) ⟨#[125,58]⟩ [125,58] rfl (by decide))
 have H1:=zQr (fun w=>zFG (w:=w) (b:=b) ⟨#[61,97,105,113,114]⟩ [61,97,105,113,114] rfl (by decide))
 have H2:=zQr (fun w=>zFG (w:=w) (b:=b) ⟨#[123,98,99,100,68,103,71,104,72,108,110,78,112,80,115,116,119,120,121]⟩ [123,98,99,100,68,103,71,104,72,108,110,78,112,80,115,116,119,120,121] rfl (by decide))
 obtain⟨m,hm⟩: ∃m,zFT (zCd b)=m:=⟨_,rfl⟩
 rw[hm]
 unfold zCd at hm
 have HM:=zQr hm
 clear hm
 go_enter Tryz.func17,Tryz.ntmps17
 go_wp2_with fail
 refine(H0.out _).mono ?_;rintro e w1 ⟨rfl,rfl⟩
 by_cases h0:b∈[125,58]
 ·rw[zQ2 h0]
  have HMM:=zQr (HM.out.symm.trans (by rw[if_pos h0];rfl:_=(0:Int)))
  clear h0
  go_wp2_with fail
  go_ret
  exact⟨by rw[HMM.out];rfl,rfl⟩
 rw[zQ3 h0]
 have HB0:=zQr h0
 clear h0
 go_wp2_with fail
 refine(H1.out _).mono ?_;rintro e w1 ⟨rfl,rfl⟩
 by_cases h1:b∈[61,97,105,113,114]
 ·rw[zQ2 h1]
  have HMM:=zQr (HM.out.symm.trans (by rw[if_neg HB0.out,if_pos h1];rfl:_=(1:Int)))
  clear h1
  go_wp2_with fail
  go_ret
  exact⟨by rw[HMM.out];rfl,rfl⟩
 rw[zQ3 h1]
 have HB1:=zQr h1
 clear h1
 go_wp2_with fail
 refine(H2.out _).mono ?_;rintro e w1 ⟨rfl,rfl⟩
 by_cases h2:b∈[123,98,99,100,68,103,71,104,72,108,110,78,112,80,115,116,119,120,121]
 ·rw[zQ2 h2]
  have HMM:=zQr (HM.out.symm.trans (by rw[if_neg HB0.out,if_neg HB1.out,if_pos h2];rfl:_=(2:Int)))
  clear h2
  go_wp2_with fail
  go_ret
  exact⟨by rw[HMM.out];rfl,rfl⟩
 rw[zQ3 h2]
 have HMM:=zQr (HM.out.symm.trans (by rw[if_neg HB0.out,if_neg HB1.out,if_neg h2];rfl:_=(-1:Int)))
 clear h2
 go_wp2_with fail
 go_ret
 exact⟨by rw[HMM.out];rfl,rfl⟩
theorem zDi:Calls Tryz.prog 159 #[.int .u8 (b:Nat)] w fun e w'=>e= .returned (.bool (zAL b))∧w=w':=by
 obtain⟨R,hR⟩: ∃R,zAL b=R:=⟨_,rfl⟩
 rw[hR]
 unfold zAL at hR
 by_cases h1:b=32
 ·subst h1
  have HR:=zQr (show R=true by rw[←hR];rfl)
  clear hR
  go_enter Tryz.func159,Tryz.ntmps159
  go_wp2_with fail
  go_ret
  exact⟨zAH HR.out.symm,rfl⟩
 by_cases h2:b=9
 ·subst h2
  have HR:=zQr (show R=true by rw[←hR];rfl)
  clear hR
  go_enter Tryz.func159,Tryz.ntmps159
  go_wp2_with fail
  go_ret
  exact⟨zAH HR.out.symm,rfl⟩
 have HR:=zQr (show R=false by rw[←hR,zQx.2 h1,zQx.2 h2];rfl)
 have q1:((b:Int)==32)=false:=zQx.2 (by omega)
 have q2:((b:Int)==9)=false:=zQx.2 (by omega)
 clear hR
 go_enter Tryz.func159,Tryz.ntmps159
 go_wp2_with fail
 go_ret
 exact⟨zAH HR.out.symm,rfl⟩
theorem zKb {p:Nat→Bool} {l:List Nat} {k:Nat} (h:k<l.length):(l.drop k).all p=(p (l.getD k 0)&&(l.drop (k+1)).all p):=by
 rw[List.drop_eq_getElem_cons h,List.all_cons,zQ0,zQ8 h]
 rfl
theorem zN0 {l:List Nat} (_:0<l.length):l.getLastD 0=l.getD (l.length - 1) 0:=by
 rw[List.getLastD_eq_getLast?,List.getLast?_eq_getElem?,zQ0]
theorem zIg (h:zD2 w oa T) (hl:T.length≤maxLen):
  Calls Tryz.prog 115 #[.slice oa T.length cap] w fun e w'=>e= .returned (.bool (zBX T))∧Below w.heap.size w w':=by
 obtain⟨R,hR⟩: ∃R,zBX T=R:=⟨_,rfl⟩
 rw[hR]
 have HR:=zQr hR
 have HT:=zQr h
 have hz:=zE8 hl
 clear hR h hl
 go_enter Tryz.func115,Tryz.ntmps115
 go_wp2_with fail
 go_loopg [3] T.length (fun n iv wr=> ∃d:Nat,iv= .int .i64 (d:Nat)∧n=T.length - d∧d≤T.length∧Hid (T.all (· !=10)=(T.drop d).all (· !=10))∧Below w.heap.size w wr)
 case atStart=>exact⟨0,rfl,by omega,by omega,rfl,zQs _ _⟩
 case round=>
  obtain⟨d,rfl,hg,hd,HA,hbe⟩:=hrel
  have HG:=zQr hg
  have HBE:=zQr hbe
  clear hg
  by_cases hlt:d<T.length
  ·have hlt':(d:Int)<(T.length:Int):=by omega
   obtain⟨na,oo,rfl,hna⟩:=(HT.out.below hbe) (by omega)
   have n0:=hna d hlt
   have HD:=zQr (zKb (p:=(· !=10)) hlt)
   have HTX:=zQr (show T.length=T.length from rfl)
   revert n0 HD
   generalize T.getD d 0=x
   intro n0 HD
   clear hna hbe
   by_cases hx:x=10
   ·subst hx
    have HE:=zQr (show R=false by rw[←HR.out];unfold zBX;rw[HA.out,HD.out];rfl)
    go_wp2_with fail
    go_ret
    exact⟨zAH HE.out.symm,HBE.out⟩
   have e1:((x:Int)==10)=false:=zQx.2 (by omega)
   have HE:=zQr (show T.all (· !=10)=(T.drop (d+1)).all (· !=10)by rw[HA.out,HD.out,show(x !=10)=true from bne_iff_ne.2 hx];rfl)
   clear hx HD
   go_wp2_with fail
   go_roundg (T.length - (d+1))
   case measure=>have:=HG.out;omega
   case rel=>exact⟨d+1,by go_num,rfl,by omega,HE.out,HBE.out⟩
  ·have hlt': ¬(d:Int)<(T.length:Int):=by omega
   have HE:=zQr (show R=(!(zAL (T.getD 0 0))&& !(zAL (T.getLastD 0)))by rw[←HR.out];unfold zBX;rw[HA.out,List.drop_eq_nil_of_le (by omega)];rfl)
   clear HA HR
   by_cases h0:T.length=0
   ·have hT:T=[]:=zRP h0
    have HF:=zQr (show R=true by rw[HE.out,hT];rfl)
    have e0:((T.length:Int)==0)=true:=by rw[beq_iff_eq];omega
    clear hT h0 hbe
    go_wp2_with fail
    go_ret
    exact⟨zAH HF.out.symm,HBE.out⟩
   obtain⟨na,oo,rfl,hna⟩:=(HT.out.below hbe) (by omega)
   have e0:((T.length:Int)==0)=false:=zQx.2 (by omega)
   have n0:=hna 0 (by omega)
   rw[Nat.add_zero]at n0
   have n1:=hna (T.length - 1) (by omega)
   rw[zN0 (by omega)]at HE
   have HZ:=zQr (show 0<T.length by omega)
   have hp:(0:Int)<(T.length:Int):=by omega
   revert n0 n1 HE
   generalize T.getD 0 0=x
   generalize T.getD (T.length - 1) 0=y
   intro HE n0 n1
   clear hna hbe h0
   go_wp2_with fail
   refine(zDi (b:=x)).mono ?_;rintro e wq ⟨rfl,rfl⟩
   cases hbx:zAL x with
   |true=>
    have HF:=zQr (show R=false by rw[HE.out,hbx];rfl)
    clear hbx
    go_wp2_with fail
    go_ret
    exact⟨zAH HF.out.symm,HBE.out⟩
   |false=>
    have HF:=zQr (show R= !zAL y by rw[HE.out,hbx];rfl)
    have hk1:(T.length:Int) - 1=((T.length - 1:Nat):Int):=by have:=HZ.out;omega
    have hk2:((T.length - 1:Nat):Int)<(T.length:Int):=by have:=HZ.out;omega
    clear hbx
    revert n1 hk1 hk2
    generalize T.length - 1=k
    intro n1 hk1 hk2
    go_wp2_with fail
    refine(zDi (b:=y)).mono ?_;rintro e wq ⟨rfl,rfl⟩
    cases hby:zAL y with
    |true=>
     have HF2:=zQr (show R=false by rw[HF.out,hby];rfl)
     clear hby
     go_wp2_with fail
     go_ret
     exact⟨zAH HF2.out.symm,HBE.out⟩
    |false=>
     have HF2:=zQr (show R=true by rw[HF.out,hby];rfl)
     clear hby
     go_wp2_with fail
     go_ret
     exact⟨zAH HF2.out.symm,HBE.out⟩
end
end
section
open Go.RowKit
theorem zOJ {w:World} {oa:Option Addr} {cap:Nat} {T:List Nat} (h:zD2 w oa T):(convert 22 9 (.slice oa T.length cap)).run Tryz.prog w= .ok (.string (strOfNums (T.map fun b:Nat=>(b:Int)))) w:=by
 by_cases hp:0<T.length
 ·obtain⟨g,o,rfl,hc⟩:=h hp
  refine run_convert_bytes_arg w _ _ Tryz.underlying22 Tryz.underlying5 g o T.length cap _ (by simp) (fun i hi=>?_) _ Tryz.underlying9
  rw[hc i hi]
  simp[List.getD_eq_getElem?_getD,hi]
 ·obtain rfl:T=[]:=zRP (by omega)
  cases oa with
  |none=>exact run_convert_bytes_nil w _ _ Tryz.underlying22 Tryz.underlying5 _ _ _ Tryz.underlying9
  |some a=>
   have hl:(loadCells a 0).run Tryz.prog w= .ok (([]:List Int).map (Value.int .u8)).toArray w:=rfl
   rw[List.length_nil,run_convert_bytes_string w _ _ _ _ 0 cap Tryz.underlying22 Tryz.underlying5 Tryz.underlying9,run_bytesToString w _ 0 cap [] hl]
   rfl
def zCs (b:Nat):Bool:=b !=0&&b !=10&&b !=47
section
variable {w:World} {oa:Option Addr} {T:List Nat} {cap b:Nat}
theorem zJg (s:ByteArray) (hs:(s.size:Int)≤9223372036854775807):
  Calls Tryz.prog 160 #[.string s] w fun e w'=>e= .returned (.bool ((zAg s).all zCs&&decide (1≤s.size∧s.size≤64)))∧w=w':=by
 obtain⟨R,hR⟩: ∃R,((zAg s).all zCs&&decide (1≤s.size∧s.size≤64))=R:=⟨_,rfl⟩
 have HR:=zQr hR
 rw[hR]
 clear hR
 go_enter Tryz.func160,Tryz.ntmps160
 go_wp2_with fail
 go_loopg [3] s.size (fun gk iv wr=> ∃i:Nat,iv= .int .i64 (i:Nat)∧gk=s.size - i∧i≤s.size∧w=wr∧Hid ((zAg s).all zCs=((zAg s).drop i).all zCs))
 case atStart=>exact⟨0,rfl,by omega,by omega,rfl,rfl⟩
 case round=>
  obtain⟨i,rfl,hg,hi,rfl,HS⟩:=hrel
  have HG:=zQr hg
  clear hg
  by_cases hlt:i<s.size
  ·have hlt':(i:Int)<(s.size:Int):=by omega
   have HD:=zQr (zKb (p:=zCs) (l:=zAg s) (k:=i) (by rw[zAv];exact hlt))
   have HX:=zQr (zCy s i hlt)
   by_cases h0:s[i].toNat=0
   ·have HE:=zQr (show R=false by rw[←HR.out,HS.out,HD.out,HX.out,h0];rfl)
    clear HS HD HX
    go_wp2_with fail
    go_ret
    exact⟨zAH HE.out.symm,rfl⟩
   have q0:((s[i].toNat:Int)==0)=false:=zQx.2 (by omega)
   by_cases h1:s[i].toNat=10
   ·have HE:=zQr (show R=false by rw[←HR.out,HS.out,HD.out,HX.out,h1];rfl)
    clear HS HD HX h0 q0
    go_wp2_with fail
    go_ret
    exact⟨zAH HE.out.symm,rfl⟩
   have q1:((s[i].toNat:Int)==10)=false:=zQx.2 (by omega)
   by_cases h2:s[i].toNat=47
   ·have HE:=zQr (show R=false by rw[←HR.out,HS.out,HD.out,HX.out,h2];rfl)
    clear HS HD HX h0 q0 h1 q1
    go_wp2_with fail
    go_ret
    exact⟨zAH HE.out.symm,rfl⟩
   have q2:((s[i].toNat:Int)==47)=false:=zQx.2 (by omega)
   have HE:=zQr (show(zAg s).all zCs=((zAg s).drop (i+1)).all zCs by
    rw[HS.out,HD.out,HX.out,show zCs s[i].toNat=true by unfold zCs;rw[bne_iff_ne.2 h0,bne_iff_ne.2 h1,bne_iff_ne.2 h2];rfl];rfl)
   clear HS HD HX h0 h1 h2
   go_wp2_with fail
   go_roundg (s.size - (i+1))
   case measure=>have:=HG.out;omega
   case rel=>exact⟨i+1,by go_num,rfl,by omega,rfl,HE.out⟩
  ·have hlt': ¬(i:Int)<(s.size:Int):=by omega
   have HE:=zQr (show R=decide (1≤s.size∧s.size≤64)by rw[←HR.out,HS.out,List.drop_eq_nil_of_le (by rw[zAv];omega)];rfl)
   clear HS
   by_cases h1:1≤s.size
   case neg=>
    have HF:=zQr (show R=false by rw[HE.out,zQ3 (by omega)])
    have q1: ¬(1:Int)≤(s.size:Int):=by omega
    clear h1
    go_wp2_with fail
    go_ret
    exact⟨zAH HF.out.symm,rfl⟩
   have q1:(1:Int)≤(s.size:Int):=by omega
   by_cases h2:s.size≤64
   ·have HF:=zQr (show R=true by rw[HE.out,zQ2 (by omega)])
    have q2:(s.size:Int)≤64:=by omega
    clear h1 h2
    go_wp2_with fail
    go_ret
    exact⟨zAH HF.out.symm,rfl⟩
   ·have HF:=zQr (show R=false by rw[HE.out,zQ3 (by omega)])
    have q2: ¬(s.size:Int)≤64:=by omega
    clear h1 h2
    go_wp2_with fail
    go_ret
    exact⟨zAH HF.out.symm,rfl⟩
theorem zJs (h:zD2 w oa T) (hl:T.length≤maxLen) (hu: ∀b∈T,b<256):
  Calls Tryz.prog 116 #[.slice oa T.length cap] w fun e w'=>e= .returned (.bool (zBS T))∧w=w':=by
 have hcv:=zOJ (cap:=cap) h
 have HN:=zQr (zJg (w:=w) (strOfNums (T.map fun b:Nat=>(b:Int))) (by rw[strOfNums_size,List.length_map];exact zE8 hl))
 rw[zFR T hu,strOfNums_size,List.length_map]at HN
 obtain⟨R,hR⟩: ∃R,zBS T=R:=⟨_,rfl⟩
 have HR:=zQr hR
 rw[hR]
 have HT:=zQr h
 have hz:=zE8 hl
 clear h hl hu hR
 go_enter Tryz.func116,Tryz.ntmps116
 go_wp2_with fail
 refine HN.out.mono ?_;rintro e w1 ⟨rfl,rfl⟩
 have HE:=zQr (show R=(decide (1≤T.length∧T.length≤64)&&T.all zCs&& !(zAL (T.getD 0 0)))from HR.out.symm)
 clear HN HR hcv
 cases hq:(T.all zCs&&decide (1≤T.length∧T.length≤64))with
 |false=>
  have HF:=zQr (show R=false by rw[HE.out,Bool.and_comm (decide _),hq];rfl)
  clear hq
  go_wp2_with fail
  go_ret
  exact⟨zAH HF.out.symm,rfl⟩
 |true=>
  have HF:=zQr (show R= !zAL (T.getD 0 0)by rw[HE.out,Bool.and_comm (decide _),hq];rfl)
  rw[Bool.and_eq_true,decide_eq_true_eq]at hq
  obtain⟨g,o,rfl,hc⟩:=HT.out (by omega)
  have n0:=hc 0 (by omega)
  rw[Nat.add_zero]at n0
  have hp:(0:Int)<(T.length:Int):=by omega
  revert HF n0
  generalize T.getD 0 0=x
  intro HF n0
  clear hc hq HE
  go_wp2_with fail
  refine(zDi (b:=x)).mono ?_;rintro e wq ⟨rfl,rfl⟩
  cases hbx:zAL x with
  |true=>
   have HF2:=zQr (show R=false by rw[HF.out,hbx];rfl)
   clear hbx
   go_wp2_with fail
   go_ret
   exact⟨zAH HF2.out.symm,rfl⟩
  |false=>
   have HF2:=zQr (show R=true by rw[HF.out,hbx];rfl)
   clear hbx
   go_wp2_with fail
   go_ret
   exact⟨zAH HF2.out.symm,rfl⟩
end
section
variable {w:World} {oa:Option Addr} {K:List Int} {P:List Pc} {ca:Nat}
theorem zJh (hv:PkR w oa K) (hl:K.length≤9223372036854775807):Calls Tryz.prog 50 #[.slice oa K.length ca] w fun e w'=>e= .returned (.int .i64 (zDP K))∧Below w.heap.size w w':=by
 have HV:=zQr hv
 clear hv
 go_enter Tryz.func50,Tryz.ntmps50
 go_wp2_with fail
 go_loopg [3,4] K.length (fun gk mv kv wr=> ∃k:Nat,mv= .int .i64 (zDP (K.take k))∧kv= .int .i64 (k:Nat)∧gk=K.length - k∧k≤K.length∧Below w.heap.size w wr)
 case atStart=>exact⟨0,rfl,rfl,by omega,by omega,zQs _ _⟩
 case round=>
 obtain⟨k,rfl,rfl,hg,hk,hb⟩:=hrel
 have HG:=zQr hg
 have HBr:=zQr hb
 by_cases hlt:k<K.length
 ·have hlt':(k:Int)<(K.length:Int):=by omega
  obtain⟨nb,no,rfl,hml,hcs⟩:=(HV.out.below hb) (by omega)
  obtain⟨z0,o,n,c,z1⟩:=hcs k K[k] (zQ8 hlt)
  have hmk:Hid (zDP (K.take (k+1))=max (zDP (K.take k)) K[k]):=zQr (by
   show List.foldl _ _ _=_;rw[List.take_add_one,zQ8 hlt,List.foldl_append];rfl)
  generalize K[k]=x at z0 hmk
  generalize zDP (K.take k)=mm at hmk ⊢
  clear hg hb hcs z1
  by_cases hx:mm<x
  ·have HM:=zQr (show zDP (K.take (k+1))=x by rw[hmk.out];omega)
   go_wp2_with fail
   go_roundg (K.length - (k+1))
   case measure=>have:=HG.out;omega
   case rel=>exact⟨k+1,by rw[HM.out],by go_num,rfl,by omega,HBr.out⟩
  ·have HM:=zQr (show zDP (K.take (k+1))=mm by rw[hmk.out];omega)
   go_wp2_with fail
   go_roundg (K.length - (k+1))
   case measure=>have:=HG.out;omega
   case rel=>exact⟨k+1,by rw[HM.out],by go_num,rfl,by omega,HBr.out⟩
 ·obtain rfl:k=K.length:=by omega
  have hlt': ¬(K.length:Int)<(K.length:Int):=by omega
  have HT:Hid (zDP (K.take K.length)=zDP K):=zQr (by rw[List.take_length])
  clear hlt hg hb
  go_wp2_with fail
  go_ret
  exact⟨by rw[←HT.out];rfl,HBr.out⟩
def pvP (P:List Pc):Nat→Bool
 |0=>false
 |k+1=>decide ((P.getD k ⟨0,[]⟩).k= -1)
theorem zEU (hv:PcR w oa P) (hl:P.length≤9223372036854775807):Calls Tryz.prog 52 #[.slice oa P.length ca] w fun e w'=>e= .returned (.bool (zAQ P false))∧Below w.heap.size w w':=by
 obtain⟨R,hR⟩: ∃R,zAQ P false=R:=⟨_,rfl⟩
 rw[hR]
 have HR:=zQr hR
 have HV:=zQr hv
 clear hv hR
 go_enter Tryz.func52,Tryz.ntmps52
 go_wp2_with fail
 go_loopg [3] P.length (fun gk kv wr=> ∃k:Nat,kv= .int .i64 (k:Nat)∧gk=P.length - k∧k≤P.length∧Hid (R=zAQ (P.drop k) (pvP P k))∧Below w.heap.size w wr)
 case atStart=>exact⟨0,rfl,by omega,by omega,HR.out.symm,zQs _ _⟩
 case round=>
 obtain⟨k,rfl,hg,hk,HE,hb⟩:=hrel
 have HG:=zQr hg
 have HBr:=zQr hb
 by_cases hlt:k<P.length
 case neg=>
  obtain rfl:k=P.length:=by omega
  have hlt': ¬(P.length:Int)<(P.length:Int):=by omega
  have HF:=zQr (show R=true by rw[HE.out,List.drop_eq_nil_of_le (zQt _)];rfl)
  clear hlt hg hb HE
  go_wp2_with fail
  go_ret
  exact⟨zAH HF.out.symm,HBr.out⟩
 have hlt':(k:Int)<(P.length:Int):=by omega
 have HLT:=zQr hlt
 obtain⟨nb,no,rfl,hml,hcs⟩:=(HV.out.below hb) (by omega)
 obtain⟨z0,o,c,z1⟩:=hcs k P[k] (zQ8 hlt)
 have HX:Hid (R=if P[k].k= -1 then !P[k].t.isEmpty&& !pvP P k&&zAQ (P.drop (k+1)) true else decide (0≤P[k].k∧P[k].k≤9)&&P[k].t.isEmpty&&zAQ (P.drop (k+1)) false):=zQr (by
  rw[HE.out,List.drop_eq_getElem_cons hlt,zAQ];rfl)
 have HPV:Hid (pvP P (k+1)=decide (P[k].k= -1)):=zQr (by
  show decide ((P.getD k ⟨0,[]⟩).k= -1)=_;rw[zQ0,zQ8 hlt];rfl)
 have HPR:Hid (∀j,k=j+1→ ∃yk:Int,wr.cell? ⟨nb,no+j*2,none⟩=some (.int .i64 yk)∧pvP P k=decide (yk= -1)):=zQr fun j e=>by
  subst e
  refine⟨P[j].k,(hcs j P[j] (zQ8 (by omega))).1,?_⟩
  show decide ((P.getD j ⟨0,[]⟩).k= -1)=_;rw[zQ0,zQ8 (by omega)];rfl
 generalize P[k]=x at z0 z1 HX HPV
 obtain⟨xk,xt⟩:=x
 simp only at z0 z1 HX HPV
 have hba:=(zQs wr.heap.size wr).alloc (zQt _) (.cells #[.int .i64 xk,.slice o xt.length c] 103)
 have d0:(wr.alloc (.cells #[.int .i64 xk,.slice o xt.length c] 103)).cell? ⟨wr.heap.size,0,none⟩=some (.int .i64 xk):=(zQ6 _ _ 0 _ _ (0,0) (zQ4 wr _)).trans rfl
 have d1:(wr.alloc (.cells #[.int .i64 xk,.slice o xt.length c] 103)).cell? ⟨wr.heap.size,1,none⟩=some (.slice o xt.length c):=(zQ6 _ _ 1 _ _ (0,0) (zQ4 wr _)).trans rfl
 have HB1:=zQr (HBr.out.trans (hba.mono HBr.out.size))
 have hnw:wr.heap.size<(wr.alloc (.cells #[.int .i64 xk,.slice o xt.length c] 103)).heap.size:=by simp
 have HPR1:Hid (∀j,k=j+1→ ∃yk:Int,(wr.alloc (.cells #[.int .i64 xk,.slice o xt.length c] 103)).cell? ⟨nb,no+j*2,none⟩=some (.int .i64 yk)∧pvP P k=decide (yk= -1)):=zQr fun j e=>by
  obtain⟨yk,h1,h2⟩:=HPR.out j e
  exact⟨yk,(hba.cell (p:=⟨nb,no+j*2,none⟩) hml).trans h1,h2⟩
 clear hg hb hcs hba HE hlt HPR
 go_upto_region 5 with fail
 obtain⟨W1,hW1⟩: ∃W,wr.alloc (.cells #[.int .i64 xk,.slice o xt.length c] 103)=W:=⟨_,rfl⟩
 rw[hW1]at d0 d1 HB1 hnw HPR1 ⊢
 obtain⟨a1,ha1⟩: ∃a,wr.heap.size=a:=⟨_,rfl⟩
 rw[ha1]at d0 d1 hnw ⊢
 clear hW1 ha1 z0 z1 hml
 by_cases h1:xk< -1
 ·have HF:=zQr (show R=false by rw[HX.out,if_neg (by omega),zQ3 (by omega)];rfl)
  clear HX HPR1
  go_wp2_with fail
  go_ret
  exact⟨zAH HF.out.symm,HB1.out⟩
 by_cases h2:9<xk
 ·have HF:=zQr (show R=false by rw[HX.out,if_neg (by omega),zQ3 (by omega)];rfl)
  clear HX HPR1
  go_wp2_with fail
  go_ret
  exact⟨zAH HF.out.symm,HB1.out⟩
 by_cases h3:xk= -1
 ·subst h3
  clear h1 h2
  by_cases h4:xt=[]
  ·subst h4
   have HF:=zQr (show R=false by rw[HX.out,if_pos rfl];rfl)
   clear HX HPR1
   go_wp2_with fail
   go_ret
   exact⟨zAH HF.out.symm,HB1.out⟩
  have hp:0<xt.length:=List.length_pos_iff.2 h4
  have HF:=zQr (show R=(!pvP P k&&zAQ (P.drop (k+1)) true)by rw[HX.out,if_pos rfl,List.isEmpty_eq_false_iff.2 h4];rfl)
  have HPV2:=zQr (show pvP P (k+1)=true by rw[HPV.out];rfl)
  clear HX h4 HPV
  cases k with
  |zero=>
   have HF2:=zQr (show R=zAQ (P.drop (0+1)) (pvP P (0+1))by rw[HF.out,HPV2.out];rfl)
   clear HF HPR1 HPV2
   go_wp2_with fail
   go_roundg (P.length - (0+1))
   case measure=>have:=HG.out;have:=HLT.out;omega
   case rel=>exact⟨0+1,congrArg (Value.int .i64) (by omega),rfl,HLT.out,HF2.out,HB1.out⟩
  |succ j=>
   obtain⟨yk,y0,hy⟩:=HPR1.out j rfl
   have hk1:((j+1:Nat):Int) - 1=(j:Int):=by omega
   have hk2:(j:Int)<(P.length:Int):=by have:=HLT.out;omega
   have hk3:0<j+1:=by omega
   have HJ:=zQr (show((j+1:Nat):Int)=(j:Int)+1 by omega)
   have HY:=zQr hy
   clear hy HPR1
   by_cases h5:yk= -1
   ·have HF2:=zQr (show R=false by rw[HF.out,HY.out,zQ2 h5];rfl)
    subst h5
    clear HF
    go_wp2_with fail
    go_ret
    exact⟨zAH HF2.out.symm,HB1.out⟩
   have HF2:=zQr (show R=zAQ (P.drop (j+1+1)) (pvP P (j+1+1))by rw[HF.out,HY.out,HPV2.out,zQ3 h5];rfl)
   have q5:(yk== -1)=false:=zQx.2 h5
   clear HF h5
   go_wp2_with fail
   go_roundg (P.length - (j+1+1))
   case measure=>have:=HG.out;have:=HLT.out;omega
   case rel=>exact⟨j+1+1,congrArg (Value.int .i64) (by omega),rfl,HLT.out,HF2.out,HB1.out⟩
 have q3:(xk== -1)=false:=zQx.2 h3
 by_cases h4:xt=[]
 ·subst h4
  have HF:=zQr (show R=zAQ (P.drop (k+1)) (pvP P (k+1))by rw[HX.out,HPV.out,if_neg h3,zQ2 (by omega),zQ3 h3];rfl)
  clear HX HPR1 HPV h3
  by_cases hkz:0<k
  ·go_wp2_with fail
   go_roundg (P.length - (k+1))
   case measure=>have:=HG.out;have:=HLT.out;omega
   case rel=>exact⟨k+1,congrArg (Value.int .i64) (by omega),rfl,HLT.out,HF.out,HB1.out⟩
  ·go_wp2_with fail
   go_roundg (P.length - (k+1))
   case measure=>have:=HG.out;have:=HLT.out;omega
   case rel=>exact⟨k+1,congrArg (Value.int .i64) (by omega),rfl,HLT.out,HF.out,HB1.out⟩
 ·have hp:0<xt.length:=List.length_pos_iff.2 h4
  have HF:=zQr (show R=false by rw[HX.out,if_neg h3,List.isEmpty_eq_false_iff.2 h4,Bool.and_false];rfl)
  clear HX HPR1 HPV h3 h4
  go_wp2_with fail
  go_ret
  exact⟨zAH HF.out.symm,HB1.out⟩
end
end
section
open Go.RowKit
theorem zPj {w:World} {base:Nat} {l:List Value} {nm:Nat} {wr:Bool} {tx:List Nat} {o:Option Addr} {cp:Nat} (h7:l[7]?=some (.int .u8 (nm:Nat))) (h9:l[9]?=some (.slice o tx.length cp)) (h15:l[15]?=some (.bool wr)) (hby:Bys w base (.slice o tx.length cp) tx) (hu: ∀b∈tx,b<256) (U:U8V w):
  Calls Tryz.prog 42 #[.agg l.toArray] w fun e w'=>e= .returned (.bool (zDu nm wr tx))∧Below w.heap.size w w':=by
 have hnew:=zQ4 w (.cells l.toArray 36)
 have hbl:=(zQs w.heap.size w).alloc (zQt _) (.cells l.toArray 36)
 have c7:(w.alloc (.cells l.toArray 36)).cell? ⟨w.heap.size,7,none⟩=some (.int .u8 (nm:Nat)):=(zQ6 _ _ 7 _ _ (0,0) hnew).trans (by simpa using h7)
 have c9:(w.alloc (.cells l.toArray 36)).cell? ⟨w.heap.size,9,none⟩=some (.slice o tx.length cp):=(zQ6 _ _ 9 _ _ (0,0) hnew).trans (by simpa using h9)
 have c15:(w.alloc (.cells l.toArray 36)).cell? ⟨w.heap.size,15,none⟩=some (.bool wr):=(zQ6 _ _ 15 _ _ (0,0) hnew).trans (by simpa using h15)
 have hby2:Bys (w.alloc (.cells l.toArray 36)) base (.slice o tx.length cp) tx:=Bys.kept (S:=fun _=>False) hby (zAU.bel hbl) fun _ _ e=>e
 have HU8:=U.below hbl
 have HLB:=zQr (zIj hby2 hu)
 have HFB:=zQr (zGD (zF3 (by obtain⟨o2,cp2,e2,hrow⟩:=hby2;cases e2;exact hrow)).1 hu (zF3 (by obtain⟨o2,cp2,e2,hrow⟩:=hby2;cases e2;exact hrow)).2 HU8)
 clear hby hby2 hu U HU8
 obtain⟨R,hR⟩: ∃R,zDu nm wr tx=R:=⟨_,rfl⟩
 rw[hR]
 have HS:=zQr hR
 have HB:=zQr hbl
 clear h7 h9 h15 hnew hbl hR
 go_enter Tryz.func42,Tryz.ntmps42
 go_upto_region 1 with fail
 obtain⟨b,hb⟩: ∃b,w.heap.size=b:=⟨_,rfl⟩
 have HBQ:=zQr hb
 rw[hb]at c7 c9 c15 ⊢
 clear hb
 obtain⟨W,hW⟩: ∃W,w.alloc (.cells l.toArray 36)=W:=⟨_,rfl⟩
 rw[hW]at c7 c9 c15 HB HLB HFB ⊢
 clear hW
 by_cases n97:nm=97
 ·subst n97
  have HE:=zQr (show R=true by have:=HS.out;rw[←this];rfl)
  clear HLB HFB
  go_wp2_with fail
  go_ret
  exact⟨zAH HE.out.symm,HB.out⟩
 have q97:((nm:Int)==97)=false:=zQx.2 (by omega)
 by_cases n99:nm=99
 ·subst n99
  have HE:=zQr (show R=true by have:=HS.out;rw[←this];rfl)
  clear HLB HFB
  go_wp2_with fail
  go_ret
  exact⟨zAH HE.out.symm,HB.out⟩
 have q99:((nm:Int)==99)=false:=zQx.2 (by omega)
 by_cases n105:nm=105
 ·subst n105
  have HE:=zQr (show R=true by have:=HS.out;rw[←this];rfl)
  clear HLB HFB
  go_wp2_with fail
  go_ret
  exact⟨zAH HE.out.symm,HB.out⟩
 have q105:((nm:Int)==105)=false:=zQx.2 (by omega)
 by_cases n98:nm=98
 ·subst n98
  have HE:=zQr (show R=zBX tx by have:=HS.out;rw[←this];rfl)
  go_wp2_with fail
  refine HLB.out.mono ?_;rintro e w1 ⟨rfl,hb1⟩
  have HB1:=zQr (HB.out.trans (hb1.mono HB.out.size))
  clear hb1
  go_wp2_with fail
  go_ret
  exact⟨zAH HE.out.symm,HB1.out⟩
 have q98:((nm:Int)==98)=false:=zQx.2 (by omega)
 by_cases n116:nm=116
 ·subst n116
  have HE:=zQr (show R=zBX tx by have:=HS.out;rw[←this];rfl)
  go_wp2_with fail
  refine HLB.out.mono ?_;rintro e w1 ⟨rfl,hb1⟩
  have HB1:=zQr (HB.out.trans (hb1.mono HB.out.size))
  clear hb1
  go_wp2_with fail
  go_ret
  exact⟨zAH HE.out.symm,HB1.out⟩
 have q116:((nm:Int)==116)=false:=zQx.2 (by omega)
 by_cases n58:nm=58
 ·subst n58
  by_cases h0:tx=[]
  ·subst h0
   have HE:=zQr (show R=false by have:=HS.out;rw[←this];rfl)
   clear HLB HFB
   go_wp2_with fail
   go_ret
   exact⟨zAH HE.out.symm,HB.out⟩
  have hp:0<tx.length:=List.length_pos_iff.2 h0
  have HE:=zQr (show R=zBX tx by have:=HS.out;rw[←this];show(!tx.isEmpty&&zBX tx)=_;rw[List.isEmpty_eq_false_iff.2 h0];rfl)
  clear h0
  go_wp2_with fail
  refine HLB.out.mono ?_;rintro e w1 ⟨rfl,hb1⟩
  have HB1:=zQr (HB.out.trans (hb1.mono HB.out.size))
  clear hb1
  go_wp2_with fail
  go_ret
  exact⟨zAH HE.out.symm,HB1.out⟩
 have q58:((nm:Int)==58)=false:=zQx.2 (by omega)
 by_cases n114:nm=114
 ·subst n114
  have HE:=zQr (show R=zBS tx by have:=HS.out;rw[←this];rfl)
  go_wp2_with fail
  refine HFB.out.mono ?_;rintro e w1 ⟨rfl,hb1⟩
  have HB1:=zQr (HB.out.trans (hb1.mono HB.out.size))
  clear hb1
  go_wp2_with fail
  go_ret
  exact⟨zAH HE.out.symm,HB1.out⟩
 have q114:((nm:Int)==114)=false:=zQx.2 (by omega)
 by_cases n119:nm=119
 ·subst n119
  have HE:=zQr (show R=zBS tx by have:=HS.out;rw[←this];rfl)
  go_wp2_with fail
  refine HFB.out.mono ?_;rintro e w1 ⟨rfl,hb1⟩
  have HB1:=zQr (HB.out.trans (hb1.mono HB.out.size))
  clear hb1
  go_wp2_with fail
  go_ret
  exact⟨zAH HE.out.symm,HB1.out⟩
 have q119:((nm:Int)==119)=false:=zQx.2 (by omega)
 have HE0:Hid (¬(nm=115∧wr=true)→R=tx.isEmpty):=zQr fun h=>by
  have:=HS.out
  unfold zDu at this
  rw[if_neg (by omega),if_neg (by omega),if_neg (by omega),if_neg (by omega),if_neg h]at this
  exact this.symm
 clear HLB
 by_cases n115:nm=115
 ·subst n115
  cases wr with
  |true=>
   have HE:=zQr (show R=zBS tx by have:=HS.out;rw[←this];rfl)
   go_wp2_with fail
   refine HFB.out.mono ?_;rintro e w1 ⟨rfl,hb1⟩
   have HB1:=zQr (HB.out.trans (hb1.mono HB.out.size))
   clear hb1
   go_wp2_with fail
   go_ret
   exact⟨zAH HE.out.symm,HB1.out⟩
  |false=>
   have HE:=zQr (HE0.out (fun h=>by cases h.2))
   clear HFB HE0
   by_cases h0:tx=[]
   ·subst h0
    go_wp2_with fail
    go_ret
    exact⟨zAH HE.out.symm,HB.out⟩
   ·have hz:((tx.length:Int)==0)=false:=zQx.2 (by have:=List.length_pos_iff.2 h0;omega)
    have HF:=zQr (show R=false by rw[HE.out,List.isEmpty_eq_false_iff.2 h0])
    clear h0
    go_wp2_with fail
    go_ret
    exact⟨zAH HF.out.symm,HB.out⟩
 have q115:((nm:Int)==115)=false:=zQx.2 (by omega)
 have HE:=zQr (HE0.out (fun h=>n115 h.1))
 clear HFB HE0
 by_cases h0:tx=[]
 ·subst h0
  go_wp2_with fail
  go_ret
  exact⟨zAH HE.out.symm,HB.out⟩
 ·have hz:((tx.length:Int)==0)=false:=zQx.2 (by have:=List.length_pos_iff.2 h0;omega)
  have HF:=zQr (show R=false by rw[HE.out,List.isEmpty_eq_false_iff.2 h0])
  clear h0
  go_wp2_with fail
  go_ret
  exact⟨zAH HF.out.symm,HB.out⟩
theorem zPe {w:World} {l:List Value} {nm:Nat} {wr:Bool} {tx:List Nat} {o:Option Addr} {cp:Nat} (h7:l[7]?=some (.int .u8 (nm:Nat))) (h9:l[9]?=some (.slice o tx.length cp)) (h15:l[15]?=some (.bool wr)) (h:zD2 w o tx) (hl:tx.length≤maxLen) (hu: ∀b∈tx,b<256):
  Calls Tryz.prog 48 #[.agg l.toArray] w fun e w'=>e= .returned (.bool (zDu nm wr tx))∧Below w.heap.size w w':=by
 have hnew:=zQ4 w (.cells l.toArray 36)
 have hbl:=(zQs w.heap.size w).alloc (zQt _) (.cells l.toArray 36)
 have c7:(w.alloc (.cells l.toArray 36)).cell? ⟨w.heap.size,7,none⟩=some (.int .u8 (nm:Nat)):=(zQ6 _ _ 7 _ _ (0,0) hnew).trans (by simpa using h7)
 have c9:(w.alloc (.cells l.toArray 36)).cell? ⟨w.heap.size,9,none⟩=some (.slice o tx.length cp):=(zQ6 _ _ 9 _ _ (0,0) hnew).trans (by simpa using h9)
 have c15:(w.alloc (.cells l.toArray 36)).cell? ⟨w.heap.size,15,none⟩=some (.bool wr):=(zQ6 _ _ 15 _ _ (0,0) hnew).trans (by simpa using h15)
 have HLB:=zQr (zIg (cap:=cp) (h.below hbl) hl)
 have HFB:=zQr (zJs (cap:=cp) (h.below hbl) hl hu)
 have A0:=zQr (fun w=>zFG (w:=w) (b:=nm) ⟨#[97,99,105]⟩ [97,99,105] rfl (by decide))
 have A1:=zQr (fun w=>zFG (w:=w) (b:=nm) ⟨#[98,116]⟩ [98,116] rfl (by decide))
 have A2:=zQr (fun w=>zFG (w:=w) (b:=nm) ⟨#[114,119]⟩ [114,119] rfl (by decide))
 clear h hl hu
 obtain⟨R,hR⟩: ∃R,zDu nm wr tx=R:=⟨_,rfl⟩
 rw[hR]
 have HS:=zQr hR
 have HB:=zQr hbl
 clear h7 h9 h15 hnew hbl hR
 go_enter Tryz.func48,Tryz.ntmps48
 go_upto_region 1 with fail
 obtain⟨b,hb⟩: ∃b,w.heap.size=b:=⟨_,rfl⟩
 have HBQ:=zQr hb
 rw[hb]at c7 c9 c15 ⊢
 clear hb
 obtain⟨W,hW⟩: ∃W,w.alloc (.cells l.toArray 36)=W:=⟨_,rfl⟩
 rw[hW]at c7 c9 c15 HB HLB HFB ⊢
 clear hW
 go_wp2_with fail
 refine(A0.out _).mono ?_;rintro e wa ⟨rfl,rfl⟩
 by_cases m0:nm∈[97,99,105]
 ·rw[zQ2 m0]
  have HE:=zQr (show R=true by have:=HS.out;rw[←this];unfold zDu;rw[if_pos (by simpa using m0)])
  clear m0 HLB HFB A1 A2
  go_wp2_with fail
  go_ret
  exact⟨zAH HE.out.symm,HB.out⟩
 rw[zQ3 m0]
 have M0:=zQr (show¬(nm=97∨nm=99∨nm=105)by simpa using m0)
 clear m0
 go_wp2_with fail
 refine(A1.out _).mono ?_;rintro e wa ⟨rfl,rfl⟩
 by_cases m1:nm∈[98,116]
 ·rw[zQ2 m1]
  have HE:=zQr (show R=zBX tx by have:=HS.out;rw[←this];unfold zDu;rw[if_neg M0.out,if_pos (by simpa using m1)])
  clear m1 HFB A2
  go_wp2_with fail
  refine HLB.out.mono ?_;rintro e w1 ⟨rfl,hb1⟩
  have HB1:=zQr (HB.out.trans (hb1.mono HB.out.size))
  clear hb1
  go_wp2_with fail
  go_ret
  exact⟨zAH HE.out.symm,HB1.out⟩
 rw[zQ3 m1]
 have M1:=zQr (show¬(nm=98∨nm=116)by simpa using m1)
 clear m1
 by_cases n58:nm=58
 ·subst n58
  have HE:=zQr (show R=(!tx.isEmpty&&zBX tx)by have:=HS.out;rw[←this];rfl)
  clear HFB A2
  go_wp2_with fail
  refine HLB.out.mono ?_;rintro e w1 ⟨rfl,hb1⟩
  have HB1:=zQr (HB.out.trans (hb1.mono HB.out.size))
  have hbk:b<W.heap.size:=zRO _ _ c9
  have c9':=(hb1.cell (p:=⟨b,9,none⟩) hbk).trans c9
  clear hb1 c7 c9 c15 hbk
  cases hl:zBX tx with
  |false=>
   have HF:=zQr (show R=false by rw[HE.out,hl,Bool.and_false])
   clear hl
   go_wp2_with fail
   go_ret
   exact⟨zAH HF.out.symm,HB1.out⟩
  |true=>
   by_cases h0:tx=[]
   ·subst h0
    have HF:=zQr (show R=false by rw[HE.out];rfl)
    clear hl
    go_wp2_with fail
    go_ret
    exact⟨zAH HF.out.symm,HB1.out⟩
   have hp:0<tx.length:=List.length_pos_iff.2 h0
   have HF:=zQr (show R=true by rw[HE.out,hl,List.isEmpty_eq_false_iff.2 h0];rfl)
   clear hl h0
   go_wp2_with fail
   go_ret
   exact⟨zAH HF.out.symm,HB1.out⟩
 have q58:((nm:Int)==58)=false:=zQx.2 (by omega)
 have N58:=zQr n58
 clear n58
 go_wp2_with fail
 refine(A2.out _).mono ?_;rintro e wa ⟨rfl,rfl⟩
 by_cases m2:nm∈[114,119]
 ·rw[zQ2 m2]
  have HE:=zQr (show R=zBS tx by have:=HS.out;rw[←this];unfold zDu;rw[if_neg M0.out,if_neg M1.out,if_neg N58.out,if_pos (by simpa using m2)])
  clear m2 HLB
  go_wp2_with fail
  refine HFB.out.mono ?_;rintro e w1 ⟨rfl,rfl⟩
  go_wp2_with fail
  go_ret
  exact⟨zAH HE.out.symm,HB.out⟩
 rw[zQ3 m2]
 have M2:=zQr (show¬(nm=114∨nm=119)by simpa using m2)
 clear m2
 have HE0:Hid (¬(nm=115∧wr=true)→R=tx.isEmpty):=zQr fun h=>by
  have:=HS.out
  unfold zDu at this
  rw[if_neg M0.out,if_neg M1.out,if_neg N58.out,if_neg M2.out,if_neg h]at this
  exact this.symm
 clear HLB
 by_cases n115:nm=115
 ·subst n115
  cases wr with
  |true=>
   have HE:=zQr (show R=zBS tx by have:=HS.out;rw[←this];rfl)
   go_wp2_with fail
   refine HFB.out.mono ?_;rintro e w1 ⟨rfl,rfl⟩
   have HB1:=HB
   go_wp2_with fail
   go_ret
   exact⟨zAH HE.out.symm,HB1.out⟩
  |false=>
   have HE:=zQr (HE0.out (fun h=>by cases h.2))
   clear HFB HE0
   by_cases h0:tx=[]
   ·subst h0
    go_wp2_with fail
    go_ret
    exact⟨zAH HE.out.symm,HB.out⟩
   ·have hz:((tx.length:Int)==0)=false:=zQx.2 (by have:=List.length_pos_iff.2 h0;omega)
    have HF:=zQr (show R=false by rw[HE.out,List.isEmpty_eq_false_iff.2 h0])
    clear h0
    go_wp2_with fail
    go_ret
    exact⟨zAH HF.out.symm,HB.out⟩
 have q115:((nm:Int)==115)=false:=zQx.2 (by omega)
 have HE:=zQr (HE0.out (fun h=>n115 h.1))
 clear HFB HE0
 by_cases h0:tx=[]
 ·subst h0
  go_wp2_with fail
  go_ret
  exact⟨zAH HE.out.symm,HB.out⟩
 ·have hz:((tx.length:Int)==0)=false:=zQx.2 (by have:=List.length_pos_iff.2 h0;omega)
  have HF:=zQr (show R=false by rw[HE.out,List.isEmpty_eq_false_iff.2 h0])
  clear h0
  go_wp2_with fail
  go_ret
  exact⟨zAH HF.out.symm,HB.out⟩
end
end Go.Proofs.YtmaagpbjahjmhaaGreatDoor
