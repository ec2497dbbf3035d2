/- Parts: Zg Zh Zi. -/
import Derived.Test.YtfcemodgopdkkaaGreatDoorQ20
import Derived.Test.YtfcemodgopdkkaaGreatDoorQ18
import Derived.Test.YtfcemodgopdkkaaGreatDoorQ11
import Derived.Test.YtfcemodgopdkkaaGreatDoorQ23
import Derived.Test.YtfcemodgopdkkaaGreatDoorQ22
import Derived.Test.YtfcemodgopdkkaaGreatDoorQ6
import Derived.Test.YtfcemodgopdkkaaGreatDoorProg
import Derived.Shelf.Bytes.SlCut
set_option maxHeartbeats 6400000
set_option maxRecDepth 100000
namespace Go.Proofs.YtfcemodgopdkkaaGreatDoor
section
open Go.RowKit
theorem zJd {l:List Nat} {k:Nat} (h:k<l.length) (c:Nat):(l.drop k).contains c=(l[k]==c||(l.drop (k+1)).contains c):=by
 rw[List.drop_eq_getElem_cons h,List.contains_cons]
 congr 1
 rw[Bool.eq_iff_iff];simp;exact eq_comm
section
variable {w:World} {oa:Option Addr} {T:List Nat} {cap b:Nat}
theorem zFJ (s:ByteArray) (hs:s.size≤100) (c:Nat):
  Calls Tryz.prog 224 #[.string s,.int .u8 (c:Nat)] w fun e w'=>e= .returned (.bool ((zAs s).contains c))∧w=w':=by
 obtain⟨R,hR⟩: ∃R,(zAs s).contains c=R:=⟨_,rfl⟩
 have HR:=zL8 hR
 rw[hR]
 clear hR
 go_enter Tryz.func224,Tryz.ntmps224
 go_wp2_with fail
 go_loopg [5] s.size (fun gk iv wr=> ∃i:Nat,iv= .int .i64 (i:Nat)∧gk=s.size - i∧i≤s.size∧w=wr∧Hid (R=((zAs s).drop i).contains c))
 case atStart=>exact⟨0,rfl,by omega,by omega,rfl,HR.out.symm⟩
 case round=>
  obtain⟨i,rfl,hg,hi,rfl,HS⟩:=hrel
  have HG:=zL8 hg
  clear hg
  by_cases hlt:i<s.size
  ·have hlt':(i:Int)<(s.size:Int):=by omega
   have HD:=zL8 (zJd (l:=zAs s) (k:=i) (by rw[zAz];exact hlt) c)
   have HX:=zL8 (show(zAs s)[i]'(by rw[zAz];exact hlt)=s[i].toNat by
    have h1:=zC4 s i hlt
    rw[zMH,zMP (by rw[zAz];exact hlt)]at h1
    simpa using h1)
   by_cases hq:s[i].toNat=c
   ·have HE:=zL8 (show R=true by rw[HS.out,HD.out,HX.out,hq];simp)
    clear HS HD HX
    go_wp2_with fail
    go_ret
    exact⟨zAE HE.out.symm,rfl⟩
   ·have HE:=zL8 (show R=((zAs s).drop (i+1)).contains c by rw[HS.out,HD.out,HX.out,zME.2 hq];rfl)
    have hq':((s[i].toNat:Int)==(c:Int))=false:=zME.2 (by omega)
    clear HS HD HX
    go_wp2_with fail
    go_roundg (s.size - (i+1))
    case measure=>have:=HG.out;omega
    case rel=>exact⟨i+1,by go_num,rfl,by omega,rfl,HE.out⟩
  ·have hlt': ¬(i:Int)<(s.size:Int):=by omega
   have HE:=zL8 (show R=false by rw[HS.out,List.drop_eq_nil_of_le (by rw[zAz];omega)];rfl)
   clear HS
   go_wp2_with fail
   go_ret
   exact⟨zAE HE.out.symm,rfl⟩
theorem zCv (s:ByteArray) (l:List Nat) (hl:zAs s=l) (hs:s.size≤100):Calls Tryz.prog 224 #[.string s,.int .u8 (b:Nat)] w fun e w'=>e= .returned (.bool (decide (b∈l)))∧w=w':=
 (zFJ s hs b).mono fun e w' h=>by rw[hl,List.contains_eq_mem]at h;exact h
theorem zG3:Calls Tryz.prog 190 #[.int .u8 (b:Nat)] w fun e w'=>e= .returned (.int .i64 (zEL (zCT b)))∧w=w':=by
 have H0:=zL8 (fun w=>zCv (w:=w) (b:=b) ⟨#[125,58]⟩ [125,58] rfl (by decide))
 have H1:=zL8 (fun w=>zCv (w:=w) (b:=b) ⟨#[61,97,105,113,114]⟩ [61,97,105,113,114] rfl (by decide))
 have H2:=zL8 (fun w=>zCv (w:=w) (b:=b) ⟨#[123,98,99,100,68,103,71,104,72,108,110,78,112,80,115,116,119,120,121]⟩ [123,98,99,100,68,103,71,104,72,108,110,78,112,80,115,116,119,120,121] rfl (by decide))
 obtain⟨m,hm⟩: ∃m,zEL (zCT b)=m:=⟨_,rfl⟩
 rw[hm]
 unfold zCT at hm
 have HM:=zL8 hm
 clear hm
 go_enter Tryz.func190,Tryz.ntmps190
 go_wp2_with fail
 refine(H0.out _).mono ?_;rintro e w1 ⟨rfl,rfl⟩
 by_cases h0:b∈[125,58]
 ·rw[zMJ h0]
  have HMM:=zL8 (HM.out.symm.trans (by rw[if_pos h0];rfl:_=(0:Int)))
  clear h0
  go_wp2_with fail
  go_ret
  exact⟨by rw[HMM.out];rfl,rfl⟩
 rw[zMK h0]
 have HB0:=zL8 h0
 clear h0
 go_wp2_with fail
 refine(H1.out _).mono ?_;rintro e w1 ⟨rfl,rfl⟩
 by_cases h1:b∈[61,97,105,113,114]
 ·rw[zMJ h1]
  have HMM:=zL8 (HM.out.symm.trans (by rw[if_neg HB0.out,if_pos h1];rfl:_=(1:Int)))
  clear h1
  go_wp2_with fail
  go_ret
  exact⟨by rw[HMM.out];rfl,rfl⟩
 rw[zMK h1]
 have HB1:=zL8 h1
 clear h1
 go_wp2_with fail
 refine(H2.out _).mono ?_;rintro e w1 ⟨rfl,rfl⟩
 by_cases h2:b∈[123,98,99,100,68,103,71,104,72,108,110,78,112,80,115,116,119,120,121]
 ·rw[zMJ h2]
  have HMM:=zL8 (HM.out.symm.trans (by rw[if_neg HB0.out,if_neg HB1.out,if_pos h2];rfl:_=(2:Int)))
  clear h2
  go_wp2_with fail
  go_ret
  exact⟨by rw[HMM.out];rfl,rfl⟩
 rw[zMK h2]
 have HMM:=zL8 (HM.out.symm.trans (by rw[if_neg HB0.out,if_neg HB1.out,if_neg h2];rfl:_=(-1:Int)))
 clear h2
 go_wp2_with fail
 go_ret
 exact⟨by rw[HMM.out];rfl,rfl⟩
theorem zB6:Calls Tryz.prog 246 #[.int .u8 (b:Nat)] w fun e w'=>e= .returned (.bool (zAa b))∧w=w':=by
 obtain⟨R,hR⟩: ∃R,zAa b=R:=⟨_,rfl⟩
 rw[hR]
 unfold zAa at hR
 by_cases h1:b=32
 ·subst h1
  have HR:=zL8 (show R=true by rw[←hR];rfl)
  clear hR
  go_enter Tryz.func246,Tryz.ntmps246
  go_wp2_with fail
  go_ret
  exact⟨zAE HR.out.symm,rfl⟩
 by_cases h2:b=9
 ·subst h2
  have HR:=zL8 (show R=true by rw[←hR];rfl)
  clear hR
  go_enter Tryz.func246,Tryz.ntmps246
  go_wp2_with fail
  go_ret
  exact⟨zAE HR.out.symm,rfl⟩
 have HR:=zL8 (show R=false by rw[←hR,zME.2 h1,zME.2 h2];rfl)
 have q1:((b:Int)==32)=false:=zME.2 (by omega)
 have q2:((b:Int)==9)=false:=zME.2 (by omega)
 clear hR
 go_enter Tryz.func246,Tryz.ntmps246
 go_wp2_with fail
 go_ret
 exact⟨zAE HR.out.symm,rfl⟩
theorem zGf {p:Nat→Bool} {l:List Nat} {k:Nat} (h:k<l.length):(l.drop k).all p=(p (l.getD k 0)&&(l.drop (k+1)).all p):=by
 rw[List.drop_eq_getElem_cons h,List.all_cons,zMH,zMP h]
 rfl
theorem zJU {l:List Nat} (_:0<l.length):l.getLastD 0=l.getD (l.length - 1) 0:=by
 rw[List.getLastD_eq_getLast?,List.getLast?_eq_getElem?,zMH]
theorem zE7 (h:zBU w oa T) (hl:T.length≤maxLen):
  Calls Tryz.prog 225 #[.slice oa T.length cap] w fun e w'=>e= .returned (.bool (zAx T))∧Below w.heap.size w w':=by
 obtain⟨R,hR⟩: ∃R,zAx T=R:=⟨_,rfl⟩
 rw[hR]
 have HR:=zL8 hR
 have HT:=zL8 h
 have hz:=zBR hl
 clear hR h hl
 go_enter Tryz.func225,Tryz.ntmps225
 go_wp2_with fail
 go_loopg [3] T.length (fun n iv wr=> ∃d:Nat,iv= .int .i64 (d:Nat)∧n=T.length - d∧d≤T.length∧Hid (T.all (· !=10)=(T.drop d).all (· !=10))∧Below w.heap.size w wr)
 case atStart=>exact⟨0,rfl,by omega,by omega,rfl,zL9 _ _⟩
 case round=>
  obtain⟨d,rfl,hg,hd,HA,hbe⟩:=hrel
  have HG:=zL8 hg
  have HBE:=zL8 hbe
  clear hg
  by_cases hlt:d<T.length
  ·have hlt':(d:Int)<(T.length:Int):=by omega
   obtain⟨na,oo,rfl,hna⟩:=(HT.out.below hbe) (by omega)
   have n0:=hna d hlt
   have HD:=zL8 (zGf (p:=(· !=10)) hlt)
   have HTX:=zL8 (show T.length=T.length from rfl)
   revert n0 HD
   generalize T.getD d 0=x
   intro n0 HD
   clear hna hbe
   by_cases hx:x=10
   ·subst hx
    have HE:=zL8 (show R=false by rw[←HR.out];unfold zAx;rw[HA.out,HD.out];rfl)
    go_wp2_with fail
    go_ret
    exact⟨zAE HE.out.symm,HBE.out⟩
   have e1:((x:Int)==10)=false:=zME.2 (by omega)
   have HE:=zL8 (show T.all (· !=10)=(T.drop (d+1)).all (· !=10)by rw[HA.out,HD.out,show(x !=10)=true from bne_iff_ne.2 hx];rfl)
   clear hx HD
   go_wp2_with fail
   go_roundg (T.length - (d+1))
   case measure=>have:=HG.out;omega
   case rel=>exact⟨d+1,by go_num,rfl,by omega,HE.out,HBE.out⟩
  ·have hlt': ¬(d:Int)<(T.length:Int):=by omega
   have HE:=zL8 (show R=(!(zAa (T.getD 0 0))&& !(zAa (T.getLastD 0)))by rw[←HR.out];unfold zAx;rw[HA.out,List.drop_eq_nil_of_le (by omega)];rfl)
   clear HA HR
   by_cases h0:T.length=0
   ·have hT:T=[]:=zMg h0
    have HF:=zL8 (show R=true by rw[HE.out,hT];rfl)
    have e0:((T.length:Int)==0)=true:=by rw[beq_iff_eq];omega
    clear hT h0 hbe
    go_wp2_with fail
    go_ret
    exact⟨zAE HF.out.symm,HBE.out⟩
   obtain⟨na,oo,rfl,hna⟩:=(HT.out.below hbe) (by omega)
   have e0:((T.length:Int)==0)=false:=zME.2 (by omega)
   have n0:=hna 0 (by omega)
   rw[Nat.add_zero]at n0
   have n1:=hna (T.length - 1) (by omega)
   rw[zJU (by omega)]at HE
   have HZ:=zL8 (show 0<T.length by omega)
   have hp:(0:Int)<(T.length:Int):=by omega
   revert n0 n1 HE
   generalize T.getD 0 0=x
   generalize T.getD (T.length - 1) 0=y
   intro HE n0 n1
   clear hna hbe h0
   go_wp2_with fail
   refine(zB6 (b:=x)).mono ?_;rintro e wq ⟨rfl,rfl⟩
   cases hbx:zAa x with
   |true=>
    have HF:=zL8 (show R=false by rw[HE.out,hbx];rfl)
    clear hbx
    go_wp2_with fail
    go_ret
    exact⟨zAE HF.out.symm,HBE.out⟩
   |false=>
    have HF:=zL8 (show R= !zAa y by rw[HE.out,hbx];rfl)
    have hk1:(T.length:Int) - 1=((T.length - 1:Nat):Int):=by have:=HZ.out;omega
    have hk2:((T.length - 1:Nat):Int)<(T.length:Int):=by have:=HZ.out;omega
    clear hbx
    revert n1 hk1 hk2
    generalize T.length - 1=k
    intro n1 hk1 hk2
    go_wp2_with fail
    refine(zB6 (b:=y)).mono ?_;rintro e wq ⟨rfl,rfl⟩
    cases hby:zAa y with
    |true=>
     have HF2:=zL8 (show R=false by rw[HF.out,hby];rfl)
     clear hby
     go_wp2_with fail
     go_ret
     exact⟨zAE HF2.out.symm,HBE.out⟩
    |false=>
     have HF2:=zL8 (show R=true by rw[HF.out,hby];rfl)
     clear hby
     go_wp2_with fail
     go_ret
     exact⟨zAE HF2.out.symm,HBE.out⟩
end
end
section
open Go.RowKit
theorem zBP {w:World} {oa:Option Addr} {cap:Nat} {T:List Nat} (h:zBU w oa T):(convert 46 9 (.slice oa T.length cap)).run Tryz.prog w= .ok (.string (strOfNums (T.map fun b:Nat=>(b:Int)))) w:=by
 by_cases hp:0<T.length
 ·obtain⟨g,o,rfl,hc⟩:=h hp
  refine run_convert_bytes_arg w _ _ Tryz.underlying46 Tryz.underlying5 g o T.length cap _ (by simp) (fun i hi=>?_) _ Tryz.underlying9
  rw[hc i hi]
  simp[List.getD_eq_getElem?_getD,hi]
 ·obtain rfl:T=[]:=zMg (by omega)
  cases oa with
  |none=>exact run_convert_bytes_nil w _ _ Tryz.underlying46 Tryz.underlying5 _ _ _ Tryz.underlying9
  |some a=>
   have hl:(loadCells a 0).run Tryz.prog w= .ok (([]:List Int).map (Value.int .u8)).toArray w:=rfl
   rw[List.length_nil,run_convert_bytes_string w _ _ _ _ 0 cap Tryz.underlying46 Tryz.underlying5 Tryz.underlying9,run_bytesToString w _ 0 cap [] hl]
   rfl
def zBY (b:Nat):Bool:=b !=0&&b !=10&&b !=47
section
variable {w:World} {oa:Option Addr} {T:List Nat} {cap b:Nat}
theorem zFx (s:ByteArray) (hs:(s.size:Int)≤9223372036854775807):
  Calls Tryz.prog 247 #[.string s] w fun e w'=>e= .returned (.bool ((zAs s).all zBY&&decide (1≤s.size∧s.size≤64)))∧w=w':=by
 obtain⟨R,hR⟩: ∃R,((zAs s).all zBY&&decide (1≤s.size∧s.size≤64))=R:=⟨_,rfl⟩
 have HR:=zL8 hR
 rw[hR]
 clear hR
 go_enter Tryz.func247,Tryz.ntmps247
 go_wp2_with fail
 go_loopg [3] s.size (fun gk iv wr=> ∃i:Nat,iv= .int .i64 (i:Nat)∧gk=s.size - i∧i≤s.size∧w=wr∧Hid ((zAs s).all zBY=((zAs s).drop i).all zBY))
 case atStart=>exact⟨0,rfl,by omega,by omega,rfl,rfl⟩
 case round=>
  obtain⟨i,rfl,hg,hi,rfl,HS⟩:=hrel
  have HG:=zL8 hg
  clear hg
  by_cases hlt:i<s.size
  ·have hlt':(i:Int)<(s.size:Int):=by omega
   have HD:=zL8 (zGf (p:=zBY) (l:=zAs s) (k:=i) (by rw[zAz];exact hlt))
   have HX:=zL8 (zC4 s i hlt)
   by_cases h0:s[i].toNat=0
   ·have HE:=zL8 (show R=false by rw[←HR.out,HS.out,HD.out,HX.out,h0];rfl)
    clear HS HD HX
    go_wp2_with fail
    go_ret
    exact⟨zAE HE.out.symm,rfl⟩
   have q0:((s[i].toNat:Int)==0)=false:=zME.2 (by omega)
   by_cases h1:s[i].toNat=10
   ·have HE:=zL8 (show R=false by rw[←HR.out,HS.out,HD.out,HX.out,h1];rfl)
    clear HS HD HX h0 q0
    go_wp2_with fail
    go_ret
    exact⟨zAE HE.out.symm,rfl⟩
   have q1:((s[i].toNat:Int)==10)=false:=zME.2 (by omega)
   by_cases h2:s[i].toNat=47
   ·have HE:=zL8 (show R=false by rw[←HR.out,HS.out,HD.out,HX.out,h2];rfl)
    clear HS HD HX h0 q0 h1 q1
    go_wp2_with fail
    go_ret
    exact⟨zAE HE.out.symm,rfl⟩
   have q2:((s[i].toNat:Int)==47)=false:=zME.2 (by omega)
   have HE:=zL8 (show(zAs s).all zBY=((zAs s).drop (i+1)).all zBY by
    rw[HS.out,HD.out,HX.out,show zBY s[i].toNat=true by unfold zBY;rw[bne_iff_ne.2 h0,bne_iff_ne.2 h1,bne_iff_ne.2 h2];rfl];rfl)
   clear HS HD HX h0 h1 h2
   go_wp2_with fail
   go_roundg (s.size - (i+1))
   case measure=>have:=HG.out;omega
   case rel=>exact⟨i+1,by go_num,rfl,by omega,rfl,HE.out⟩
  ·have hlt': ¬(i:Int)<(s.size:Int):=by omega
   have HE:=zL8 (show R=decide (1≤s.size∧s.size≤64)by rw[←HR.out,HS.out,List.drop_eq_nil_of_le (by rw[zAz];omega)];rfl)
   clear HS
   by_cases h1:1≤s.size
   case neg=>
    have HF:=zL8 (show R=false by rw[HE.out,zMK (by omega)])
    have q1: ¬(1:Int)≤(s.size:Int):=by omega
    clear h1
    go_wp2_with fail
    go_ret
    exact⟨zAE HF.out.symm,rfl⟩
   have q1:(1:Int)≤(s.size:Int):=by omega
   by_cases h2:s.size≤64
   ·have HF:=zL8 (show R=true by rw[HE.out,zMJ (by omega)])
    have q2:(s.size:Int)≤64:=by omega
    clear h1 h2
    go_wp2_with fail
    go_ret
    exact⟨zAE HF.out.symm,rfl⟩
   ·have HF:=zL8 (show R=false by rw[HE.out,zMK (by omega)])
    have q2: ¬(s.size:Int)≤64:=by omega
    clear h1 h2
    go_wp2_with fail
    go_ret
    exact⟨zAE HF.out.symm,rfl⟩
theorem zF5 (h:zBU w oa T) (hl:T.length≤maxLen) (hu: ∀b∈T,b<256):
  Calls Tryz.prog 226 #[.slice oa T.length cap] w fun e w'=>e= .returned (.bool (zA1 T))∧w=w':=by
 have hcv:=zBP (cap:=cap) h
 have HN:=zL8 (zFx (w:=w) (strOfNums (T.map fun b:Nat=>(b:Int))) (by rw[strOfNums_size,List.length_map];exact zBR hl))
 rw[zB5 T hu,strOfNums_size,List.length_map]at HN
 obtain⟨R,hR⟩: ∃R,zA1 T=R:=⟨_,rfl⟩
 have HR:=zL8 hR
 rw[hR]
 have HT:=zL8 h
 have hz:=zBR hl
 clear h hl hu hR
 go_enter Tryz.func226,Tryz.ntmps226
 go_wp2_with fail
 refine HN.out.mono ?_;rintro e w1 ⟨rfl,rfl⟩
 have HE:=zL8 (show R=(decide (1≤T.length∧T.length≤64)&&T.all zBY&& !(zAa (T.getD 0 0)))from HR.out.symm)
 clear HN HR hcv
 cases hq:(T.all zBY&&decide (1≤T.length∧T.length≤64))with
 |false=>
  have HF:=zL8 (show R=false by rw[HE.out,Bool.and_comm (decide _),hq];rfl)
  clear hq
  go_wp2_with fail
  go_ret
  exact⟨zAE HF.out.symm,rfl⟩
 |true=>
  have HF:=zL8 (show R= !zAa (T.getD 0 0)by rw[HE.out,Bool.and_comm (decide _),hq];rfl)
  rw[Bool.and_eq_true,decide_eq_true_eq]at hq
  obtain⟨g,o,rfl,hc⟩:=HT.out (by omega)
  have n0:=hc 0 (by omega)
  rw[Nat.add_zero]at n0
  have hp:(0:Int)<(T.length:Int):=by omega
  revert HF n0
  generalize T.getD 0 0=x
  intro HF n0
  clear hc hq HE
  go_wp2_with fail
  refine(zB6 (b:=x)).mono ?_;rintro e wq ⟨rfl,rfl⟩
  cases hbx:zAa x with
  |true=>
   have HF2:=zL8 (show R=false by rw[HF.out,hbx];rfl)
   clear hbx
   go_wp2_with fail
   go_ret
   exact⟨zAE HF2.out.symm,rfl⟩
  |false=>
   have HF2:=zL8 (show R=true by rw[HF.out,hbx];rfl)
   clear hbx
   go_wp2_with fail
   go_ret
   exact⟨zAE HF2.out.symm,rfl⟩
end
section
variable {w:World} {oa:Option Addr} {K:List Int} {P:List Pc} {ca:Nat}
theorem zFy (hv:PkR w oa K) (hl:K.length≤9223372036854775807):Calls Tryz.prog 194 #[.slice oa K.length ca] w fun e w'=>e= .returned (.int .i64 (zBw K))∧Below w.heap.size w w':=by
 have HV:=zL8 hv
 clear hv
 go_enter Tryz.func194,Tryz.ntmps194
 go_wp2_with fail
 go_loopg [3,4] K.length (fun gk mv kv wr=> ∃k:Nat,mv= .int .i64 (zBw (K.take k))∧kv= .int .i64 (k:Nat)∧gk=K.length - k∧k≤K.length∧Below w.heap.size w wr)
 case atStart=>exact⟨0,rfl,rfl,by omega,by omega,zL9 _ _⟩
 case round=>
 obtain⟨k,rfl,rfl,hg,hk,hb⟩:=hrel
 have HG:=zL8 hg
 have HBr:=zL8 hb
 by_cases hlt:k<K.length
 ·have hlt':(k:Int)<(K.length:Int):=by omega
  obtain⟨nb,no,rfl,hml,hcs⟩:=(HV.out.below hb) (by omega)
  obtain⟨z0,o,n,c,z1⟩:=hcs k K[k] (zMP hlt)
  have hmk:Hid (zBw (K.take (k+1))=max (zBw (K.take k)) K[k]):=zL8 (by
   show List.foldl _ _ _=_;rw[List.take_add_one,zMP hlt,List.foldl_append];rfl)
  generalize K[k]=x at z0 hmk
  generalize zBw (K.take k)=mm at hmk ⊢
  clear hg hb hcs z1
  by_cases hx:mm<x
  ·have HM:=zL8 (show zBw (K.take (k+1))=x by rw[hmk.out];omega)
   go_wp2_with fail
   go_roundg (K.length - (k+1))
   case measure=>have:=HG.out;omega
   case rel=>exact⟨k+1,by rw[HM.out],by go_num,rfl,by omega,HBr.out⟩
  ·have HM:=zL8 (show zBw (K.take (k+1))=mm by rw[hmk.out];omega)
   go_wp2_with fail
   go_roundg (K.length - (k+1))
   case measure=>have:=HG.out;omega
   case rel=>exact⟨k+1,by rw[HM.out],by go_num,rfl,by omega,HBr.out⟩
 ·obtain rfl:k=K.length:=by omega
  have hlt': ¬(K.length:Int)<(K.length:Int):=by omega
  have HT:Hid (zBw (K.take K.length)=zBw K):=zL8 (by rw[List.take_length])
  clear hlt hg hb
  go_wp2_with fail
  go_ret
  exact⟨by rw[←HT.out];rfl,HBr.out⟩
def pvP (P:List Pc):Nat→Bool
 |0=>false
 |k+1=>decide ((P.getD k ⟨0,[]⟩).k= -1)
theorem zCc (hv:PcR w oa P) (hl:P.length≤9223372036854775807):Calls Tryz.prog 196 #[.slice oa P.length ca] w fun e w'=>e= .returned (.bool (zAM P false))∧Below w.heap.size w w':=by
 obtain⟨R,hR⟩: ∃R,zAM P false=R:=⟨_,rfl⟩
 rw[hR]
 have HR:=zL8 hR
 have HV:=zL8 hv
 clear hv hR
 go_enter Tryz.func196,Tryz.ntmps196
 go_wp2_with fail
 go_loopg [3] P.length (fun gk kv wr=> ∃k:Nat,kv= .int .i64 (k:Nat)∧gk=P.length - k∧k≤P.length∧Hid (R=zAM (P.drop k) (pvP P k))∧Below w.heap.size w wr)
 case atStart=>exact⟨0,rfl,by omega,by omega,HR.out.symm,zL9 _ _⟩
 case round=>
 obtain⟨k,rfl,hg,hk,HE,hb⟩:=hrel
 have HG:=zL8 hg
 have HBr:=zL8 hb
 by_cases hlt:k<P.length
 case neg=>
  obtain rfl:k=P.length:=by omega
  have hlt': ¬(P.length:Int)<(P.length:Int):=by omega
  have HF:=zL8 (show R=true by rw[HE.out,List.drop_eq_nil_of_le (zMA _)];rfl)
  clear hlt hg hb HE
  go_wp2_with fail
  go_ret
  exact⟨zAE HF.out.symm,HBr.out⟩
 have hlt':(k:Int)<(P.length:Int):=by omega
 have HLT:=zL8 hlt
 obtain⟨nb,no,rfl,hml,hcs⟩:=(HV.out.below hb) (by omega)
 obtain⟨z0,o,c,z1⟩:=hcs k P[k] (zMP hlt)
 have HX:Hid (R=if P[k].k= -1 then !P[k].t.isEmpty&& !pvP P k&&zAM (P.drop (k+1)) true else decide (0≤P[k].k∧P[k].k≤9)&&P[k].t.isEmpty&&zAM (P.drop (k+1)) false):=zL8 (by
  rw[HE.out,List.drop_eq_getElem_cons hlt,zAM];rfl)
 have HPV:Hid (pvP P (k+1)=decide (P[k].k= -1)):=zL8 (by
  show decide ((P.getD k ⟨0,[]⟩).k= -1)=_;rw[zMH,zMP hlt];rfl)
 have HPR:Hid (∀j,k=j+1→ ∃yk:Int,wr.cell? ⟨nb,no+j*2,none⟩=some (.int .i64 yk)∧pvP P k=decide (yk= -1)):=zL8 fun j e=>by
  subst e
  refine⟨P[j].k,(hcs j P[j] (zMP (by omega))).1,?_⟩
  show decide ((P.getD j ⟨0,[]⟩).k= -1)=_;rw[zMH,zMP (by omega)];rfl
 generalize P[k]=x at z0 z1 HX HPV
 obtain⟨xk,xt⟩:=x
 simp only at z0 z1 HX HPV
 have hba:=(zL9 wr.heap.size wr).alloc (zMA _) (.cells #[.int .i64 xk,.slice o xt.length c] 73)
 have d0:(wr.alloc (.cells #[.int .i64 xk,.slice o xt.length c] 73)).cell? ⟨wr.heap.size,0,none⟩=some (.int .i64 xk):=(zMN _ _ 0 _ _ (0,0) (zML wr _)).trans rfl
 have d1:(wr.alloc (.cells #[.int .i64 xk,.slice o xt.length c] 73)).cell? ⟨wr.heap.size,1,none⟩=some (.slice o xt.length c):=(zMN _ _ 1 _ _ (0,0) (zML wr _)).trans rfl
 have HB1:=zL8 (HBr.out.trans (hba.mono HBr.out.size))
 have hnw:wr.heap.size<(wr.alloc (.cells #[.int .i64 xk,.slice o xt.length c] 73)).heap.size:=by simp
 have HPR1:Hid (∀j,k=j+1→ ∃yk:Int,(wr.alloc (.cells #[.int .i64 xk,.slice o xt.length c] 73)).cell? ⟨nb,no+j*2,none⟩=some (.int .i64 yk)∧pvP P k=decide (yk= -1)):=zL8 fun j e=>by
  obtain⟨yk,h1,h2⟩:=HPR.out j e
  exact⟨yk,(hba.cell (p:=⟨nb,no+j*2,none⟩) hml).trans h1,h2⟩
 clear hg hb hcs hba HE hlt HPR
 go_upto_region 5 with fail
 obtain⟨W1,hW1⟩: ∃W,wr.alloc (.cells #[.int .i64 xk,.slice o xt.length c] 73)=W:=⟨_,rfl⟩
 rw[hW1]at d0 d1 HB1 hnw HPR1 ⊢
 obtain⟨a1,ha1⟩: ∃a,wr.heap.size=a:=⟨_,rfl⟩
 rw[ha1]at d0 d1 hnw ⊢
 clear hW1 ha1 z0 z1 hml
 by_cases h1:xk< -1
 ·have HF:=zL8 (show R=false by rw[HX.out,if_neg (by omega),zMK (by omega)];rfl)
  clear HX HPR1
  go_wp2_with fail
  go_ret
  exact⟨zAE HF.out.symm,HB1.out⟩
 by_cases h2:9<xk
 ·have HF:=zL8 (show R=false by rw[HX.out,if_neg (by omega),zMK (by omega)];rfl)
  clear HX HPR1
  go_wp2_with fail
  go_ret
  exact⟨zAE HF.out.symm,HB1.out⟩
 by_cases h3:xk= -1
 ·subst h3
  clear h1 h2
  by_cases h4:xt=[]
  ·subst h4
   have HF:=zL8 (show R=false by rw[HX.out,if_pos rfl];rfl)
   clear HX HPR1
   go_wp2_with fail
   go_ret
   exact⟨zAE HF.out.symm,HB1.out⟩
  have hp:0<xt.length:=List.length_pos_iff.2 h4
  have HF:=zL8 (show R=(!pvP P k&&zAM (P.drop (k+1)) true)by rw[HX.out,if_pos rfl,List.isEmpty_eq_false_iff.2 h4];rfl)
  have HPV2:=zL8 (show pvP P (k+1)=true by rw[HPV.out];rfl)
  clear HX h4 HPV
  cases k with
  |zero=>
   have HF2:=zL8 (show R=zAM (P.drop (0+1)) (pvP P (0+1))by rw[HF.out,HPV2.out];rfl)
   clear HF HPR1 HPV2
   go_wp2_with fail
   go_roundg (P.length - (0+1))
   case measure=>have:=HG.out;have:=HLT.out;omega
   case rel=>exact⟨0+1,congrArg (Value.int .i64) (by omega),rfl,HLT.out,HF2.out,HB1.out⟩
  |succ j=>
   obtain⟨yk,y0,hy⟩:=HPR1.out j rfl
   have hk1:((j+1:Nat):Int) - 1=(j:Int):=by omega
   have hk2:(j:Int)<(P.length:Int):=by have:=HLT.out;omega
   have hk3:0<j+1:=by omega
   have HJ:=zL8 (show((j+1:Nat):Int)=(j:Int)+1 by omega)
   have HY:=zL8 hy
   clear hy HPR1
   by_cases h5:yk= -1
   ·have HF2:=zL8 (show R=false by rw[HF.out,HY.out,zMJ h5];rfl)
    subst h5
    clear HF
    go_wp2_with fail
    go_ret
    exact⟨zAE HF2.out.symm,HB1.out⟩
   have HF2:=zL8 (show R=zAM (P.drop (j+1+1)) (pvP P (j+1+1))by rw[HF.out,HY.out,HPV2.out,zMK h5];rfl)
   have q5:(yk== -1)=false:=zME.2 h5
   clear HF h5
   go_wp2_with fail
   go_roundg (P.length - (j+1+1))
   case measure=>have:=HG.out;have:=HLT.out;omega
   case rel=>exact⟨j+1+1,congrArg (Value.int .i64) (by omega),rfl,HLT.out,HF2.out,HB1.out⟩
 have q3:(xk== -1)=false:=zME.2 h3
 by_cases h4:xt=[]
 ·subst h4
  have HF:=zL8 (show R=zAM (P.drop (k+1)) (pvP P (k+1))by rw[HX.out,HPV.out,if_neg h3,zMJ (by omega),zMK h3];rfl)
  clear HX HPR1 HPV h3
  by_cases hkz:0<k
  ·go_wp2_with fail
   go_roundg (P.length - (k+1))
   case measure=>have:=HG.out;have:=HLT.out;omega
   case rel=>exact⟨k+1,congrArg (Value.int .i64) (by omega),rfl,HLT.out,HF.out,HB1.out⟩
  ·go_wp2_with fail
   go_roundg (P.length - (k+1))
   case measure=>have:=HG.out;have:=HLT.out;omega
   case rel=>exact⟨k+1,congrArg (Value.int .i64) (by omega),rfl,HLT.out,HF.out,HB1.out⟩
 ·have hp:0<xt.length:=List.length_pos_iff.2 h4
  have HF:=zL8 (show R=false by rw[HX.out,if_neg h3,List.isEmpty_eq_false_iff.2 h4,Bool.and_false];rfl)
  clear HX HPR1 HPV h3 h4
  go_wp2_with fail
  go_ret
  exact⟨zAE HF.out.symm,HB1.out⟩
end
end
section
open Go.RowKit
theorem zKi {w:World} {base:Nat} {l:List Value} {nm:Nat} {wr:Bool} {tx:List Nat} {o:Option Addr} {cp:Nat} (h7:l[7]?=some (.int .u8 (nm:Nat))) (h9:l[9]?=some (.slice o tx.length cp)) (h15:l[15]?=some (.bool wr)) (hby:Bys w base (.slice o tx.length cp) tx) (hu: ∀b∈tx,b<256) (U:U8V w):
  Calls Tryz.prog 107 #[.agg l.toArray] w fun e w'=>e= .returned (.bool (zCe nm wr tx))∧Below w.heap.size w w':=by
 have hnew:=zML w (.cells l.toArray 71)
 have hbl:=(zL9 w.heap.size w).alloc (zMA _) (.cells l.toArray 71)
 have c7:(w.alloc (.cells l.toArray 71)).cell? ⟨w.heap.size,7,none⟩=some (.int .u8 (nm:Nat)):=(zMN _ _ 7 _ _ (0,0) hnew).trans (by simpa using h7)
 have c9:(w.alloc (.cells l.toArray 71)).cell? ⟨w.heap.size,9,none⟩=some (.slice o tx.length cp):=(zMN _ _ 9 _ _ (0,0) hnew).trans (by simpa using h9)
 have c15:(w.alloc (.cells l.toArray 71)).cell? ⟨w.heap.size,15,none⟩=some (.bool wr):=(zMN _ _ 15 _ _ (0,0) hnew).trans (by simpa using h15)
 have hby2:Bys (w.alloc (.cells l.toArray 71)) base (.slice o tx.length cp) tx:=Bys.kept (S:=fun _=>False) hby (zAb.bel hbl) fun _ _ e=>e
 have HU8:=U.below hbl
 have HLB:=zL8 (zE9 hby2 hu)
 have HFB:=zL8 (zF2 (zJq (by obtain⟨o2,cp2,e2,hrow⟩:=hby2;cases e2;exact hrow)).1 hu (zJq (by obtain⟨o2,cp2,e2,hrow⟩:=hby2;cases e2;exact hrow)).2 HU8)
 clear hby hby2 hu U HU8
 obtain⟨R,hR⟩: ∃R,zCe nm wr tx=R:=⟨_,rfl⟩
 rw[hR]
 have HS:=zL8 hR
 have HB:=zL8 hbl
 clear h7 h9 h15 hnew hbl hR
 go_enter Tryz.func107,Tryz.ntmps107
 go_upto_region 1 with fail
 obtain⟨b,hb⟩: ∃b,w.heap.size=b:=⟨_,rfl⟩
 have HBQ:=zL8 hb
 rw[hb]at c7 c9 c15 ⊢
 clear hb
 obtain⟨W,hW⟩: ∃W,w.alloc (.cells l.toArray 71)=W:=⟨_,rfl⟩
 rw[hW]at c7 c9 c15 HB HLB HFB ⊢
 clear hW
 by_cases n97:nm=97
 ·subst n97
  have HE:=zL8 (show R=true by have:=HS.out;rw[←this];rfl)
  clear HLB HFB
  go_wp2_with fail
  go_ret
  exact⟨zAE HE.out.symm,HB.out⟩
 have q97:((nm:Int)==97)=false:=zME.2 (by omega)
 by_cases n99:nm=99
 ·subst n99
  have HE:=zL8 (show R=true by have:=HS.out;rw[←this];rfl)
  clear HLB HFB
  go_wp2_with fail
  go_ret
  exact⟨zAE HE.out.symm,HB.out⟩
 have q99:((nm:Int)==99)=false:=zME.2 (by omega)
 by_cases n105:nm=105
 ·subst n105
  have HE:=zL8 (show R=true by have:=HS.out;rw[←this];rfl)
  clear HLB HFB
  go_wp2_with fail
  go_ret
  exact⟨zAE HE.out.symm,HB.out⟩
 have q105:((nm:Int)==105)=false:=zME.2 (by omega)
 by_cases n98:nm=98
 ·subst n98
  have HE:=zL8 (show R=zAx tx by have:=HS.out;rw[←this];rfl)
  go_wp2_with fail
  refine HLB.out.mono ?_;rintro e w1 ⟨rfl,hb1⟩
  have HB1:=zL8 (HB.out.trans (hb1.mono HB.out.size))
  clear hb1
  go_wp2_with fail
  go_ret
  exact⟨zAE HE.out.symm,HB1.out⟩
 have q98:((nm:Int)==98)=false:=zME.2 (by omega)
 by_cases n116:nm=116
 ·subst n116
  have HE:=zL8 (show R=zAx tx by have:=HS.out;rw[←this];rfl)
  go_wp2_with fail
  refine HLB.out.mono ?_;rintro e w1 ⟨rfl,hb1⟩
  have HB1:=zL8 (HB.out.trans (hb1.mono HB.out.size))
  clear hb1
  go_wp2_with fail
  go_ret
  exact⟨zAE HE.out.symm,HB1.out⟩
 have q116:((nm:Int)==116)=false:=zME.2 (by omega)
 by_cases n58:nm=58
 ·subst n58
  by_cases h0:tx=[]
  ·subst h0
   have HE:=zL8 (show R=false by have:=HS.out;rw[←this];rfl)
   clear HLB HFB
   go_wp2_with fail
   go_ret
   exact⟨zAE HE.out.symm,HB.out⟩
  have hp:0<tx.length:=List.length_pos_iff.2 h0
  have HE:=zL8 (show R=zAx tx by have:=HS.out;rw[←this];show(!tx.isEmpty&&zAx tx)=_;rw[List.isEmpty_eq_false_iff.2 h0];rfl)
  clear h0
  go_wp2_with fail
  refine HLB.out.mono ?_;rintro e w1 ⟨rfl,hb1⟩
  have HB1:=zL8 (HB.out.trans (hb1.mono HB.out.size))
  clear hb1
  go_wp2_with fail
  go_ret
  exact⟨zAE HE.out.symm,HB1.out⟩
 have q58:((nm:Int)==58)=false:=zME.2 (by omega)
 by_cases n114:nm=114
 ·subst n114
  have HE:=zL8 (show R=zA1 tx by have:=HS.out;rw[←this];rfl)
  go_wp2_with fail
  refine HFB.out.mono ?_;rintro e w1 ⟨rfl,hb1⟩
  have HB1:=zL8 (HB.out.trans (hb1.mono HB.out.size))
  clear hb1
  go_wp2_with fail
  go_ret
  exact⟨zAE HE.out.symm,HB1.out⟩
 have q114:((nm:Int)==114)=false:=zME.2 (by omega)
 by_cases n119:nm=119
 ·subst n119
  have HE:=zL8 (show R=zA1 tx by have:=HS.out;rw[←this];rfl)
  go_wp2_with fail
  refine HFB.out.mono ?_;rintro e w1 ⟨rfl,hb1⟩
  have HB1:=zL8 (HB.out.trans (hb1.mono HB.out.size))
  clear hb1
  go_wp2_with fail
  go_ret
  exact⟨zAE HE.out.symm,HB1.out⟩
 have q119:((nm:Int)==119)=false:=zME.2 (by omega)
 have HE0:Hid (¬(nm=115∧wr=true)→R=tx.isEmpty):=zL8 fun h=>by
  have:=HS.out
  unfold zCe at this
  rw[if_neg (by omega),if_neg (by omega),if_neg (by omega),if_neg (by omega),if_neg h]at this
  exact this.symm
 clear HLB
 by_cases n115:nm=115
 ·subst n115
  cases wr with
  |true=>
   have HE:=zL8 (show R=zA1 tx by have:=HS.out;rw[←this];rfl)
   go_wp2_with fail
   refine HFB.out.mono ?_;rintro e w1 ⟨rfl,hb1⟩
   have HB1:=zL8 (HB.out.trans (hb1.mono HB.out.size))
   clear hb1
   go_wp2_with fail
   go_ret
   exact⟨zAE HE.out.symm,HB1.out⟩
  |false=>
   have HE:=zL8 (HE0.out (fun h=>by cases h.2))
   clear HFB HE0
   by_cases h0:tx=[]
   ·subst h0
    go_wp2_with fail
    go_ret
    exact⟨zAE HE.out.symm,HB.out⟩
   ·have hz:((tx.length:Int)==0)=false:=zME.2 (by have:=List.length_pos_iff.2 h0;omega)
    have HF:=zL8 (show R=false by rw[HE.out,List.isEmpty_eq_false_iff.2 h0])
    clear h0
    go_wp2_with fail
    go_ret
    exact⟨zAE HF.out.symm,HB.out⟩
 have q115:((nm:Int)==115)=false:=zME.2 (by omega)
 have HE:=zL8 (HE0.out (fun h=>n115 h.1))
 clear HFB HE0
 by_cases h0:tx=[]
 ·subst h0
  go_wp2_with fail
  go_ret
  exact⟨zAE HE.out.symm,HB.out⟩
 ·have hz:((tx.length:Int)==0)=false:=zME.2 (by have:=List.length_pos_iff.2 h0;omega)
  have HF:=zL8 (show R=false by rw[HE.out,List.isEmpty_eq_false_iff.2 h0])
  clear h0
  go_wp2_with fail
  go_ret
  exact⟨zAE HF.out.symm,HB.out⟩
theorem zKh {w:World} {l:List Value} {nm:Nat} {wr:Bool} {tx:List Nat} {o:Option Addr} {cp:Nat} (h7:l[7]?=some (.int .u8 (nm:Nat))) (h9:l[9]?=some (.slice o tx.length cp)) (h15:l[15]?=some (.bool wr)) (h:zBU w o tx) (hl:tx.length≤maxLen) (hu: ∀b∈tx,b<256):
  Calls Tryz.prog 192 #[.agg l.toArray] w fun e w'=>e= .returned (.bool (zCe nm wr tx))∧Below w.heap.size w w':=by
 have hnew:=zML w (.cells l.toArray 71)
 have hbl:=(zL9 w.heap.size w).alloc (zMA _) (.cells l.toArray 71)
 have c7:(w.alloc (.cells l.toArray 71)).cell? ⟨w.heap.size,7,none⟩=some (.int .u8 (nm:Nat)):=(zMN _ _ 7 _ _ (0,0) hnew).trans (by simpa using h7)
 have c9:(w.alloc (.cells l.toArray 71)).cell? ⟨w.heap.size,9,none⟩=some (.slice o tx.length cp):=(zMN _ _ 9 _ _ (0,0) hnew).trans (by simpa using h9)
 have c15:(w.alloc (.cells l.toArray 71)).cell? ⟨w.heap.size,15,none⟩=some (.bool wr):=(zMN _ _ 15 _ _ (0,0) hnew).trans (by simpa using h15)
 have HLB:=zL8 (zE7 (cap:=cp) (h.below hbl) hl)
 have HFB:=zL8 (zF5 (cap:=cp) (h.below hbl) hl hu)
 have A0:=zL8 (fun w=>zCv (w:=w) (b:=nm) ⟨#[97,99,105]⟩ [97,99,105] rfl (by decide))
 have A1:=zL8 (fun w=>zCv (w:=w) (b:=nm) ⟨#[98,116]⟩ [98,116] rfl (by decide))
 have A2:=zL8 (fun w=>zCv (w:=w) (b:=nm) ⟨#[114,119]⟩ [114,119] rfl (by decide))
 clear h hl hu
 obtain⟨R,hR⟩: ∃R,zCe nm wr tx=R:=⟨_,rfl⟩
 rw[hR]
 have HS:=zL8 hR
 have HB:=zL8 hbl
 clear h7 h9 h15 hnew hbl hR
 go_enter Tryz.func192,Tryz.ntmps192
 go_upto_region 1 with fail
 obtain⟨b,hb⟩: ∃b,w.heap.size=b:=⟨_,rfl⟩
 have HBQ:=zL8 hb
 rw[hb]at c7 c9 c15 ⊢
 clear hb
 obtain⟨W,hW⟩: ∃W,w.alloc (.cells l.toArray 71)=W:=⟨_,rfl⟩
 rw[hW]at c7 c9 c15 HB HLB HFB ⊢
 clear hW
 go_wp2_with fail
 refine(A0.out _).mono ?_;rintro e wa ⟨rfl,rfl⟩
 by_cases m0:nm∈[97,99,105]
 ·rw[zMJ m0]
  have HE:=zL8 (show R=true by have:=HS.out;rw[←this];unfold zCe;rw[if_pos (by simpa using m0)])
  clear m0 HLB HFB A1 A2
  go_wp2_with fail
  go_ret
  exact⟨zAE HE.out.symm,HB.out⟩
 rw[zMK m0]
 have M0:=zL8 (show¬(nm=97∨nm=99∨nm=105)by simpa using m0)
 clear m0
 go_wp2_with fail
 refine(A1.out _).mono ?_;rintro e wa ⟨rfl,rfl⟩
 by_cases m1:nm∈[98,116]
 ·rw[zMJ m1]
  have HE:=zL8 (show R=zAx tx by have:=HS.out;rw[←this];unfold zCe;rw[if_neg M0.out,if_pos (by simpa using m1)])
  clear m1 HFB A2
  go_wp2_with fail
  refine HLB.out.mono ?_;rintro e w1 ⟨rfl,hb1⟩
  have HB1:=zL8 (HB.out.trans (hb1.mono HB.out.size))
  clear hb1
  go_wp2_with fail
  go_ret
  exact⟨zAE HE.out.symm,HB1.out⟩
 rw[zMK m1]
 have M1:=zL8 (show¬(nm=98∨nm=116)by simpa using m1)
 clear m1
 by_cases n58:nm=58
 ·subst n58
  have HE:=zL8 (show R=(!tx.isEmpty&&zAx tx)by have:=HS.out;rw[←this];rfl)
  clear HFB A2
  go_wp2_with fail
  refine HLB.out.mono ?_;rintro e w1 ⟨rfl,hb1⟩
  have HB1:=zL8 (HB.out.trans (hb1.mono HB.out.size))
  have hbk:b<W.heap.size:=zMf _ _ c9
  have c9':=(hb1.cell (p:=⟨b,9,none⟩) hbk).trans c9
  clear hb1 c7 c9 c15 hbk
  cases hl:zAx tx with
  |false=>
   have HF:=zL8 (show R=false by rw[HE.out,hl,Bool.and_false])
   clear hl
   go_wp2_with fail
   go_ret
   exact⟨zAE HF.out.symm,HB1.out⟩
  |true=>
   by_cases h0:tx=[]
   ·subst h0
    have HF:=zL8 (show R=false by rw[HE.out];rfl)
    clear hl
    go_wp2_with fail
    go_ret
    exact⟨zAE HF.out.symm,HB1.out⟩
   have hp:0<tx.length:=List.length_pos_iff.2 h0
   have HF:=zL8 (show R=true by rw[HE.out,hl,List.isEmpty_eq_false_iff.2 h0];rfl)
   clear hl h0
   go_wp2_with fail
   go_ret
   exact⟨zAE HF.out.symm,HB1.out⟩
 have q58:((nm:Int)==58)=false:=zME.2 (by omega)
 have N58:=zL8 n58
 clear n58
 go_wp2_with fail
 refine(A2.out _).mono ?_;rintro e wa ⟨rfl,rfl⟩
 by_cases m2:nm∈[114,119]
 ·rw[zMJ m2]
  have HE:=zL8 (show R=zA1 tx by have:=HS.out;rw[←this];unfold zCe;rw[if_neg M0.out,if_neg M1.out,if_neg N58.out,if_pos (by simpa using m2)])
  clear m2 HLB
  go_wp2_with fail
  refine HFB.out.mono ?_;rintro e w1 ⟨rfl,rfl⟩
  go_wp2_with fail
  go_ret
  exact⟨zAE HE.out.symm,HB.out⟩
 rw[zMK m2]
 have M2:=zL8 (show¬(nm=114∨nm=119)by simpa using m2)
 clear m2
 have HE0:Hid (¬(nm=115∧wr=true)→R=tx.isEmpty):=zL8 fun h=>by
  have:=HS.out
  unfold zCe at this
  rw[if_neg M0.out,if_neg M1.out,if_neg N58.out,if_neg M2.out,if_neg h]at this
  exact this.symm
 clear HLB
 by_cases n115:nm=115
 ·subst n115
  cases wr with
  |true=>
   have HE:=zL8 (show R=zA1 tx by have:=HS.out;rw[←this];rfl)
   go_wp2_with fail
   refine HFB.out.mono ?_;rintro e w1 ⟨rfl,rfl⟩
   have HB1:=HB
   go_wp2_with fail
   go_ret
   exact⟨zAE HE.out.symm,HB1.out⟩
  |false=>
   have HE:=zL8 (HE0.out (fun h=>by cases h.2))
   clear HFB HE0
   by_cases h0:tx=[]
   ·subst h0
    go_wp2_with fail
    go_ret
    exact⟨zAE HE.out.symm,HB.out⟩
   ·have hz:((tx.length:Int)==0)=false:=zME.2 (by have:=List.length_pos_iff.2 h0;omega)
    have HF:=zL8 (show R=false by rw[HE.out,List.isEmpty_eq_false_iff.2 h0])
    clear h0
    go_wp2_with fail
    go_ret
    exact⟨zAE HF.out.symm,HB.out⟩
 have q115:((nm:Int)==115)=false:=zME.2 (by omega)
 have HE:=zL8 (HE0.out (fun h=>n115 h.1))
 clear HFB HE0
 by_cases h0:tx=[]
 ·subst h0
  go_wp2_with fail
  go_ret
  exact⟨zAE HE.out.symm,HB.out⟩
 ·have hz:((tx.length:Int)==0)=false:=zME.2 (by have:=List.length_pos_iff.2 h0;omega)
  have HF:=zL8 (show R=false by rw[HE.out,List.isEmpty_eq_false_iff.2 h0])
  clear h0
  go_wp2_with fail
  go_ret
  exact⟨zAE HF.out.symm,HB.out⟩
end
end Go.Proofs.YtfcemodgopdkkaaGreatDoor
