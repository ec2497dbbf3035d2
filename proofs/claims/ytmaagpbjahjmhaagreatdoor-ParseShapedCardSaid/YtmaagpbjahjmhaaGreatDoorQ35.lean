/- Parts: Vz Vza Yb Yc. -/
import Derived.Test.YtmaagpbjahjmhaaGreatDoorQ34
import Derived.Test.YtmaagpbjahjmhaaGreatDoorQ32
import Derived.Lib.IndexEntry
import Derived.Lib.Bytealg
import Derived.Deep.WholeRow
set_option maxHeartbeats 6400000
set_option maxRecDepth 100000
namespace Go.Proofs.YtmaagpbjahjmhaaGreatDoor
section
open Go.RowKit
def okF (b:Nat):Bool:=b !=0&&b !=10&&b !=47
theorem ixF: ∀b:Nat,b<256→Lib.indexByte (⟨#[0,10,47]⟩:ByteArray).data.toList ((b:Int).toNat.toUInt8)=if b=0 then 0 else if b=10 then 1 else if b=47 then 2 else -1:=by decide+kernel
theorem zOg {b:Nat} (h:b<256) (h2:okF b=true):Lib.indexByte (⟨#[0,10,47]⟩:ByteArray).data.toList ((b:Int).toNat.toUInt8)= -1:=by
 simp only[okF,Bool.and_eq_true,bne_iff_ne]at h2
 rw[ixF b h,if_neg h2.1.1,if_neg h2.1.2,if_neg h2.2]
theorem zMe {b:Nat} (h:b<256) (h2:okF b=false): ∃k:Nat,Lib.indexByte (⟨#[0,10,47]⟩:ByteArray).data.toList ((b:Int).toNat.toUInt8)=(k:Int):=by
 rw[ixF b h]
 by_cases h0:b=0
 ·exact⟨0,by rw[if_pos h0];rfl⟩
 by_cases h1:b=10
 ·exact⟨1,by rw[if_neg h0,if_pos h1];rfl⟩
 by_cases h3:b=47
 ·exact⟨2,by rw[if_neg h0,if_neg h1,if_pos h3];rfl⟩
 ·simp[okF,h0,h1,h3]at h2
theorem zKI {b:Nat} (h:128≤b):okF b=true:=by
 simp only[okF,Bool.and_eq_true,bne_iff_ne];omega
theorem zQd: ∀b:Nat,b<256→(⟨#[0,10,47]⟩:ByteArray).data.toList.contains (UInt8.ofNat b)= !(okF b):=by decide+kernel
theorem zKa {T:List Nat} {i:Nat} (hi:i<T.length) (h:okF (T.getD i 0)=false):T.all okF=false:=by
 rw[List.all_eq_false]
 refine⟨T[i],List.getElem_mem hi,?_⟩
 rw[zQ0,zQ8 hi,Option.getD_some]at h
 rw[h];decide
theorem zKZ {T:List Nat} (h: ∀j,j<T.length→okF (T.getD j 0)=true):T.all okF=true:=by
 rw[List.all_eq_true]
 intro b hb
 obtain⟨j,hj,rfl⟩:=List.getElem_of_mem hb
 have:=h j hj
 rwa[zQ0,zQ8 hj,Option.getD_some]at this
theorem zQo {a b:UInt8} (h:128≤a.toNat):Lib.index (⟨#[0,10,47]⟩:ByteArray).data.toList (⟨#[a,b]⟩:ByteArray).data.toList= -1:=by
 have q: ∀x:UInt8,x.toNat<128→(a==x)=false:=fun x hx=>zQx.2 fun e=>by rw[e]at h;omega
 simp[Lib.index,List.isPrefixOf,q 0 (by decide),q 10 (by decide),q 47 (by decide)]
theorem zQn {a b c d:UInt8} (h:128≤a.toNat):Lib.index (⟨#[0,10,47]⟩:ByteArray).data.toList (⟨#[a,b,c,d]⟩:ByteArray).data.toList= -1:=by
 have q: ∀x:UInt8,x.toNat<128→(a==x)=false:=fun x hx=>zQx.2 fun e=>by rw[e]at h;omega
 simp[Lib.index,List.isPrefixOf,q 0 (by decide),q 10 (by decide),q 47 (by decide)]
section
variable {w w':World} {oa:Option Addr} {T:List Nat} {cap:Nat}
theorem zKj {P:Program} {ops:Array Oper} {rest:List Oper} {op:Oper} {a:Act} {w:World} {Q:Exit→Act→World→Prop} (hgd:op.guard=none) (t:TypeId) (x y:Operand) {t':TypeId} (ho:op.op= .binOp .eql t x y t') {A B:ByteArray}
  (hx:a.eval x= .string A) (hy:a.eval y= .string B) (h0:(A.toList==B.toList)=false) (h:wpList P ops Q rest (a.put op.dst (.bool false)) w):wpList P ops Q (op::rest) a w:=
 wpList_plain hgd fun _ hK=>by
  unfold Oper.wp execOp
  simp only[ho,hx,hy,binOp_string_eql,h0]
  exact hK _ _ h
def AnO (w:World) (T:List Nat) (e:Ending) (w':World):Prop:=(∃r:Int,e= .returned (.int .i64 r)∧decide (r<0)=T.all okF)∧Below w.heap.size w w'
theorem zFt (n:Nat):Calls Tryz.prog 193 #[.int .i64 (n:Nat)] w fun e w'=>e= .returned (.bool (decide (8<n)))∧w=w':=by
 by_cases h:8<n
 ·have h':(8:Int)<(n:Int):=by omega
  rw[zQ2 h]
  clear h
  go_enter Tryz.func193,Tryz.ntmps193
  go_wp2_with fail
  go_ret
  exact⟨rfl,rfl⟩
 ·have h': ¬(8:Int)<(n:Int):=by omega
  rw[zQ3 h]
  clear h
  go_enter Tryz.func193,Tryz.ntmps193
  go_wp2_with fail
  go_ret
  exact⟨rfl,rfl⟩
theorem zPN {b g o:Nat} (hc:w.cell? ⟨g,o,none⟩=some (.int .u8 (b:Nat))) (hu:b<256):
  Calls Tryz.prog 157 #[.slice (some ⟨g,o,none⟩) 1 cap,.string ⟨#[0,10,47]⟩] w (AnO w [b]):=by
 have HA:Hid ([b].all okF=okF b):=zQr (by simp)
 have HU:=zQr hu
 by_cases h1:128≤b
 ·have h1':(128:Int)≤(b:Int):=by omega
  have HO:=zQr (zKI h1)
  have n0: ∀ty,(Instr.next (.pointer (some ⟨w.heap.size,0,none⟩)) true ty).run Tryz.prog (w.iter ⟨#[0,10,47]⟩ 0)= .ok (.tuple #[.bool true,.int .i64 0,.int .i32 0]) (w.iter ⟨#[0,10,47]⟩ 1):=fun ty=>run_next_ascii w ⟨#[0,10,47]⟩ 0 ty (by decide) (by decide)
  have n1: ∀ty,(Instr.next (.pointer (some ⟨w.heap.size,0,none⟩)) true ty).run Tryz.prog (w.iter ⟨#[0,10,47]⟩ 1)= .ok (.tuple #[.bool true,.int .i64 1,.int .i32 10]) (w.iter ⟨#[0,10,47]⟩ 2):=fun ty=>run_next_ascii w ⟨#[0,10,47]⟩ 1 ty (by decide) (by decide)
  have n2: ∀ty,(Instr.next (.pointer (some ⟨w.heap.size,0,none⟩)) true ty).run Tryz.prog (w.iter ⟨#[0,10,47]⟩ 2)= .ok (.tuple #[.bool true,.int .i64 2,.int .i32 47]) (w.iter ⟨#[0,10,47]⟩ 3):=fun ty=>run_next_ascii w ⟨#[0,10,47]⟩ 2 ty (by decide) (by decide)
  have nn: ∀ty,(Instr.next (.pointer (some ⟨w.heap.size,0,none⟩)) true ty).run Tryz.prog (w.iter ⟨#[0,10,47]⟩ 3)= .ok (.tuple #[.bool false]) (w.iter ⟨#[0,10,47]⟩ 3):=fun ty=>run_next_end w ⟨#[0,10,47]⟩ 3 ty (by decide)
  clear h1
  go_enter Tryz.func157,Tryz.ntmps157
  go_wp2_with fail
  refine wp_loop_rounds 4 ?_
  rw[rounds_succ]
  go_wp2_with fail
  rw[rounds_succ]
  go_wp2_with fail
  rw[rounds_succ]
  go_wp2_with fail
  rw[rounds_succ]
  go_wp2_with fail
  go_ret
  exact⟨⟨-1,rfl,by rw[HA.out,HO.out];rfl⟩,(zQs _ _).alloc (zQt _) _⟩
 ·have h1': ¬(128:Int)≤(b:Int):=by omega
  clear h1
  cases h2:okF b with
  |true=>
   have hx:=zOg HU.out h2
   rw[h2]at HA
   clear h2
   go_enter Tryz.func157,Tryz.ntmps157
   go_wp2_with fail
   rw[run_callFunc_extern Tryz.func163 (by kernel_rfl) (by kernel_rfl) (by kernel_rfl) (e:=Extern.BytealgIndexByte.indexByte) (by kernel_rfl),Lib.run_indexByteString]
   simp only[Result.andThen]
   rw[Oper.upon_value,hx]
   go_wp2_with fail
   go_ret
   exact⟨⟨-1,rfl,by rw[HA.out];rfl⟩,zQs _ _⟩
  |false=>
   obtain⟨k,hx⟩:=zMe HU.out h2
   have hk:(0:Int)≤(k:Int):=by omega
   rw[h2]at HA
   clear h2
   go_enter Tryz.func157,Tryz.ntmps157
   go_wp2_with fail
   rw[run_callFunc_extern Tryz.func163 (by kernel_rfl) (by kernel_rfl) (by kernel_rfl) (e:=Extern.BytealgIndexByte.indexByte) (by kernel_rfl),Lib.run_indexByteString]
   simp only[Result.andThen]
   rw[Oper.upon_value,hx]
   go_wp2_with fail
   go_ret
   exact⟨⟨0,rfl,by rw[HA.out];rfl⟩,zQs _ _⟩
theorem zD2.rest {i g o:Nat} (h: ∀m,m<T.length→w.cell? ⟨g,o+m,none⟩=some (.int .u8 (T.getD m 0:Nat))) (hi:i≤T.length): ∀m,m<(T.drop i).length→w.cell? ⟨g,o+i+m,none⟩=some (.int .u8 ((T.drop i).getD m 0:Nat)):=fun m hm=>by
 rw[List.length_drop]at hm
 have:=h (i+m) (by omega)
 rw[zQ0,List.getElem?_drop,←zQ0,Nat.add_assoc]
 exact this
theorem zPO {g o:Nat} (hc: ∀m,m<T.length→w.cell? ⟨g,o+m,none⟩=some (.int .u8 (T.getD m 0:Nat))) (hu: ∀b∈T,b<256) (h1:2≤T.length) (h8:T.length≤8) (hcap:T.length≤cap) (U:U8V w):
  Calls Tryz.prog 157 #[.slice (some ⟨g,o,none⟩) T.length cap,.string ⟨#[0,10,47]⟩] w (AnO w T):=by
 have HC:=zQr hc
 have HU:=zQr hu
 have HV:=zQr U
 have H1:=zQr h1
 have H8:=zQr h8
 have HCP:=zQr hcap
 have q1:((T.length:Int)==1)=false:=zQx.2 (by omega)
 have HS:=zFt (w:=w) T.length
 rw[zQ3 (by omega)]at HS
 have HS:=zQr HS
 have hgl:g<w.heap.size:=zRO w _ (hc 0 (by omega))
 have HGL:=zQr hgl
 clear hc hu h1 hcap U hgl
 go_enter Tryz.func157,Tryz.ntmps157
 go_wp2_with fail
 refine HS.out.mono ?_;rintro e w1 ⟨rfl,rfl⟩
 go_wp2_with fail
 go_loopg [12] T.length (fun gk iv wr=> ∃i:Nat,iv= .int .i64 (i:Nat)∧gk=T.length - i∧i≤T.length∧Hid (∀j,j<i→okF (T.getD j 0)=true)∧Below w.heap.size w wr)
 case atStart=>exact⟨0,rfl,by omega,by omega,zQr (fun j hj=>by omega),zQs _ _⟩
 case round=>
 obtain⟨i,rfl,hg,hi,HP,hb⟩:=hrel
 have HG:=zQr hg
 have HB:=zQr hb
 clear HS
 by_cases hlt:i<T.length
 ·have hlt':(i:Int)<(T.length:Int):=by omega
  have hwr: ∀m,m<T.length→wr.cell? ⟨g,o+m,none⟩=some (.int .u8 (T.getD m 0:Nat)):=fun m hm=>(hb.cell (p:=⟨g,o+m,none⟩) HGL.out).trans (HC.out m hm)
  have HWR:=zQr hwr
  have hci:=hwr i hlt
  obtain⟨x,hx⟩: ∃x,T.getD i 0=x:=⟨_,rfl⟩
  rw[hx]at hci
  have HX:=zQr hx
  have hx256:x<256:=by
   rw[←hx,zQ0,zQ8 hlt]
   exact HU.out _ (List.getElem_mem hlt)
  have HX2:=zQr hx256
  have HI:=zQr (show i<T.length from hlt)
  clear hg hb hwr hx
  by_cases hx1:x<128
  ·have hx1':(x:Int)<128:=by omega
   clear hx1
   cases hok:okF x with
   |true=>
    have hix:=zOg HX2.out hok
    have HD:=zQr (show 1≤1∧i+1≤T.length∧Hid (∀j,j<i+1→okF (T.getD j 0)=true)from⟨zQt _,by omega,zQr fun j hj=>by
     by_cases e:j=i
     ·subst e;rw[HX.out];exact hok
     ·exact HP.out j (by omega)⟩)
    clear hok hlt
    go_wp2_with fail
    rw[run_callFunc_extern Tryz.func163 (by kernel_rfl) (by kernel_rfl) (by kernel_rfl) (e:=Extern.BytealgIndexByte.indexByte) (by kernel_rfl),Lib.run_indexByteString]
    simp only[Result.andThen]
    rw[Oper.upon_value,hix]
    go_wp2_with fail
    go_roundg (T.length - (i+1))
    case measure=>have:=HG.out;have:=HD.out;omega
    case rel=>exact⟨i+1,by go_num,rfl,HD.out.2.1,HD.out.2.2,HB.out⟩
   |false=>
    obtain⟨k,hix⟩:=zMe HX2.out hok
    have hk:(0:Int)≤(k:Int):=by omega
    have HS:=zQr (zKa HI.out (by rw[HX.out];exact hok))
    clear hok hlt
    go_wp2_with fail
    rw[run_callFunc_extern Tryz.func163 (by kernel_rfl) (by kernel_rfl) (by kernel_rfl) (e:=Extern.BytealgIndexByte.indexByte) (by kernel_rfl),Lib.run_indexByteString]
    simp only[Result.andThen]
    rw[Oper.upon_value,hix]
    go_wp2_with fail
    go_ret
    exact⟨⟨i,rfl,by rw[HS.out];exact zQ3 (by omega)⟩,HB.out⟩
  ·have hx1': ¬(x:Int)<128:=by omega
   have hsl:=zEy (some ⟨g,o,none⟩) T.length cap i hi
   rw[if_neg (by have:=HCP.out;omega),Option.map_some,show(⟨g,o,none⟩:Addr).add i=⟨g,o+i,none⟩from zCC _ _ _]at hsl
   obtain⟨r,k,hd⟩: ∃r k,Lib.decodeGo (zNX (T.drop i))=(r,k):=⟨_,_,rfl⟩
   have hdl:0<(T.drop i).length:=by rw[List.length_drop];omega
   have hd0:(T.drop i).getD 0 0=x:=by rw[←HX.out,zQ0,List.getElem?_drop,zQ0,Nat.add_zero]
   have hux: ∀b∈T.drop i,b<256:=fun b hb=>HU.out b (List.mem_of_mem_drop hb)
   obtain⟨d1,d2,d3,d4⟩:=zOG hux hdl (by rw[hd0];omega) hd
   have HDE:=Any7.utf8_DecodeRune zQI (zNX (T.drop i)) g (o+i) (cap - i) wr (Utf8Tabs_below HV.out.t HB.out) (fun j hj=>by
    rw[zEQ]at hj
    rw[zD2.rest HWR.out hi j hj,zDp hux])
   rw[hd,zEQ,List.length_drop]at HDE
   have HDE:=zQr HDE
   have HD:Hid (1≤k∧i+k≤T.length∧Hid (∀j,j<i+k→okF (T.getD j 0)=true)):=zQr ⟨d1,by rw[List.length_drop]at d2;omega,zQr fun j hj=>by
    by_cases e:j<i
    ·exact HP.out j e
    ·have h3:=d3 (j - i) (by omega)
     rw[zQ0,List.getElem?_drop,show i+(j - i)=j by omega,←zQ0]at h3
     exact zKI h3⟩
   have D4:=zQr d4
   have hik:i+k≤T.length:=HD.out.2.1
   clear d1 d2 d3 d4 hd hdl hd0 hux hx1 hlt
   go_wp2_with fail
   refine HDE.out.mono ?_;rintro e w2 ⟨rfl,hb2⟩
   have HB2:=zQr (HB.out.trans (hb2.mono HB.out.size))
   obtain⟨m,hm⟩:=(HV.out.below HB2.out).m
   clear hb2 hsl hci HDE
   have hd:=trivial
   rcases D4.out with hr|⟨hr128,hr0,hr1,hr2,hk⟩
   ·subst hr
    have n0: ∀ty,(Instr.next (.pointer (some ⟨w2.heap.size,0,none⟩)) true ty).run Tryz.prog (w2.iter ⟨#[0,10,47]⟩ 0)= .ok (.tuple #[.bool true,.int .i64 0,.int .i32 0]) (w2.iter ⟨#[0,10,47]⟩ 1):=fun ty=>run_next_ascii w2 ⟨#[0,10,47]⟩ 0 ty (by decide) (by decide)
    have n1: ∀ty,(Instr.next (.pointer (some ⟨w2.heap.size,0,none⟩)) true ty).run Tryz.prog (w2.iter ⟨#[0,10,47]⟩ 1)= .ok (.tuple #[.bool true,.int .i64 1,.int .i32 10]) (w2.iter ⟨#[0,10,47]⟩ 2):=fun ty=>run_next_ascii w2 ⟨#[0,10,47]⟩ 1 ty (by decide) (by decide)
    have n2: ∀ty,(Instr.next (.pointer (some ⟨w2.heap.size,0,none⟩)) true ty).run Tryz.prog (w2.iter ⟨#[0,10,47]⟩ 2)= .ok (.tuple #[.bool true,.int .i64 2,.int .i32 47]) (w2.iter ⟨#[0,10,47]⟩ 3):=fun ty=>run_next_ascii w2 ⟨#[0,10,47]⟩ 2 ty (by decide) (by decide)
    have nn: ∀ty,(Instr.next (.pointer (some ⟨w2.heap.size,0,none⟩)) true ty).run Tryz.prog (w2.iter ⟨#[0,10,47]⟩ 3)= .ok (.tuple #[.bool false]) (w2.iter ⟨#[0,10,47]⟩ 3):=fun ty=>run_next_end w2 ⟨#[0,10,47]⟩ 3 ty (by decide)
    clear hd
    go_wp2_with fail
    refine wp_loop_rounds 4 ?_
    rw[rounds_succ]
    go_wp2_with fail
    rw[rounds_succ]
    go_wp2_with fail
    rw[rounds_succ]
    go_wp2_with fail
    rw[rounds_succ]
    go_wp2_with fail
    go_roundg (T.length - (i+k))
    case measure=>have:=HG.out;have:=HD.out;omega
    case rel=>exact⟨i+k,by go_num,rfl,HD.out.2.1,HD.out.2.2,HB2.out.alloc HB2.out.size _⟩
   have e0:((r:Int)==0)=false:=zQx.2 (by omega)
   have e1:((r:Int)==10)=false:=zQx.2 (by omega)
   have e2:((r:Int)==47)=false:=zQx.2 (by omega)
   by_cases hr3:r=65533
   ·subst hr3
    have n0: ∀ty,(Instr.next (.pointer (some ⟨w2.heap.size,0,none⟩)) true ty).run Tryz.prog (w2.iter ⟨#[0,10,47]⟩ 0)= .ok (.tuple #[.bool true,.int .i64 0,.int .i32 0]) (w2.iter ⟨#[0,10,47]⟩ 1):=fun ty=>run_next_ascii w2 ⟨#[0,10,47]⟩ 0 ty (by decide) (by decide)
    have n1: ∀ty,(Instr.next (.pointer (some ⟨w2.heap.size,0,none⟩)) true ty).run Tryz.prog (w2.iter ⟨#[0,10,47]⟩ 1)= .ok (.tuple #[.bool true,.int .i64 1,.int .i32 10]) (w2.iter ⟨#[0,10,47]⟩ 2):=fun ty=>run_next_ascii w2 ⟨#[0,10,47]⟩ 1 ty (by decide) (by decide)
    have n2: ∀ty,(Instr.next (.pointer (some ⟨w2.heap.size,0,none⟩)) true ty).run Tryz.prog (w2.iter ⟨#[0,10,47]⟩ 2)= .ok (.tuple #[.bool true,.int .i64 2,.int .i32 47]) (w2.iter ⟨#[0,10,47]⟩ 3):=fun ty=>run_next_ascii w2 ⟨#[0,10,47]⟩ 2 ty (by decide) (by decide)
    have nn: ∀ty,(Instr.next (.pointer (some ⟨w2.heap.size,0,none⟩)) true ty).run Tryz.prog (w2.iter ⟨#[0,10,47]⟩ 3)= .ok (.tuple #[.bool false]) (w2.iter ⟨#[0,10,47]⟩ 3):=fun ty=>run_next_end w2 ⟨#[0,10,47]⟩ 3 ty (by decide)
    clear hd
    go_wp2_with fail
    refine wp_loop_rounds 4 ?_
    rw[rounds_succ]
    go_wp2_with fail
    rw[rounds_succ]
    go_wp2_with fail
    rw[rounds_succ]
    go_wp2_with fail
    rw[rounds_succ]
    go_wp2_with fail
    go_roundg (T.length - (i+k))
    case measure=>have:=HG.out;have:=HD.out;omega
    case rel=>exact⟨i+k,by go_num,rfl,HD.out.2.1,HD.out.2.2,HB2.out.alloc HB2.out.size _⟩
   have e3:((r:Int) !=65533)=true:=bne_iff_ne.2 (by omega)
   clear hr128 hr0 hr1 hr2 hr3
   rcases hk with ⟨rfl,a,b,he,ha⟩|⟨rfl,a,b,c,he,ha⟩|⟨rfl,a,b,c,d,he,ha⟩
   ·by_cases hmk:(2:Int)≤m
    ·clear hd
     go_wp2_with fail
     rw[run_callFunc_extern Tryz.func196 (by kernel_rfl) (by kernel_rfl) (by kernel_rfl) (e:=Extern.BytealgIndex.index) (by kernel_rfl),Lib.run_indexString ⟨#[0,10,47]⟩ ⟨#[a,b]⟩ w2 2 m (by kernel_rfl) hm (by show 2≤2;decide) hmk (by decide),zQo ha]
     simp only[Result.andThen]
     rw[Oper.upon_value]
     go_wp2_with fail
     go_roundg (T.length - (i+2))
     case measure=>have:=HG.out;have:=HD.out;omega
     case rel=>exact⟨i+2,by go_num,rfl,HD.out.2.1,HD.out.2.2,HB2.out⟩
    ·clear he ha
     have n0: ∀ty,(Instr.next (.pointer (some ⟨w2.heap.size,0,none⟩)) true ty).run Tryz.prog (w2.iter ⟨#[0,10,47]⟩ 0)= .ok (.tuple #[.bool true,.int .i64 0,.int .i32 0]) (w2.iter ⟨#[0,10,47]⟩ 1):=fun ty=>run_next_ascii w2 ⟨#[0,10,47]⟩ 0 ty (by decide) (by decide)
     have n1: ∀ty,(Instr.next (.pointer (some ⟨w2.heap.size,0,none⟩)) true ty).run Tryz.prog (w2.iter ⟨#[0,10,47]⟩ 1)= .ok (.tuple #[.bool true,.int .i64 1,.int .i32 10]) (w2.iter ⟨#[0,10,47]⟩ 2):=fun ty=>run_next_ascii w2 ⟨#[0,10,47]⟩ 1 ty (by decide) (by decide)
     have n2: ∀ty,(Instr.next (.pointer (some ⟨w2.heap.size,0,none⟩)) true ty).run Tryz.prog (w2.iter ⟨#[0,10,47]⟩ 2)= .ok (.tuple #[.bool true,.int .i64 2,.int .i32 47]) (w2.iter ⟨#[0,10,47]⟩ 3):=fun ty=>run_next_ascii w2 ⟨#[0,10,47]⟩ 2 ty (by decide) (by decide)
     have nn: ∀ty,(Instr.next (.pointer (some ⟨w2.heap.size,0,none⟩)) true ty).run Tryz.prog (w2.iter ⟨#[0,10,47]⟩ 3)= .ok (.tuple #[.bool false]) (w2.iter ⟨#[0,10,47]⟩ 3):=fun ty=>run_next_end w2 ⟨#[0,10,47]⟩ 3 ty (by decide)
     clear hd
     go_wp2_with fail
     refine wp_loop_rounds 4 ?_
     rw[rounds_succ]
     go_wp2_with fail
     rw[rounds_succ]
     go_wp2_with fail
     rw[rounds_succ]
     go_wp2_with fail
     rw[rounds_succ]
     go_wp2_with fail
     go_roundg (T.length - (i+2))
     case measure=>have:=HG.out;have:=HD.out;omega
     case rel=>exact⟨i+2,by go_num,rfl,HD.out.2.1,HD.out.2.2,HB2.out.alloc HB2.out.size _⟩
   ·have hst:((⟨#[0,10,47]⟩:ByteArray).toList==(⟨#[a,b,c]⟩:ByteArray).toList)=false:=by
     rw[Lib.toList_data,Lib.toList_data]
     refine zQx.2 fun e=>?_
     injection e with e
     rw[←e]at ha
     exact absurd ha (by decide)
    clear ha
    obtain⟨S,hS⟩: ∃S:ByteArray,(⟨#[a,b,c]⟩:ByteArray)=S:=⟨_,rfl⟩
    rw[hS]at hst he
    clear hS
    have HST:=zQr hst
    clear hst
    go_upto_if 109 with (refine zKj rfl _ _ _ rfl rfl rfl HST.out ?_)
    simp only[Act.put,List.setIfInBounds_toArray,List.set_cons_succ,List.set_cons_zero]
    go_wp2_with fail
    go_roundg (T.length - (i+3))
    case measure=>have:=HG.out;have:=HD.out;omega
    case rel=>exact⟨i+3,by go_num,rfl,HD.out.2.1,HD.out.2.2,HB2.out⟩
   ·by_cases hmk:(4:Int)≤m
    ·clear hd
     go_wp2_with fail
     rw[run_callFunc_extern Tryz.func196 (by kernel_rfl) (by kernel_rfl) (by kernel_rfl) (e:=Extern.BytealgIndex.index) (by kernel_rfl),Lib.run_indexString ⟨#[0,10,47]⟩ ⟨#[a,b,c,d]⟩ w2 2 m (by kernel_rfl) hm (by show 2≤4;decide) hmk (by decide),zQn ha]
     simp only[Result.andThen]
     rw[Oper.upon_value]
     go_wp2_with fail
     go_roundg (T.length - (i+4))
     case measure=>have:=HG.out;have:=HD.out;omega
     case rel=>exact⟨i+4,by go_num,rfl,HD.out.2.1,HD.out.2.2,HB2.out⟩
    ·clear he ha
     have n0: ∀ty,(Instr.next (.pointer (some ⟨w2.heap.size,0,none⟩)) true ty).run Tryz.prog (w2.iter ⟨#[0,10,47]⟩ 0)= .ok (.tuple #[.bool true,.int .i64 0,.int .i32 0]) (w2.iter ⟨#[0,10,47]⟩ 1):=fun ty=>run_next_ascii w2 ⟨#[0,10,47]⟩ 0 ty (by decide) (by decide)
     have n1: ∀ty,(Instr.next (.pointer (some ⟨w2.heap.size,0,none⟩)) true ty).run Tryz.prog (w2.iter ⟨#[0,10,47]⟩ 1)= .ok (.tuple #[.bool true,.int .i64 1,.int .i32 10]) (w2.iter ⟨#[0,10,47]⟩ 2):=fun ty=>run_next_ascii w2 ⟨#[0,10,47]⟩ 1 ty (by decide) (by decide)
     have n2: ∀ty,(Instr.next (.pointer (some ⟨w2.heap.size,0,none⟩)) true ty).run Tryz.prog (w2.iter ⟨#[0,10,47]⟩ 2)= .ok (.tuple #[.bool true,.int .i64 2,.int .i32 47]) (w2.iter ⟨#[0,10,47]⟩ 3):=fun ty=>run_next_ascii w2 ⟨#[0,10,47]⟩ 2 ty (by decide) (by decide)
     have nn: ∀ty,(Instr.next (.pointer (some ⟨w2.heap.size,0,none⟩)) true ty).run Tryz.prog (w2.iter ⟨#[0,10,47]⟩ 3)= .ok (.tuple #[.bool false]) (w2.iter ⟨#[0,10,47]⟩ 3):=fun ty=>run_next_end w2 ⟨#[0,10,47]⟩ 3 ty (by decide)
     clear hd
     go_wp2_with fail
     refine wp_loop_rounds 4 ?_
     rw[rounds_succ]
     go_wp2_with fail
     rw[rounds_succ]
     go_wp2_with fail
     rw[rounds_succ]
     go_wp2_with fail
     rw[rounds_succ]
     go_wp2_with fail
     go_roundg (T.length - (i+4))
     case measure=>have:=HG.out;have:=HD.out;omega
     case rel=>exact⟨i+4,by go_num,rfl,HD.out.2.1,HD.out.2.2,HB2.out.alloc HB2.out.size _⟩
 ·obtain rfl:i=T.length:=by omega
  have hlt': ¬(T.length:Int)<(T.length:Int):=by omega
  have HS:=zQr (zKZ HP.out)
  clear hlt hg hb
  go_wp2_with fail
  go_ret
  exact⟨⟨-1,rfl,by rw[HS.out];rfl⟩,HB.out⟩
end
end
section
open Go.RowKit
section
variable {w w':World} {oa:Option Addr} {T:List Nat} {cap:Nat}
theorem zHJ:(Tryz.prog.info? 226).map (fun i=>(i.zero,i.size))=some (some (.agg (Array.replicate 256 (.bool false))),256):=by kernel_rfl
theorem zOR {g o:Nat} (hc: ∀m,m<T.length→w.cell? ⟨g,o+m,none⟩=some (.int .u8 (T.getD m 0:Nat))) (hu: ∀b∈T,b<256) (h9:8<T.length) (hl:T.length≤4294967280):
  Calls Tryz.prog 157 #[.slice (some ⟨g,o,none⟩) T.length cap,.string ⟨#[0,10,47]⟩] w (AnO w T):=by
 have HC:=zQr hc
 have HU:=zQr hu
 have q1:((T.length:Int)==1)=false:=zQx.2 (by omega)
 have HS:=zFt (w:=w) T.length
 rw[zQ2 h9]at HS
 have HS:=zQr HS
 have hgl:g<w.heap.size:=zRO w _ (hc 0 (by omega))
 have HGL:=zQr hgl
 have HL:=zQr hl
 have hM:=Any.bytes_makeASCIISet { zQA with } (zero_of_info zHJ).1 (zero_of_info zHJ).2 ⟨#[0,10,47]⟩ w (by decide) (by
  intro j b hb
  match j,hb with
  |0,hb=>cases hb;decide
  |1,hb=>cases hb;decide
  |2,hb=>cases hb;decide)
 obtain⟨cs,hcs⟩: ∃cs,Lib.setCells (⟨#[0,10,47]⟩:ByteArray).data.toList=cs:=⟨_,rfl⟩
 rw[hcs]at hM
 have hsz:cs.size=256:=by rw[←hcs];exact Lib.setCells_size _
 have hone:cs.all (·.oneCell')=true:=by rw[←hcs];exact Lib.setCells_one _
 have hat: ∀x:UInt8,cs[x.toNat]?=some (.bool ((⟨#[0,10,47]⟩:ByteArray).data.toList.contains x)):=fun x=>by rw[←hcs];exact Lib.setCells_at _ x
 have hf: ∀c,((w.alloc (.cells cs 226)).alloc (.cells c 226)).setRow (w.heap.size+1) cs=(w.alloc (.cells cs 226)).alloc (.cells cs 226):=fun c=>by
  have:=World.setRow_alloc_new (w.alloc (.cells cs 226)) c cs 226
  simpa using this
 have hcell: ∀b,b<256→((w.alloc (.cells cs 226)).alloc (.cells cs 226)).cell? ⟨w.heap.size+1,b,none⟩=some (.bool (!(okF b))):=fun b hb=>by
  have hx:=hat (UInt8.ofNat b)
  rw[show(UInt8.ofNat b).toNat=b by rw[UInt8.toNat_ofNat'];omega,zQd b hb]at hx
  rw[World.cell?_alloc_at _ _ _ _ (by simp)]
  exact hx
 have hB:Below w.heap.size w ((w.alloc (.cells cs 226)).alloc (.cells cs 226)):=((zQs _ _).alloc (zQt _) _).alloc (by simp) _
 have HM:=zQr (show Calls Tryz.prog 174 #[.string ⟨#[0,10,47]⟩] w fun e w'=>e= .returned (.tuple #[.agg cs,.bool true])∧w'=w.alloc (.cells cs 226)from hM)
 have HF:=zQr hf
 have HON:=zQr hone
 have HCE:=zQr hcell
 have HBB:=zQr hB
 clear hc hu h9 hgl hM hcs hone hat hf hcell hB
 go_enter Tryz.func157,Tryz.ntmps157
 go_wp2_with fail
 refine HS.out.mono ?_;rintro e w1 ⟨rfl,rfl⟩
 go_wp2_with fail
 refine HM.out.mono ?_;rintro e w1 ⟨rfl,rfl⟩
 have hh: ∀c,((w.alloc (.cells cs 226)).alloc (.cells c 226)).heap[w.heap.size+1]?=some (.cells c 226 (0,0)):=fun c=>by
  have:=heap_alloc_last (w.alloc (.cells cs 226)) (.cells c 226)
  simpa using this
 have HH:=zQr hh
 have HZ:=zQr hsz
 clear hh hsz HS HM
 go_wp2_with (refine wpList_store_row rfl 226 _ _ rfl (w.heap.size+1) cs rfl rfl 226 _ (HH.out _) (by rw[HZ.out];exact(zero_of_info zHJ).2) (by rw[HZ.out];kernel_rfl) HON.out ?_)
 go_upto_region 22 with fail
 rw[HF.out]
 obtain⟨W,hW⟩: ∃W,(w.alloc (.cells cs 226)).alloc (.cells cs 226)=W:=⟨_,rfl⟩
 rw[hW]at HCE HBB ⊢
 obtain⟨sb,hsb⟩: ∃a,w.heap.size+1=a:=⟨_,rfl⟩
 rw[hsb]at HCE
 have HSB:=zQr hsb
 rw[hsb]
 clear hW hsb HH HZ HON HF
 go_wp2_with fail
 go_loopg [62] T.length (fun gk iv wr=> ∃i:Nat,iv= .int .i64 (i:Nat)∧gk=T.length - i∧i≤T.length∧wr=W∧Hid (∀j,j<i→okF (T.getD j 0)=true))
 case atStart=>exact⟨0,rfl,by omega,by omega,rfl,zQr (fun j hj=>by omega)⟩
 case round=>
 obtain⟨i,rfl,hg,hi,rfl,HP⟩:=hrel
 have HG:=zQr hg
 by_cases hlt:i<T.length
 ·have hlt':(i:Int)<(T.length:Int):=by omega
  have hci:wr.cell? ⟨g,o+i,none⟩=some (.int .u8 (T.getD i 0:Nat)):=(HBB.out.cell (p:=⟨g,o+i,none⟩) HGL.out).trans (HC.out i hlt)
  obtain⟨x,hx⟩: ∃x,T.getD i 0=x:=⟨_,rfl⟩
  rw[hx]at hci
  have HX:=zQr hx
  have hx256:x<256:=by
   rw[←hx,zQ0,zQ8 hlt]
   exact HU.out _ (List.getElem_mem hlt)
  have hce:=HCE.out x hx256
  have HI:=zQr (show i<T.length from hlt)
  have HCO:=Any.bytes_asciiSet_contains { zQA with } sb (UInt8.ofNat x) (!(okF x)) wr (by
   rw[show(UInt8.ofNat x).toNat=x by rw[UInt8.toNat_ofNat'];omega];exact hce)
  rw[show(UInt8.ofNat x).toNat=x by rw[UInt8.toNat_ofNat'];omega]at HCO
  have HCO:=zQr HCO
  have HI2:=zQr (show(i:Int)+1≤9223372036854775807 by have:=HL.out;omega)
  clear hg hx hlt hx256 hce
  cases hok:okF x with
  |true=>
   rw[hok]at HCO
   have HD:=zQr (show∀j,j<i+1→okF (T.getD j 0)=true from fun j hj=>by
    by_cases e:j=i
    ·subst e;rw[HX.out];exact hok
    ·exact HP.out j (by omega))
   clear hok
   go_wp2_with fail
   refine HCO.out.mono ?_;rintro e w2 ⟨rfl,rfl⟩
   go_wp2_with fail
   go_roundg (T.length - (i+1))
   case measure=>have:=HG.out;have:=HI.out;omega
   case rel=>exact⟨i+1,by go_num,rfl,HI.out,rfl,HD⟩
  |false=>
   rw[hok]at HCO
   have HST:=zQr (zKa HI.out (by rw[HX.out];exact hok))
   clear hok
   go_wp2_with fail
   refine HCO.out.mono ?_;rintro e w2 ⟨rfl,rfl⟩
   go_wp2_with fail
   go_ret
   exact⟨⟨i,rfl,by rw[HST.out];exact zQ3 (by omega)⟩,HBB.out⟩
 ·obtain rfl:i=T.length:=by omega
  have hlt': ¬(T.length:Int)<(T.length:Int):=by omega
  have HST:=zQr (zKZ HP.out)
  clear hlt hg
  go_wp2_with fail
  go_ret
  exact⟨⟨-1,rfl,by rw[HST.out];rfl⟩,HBB.out⟩
theorem zOS (h:zD2 w oa T) (hu: ∀b∈T,b<256) (h1:1≤T.length) (h2:T.length≤64) (hcap:T.length≤cap) (U:U8V w):
  Calls Tryz.prog 157 #[.slice oa T.length cap,.string ⟨#[0,10,47]⟩] w (AnO w T):=by
 obtain⟨g,o,rfl,hc⟩:=h (by omega)
 by_cases h3:T.length=1
 ·obtain⟨b,rfl⟩: ∃b,T=[b]:=List.length_eq_one_iff.1 h3
  exact zPN (hc 0 (by omega)) (hu b (by simp))
 ·by_cases h4:T.length≤8
  ·exact zPO hc hu (by omega) h4 hcap U
  ·exact zOR hc hu (by omega) (by omega)
end
end
section
open Go.RowKit
theorem ixB: ∀b:Nat,b<256→Lib.indexByte (⟨#[32,9]⟩:ByteArray).data.toList ((b:Int).toNat.toUInt8)=if b=32 then 0 else if b=9 then 1 else -1:=by decide+kernel
theorem zPH {b:Nat} (h:b<256) (h2:zAL b=false):Lib.indexByte (⟨#[32,9]⟩:ByteArray).data.toList ((b:Int).toNat.toUInt8)= -1:=by
 simp only[zAL,Bool.or_eq_false_iff,beq_eq_false_iff_ne]at h2
 rw[ixB b h,if_neg h2.1,if_neg h2.2]
theorem zPG {b:Nat} (h:b<256) (h2:zAL b=true): ∃k:Nat,Lib.indexByte (⟨#[32,9]⟩:ByteArray).data.toList ((b:Int).toNat.toUInt8)=(k:Int):=by
 simp only[zAL,Bool.or_eq_true,beq_iff_eq]at h2
 rw[ixB b h]
 rcases h2 with rfl|rfl
 ·exact⟨0,rfl⟩
 ·exact⟨1,rfl⟩
theorem zF3 {w:World} {base:Nat} {o:Option Addr} {c:Nat} {T:List Nat} (h:w.ownsRow base 5 1 (.slice o T.length c) T.length (u8s T)):zD2 w o T∧T.length≤c:=by
 refine⟨fun hp=>?_,(zJa h).1⟩
 obtain⟨_,g,rfl,_,hcell,_⟩:=zBW h hp
 refine⟨g,0,rfl,fun i hi=>?_⟩
 obtain⟨u,hu1,hu2⟩:=hcell i (by omega)
 rw[Nat.zero_add,hu2,←hu1]
 simp[u8s,hi,List.getD_eq_getElem?_getD]
section
variable {w w':World} {E:PE} {i j k n:Nat} {l:List Value} {base:Nat} {c:Cm} {oa:Option Addr} {T:List Nat} {cap:Nat}
theorem zGD (h:zD2 w oa T) (hu: ∀b∈T,b<256) (hcap:T.length≤cap) (U:U8V w):
  Calls Tryz.prog 111 #[.slice oa T.length cap] w fun e w'=>e= .returned (.bool (zBS T))∧Below w.heap.size w w':=by
 have HF:Hid (zBS T=(decide (1≤T.length∧T.length≤64)&&T.all okF&& !(zAL (T.getD 0 0)))):=zQr rfl
 have HX:=zQr h
 by_cases h1:T.length=0
 ·have HR:Hid (zBS T=false):=zQr (by rw[HF.out,zQ3 (by omega)];rfl)
  have q1: ¬(1:Int)≤(T.length:Int):=by omega
  clear h hu hcap U h1
  go_enter Tryz.func111,Tryz.ntmps111
  go_wp2_with fail
  go_ret
  exact⟨by rw[HR.out];rfl,zQs _ _⟩
 have q1:(1:Int)≤(T.length:Int):=by omega
 by_cases h2:64<T.length
 ·have HR:Hid (zBS T=false):=zQr (by rw[HF.out,zQ3 (by omega)];rfl)
  have q2: ¬(T.length:Int)≤64:=by omega
  clear h hu hcap U h1 h2
  go_enter Tryz.func111,Tryz.ntmps111
  go_wp2_with fail
  go_ret
  exact⟨by rw[HR.out];rfl,zQs _ _⟩
 have q2:(T.length:Int)≤64:=by omega
 have HA:=zQr (zOS h hu (by omega) (by omega) hcap U)
 have HD:Hid (zBS T=(T.all okF&& !(zAL (T.getD 0 0)))):=zQr (by rw[HF.out,zQ2 (by omega)];rfl)
 obtain⟨g,o,rfl,hc⟩:=h (by omega)
 have hc0:=hc 0 (by omega)
 obtain⟨x,hx⟩: ∃x,T.getD 0 0=x:=⟨_,rfl⟩
 have hx256:x<256:=by
  rw[←hx,zQ0,zQ8 (by omega)]
  exact hu _ (List.getElem_mem (by omega))
 rw[hx]at hc0 HD
 rw[Nat.add_zero]at hc0
 have HC:=zQr hc0
 have HX2:=zQr hx256
 have HL:=zQr (zRO w _ hc0)
 have HP:=zQr (show 0<T.length by omega)
 clear hu hcap U h1 h2 hc hc0 hx hx256 HF HX h
 cases ha:T.all okF with
 |false=>
  have HR:Hid (zBS T=false):=zQr (by rw[HD.out,ha];rfl)
  have HA2:=zQr (show Calls Tryz.prog 157 #[.slice (some ⟨g,o,none⟩) T.length cap,.string ⟨#[0,10,47]⟩] w fun e w'=>(∃r:Int,e= .returned (.int .i64 r)∧ ¬r<0)∧Below w.heap.size w w' from HA.out.mono fun e w' ⟨⟨r,h1,h2⟩,h3⟩=>⟨⟨r,h1,by rw[ha]at h2;exact of_decide_eq_false h2⟩,h3⟩)
  clear ha HA
  go_enter Tryz.func111,Tryz.ntmps111
  go_wp2_with fail
  refine HA2.out.mono ?_;rintro e w1 ⟨⟨r,rfl,hr⟩,hb1⟩
  have HB1:=zQr hb1
  clear hb1
  go_wp2_with fail
  go_ret
  exact⟨by rw[HR.out];rfl,HB1.out⟩
 |true=>
  have HA2:=zQr (show Calls Tryz.prog 157 #[.slice (some ⟨g,o,none⟩) T.length cap,.string ⟨#[0,10,47]⟩] w fun e w'=>(∃r:Int,e= .returned (.int .i64 r)∧r<0)∧Below w.heap.size w w' from HA.out.mono fun e w' ⟨⟨r,h1,h2⟩,h3⟩=>⟨⟨r,h1,by rw[ha]at h2;exact of_decide_eq_true h2⟩,h3⟩)
  have HD2:Hid (zBS T= !(zAL x)):=zQr (by rw[HD.out,ha,Bool.true_and])
  clear ha HA HD
  cases hbl:zAL x with
  |true=>
   have HR:Hid (zBS T=false):=zQr (by rw[HD2.out,hbl];rfl)
   obtain⟨m,hix⟩:=zPG HX2.out hbl
   have hm: ¬(m:Int)<0:=by omega
   clear hbl HD2
   go_enter Tryz.func111,Tryz.ntmps111
   go_wp2_with fail
   refine HA2.out.mono ?_;rintro e w1 ⟨⟨r,rfl,hr⟩,hb1⟩
   have hc1:=(hb1.cell (p:=⟨g,o,none⟩) HL.out).trans HC.out
   have hp:=HP.out
   have HB1:=zQr hb1
   clear hb1
   go_wp2_with fail
   refine(shl.strings_IndexByte _ _ _).mono ?_;rintro e w2 ⟨rfl,rfl⟩
   rw[hix]
   go_wp2_with fail
   go_ret
   exact⟨by rw[HR.out];rfl,HB1.out⟩
  |false=>
   have HR:Hid (zBS T=true):=zQr (by rw[HD2.out,hbl];rfl)
   have hix:=zPH HX2.out hbl
   clear hbl HD2
   go_enter Tryz.func111,Tryz.ntmps111
   go_wp2_with fail
   refine HA2.out.mono ?_;rintro e w1 ⟨⟨r,rfl,hr⟩,hb1⟩
   have hc1:=(hb1.cell (p:=⟨g,o,none⟩) HL.out).trans HC.out
   have hp:=HP.out
   have HB1:=zQr hb1
   clear hb1
   go_wp2_with fail
   refine(shl.strings_IndexByte _ _ _).mono ?_;rintro e w2 ⟨rfl,rfl⟩
   rw[hix]
   go_wp2_with fail
   go_ret
   exact⟨by rw[HR.out];rfl,HB1.out⟩
theorem zGo (h:RS E w i l) (hm:CmM w base l c) (hb:E.wb<base∧E.cb<base) (hbw:base≤w.heap.size):
  Calls Tryz.prog 89 #[.pointer (some ⟨E.rb,0,none⟩),.pointer (some ⟨E.cb,0,none⟩)] w (HdO E w base (zGW E.T i c)):=by
 have HS:=zQr (zOo (E:=E) hb)
 have HBW:=zQr hbw
 have H:=zQr h
 have HM:=zQr hm
 obtain⟨R,hR⟩: ∃R,zGW E.T i c=R:=⟨_,rfl⟩
 rw[hR]
 unfold zGW at hR
 simp only at hR
 obtain⟨t,ht⟩: ∃t,zIs E.T (zAk zAL E.T i) (zDZ E.T (zAk zAL E.T i))=t:=⟨_,rfl⟩
 rw[ht]at hR
 have HT:=zQr ht
 have hut: ∀b∈t,b<256:=by rw[←ht];exact zPf h.v.u
 have HUT:=zQr hut
 have HR:=zQr hR
 clear h hm hb hbw hR ht hut
 have HROW:=zIE H.out
 rw[HT.out]at HROW
 have HROW:=zQr HROW
 go_enter Tryz.func89,Tryz.ntmps89
 go_wp2_with fail
 refine HROW.out.mono ?_;rintro e w1 ⟨⟨v,rfl,hr1⟩,k1,h1⟩
 have m1:=HM.out.kept k1 HS.out
 obtain⟨o1,c1,rfl⟩:=zBe hr1
 obtain⟨v9,hv9,_⟩:=m1.tx
 have c9:w1.cell? ⟨E.cb,9,none⟩=some v9:=h1.cc hv9
 have f9:=h1.cf 9
 have H3:=zQr (h1.set 9 (v:= .slice o1 t.length c1) rfl)
 have HR3:Hid ((w1.setCell ⟨E.cb,9,none⟩ (.slice o1 t.length c1)).ownsRow base 5 1 (.slice o1 t.length c1) t.length (u8s t)):=zQr ((zAU.put E w1 9 (.slice o1 t.length c1)).row (zAR hr1 HBW.out) fun b hb=>HS.out b (zRE HBW.out (hr1.lt b hb).1))
 have HM3:=zQr ((m1.setTx h1.cl.len (v:= .slice o1 t.length c1) (x:=t) ⟨o1,c1,rfl,zAR hr1 HBW.out⟩).kept (zAU.put E w1 9 (.slice o1 t.length c1)) HS.out)
 have K3:=zQr (k1.tr (zAU.put E w1 9 (.slice o1 t.length c1)))
 clear hr1 k1 h1 m1 HROW hv9
 go_upto_region 1 with fail
 obtain⟨W3,hW3⟩: ∃W,w1.setCell ⟨E.cb,9,none⟩ (.slice o1 t.length c1)=W:=⟨_,rfl⟩
 rw[hW3]at H3 HR3 HM3 K3 ⊢
 obtain⟨l3,hl3⟩: ∃l',l.set 9 (.slice o1 t.length c1)=l':=⟨_,rfl⟩
 rw[hl3]at H3 HM3
 have hl9:l3[9]?=some (.slice o1 t.length c1):=by rw[←hl3];exact List.getElem?_set_self (by rw[H.out.cl.len];omega)
 have c9:=H3.out.cc hl9
 have HIF:=zQr (zGD (zF3 HR3.out).1 HUT.out (zF3 HR3.out).2 H3.out.g.u8)
 have hr:=HR.out
 clear hW3 hl3 hl9 f9 HR3
 cases hf:zBS t with
 |true=>
  rw[hf]at hr HIF
  rw[if_pos rfl]at hr
  subst hr
  clear hf
  go_wp2_with fail
  refine HIF.out.mono ?_;rintro e w4 ⟨rfl,hb4⟩
  have H4:=zQr (H3.out.below hb4)
  have HM4:=zQr (HM3.out.kept (zAU.bel (S:=E.W) hb4) HS.out)
  have K4:=zQr (K3.out.tr (zAU.bel hb4))
  clear hb4
  go_wp2_with fail
  go_end0
  exact⟨rfl,K4.out,l3,H4.out,HM4.out⟩
 |false=>
  rw[hf]at hr HIF
  rw[if_neg (by decide)]at hr
  subst hr
  clear hf
  go_wp2_with fail
  refine HIF.out.mono ?_;rintro e w4 ⟨rfl,hb4⟩
  have H4:=zQr (H3.out.below hb4)
  have HM4:=zQr (HM3.out.kept (zAU.bel (S:=E.W) hb4) HS.out)
  have K4:=zQr (K3.out.tr (zAU.bel hb4))
  clear hb4
  go_wp2_with fail
  refine(zA8 (er:=77) H4.out HM4.out.p (by decide)).mono ?_;rintro e w9 ⟨hp,hb9⟩
  have HR9:Hid (Res E w (.error (77,c.at_)) [] e w9):=zQr ⟨K4.out.tr (zAU.bel hb9),_,_,hp,H4.out.below hb9⟩
  obtain⟨fb,rfl⟩:=HR9.out.bad
  clear hp hb9
  go_wp2_with fail
  exact⟨rfl,HR9.out⟩
end
end
section
open Go.RowKit
section
variable {w w':World} {E:PE} {i j k n:Nat} {l:List Value} {base:Nat} {c:Cm}
theorem zJV (h:RS E w i l) (hm:CmM w base l c) (hb:E.wb<base∧E.cb<base) (hbw:base≤w.heap.size):
  Calls Tryz.prog 146 #[.pointer (some ⟨E.rb,0,none⟩),.pointer (some ⟨E.cb,0,none⟩)] w (HdO E w base (zIm E.T i c)):=by
 have HS:=zQr (zOo (E:=E) hb)
 have HB:=zQr hb
 have HBW:=zQr hbw
 have H0:=zQr h
 have HM0:=zQr hm
 obtain⟨R,hR⟩: ∃R,zIm E.T i c=R:=⟨_,rfl⟩
 rw[hR]
 have HR:Hid (zDB E.T (E.T.length+1 - i) i c=R):=zQr hR
 clear h hm hb hbw hR
 go_enter Tryz.func146,Tryz.ntmps146
 go_wp2_with fail
 go_loopg [4] (E.T.length+1 - i) (fun g x wr=> ∃(m kk:Nat) (l1:List Value) (c1:Cm),g=m∧Hid (zDB E.T m kk c1=R)∧E.T.length - kk<m∧RS E wr kk l1∧CmM wr base l1 c1∧zAU w wr E.W)
 case atStart=>exact⟨_,i,l,c,rfl,HR,by have:=H0.out.v.at_;omega,H0.out,HM0.out,zAU.refl _ _⟩
 case round=>
 obtain⟨m,kk,l1,c1,hgm,HN,hg,h1,m1,k1⟩:=hrel
 obtain⟨g',rfl⟩: ∃g',m=g'+1:=⟨m - 1,by omega⟩
 have HGM:=zQr hgm
 have hn:=HN.out
 rw[zFD]at hn
 have H1:=zQr h1
 have HM1:=zQr m1
 have K1:=zQr k1
 have HG:=zQr hg
 have r0:=h1.r0
 obtain⟨x,hx⟩: ∃x,E.T.getD kk 0=x:=⟨_,rfl⟩
 have HP:=zQr (zAz h1.v)
 rw[hx]at HP hn
 have hlt:x≠0→kk<E.T.length:=fun h0=>by
  by_cases hlt:kk<E.T.length
  ·exact hlt
  ·rw[zQ0,zRR (by omega)]at hx
   exact absurd hx.symm h0
 have HXX:=zQr hx
 clear h1 m1 k1 hg hgm HN HR hx
 go_wp2_with fail
 refine HP.out.mono ?_;rintro e w2 ⟨rfl,hb2⟩
 have H2:=zQr (H1.out.below hb2)
 have HM2:=zQr (HM1.out.kept (zAU.bel (S:=E.W) hb2) HS.out)
 have K2:=zQr (K1.out.tr (zAU.bel hb2))
 clear hb2 r0 HP
 by_cases hx:x=103
 ·rw[if_pos hx]at hn
  have HLT:=zQr (hlt (by omega))
  subst hx
  clear hlt
  unfold zMp at hn
  have hx:=trivial
  cases hfl:c1.al with
  |true=>
   rw[if_pos hfl]at hn
   subst hn
   have hlf:l1[13]?=some (.bool true):=by rw[←hfl];exact HM2.out.al
   have HO:=zQr (zHV H2.out HM2.out.p hlf)
   clear hlf hfl hx
   go_wp2_with fail
   refine HO.out.mono ?_;rintro e w9 hp
   have HR9:Hid (Res E w (.error (74,c1.at_)) [] e w9):=zQr (Res.up K2.out hp)
   obtain⟨fb,rfl⟩:=HR9.out.bad
   clear hp
   go_wp2_with fail
   exact⟨rfl,HR9.out⟩
  |false=>
   rw[if_neg (by rw[hfl];decide)]at hn
   have HN:=zQr hn
   have hlf:l1[13]?=some (.bool false):=by rw[←hfl];exact HM2.out.al
   have HO:=zQr (zJc H2.out hlf HLT.out)
   clear hlf hfl hx hn
   go_wp2_with fail
   refine HO.out.mono ?_;rintro e w3 ⟨k3,rfl,h3⟩
   have H3:=zQr h3
   have HM3:=zQr ((HM2.out.setAl H2.out.cl.len true).kept k3 HS.out)
   have K3:=zQr (K2.out.tr k3)
   clear k3 h3 HO
   go_wp2_with fail
   go_roundg g'
   case measure=>have:=HGM.out;omega
   case rel=>exact⟨_,kk+1,_,_,rfl,HN,by have:=HG.out;have:=HLT.out;omega,H3.out,HM3.out,K3.out⟩
 rw[if_neg hx]at hn
 have x1:((x:Int)==103)=false:=zQx.2 (by omega)
 clear hx
 by_cases hx:x=112
 ·rw[if_pos hx]at hn
  have HLT:=zQr (hlt (by omega))
  subst hx
  clear hlt x1
  unfold zMo at hn
  have hx:=trivial
  cases hfl:c1.pr with
  |true=>
   rw[if_pos hfl]at hn
   subst hn
   have hlf:l1[14]?=some (.bool true):=by rw[←hfl];exact HM2.out.pr
   have HO:=zQr (zHV H2.out HM2.out.p hlf)
   clear hlf hfl hx
   go_wp2_with fail
   refine HO.out.mono ?_;rintro e w9 hp
   have HR9:Hid (Res E w (.error (74,c1.at_)) [] e w9):=zQr (Res.up K2.out hp)
   obtain⟨fb,rfl⟩:=HR9.out.bad
   clear hp
   go_wp2_with fail
   exact⟨rfl,HR9.out⟩
  |false=>
   rw[if_neg (by rw[hfl];decide)]at hn
   have HN:=zQr hn
   have hlf:l1[14]?=some (.bool false):=by rw[←hfl];exact HM2.out.pr
   have HO:=zQr (zJc H2.out hlf HLT.out)
   clear hlf hfl hx hn
   go_wp2_with fail
   refine HO.out.mono ?_;rintro e w3 ⟨k3,rfl,h3⟩
   have H3:=zQr h3
   have HM3:=zQr ((HM2.out.setPr H2.out.cl.len true).kept k3 HS.out)
   have K3:=zQr (K2.out.tr k3)
   clear k3 h3 HO
   go_wp2_with fail
   go_roundg g'
   case measure=>have:=HGM.out;omega
   case rel=>exact⟨_,kk+1,_,_,rfl,HN,by have:=HG.out;have:=HLT.out;omega,H3.out,HM3.out,K3.out⟩
 rw[if_neg hx]at hn
 have x2:((x:Int)==112)=false:=zQx.2 (by omega)
 clear hx
 by_cases hx:48≤x∧x≤57
 ·rw[if_pos hx]at hn
  have HLT:=zQr (hlt (by omega))
  have x3:(48:Int)≤(x:Int):=by omega
  have x4:(x:Int)≤57:=by omega
  clear hlt hx
  have HNU:=zF5 (most:=1048576) H2.out.v (by decide) (fun j _=>zHq (H2.out.v.u j))
  have r0:=H2.out.r0
  cases hq:zHg E.T 1048576 kk with
  |none=>
   rw[hq]at hn HNU
   have HNU:=zQr HNU
   unfold zMq at hn
   subst hn
   clear hq
   go_wp2_with fail
   refine HNU.out.mono ?_;rintro e w3 ⟨⟨rfl,hv3⟩,hb3⟩
   have h3:=H2.out.words hb3 hv3
   have m3:=HM2.out.kept (zAU.nbut (E:=E) hb3) HS.out
   have c12:w3.cell? ⟨E.cb,12,none⟩=some (.int .i64 (c1.ct:Nat)):=h3.cc m3.ct
   have H3:=zQr h3
   have HM3:=zQr m3
   have K3:=zQr (K2.out.tr (zAU.nbut hb3))
   clear h3 m3 hv3 hb3 r0 HNU
   by_cases hct:c1.ct=0
   ·have y1:((c1.ct:Int) !=0)=false:=by simp[hct]
    clear hct
    go_wp2_with fail
    refine(zA8 (er:=74) H3.out HM3.out.p (by decide)).mono ?_;rintro e w9 ⟨hp,hb9⟩
    have HR9:Hid (Res E w (.error (74,c1.at_)) [] e w9):=zQr ⟨K3.out.tr (zAU.bel hb9),_,_,hp,H3.out.below hb9⟩
    obtain⟨fb,rfl⟩:=HR9.out.bad
    clear hp hb9
    go_wp2_with fail
    exact⟨rfl,HR9.out⟩
   ·have y1:((c1.ct:Int) !=0)=true:=bne_iff_ne.2 (by omega)
    clear hct
    go_wp2_with fail
    refine(zA8 (er:=74) H3.out HM3.out.p (by decide)).mono ?_;rintro e w9 ⟨hp,hb9⟩
    have HR9:Hid (Res E w (.error (74,c1.at_)) [] e w9):=zQr ⟨K3.out.tr (zAU.bel hb9),_,_,hp,H3.out.below hb9⟩
    obtain⟨fb,rfl⟩:=HR9.out.bad
    clear hp hb9
    go_wp2_with fail
    exact⟨rfl,HR9.out⟩
  |some q=>
   obtain⟨v,j⟩:=q
   rw[hq]at hn HNU
   have hat:=zJd hq H2.out.v.at_
   have HAT:=zQr hat
   have HNU:=zQr HNU
   unfold zMq at hn
   simp only at hn
   clear hq hat
   by_cases hct:c1.ct=0
   ·have y1:((c1.ct:Int) !=0)=false:=by simp[hct]
    by_cases hv0:v=0
    ·rw[if_pos (.inr hv0)]at hn
     subst hn hv0
     have HCT:=zQr hct
     clear hct
     go_wp2_with fail
     refine HNU.out.mono ?_;rintro e w3 ⟨⟨rfl,hv3⟩,hb3⟩
     have h3:=H2.out.words hb3 hv3
     have m3:=HM2.out.kept (zAU.nbut (E:=E) hb3) HS.out
     have c12:w3.cell? ⟨E.cb,12,none⟩=some (.int .i64 (c1.ct:Nat)):=h3.cc m3.ct
     have H3:=zQr h3
     have HM3:=zQr m3
     have K3:=zQr (K2.out.tr (zAU.nbut hb3))
     clear h3 m3 hv3 hb3 r0 HNU
     go_wp2_with fail
     refine(zA8 (er:=74) H3.out HM3.out.p (by decide)).mono ?_;rintro e w9 ⟨hp,hb9⟩
     have HR9:Hid (Res E w (.error (74,c1.at_)) [] e w9):=zQr ⟨K3.out.tr (zAU.bel hb9),_,_,hp,H3.out.below hb9⟩
     obtain⟨fb,rfl⟩:=HR9.out.bad
     clear hp hb9
     go_wp2_with fail
     exact⟨rfl,HR9.out⟩
    ·rw[if_neg (fun h=>h.elim (fun h=>h hct) hv0)]at hn
     have HN:=zQr hn
     have y2:((v:Int)==0)=false:=zQx.2 (by omega)
     clear hct hv0 hn
     go_wp2_with fail
     refine HNU.out.mono ?_;rintro e w3 ⟨⟨rfl,hv3⟩,hb3⟩
     have h3:=H2.out.words hb3 hv3
     have m3:=HM2.out.kept (zAU.nbut (E:=E) hb3) HS.out
     have c12:w3.cell? ⟨E.cb,12,none⟩=some (.int .i64 (c1.ct:Nat)):=h3.cc m3.ct
     have f12:=h3.cf 12
     have H3:=zQr (h3.set 12 (v:= .int .i64 (v:Nat)) rfl)
     have HM3:=zQr ((m3.setCt h3.cl.len v).kept (zAU.put E w3 12 (.int .i64 (v:Nat))) HS.out)
     have K3:=zQr ((K2.out.tr (zAU.nbut hb3)).tr (zAU.put E w3 12 (.int .i64 (v:Nat))))
     clear h3 m3 hv3 hb3 r0 HNU
     go_wp2_with fail
     go_roundg g'
     case measure=>have:=HGM.out;omega
     case rel=>exact⟨_,j,_,_,rfl,HN,by have:=HG.out;have:=HLT.out;have:=HAT.out;omega,H3.out,HM3.out,K3.out⟩
   ·rw[if_pos (.inl hct)]at hn
    subst hn
    have y1:((c1.ct:Int) !=0)=true:=bne_iff_ne.2 (by omega)
    clear hct
    go_wp2_with fail
    refine HNU.out.mono ?_;rintro e w3 ⟨⟨rfl,hv3⟩,hb3⟩
    have h3:=H2.out.words hb3 hv3
    have m3:=HM2.out.kept (zAU.nbut (E:=E) hb3) HS.out
    have c12:w3.cell? ⟨E.cb,12,none⟩=some (.int .i64 (c1.ct:Nat)):=h3.cc m3.ct
    have H3:=zQr h3
    have HM3:=zQr m3
    have K3:=zQr (K2.out.tr (zAU.nbut hb3))
    clear h3 m3 hv3 hb3 r0 HNU
    go_wp2_with fail
    refine(zA8 (er:=74) H3.out HM3.out.p (by decide)).mono ?_;rintro e w9 ⟨hp,hb9⟩
    have HR9:Hid (Res E w (.error (74,c1.at_)) [] e w9):=zQr ⟨K3.out.tr (zAU.bel hb9),_,_,hp,H3.out.below hb9⟩
    obtain⟨fb,rfl⟩:=HR9.out.bad
    clear hp hb9
    go_wp2_with fail
    exact⟨rfl,HR9.out⟩
 rw[if_neg hx]at hn
 have HNX:=zQr hx
 clear hx
 by_cases hx:x=119
 ·rw[if_pos hx]at hn
  have HLT:=zQr (hlt (by omega))
  subst hx
  clear hlt x1 x2
  unfold zMn at hn
  have hx:=trivial
  cases hfl:c1.wr with
  |true=>
   rw[if_pos hfl]at hn
   subst hn
   have hlf:l1[15]?=some (.bool true):=by rw[←hfl];exact HM2.out.wr
   have HO:=zQr (zHV H2.out HM2.out.p hlf)
   clear hlf hfl hx
   go_wp2_with fail
   refine HO.out.mono ?_;rintro e w9 hp
   have HR9:Hid (Res E w (.error (74,c1.at_)) [] e w9):=zQr (Res.up K2.out hp)
   obtain⟨fb,rfl⟩:=HR9.out.bad
   clear hp
   go_wp2_with fail
   exact⟨rfl,HR9.out⟩
  |false=>
   rw[if_neg (by rw[hfl];decide)]at hn
   have HN:=zQr hn
   have hlf:l1[15]?=some (.bool false):=by rw[←hfl];exact HM2.out.wr
   have HO:=zQr (zJc H2.out hlf HLT.out)
   clear hlf hfl hx hn
   go_wp2_with fail
   refine HO.out.mono ?_;rintro e w3 ⟨k3,rfl,h3⟩
   have H3:=zQr h3
   have HM3:=zQr ((HM2.out.setWr H2.out.cl.len true).kept k3 HS.out)
   have K3:=zQr (K2.out.tr k3)
   clear k3 h3 HO
   have HFI:=zQr (zGo H3.out HM3.out HB.out (zRE HBW.out K3.out.size))
   go_wp2_with fail
   refine HFI.out.mono ?_;rintro e w4 hf4
   cases hq:zGW E.T (kk+1) { c1 with wr:=true } with
   |error p=>
    rw[hq]at hf4
    have hRR:=HN.out
    rw[hq]at hRR
    subst hRR
    have HR4:Hid (Res E w (.error p) [] e w4):=zQr (Res.up (l:=[]) K3.out hf4)
    obtain⟨fb,rfl⟩:=HR4.out.bad
    clear hf4 hq
    go_wp2_with fail
    exact⟨rfl,HR4.out⟩
   |ok p=>
    obtain⟨c4,q4⟩:=p
    rw[hq]at hf4
    have hRR:=HN.out
    rw[hq]at hRR
    subst hRR
    obtain⟨rfl,k4,l4,h4,m4⟩:=hf4
    have HK4:=zQr (K3.out.tr k4)
    have HH4:=zQr h4
    have HM4:=zQr m4
    clear hq k4 h4 m4
    go_wp2_with fail
    go_end0
    exact⟨rfl,HK4.out,l4,HH4.out,HM4.out⟩
 rw[if_neg hx]at hn
 have x5:((x:Int)==119)=false:=zQx.2 (by omega)
 have HPE:=zQr (zF0 H2.out)
 unfold zGA at hn
 simp only at hn
 unfold zPW at HPE
 have HN:=zQr hn
 clear hx hlt hn
 by_cases x3:(48:Int)≤(x:Int)
 ·have x4: ¬(x:Int)≤57:=fun h=>HNX.out ⟨by omega,by omega⟩
  go_wp2_with fail
  refine HPE.out.mono ?_;rintro e w4 hf4
  by_cases hq:(zHd E.T kk).1≠0
  ·rw[if_pos hq]at hf4
   have hRR:=HN.out
   rw[if_pos hq]at hRR
   subst hRR
   have HR4:Hid (Res E w (.error (zHd E.T kk)) [] e w4):=zQr (Res.up K2.out hf4)
   obtain⟨fb,rfl⟩:=HR4.out.bad
   clear hf4 hq
   go_wp2_with fail
   exact⟨rfl,HR4.out⟩
  ·rw[if_neg hq]at hf4
   have hRR:=HN.out
   rw[if_neg hq]at hRR
   subst hRR
   obtain⟨k4,rfl,h4⟩:=hf4
   have HK4:=zQr (K2.out.tr k4)
   have HH4:=zQr h4
   have HM4:=zQr (HM2.out.kept k4 HS.out)
   clear hq k4 h4
   go_wp2_with fail
   go_end0
   exact⟨rfl,HK4.out,l1,HH4.out,HM4.out⟩
 ·have x4:=trivial
  go_wp2_with fail
  refine HPE.out.mono ?_;rintro e w4 hf4
  by_cases hq:(zHd E.T kk).1≠0
  ·rw[if_pos hq]at hf4
   have hRR:=HN.out
   rw[if_pos hq]at hRR
   subst hRR
   have HR4:Hid (Res E w (.error (zHd E.T kk)) [] e w4):=zQr (Res.up K2.out hf4)
   obtain⟨fb,rfl⟩:=HR4.out.bad
   clear hf4 hq
   go_wp2_with fail
   exact⟨rfl,HR4.out⟩
  ·rw[if_neg hq]at hf4
   have hRR:=HN.out
   rw[if_neg hq]at hRR
   subst hRR
   obtain⟨k4,rfl,h4⟩:=hf4
   have HK4:=zQr (K2.out.tr k4)
   have HH4:=zQr h4
   have HM4:=zQr (HM2.out.kept k4 HS.out)
   clear hq k4 h4
   go_wp2_with fail
   go_end0
   exact⟨rfl,HK4.out,l1,HH4.out,HM4.out⟩
end
end
end Go.Proofs.YtmaagpbjahjmhaaGreatDoor
