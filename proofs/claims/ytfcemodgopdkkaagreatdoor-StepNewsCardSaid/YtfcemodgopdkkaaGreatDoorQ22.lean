/- Parts: Vz Vza Yb. -/
import Derived.Test.YtfcemodgopdkkaaGreatDoorQ21
import Derived.Test.YtfcemodgopdkkaaGreatDoorQ20
import Derived.Lib.IndexEntry
import Derived.Lib.Bytealg
import Derived.Deep.WholeRow
set_option maxHeartbeats 6400000
set_option maxRecDepth 100000
namespace Go.Proofs.YtfcemodgopdkkaaGreatDoor
section
open Go.RowKit
def okF (b:Nat):Bool:=b !=0&&b !=10&&b !=47
theorem ixF: ∀b:Nat,b<256→Lib.indexByte (⟨#[0,10,47]⟩:ByteArray).data.toList ((b:Int).toNat.toUInt8)=if b=0 then 0 else if b=10 then 1 else if b=47 then 2 else -1:=by decide+kernel
theorem zJv {b:Nat} (h:b<256) (h2:okF b=true):Lib.indexByte (⟨#[0,10,47]⟩:ByteArray).data.toList ((b:Int).toNat.toUInt8)= -1:=by
 simp only[okF,Bool.and_eq_true,bne_iff_ne]at h2
 rw[ixF b h,if_neg h2.1.1,if_neg h2.1.2,if_neg h2.2]
theorem zIZ {b:Nat} (h:b<256) (h2:okF b=false): ∃k:Nat,Lib.indexByte (⟨#[0,10,47]⟩:ByteArray).data.toList ((b:Int).toNat.toUInt8)=(k:Int):=by
 rw[ixF b h]
 by_cases h0:b=0
 ·exact⟨0,by rw[if_pos h0];rfl⟩
 by_cases h1:b=10
 ·exact⟨1,by rw[if_neg h0,if_pos h1];rfl⟩
 by_cases h3:b=47
 ·exact⟨2,by rw[if_neg h0,if_neg h1,if_pos h3];rfl⟩
 ·simp[okF,h0,h1,h3]at h2
theorem zGN {b:Nat} (h:128≤b):okF b=true:=by
 simp only[okF,Bool.and_eq_true,bne_iff_ne];omega
theorem zLm: ∀b:Nat,b<256→(⟨#[0,10,47]⟩:ByteArray).data.toList.contains (UInt8.ofNat b)= !(okF b):=by decide+kernel
theorem zGe {T:List Nat} {i:Nat} (hi:i<T.length) (h:okF (T.getD i 0)=false):T.all okF=false:=by
 rw[List.all_eq_false]
 refine⟨T[i],List.getElem_mem hi,?_⟩
 rw[zMH,zMP hi,Option.getD_some]at h
 rw[h];decide
theorem zGd {T:List Nat} (h: ∀j,j<T.length→okF (T.getD j 0)=true):T.all okF=true:=by
 rw[List.all_eq_true]
 intro b hb
 obtain⟨j,hj,rfl⟩:=List.getElem_of_mem hb
 have:=h j hj
 rwa[zMH,zMP hj,Option.getD_some]at this
theorem zL3 {a b:UInt8} (h:128≤a.toNat):Lib.index (⟨#[0,10,47]⟩:ByteArray).data.toList (⟨#[a,b]⟩:ByteArray).data.toList= -1:=by
 have q: ∀x:UInt8,x.toNat<128→(a==x)=false:=fun x hx=>zME.2 fun e=>by rw[e]at h;omega
 simp[Lib.index,List.isPrefixOf,q 0 (by decide),q 10 (by decide),q 47 (by decide)]
theorem zL2 {a b c d:UInt8} (h:128≤a.toNat):Lib.index (⟨#[0,10,47]⟩:ByteArray).data.toList (⟨#[a,b,c,d]⟩:ByteArray).data.toList= -1:=by
 have q: ∀x:UInt8,x.toNat<128→(a==x)=false:=fun x hx=>zME.2 fun e=>by rw[e]at h;omega
 simp[Lib.index,List.isPrefixOf,q 0 (by decide),q 10 (by decide),q 47 (by decide)]
section
variable {w w':World} {oa:Option Addr} {T:List Nat} {cap:Nat}
theorem zGh {P:Program} {ops:Array Oper} {rest:List Oper} {op:Oper} {a:Act} {w:World} {Q:Exit→Act→World→Prop} (hgd:op.guard=none) (t:TypeId) (x y:Operand) {t':TypeId} (ho:op.op= .binOp .eql t x y t') {A B:ByteArray}
  (hx:a.eval x= .string A) (hy:a.eval y= .string B) (h0:(A.toList==B.toList)=false) (h:wpList P ops Q rest (a.put op.dst (.bool false)) w):wpList P ops Q (op::rest) a w:=
 wpList_plain hgd fun _ hK=>by
  unfold Oper.wp execOp
  simp only[ho,hx,hy,binOp_string_eql,h0]
  exact hK _ _ h
def AnO (w:World) (T:List Nat) (e:Ending) (w':World):Prop:=(∃r:Int,e= .returned (.int .i64 r)∧decide (r<0)=T.all okF)∧Below w.heap.size w w'
theorem zDL (n:Nat):Calls Tryz.prog 217 #[.int .i64 (n:Nat)] w fun e w'=>e= .returned (.bool (decide (8<n)))∧w=w':=by
 by_cases h:8<n
 ·have h':(8:Int)<(n:Int):=by omega
  rw[zMJ h]
  clear h
  go_enter Tryz.func217,Tryz.ntmps217
  go_wp2_with fail
  go_ret
  exact⟨rfl,rfl⟩
 ·have h': ¬(8:Int)<(n:Int):=by omega
  rw[zMK h]
  clear h
  go_enter Tryz.func217,Tryz.ntmps217
  go_wp2_with fail
  go_ret
  exact⟨rfl,rfl⟩
theorem zKS {b g o:Nat} (hc:w.cell? ⟨g,o,none⟩=some (.int .u8 (b:Nat))) (hu:b<256):
  Calls Tryz.prog 179 #[.slice (some ⟨g,o,none⟩) 1 cap,.string ⟨#[0,10,47]⟩] w (AnO w [b]):=by
 have HA:Hid ([b].all okF=okF b):=zL8 (by simp)
 have HU:=zL8 hu
 by_cases h1:128≤b
 ·have h1':(128:Int)≤(b:Int):=by omega
  have HO:=zL8 (zGN h1)
  have n0: ∀ty,(Instr.next (.pointer (some ⟨w.heap.size,0,none⟩)) true ty).run Tryz.prog (w.iter ⟨#[0,10,47]⟩ 0)= .ok (.tuple #[.bool true,.int .i64 0,.int .i32 0]) (w.iter ⟨#[0,10,47]⟩ 1):=fun ty=>run_next_ascii w ⟨#[0,10,47]⟩ 0 ty (by decide) (by decide)
  have n1: ∀ty,(Instr.next (.pointer (some ⟨w.heap.size,0,none⟩)) true ty).run Tryz.prog (w.iter ⟨#[0,10,47]⟩ 1)= .ok (.tuple #[.bool true,.int .i64 1,.int .i32 10]) (w.iter ⟨#[0,10,47]⟩ 2):=fun ty=>run_next_ascii w ⟨#[0,10,47]⟩ 1 ty (by decide) (by decide)
  have n2: ∀ty,(Instr.next (.pointer (some ⟨w.heap.size,0,none⟩)) true ty).run Tryz.prog (w.iter ⟨#[0,10,47]⟩ 2)= .ok (.tuple #[.bool true,.int .i64 2,.int .i32 47]) (w.iter ⟨#[0,10,47]⟩ 3):=fun ty=>run_next_ascii w ⟨#[0,10,47]⟩ 2 ty (by decide) (by decide)
  have nn: ∀ty,(Instr.next (.pointer (some ⟨w.heap.size,0,none⟩)) true ty).run Tryz.prog (w.iter ⟨#[0,10,47]⟩ 3)= .ok (.tuple #[.bool false]) (w.iter ⟨#[0,10,47]⟩ 3):=fun ty=>run_next_end w ⟨#[0,10,47]⟩ 3 ty (by decide)
  clear h1
  go_enter Tryz.func179,Tryz.ntmps179
  go_wp2_with fail
  refine wp_loop_rounds 4 ?_
  rw[rounds_succ]
  go_wp2_with fail
  rw[rounds_succ]
  go_wp2_with fail
  rw[rounds_succ]
  go_wp2_with fail
  rw[rounds_succ]
  go_wp2_with fail
  go_ret
  exact⟨⟨-1,rfl,by rw[HA.out,HO.out];rfl⟩,(zL9 _ _).alloc (zMA _) _⟩
 ·have h1': ¬(128:Int)≤(b:Int):=by omega
  clear h1
  cases h2:okF b with
  |true=>
   have hx:=zJv HU.out h2
   rw[h2]at HA
   clear h2
   go_enter Tryz.func179,Tryz.ntmps179
   go_wp2_with fail
   rw[run_callFunc_extern Tryz.func207 (by kernel_rfl) (by kernel_rfl) (by kernel_rfl) (e:=Extern.BytealgIndexByte.indexByte) (by kernel_rfl),Lib.run_indexByteString]
   simp only[Result.andThen]
   rw[Oper.upon_value,hx]
   go_wp2_with fail
   go_ret
   exact⟨⟨-1,rfl,by rw[HA.out];rfl⟩,zL9 _ _⟩
  |false=>
   obtain⟨k,hx⟩:=zIZ HU.out h2
   have hk:(0:Int)≤(k:Int):=by omega
   rw[h2]at HA
   clear h2
   go_enter Tryz.func179,Tryz.ntmps179
   go_wp2_with fail
   rw[run_callFunc_extern Tryz.func207 (by kernel_rfl) (by kernel_rfl) (by kernel_rfl) (e:=Extern.BytealgIndexByte.indexByte) (by kernel_rfl),Lib.run_indexByteString]
   simp only[Result.andThen]
   rw[Oper.upon_value,hx]
   go_wp2_with fail
   go_ret
   exact⟨⟨0,rfl,by rw[HA.out];rfl⟩,zL9 _ _⟩
theorem zBU.rest {i g o:Nat} (h: ∀m,m<T.length→w.cell? ⟨g,o+m,none⟩=some (.int .u8 (T.getD m 0:Nat))) (hi:i≤T.length): ∀m,m<(T.drop i).length→w.cell? ⟨g,o+i+m,none⟩=some (.int .u8 ((T.drop i).getD m 0:Nat)):=fun m hm=>by
 rw[List.length_drop]at hm
 have:=h (i+m) (by omega)
 rw[zMH,List.getElem?_drop,←zMH,Nat.add_assoc]
 exact this
theorem zKT {g o:Nat} (hc: ∀m,m<T.length→w.cell? ⟨g,o+m,none⟩=some (.int .u8 (T.getD m 0:Nat))) (hu: ∀b∈T,b<256) (h1:2≤T.length) (h8:T.length≤8) (hcap:T.length≤cap) (U:U8V w):
  Calls Tryz.prog 179 #[.slice (some ⟨g,o,none⟩) T.length cap,.string ⟨#[0,10,47]⟩] w (AnO w T):=by
 have HC:=zL8 hc
 have HU:=zL8 hu
 have HV:=zL8 U
 have H1:=zL8 h1
 have H8:=zL8 h8
 have HCP:=zL8 hcap
 have q1:((T.length:Int)==1)=false:=zME.2 (by omega)
 have HS:=zDL (w:=w) T.length
 rw[zMK (by omega)]at HS
 have HS:=zL8 HS
 have hgl:g<w.heap.size:=zMf w _ (hc 0 (by omega))
 have HGL:=zL8 hgl
 clear hc hu h1 hcap U hgl
 go_enter Tryz.func179,Tryz.ntmps179
 go_wp2_with fail
 refine HS.out.mono ?_;rintro e w1 ⟨rfl,rfl⟩
 go_wp2_with fail
 go_loopg [12] T.length (fun gk iv wr=> ∃i:Nat,iv= .int .i64 (i:Nat)∧gk=T.length - i∧i≤T.length∧Hid (∀j,j<i→okF (T.getD j 0)=true)∧Below w.heap.size w wr)
 case atStart=>exact⟨0,rfl,by omega,by omega,zL8 (fun j hj=>by omega),zL9 _ _⟩
 case round=>
 obtain⟨i,rfl,hg,hi,HP,hb⟩:=hrel
 have HG:=zL8 hg
 have HB:=zL8 hb
 clear HS
 by_cases hlt:i<T.length
 ·have hlt':(i:Int)<(T.length:Int):=by omega
  have hwr: ∀m,m<T.length→wr.cell? ⟨g,o+m,none⟩=some (.int .u8 (T.getD m 0:Nat)):=fun m hm=>(hb.cell (p:=⟨g,o+m,none⟩) HGL.out).trans (HC.out m hm)
  have HWR:=zL8 hwr
  have hci:=hwr i hlt
  obtain⟨x,hx⟩: ∃x,T.getD i 0=x:=⟨_,rfl⟩
  rw[hx]at hci
  have HX:=zL8 hx
  have hx256:x<256:=by
   rw[←hx,zMH,zMP hlt]
   exact HU.out _ (List.getElem_mem hlt)
  have HX2:=zL8 hx256
  have HI:=zL8 (show i<T.length from hlt)
  clear hg hb hwr hx
  by_cases hx1:x<128
  ·have hx1':(x:Int)<128:=by omega
   clear hx1
   cases hok:okF x with
   |true=>
    have hix:=zJv HX2.out hok
    have HD:=zL8 (show 1≤1∧i+1≤T.length∧Hid (∀j,j<i+1→okF (T.getD j 0)=true)from⟨zMA _,by omega,zL8 fun j hj=>by
     by_cases e:j=i
     ·subst e;rw[HX.out];exact hok
     ·exact HP.out j (by omega)⟩)
    clear hok hlt
    go_wp2_with fail
    rw[run_callFunc_extern Tryz.func207 (by kernel_rfl) (by kernel_rfl) (by kernel_rfl) (e:=Extern.BytealgIndexByte.indexByte) (by kernel_rfl),Lib.run_indexByteString]
    simp only[Result.andThen]
    rw[Oper.upon_value,hix]
    go_wp2_with fail
    go_roundg (T.length - (i+1))
    case measure=>have:=HG.out;have:=HD.out;omega
    case rel=>exact⟨i+1,by go_num,rfl,HD.out.2.1,HD.out.2.2,HB.out⟩
   |false=>
    obtain⟨k,hix⟩:=zIZ HX2.out hok
    have hk:(0:Int)≤(k:Int):=by omega
    have HS:=zL8 (zGe HI.out (by rw[HX.out];exact hok))
    clear hok hlt
    go_wp2_with fail
    rw[run_callFunc_extern Tryz.func207 (by kernel_rfl) (by kernel_rfl) (by kernel_rfl) (e:=Extern.BytealgIndexByte.indexByte) (by kernel_rfl),Lib.run_indexByteString]
    simp only[Result.andThen]
    rw[Oper.upon_value,hix]
    go_wp2_with fail
    go_ret
    exact⟨⟨i,rfl,by rw[HS.out];exact zMK (by omega)⟩,HB.out⟩
  ·have hx1': ¬(x:Int)<128:=by omega
   have hsl:=zG8 (some ⟨g,o,none⟩) T.length cap i hi
   rw[if_neg (by have:=HCP.out;omega),Option.map_some,show(⟨g,o,none⟩:Addr).add i=⟨g,o+i,none⟩from zAq _ _ _]at hsl
   obtain⟨r,k,hd⟩: ∃r k,Lib.decodeGo (zI3 (T.drop i))=(r,k):=⟨_,_,rfl⟩
   have hdl:0<(T.drop i).length:=by rw[List.length_drop];omega
   have hd0:(T.drop i).getD 0 0=x:=by rw[←HX.out,zMH,List.getElem?_drop,zMH,Nat.add_zero]
   have hux: ∀b∈T.drop i,b<256:=fun b hb=>HU.out b (List.mem_of_mem_drop hb)
   obtain⟨d1,d2,d3,d4⟩:=zJe hux hdl (by rw[hd0];omega) hd
   have HDE:=Any7.utf8_DecodeRune zLX (zI3 (T.drop i)) g (o+i) (cap - i) wr (Utf8Tabs_below HV.out.t HB.out) (fun j hj=>by
    rw[zCb]at hj
    rw[zBU.rest HWR.out hi j hj,zB9 hux])
   rw[hd,zCb,List.length_drop]at HDE
   have HDE:=zL8 HDE
   have HD:Hid (1≤k∧i+k≤T.length∧Hid (∀j,j<i+k→okF (T.getD j 0)=true)):=zL8 ⟨d1,by rw[List.length_drop]at d2;omega,zL8 fun j hj=>by
    by_cases e:j<i
    ·exact HP.out j e
    ·have h3:=d3 (j - i) (by omega)
     rw[zMH,List.getElem?_drop,show i+(j - i)=j by omega,←zMH]at h3
     exact zGN h3⟩
   have D4:=zL8 d4
   have hik:i+k≤T.length:=HD.out.2.1
   clear d1 d2 d3 d4 hd hdl hd0 hux hx1 hlt
   go_wp2_with fail
   refine HDE.out.mono ?_;rintro e w2 ⟨rfl,hb2⟩
   have HB2:=zL8 (HB.out.trans (hb2.mono HB.out.size))
   obtain⟨m,hm⟩:=(HV.out.below HB2.out).m
   clear hb2 hsl hci HDE
   have hd:=trivial
   rcases D4.out with hr|⟨hr128,hr0,hr1,hr2,hk⟩
   ·subst hr
    have n0: ∀ty,(Instr.next (.pointer (some ⟨w2.heap.size,0,none⟩)) true ty).run Tryz.prog (w2.iter ⟨#[0,10,47]⟩ 0)= .ok (.tuple #[.bool true,.int .i64 0,.int .i32 0]) (w2.iter ⟨#[0,10,47]⟩ 1):=fun ty=>run_next_ascii w2 ⟨#[0,10,47]⟩ 0 ty (by decide) (by decide)
    have n1: ∀ty,(Instr.next (.pointer (some ⟨w2.heap.size,0,none⟩)) true ty).run Tryz.prog (w2.iter ⟨#[0,10,47]⟩ 1)= .ok (.tuple #[.bool true,.int .i64 1,.int .i32 10]) (w2.iter ⟨#[0,10,47]⟩ 2):=fun ty=>run_next_ascii w2 ⟨#[0,10,47]⟩ 1 ty (by decide) (by decide)
    have n2: ∀ty,(Instr.next (.pointer (some ⟨w2.heap.size,0,none⟩)) true ty).run Tryz.prog (w2.iter ⟨#[0,10,47]⟩ 2)= .ok (.tuple #[.bool true,.int .i64 2,.int .i32 47]) (w2.iter ⟨#[0,10,47]⟩ 3):=fun ty=>run_next_ascii w2 ⟨#[0,10,47]⟩ 2 ty (by decide) (by decide)
    have nn: ∀ty,(Instr.next (.pointer (some ⟨w2.heap.size,0,none⟩)) true ty).run Tryz.prog (w2.iter ⟨#[0,10,47]⟩ 3)= .ok (.tuple #[.bool false]) (w2.iter ⟨#[0,10,47]⟩ 3):=fun ty=>run_next_end w2 ⟨#[0,10,47]⟩ 3 ty (by decide)
    clear hd
    go_wp2_with fail
    refine wp_loop_rounds 4 ?_
    rw[rounds_succ]
    go_wp2_with fail
    rw[rounds_succ]
    go_wp2_with fail
    rw[rounds_succ]
    go_wp2_with fail
    rw[rounds_succ]
    go_wp2_with fail
    go_roundg (T.length - (i+k))
    case measure=>have:=HG.out;have:=HD.out;omega
    case rel=>exact⟨i+k,by go_num,rfl,HD.out.2.1,HD.out.2.2,HB2.out.alloc HB2.out.size _⟩
   have e0:((r:Int)==0)=false:=zME.2 (by omega)
   have e1:((r:Int)==10)=false:=zME.2 (by omega)
   have e2:((r:Int)==47)=false:=zME.2 (by omega)
   by_cases hr3:r=65533
   ·subst hr3
    have n0: ∀ty,(Instr.next (.pointer (some ⟨w2.heap.size,0,none⟩)) true ty).run Tryz.prog (w2.iter ⟨#[0,10,47]⟩ 0)= .ok (.tuple #[.bool true,.int .i64 0,.int .i32 0]) (w2.iter ⟨#[0,10,47]⟩ 1):=fun ty=>run_next_ascii w2 ⟨#[0,10,47]⟩ 0 ty (by decide) (by decide)
    have n1: ∀ty,(Instr.next (.pointer (some ⟨w2.heap.size,0,none⟩)) true ty).run Tryz.prog (w2.iter ⟨#[0,10,47]⟩ 1)= .ok (.tuple #[.bool true,.int .i64 1,.int .i32 10]) (w2.iter ⟨#[0,10,47]⟩ 2):=fun ty=>run_next_ascii w2 ⟨#[0,10,47]⟩ 1 ty (by decide) (by decide)
    have n2: ∀ty,(Instr.next (.pointer (some ⟨w2.heap.size,0,none⟩)) true ty).run Tryz.prog (w2.iter ⟨#[0,10,47]⟩ 2)= .ok (.tuple #[.bool true,.int .i64 2,.int .i32 47]) (w2.iter ⟨#[0,10,47]⟩ 3):=fun ty=>run_next_ascii w2 ⟨#[0,10,47]⟩ 2 ty (by decide) (by decide)
    have nn: ∀ty,(Instr.next (.pointer (some ⟨w2.heap.size,0,none⟩)) true ty).run Tryz.prog (w2.iter ⟨#[0,10,47]⟩ 3)= .ok (.tuple #[.bool false]) (w2.iter ⟨#[0,10,47]⟩ 3):=fun ty=>run_next_end w2 ⟨#[0,10,47]⟩ 3 ty (by decide)
    clear hd
    go_wp2_with fail
    refine wp_loop_rounds 4 ?_
    rw[rounds_succ]
    go_wp2_with fail
    rw[rounds_succ]
    go_wp2_with fail
    rw[rounds_succ]
    go_wp2_with fail
    rw[rounds_succ]
    go_wp2_with fail
    go_roundg (T.length - (i+k))
    case measure=>have:=HG.out;have:=HD.out;omega
    case rel=>exact⟨i+k,by go_num,rfl,HD.out.2.1,HD.out.2.2,HB2.out.alloc HB2.out.size _⟩
   have e3:((r:Int) !=65533)=true:=bne_iff_ne.2 (by omega)
   clear hr128 hr0 hr1 hr2 hr3
   rcases hk with ⟨rfl,a,b,he,ha⟩|⟨rfl,a,b,c,he,ha⟩|⟨rfl,a,b,c,d,he,ha⟩
   ·by_cases hmk:(2:Int)≤m
    ·clear hd
     go_wp2_with fail
     rw[run_callFunc_extern Tryz.func220 (by kernel_rfl) (by kernel_rfl) (by kernel_rfl) (e:=Extern.BytealgIndex.index) (by kernel_rfl),Lib.run_indexString ⟨#[0,10,47]⟩ ⟨#[a,b]⟩ w2 1 m (by kernel_rfl) hm (by show 2≤2;decide) hmk (by decide),zL3 ha]
     simp only[Result.andThen]
     rw[Oper.upon_value]
     go_wp2_with fail
     go_roundg (T.length - (i+2))
     case measure=>have:=HG.out;have:=HD.out;omega
     case rel=>exact⟨i+2,by go_num,rfl,HD.out.2.1,HD.out.2.2,HB2.out⟩
    ·clear he ha
     have n0: ∀ty,(Instr.next (.pointer (some ⟨w2.heap.size,0,none⟩)) true ty).run Tryz.prog (w2.iter ⟨#[0,10,47]⟩ 0)= .ok (.tuple #[.bool true,.int .i64 0,.int .i32 0]) (w2.iter ⟨#[0,10,47]⟩ 1):=fun ty=>run_next_ascii w2 ⟨#[0,10,47]⟩ 0 ty (by decide) (by decide)
     have n1: ∀ty,(Instr.next (.pointer (some ⟨w2.heap.size,0,none⟩)) true ty).run Tryz.prog (w2.iter ⟨#[0,10,47]⟩ 1)= .ok (.tuple #[.bool true,.int .i64 1,.int .i32 10]) (w2.iter ⟨#[0,10,47]⟩ 2):=fun ty=>run_next_ascii w2 ⟨#[0,10,47]⟩ 1 ty (by decide) (by decide)
     have n2: ∀ty,(Instr.next (.pointer (some ⟨w2.heap.size,0,none⟩)) true ty).run Tryz.prog (w2.iter ⟨#[0,10,47]⟩ 2)= .ok (.tuple #[.bool true,.int .i64 2,.int .i32 47]) (w2.iter ⟨#[0,10,47]⟩ 3):=fun ty=>run_next_ascii w2 ⟨#[0,10,47]⟩ 2 ty (by decide) (by decide)
     have nn: ∀ty,(Instr.next (.pointer (some ⟨w2.heap.size,0,none⟩)) true ty).run Tryz.prog (w2.iter ⟨#[0,10,47]⟩ 3)= .ok (.tuple #[.bool false]) (w2.iter ⟨#[0,10,47]⟩ 3):=fun ty=>run_next_end w2 ⟨#[0,10,47]⟩ 3 ty (by decide)
     clear hd
     go_wp2_with fail
     refine wp_loop_rounds 4 ?_
     rw[rounds_succ]
     go_wp2_with fail
     rw[rounds_succ]
     go_wp2_with fail
     rw[rounds_succ]
     go_wp2_with fail
     rw[rounds_succ]
     go_wp2_with fail
     go_roundg (T.length - (i+2))
     case measure=>have:=HG.out;have:=HD.out;omega
     case rel=>exact⟨i+2,by go_num,rfl,HD.out.2.1,HD.out.2.2,HB2.out.alloc HB2.out.size _⟩
   ·have hst:((⟨#[0,10,47]⟩:ByteArray).toList==(⟨#[a,b,c]⟩:ByteArray).toList)=false:=by
     rw[Lib.toList_data,Lib.toList_data]
     refine zME.2 fun e=>?_
     injection e with e
     rw[←e]at ha
     exact absurd ha (by decide)
    clear ha
    obtain⟨S,hS⟩: ∃S:ByteArray,(⟨#[a,b,c]⟩:ByteArray)=S:=⟨_,rfl⟩
    rw[hS]at hst he
    clear hS
    have HST:=zL8 hst
    clear hst
    go_upto_if 109 with (refine zGh rfl _ _ _ rfl rfl rfl HST.out ?_)
    simp only[Act.put,List.setIfInBounds_toArray,List.set_cons_succ,List.set_cons_zero]
    go_wp2_with fail
    go_roundg (T.length - (i+3))
    case measure=>have:=HG.out;have:=HD.out;omega
    case rel=>exact⟨i+3,by go_num,rfl,HD.out.2.1,HD.out.2.2,HB2.out⟩
   ·by_cases hmk:(4:Int)≤m
    ·clear hd
     go_wp2_with fail
     rw[run_callFunc_extern Tryz.func220 (by kernel_rfl) (by kernel_rfl) (by kernel_rfl) (e:=Extern.BytealgIndex.index) (by kernel_rfl),Lib.run_indexString ⟨#[0,10,47]⟩ ⟨#[a,b,c,d]⟩ w2 1 m (by kernel_rfl) hm (by show 2≤4;decide) hmk (by decide),zL2 ha]
     simp only[Result.andThen]
     rw[Oper.upon_value]
     go_wp2_with fail
     go_roundg (T.length - (i+4))
     case measure=>have:=HG.out;have:=HD.out;omega
     case rel=>exact⟨i+4,by go_num,rfl,HD.out.2.1,HD.out.2.2,HB2.out⟩
    ·clear he ha
     have n0: ∀ty,(Instr.next (.pointer (some ⟨w2.heap.size,0,none⟩)) true ty).run Tryz.prog (w2.iter ⟨#[0,10,47]⟩ 0)= .ok (.tuple #[.bool true,.int .i64 0,.int .i32 0]) (w2.iter ⟨#[0,10,47]⟩ 1):=fun ty=>run_next_ascii w2 ⟨#[0,10,47]⟩ 0 ty (by decide) (by decide)
     have n1: ∀ty,(Instr.next (.pointer (some ⟨w2.heap.size,0,none⟩)) true ty).run Tryz.prog (w2.iter ⟨#[0,10,47]⟩ 1)= .ok (.tuple #[.bool true,.int .i64 1,.int .i32 10]) (w2.iter ⟨#[0,10,47]⟩ 2):=fun ty=>run_next_ascii w2 ⟨#[0,10,47]⟩ 1 ty (by decide) (by decide)
     have n2: ∀ty,(Instr.next (.pointer (some ⟨w2.heap.size,0,none⟩)) true ty).run Tryz.prog (w2.iter ⟨#[0,10,47]⟩ 2)= .ok (.tuple #[.bool true,.int .i64 2,.int .i32 47]) (w2.iter ⟨#[0,10,47]⟩ 3):=fun ty=>run_next_ascii w2 ⟨#[0,10,47]⟩ 2 ty (by decide) (by decide)
     have nn: ∀ty,(Instr.next (.pointer (some ⟨w2.heap.size,0,none⟩)) true ty).run Tryz.prog (w2.iter ⟨#[0,10,47]⟩ 3)= .ok (.tuple #[.bool false]) (w2.iter ⟨#[0,10,47]⟩ 3):=fun ty=>run_next_end w2 ⟨#[0,10,47]⟩ 3 ty (by decide)
     clear hd
     go_wp2_with fail
     refine wp_loop_rounds 4 ?_
     rw[rounds_succ]
     go_wp2_with fail
     rw[rounds_succ]
     go_wp2_with fail
     rw[rounds_succ]
     go_wp2_with fail
     rw[rounds_succ]
     go_wp2_with fail
     go_roundg (T.length - (i+4))
     case measure=>have:=HG.out;have:=HD.out;omega
     case rel=>exact⟨i+4,by go_num,rfl,HD.out.2.1,HD.out.2.2,HB2.out.alloc HB2.out.size _⟩
 ·obtain rfl:i=T.length:=by omega
  have hlt': ¬(T.length:Int)<(T.length:Int):=by omega
  have HS:=zL8 (zGd HP.out)
  clear hlt hg hb
  go_wp2_with fail
  go_ret
  exact⟨⟨-1,rfl,by rw[HS.out];rfl⟩,HB.out⟩
end
end
section
open Go.RowKit
section
variable {w w':World} {oa:Option Addr} {T:List Nat} {cap:Nat}
theorem zEA:(Tryz.prog.info? 274).map (fun i=>(i.zero,i.size))=some (some (.agg (Array.replicate 256 (.bool false))),256):=by kernel_rfl
theorem zJk {g o:Nat} (hc: ∀m,m<T.length→w.cell? ⟨g,o+m,none⟩=some (.int .u8 (T.getD m 0:Nat))) (hu: ∀b∈T,b<256) (h9:8<T.length) (hl:T.length≤4294967280):
  Calls Tryz.prog 179 #[.slice (some ⟨g,o,none⟩) T.length cap,.string ⟨#[0,10,47]⟩] w (AnO w T):=by
 have HC:=zL8 hc
 have HU:=zL8 hu
 have q1:((T.length:Int)==1)=false:=zME.2 (by omega)
 have HS:=zDL (w:=w) T.length
 rw[zMJ h9]at HS
 have HS:=zL8 HS
 have hgl:g<w.heap.size:=zMf w _ (hc 0 (by omega))
 have HGL:=zL8 hgl
 have HL:=zL8 hl
 have hM:=Any.bytes_makeASCIISet { zLK with } (zero_of_info zEA).1 (zero_of_info zEA).2 ⟨#[0,10,47]⟩ w (by decide) (by
  intro j b hb
  match j,hb with
  |0,hb=>cases hb;decide
  |1,hb=>cases hb;decide
  |2,hb=>cases hb;decide)
 obtain⟨cs,hcs⟩: ∃cs,Lib.setCells (⟨#[0,10,47]⟩:ByteArray).data.toList=cs:=⟨_,rfl⟩
 rw[hcs]at hM
 have hsz:cs.size=256:=by rw[←hcs];exact Lib.setCells_size _
 have hone:cs.all (·.oneCell')=true:=by rw[←hcs];exact Lib.setCells_one _
 have hat: ∀x:UInt8,cs[x.toNat]?=some (.bool ((⟨#[0,10,47]⟩:ByteArray).data.toList.contains x)):=fun x=>by rw[←hcs];exact Lib.setCells_at _ x
 have hf: ∀c,((w.alloc (.cells cs 274)).alloc (.cells c 274)).setRow (w.heap.size+1) cs=(w.alloc (.cells cs 274)).alloc (.cells cs 274):=fun c=>by
  have:=World.setRow_alloc_new (w.alloc (.cells cs 274)) c cs 274
  simpa using this
 have hcell: ∀b,b<256→((w.alloc (.cells cs 274)).alloc (.cells cs 274)).cell? ⟨w.heap.size+1,b,none⟩=some (.bool (!(okF b))):=fun b hb=>by
  have hx:=hat (UInt8.ofNat b)
  rw[show(UInt8.ofNat b).toNat=b by rw[UInt8.toNat_ofNat'];omega,zLm b hb]at hx
  rw[World.cell?_alloc_at _ _ _ _ (by simp)]
  exact hx
 have hB:Below w.heap.size w ((w.alloc (.cells cs 274)).alloc (.cells cs 274)):=((zL9 _ _).alloc (zMA _) _).alloc (by simp) _
 have HM:=zL8 (show Calls Tryz.prog 211 #[.string ⟨#[0,10,47]⟩] w fun e w'=>e= .returned (.tuple #[.agg cs,.bool true])∧w'=w.alloc (.cells cs 274)from hM)
 have HF:=zL8 hf
 have HON:=zL8 hone
 have HCE:=zL8 hcell
 have HBB:=zL8 hB
 clear hc hu h9 hgl hM hcs hone hat hf hcell hB
 go_enter Tryz.func179,Tryz.ntmps179
 go_wp2_with fail
 refine HS.out.mono ?_;rintro e w1 ⟨rfl,rfl⟩
 go_wp2_with fail
 refine HM.out.mono ?_;rintro e w1 ⟨rfl,rfl⟩
 have hh: ∀c,((w.alloc (.cells cs 274)).alloc (.cells c 274)).heap[w.heap.size+1]?=some (.cells c 274 (0,0)):=fun c=>by
  have:=heap_alloc_last (w.alloc (.cells cs 274)) (.cells c 274)
  simpa using this
 have HH:=zL8 hh
 have HZ:=zL8 hsz
 clear hh hsz HS HM
 go_wp2_with (refine wpList_store_row rfl 274 _ _ rfl (w.heap.size+1) cs rfl rfl 274 _ (HH.out _) (by rw[HZ.out];exact(zero_of_info zEA).2) (by rw[HZ.out];kernel_rfl) HON.out ?_)
 go_upto_region 22 with fail
 rw[HF.out]
 obtain⟨W,hW⟩: ∃W,(w.alloc (.cells cs 274)).alloc (.cells cs 274)=W:=⟨_,rfl⟩
 rw[hW]at HCE HBB ⊢
 obtain⟨sb,hsb⟩: ∃a,w.heap.size+1=a:=⟨_,rfl⟩
 rw[hsb]at HCE
 have HSB:=zL8 hsb
 rw[hsb]
 clear hW hsb HH HZ HON HF
 go_wp2_with fail
 go_loopg [62] T.length (fun gk iv wr=> ∃i:Nat,iv= .int .i64 (i:Nat)∧gk=T.length - i∧i≤T.length∧wr=W∧Hid (∀j,j<i→okF (T.getD j 0)=true))
 case atStart=>exact⟨0,rfl,by omega,by omega,rfl,zL8 (fun j hj=>by omega)⟩
 case round=>
 obtain⟨i,rfl,hg,hi,rfl,HP⟩:=hrel
 have HG:=zL8 hg
 by_cases hlt:i<T.length
 ·have hlt':(i:Int)<(T.length:Int):=by omega
  have hci:wr.cell? ⟨g,o+i,none⟩=some (.int .u8 (T.getD i 0:Nat)):=(HBB.out.cell (p:=⟨g,o+i,none⟩) HGL.out).trans (HC.out i hlt)
  obtain⟨x,hx⟩: ∃x,T.getD i 0=x:=⟨_,rfl⟩
  rw[hx]at hci
  have HX:=zL8 hx
  have hx256:x<256:=by
   rw[←hx,zMH,zMP hlt]
   exact HU.out _ (List.getElem_mem hlt)
  have hce:=HCE.out x hx256
  have HI:=zL8 (show i<T.length from hlt)
  have HCO:=Any.bytes_asciiSet_contains { zLK with } sb (UInt8.ofNat x) (!(okF x)) wr (by
   rw[show(UInt8.ofNat x).toNat=x by rw[UInt8.toNat_ofNat'];omega];exact hce)
  rw[show(UInt8.ofNat x).toNat=x by rw[UInt8.toNat_ofNat'];omega]at HCO
  have HCO:=zL8 HCO
  have HI2:=zL8 (show(i:Int)+1≤9223372036854775807 by have:=HL.out;omega)
  clear hg hx hlt hx256 hce
  cases hok:okF x with
  |true=>
   rw[hok]at HCO
   have HD:=zL8 (show∀j,j<i+1→okF (T.getD j 0)=true from fun j hj=>by
    by_cases e:j=i
    ·subst e;rw[HX.out];exact hok
    ·exact HP.out j (by omega))
   clear hok
   go_wp2_with fail
   refine HCO.out.mono ?_;rintro e w2 ⟨rfl,rfl⟩
   go_wp2_with fail
   go_roundg (T.length - (i+1))
   case measure=>have:=HG.out;have:=HI.out;omega
   case rel=>exact⟨i+1,by go_num,rfl,HI.out,rfl,HD⟩
  |false=>
   rw[hok]at HCO
   have HST:=zL8 (zGe HI.out (by rw[HX.out];exact hok))
   clear hok
   go_wp2_with fail
   refine HCO.out.mono ?_;rintro e w2 ⟨rfl,rfl⟩
   go_wp2_with fail
   go_ret
   exact⟨⟨i,rfl,by rw[HST.out];exact zMK (by omega)⟩,HBB.out⟩
 ·obtain rfl:i=T.length:=by omega
  have hlt': ¬(T.length:Int)<(T.length:Int):=by omega
  have HST:=zL8 (zGd HP.out)
  clear hlt hg
  go_wp2_with fail
  go_ret
  exact⟨⟨-1,rfl,by rw[HST.out];rfl⟩,HBB.out⟩
theorem zJl (h:zBU w oa T) (hu: ∀b∈T,b<256) (h1:1≤T.length) (h2:T.length≤64) (hcap:T.length≤cap) (U:U8V w):
  Calls Tryz.prog 179 #[.slice oa T.length cap,.string ⟨#[0,10,47]⟩] w (AnO w T):=by
 obtain⟨g,o,rfl,hc⟩:=h (by omega)
 by_cases h3:T.length=1
 ·obtain⟨b,rfl⟩: ∃b,T=[b]:=List.length_eq_one_iff.1 h3
  exact zKS (hc 0 (by omega)) (hu b (by simp))
 ·by_cases h4:T.length≤8
  ·exact zKT hc hu (by omega) h4 hcap U
  ·exact zJk hc hu (by omega) (by omega)
end
end
section
open Go.RowKit
theorem ixB: ∀b:Nat,b<256→Lib.indexByte (⟨#[32,9]⟩:ByteArray).data.toList ((b:Int).toNat.toUInt8)=if b=32 then 0 else if b=9 then 1 else -1:=by decide+kernel
theorem zKM {b:Nat} (h:b<256) (h2:zAa b=false):Lib.indexByte (⟨#[32,9]⟩:ByteArray).data.toList ((b:Int).toNat.toUInt8)= -1:=by
 simp only[zAa,Bool.or_eq_false_iff,beq_eq_false_iff_ne]at h2
 rw[ixB b h,if_neg h2.1,if_neg h2.2]
theorem zKL {b:Nat} (h:b<256) (h2:zAa b=true): ∃k:Nat,Lib.indexByte (⟨#[32,9]⟩:ByteArray).data.toList ((b:Int).toNat.toUInt8)=(k:Int):=by
 simp only[zAa,Bool.or_eq_true,beq_iff_eq]at h2
 rw[ixB b h]
 rcases h2 with rfl|rfl
 ·exact⟨0,rfl⟩
 ·exact⟨1,rfl⟩
theorem zJq {w:World} {base:Nat} {o:Option Addr} {c:Nat} {T:List Nat} (h:w.ownsRow base 5 1 (.slice o T.length c) T.length (u8s T)):zBU w o T∧T.length≤c:=by
 refine⟨fun hp=>?_,(zIA h).1⟩
 obtain⟨_,g,rfl,_,hcell,_⟩:=zAZ h hp
 refine⟨g,0,rfl,fun i hi=>?_⟩
 obtain⟨u,hu1,hu2⟩:=hcell i (by omega)
 rw[Nat.zero_add,hu2,←hu1]
 simp[u8s,hi,List.getD_eq_getElem?_getD]
section
variable {w w':World} {E:PE} {i j k n:Nat} {l:List Value} {base:Nat} {c:Cm} {oa:Option Addr} {T:List Nat} {cap:Nat}
theorem zF2 (h:zBU w oa T) (hu: ∀b∈T,b<256) (hcap:T.length≤cap) (U:U8V w):
  Calls Tryz.prog 148 #[.slice oa T.length cap] w fun e w'=>e= .returned (.bool (zA1 T))∧Below w.heap.size w w':=by
 have HF:Hid (zA1 T=(decide (1≤T.length∧T.length≤64)&&T.all okF&& !(zAa (T.getD 0 0)))):=zL8 rfl
 have HX:=zL8 h
 by_cases h1:T.length=0
 ·have HR:Hid (zA1 T=false):=zL8 (by rw[HF.out,zMK (by omega)];rfl)
  have q1: ¬(1:Int)≤(T.length:Int):=by omega
  clear h hu hcap U h1
  go_enter Tryz.func148,Tryz.ntmps148
  go_wp2_with fail
  go_ret
  exact⟨by rw[HR.out];rfl,zL9 _ _⟩
 have q1:(1:Int)≤(T.length:Int):=by omega
 by_cases h2:64<T.length
 ·have HR:Hid (zA1 T=false):=zL8 (by rw[HF.out,zMK (by omega)];rfl)
  have q2: ¬(T.length:Int)≤64:=by omega
  clear h hu hcap U h1 h2
  go_enter Tryz.func148,Tryz.ntmps148
  go_wp2_with fail
  go_ret
  exact⟨by rw[HR.out];rfl,zL9 _ _⟩
 have q2:(T.length:Int)≤64:=by omega
 have HA:=zL8 (zJl h hu (by omega) (by omega) hcap U)
 have HD:Hid (zA1 T=(T.all okF&& !(zAa (T.getD 0 0)))):=zL8 (by rw[HF.out,zMJ (by omega)];rfl)
 obtain⟨g,o,rfl,hc⟩:=h (by omega)
 have hc0:=hc 0 (by omega)
 obtain⟨x,hx⟩: ∃x,T.getD 0 0=x:=⟨_,rfl⟩
 have hx256:x<256:=by
  rw[←hx,zMH,zMP (by omega)]
  exact hu _ (List.getElem_mem (by omega))
 rw[hx]at hc0 HD
 rw[Nat.add_zero]at hc0
 have HC:=zL8 hc0
 have HX2:=zL8 hx256
 have HL:=zL8 (zMf w _ hc0)
 have HP:=zL8 (show 0<T.length by omega)
 clear hu hcap U h1 h2 hc hc0 hx hx256 HF HX h
 cases ha:T.all okF with
 |false=>
  have HR:Hid (zA1 T=false):=zL8 (by rw[HD.out,ha];rfl)
  have HA2:=zL8 (show Calls Tryz.prog 179 #[.slice (some ⟨g,o,none⟩) T.length cap,.string ⟨#[0,10,47]⟩] w fun e w'=>(∃r:Int,e= .returned (.int .i64 r)∧ ¬r<0)∧Below w.heap.size w w' from HA.out.mono fun e w' ⟨⟨r,h1,h2⟩,h3⟩=>⟨⟨r,h1,by rw[ha]at h2;exact of_decide_eq_false h2⟩,h3⟩)
  clear ha HA
  go_enter Tryz.func148,Tryz.ntmps148
  go_wp2_with fail
  refine HA2.out.mono ?_;rintro e w1 ⟨⟨r,rfl,hr⟩,hb1⟩
  have HB1:=zL8 hb1
  clear hb1
  go_wp2_with fail
  go_ret
  exact⟨by rw[HR.out];rfl,HB1.out⟩
 |true=>
  have HA2:=zL8 (show Calls Tryz.prog 179 #[.slice (some ⟨g,o,none⟩) T.length cap,.string ⟨#[0,10,47]⟩] w fun e w'=>(∃r:Int,e= .returned (.int .i64 r)∧r<0)∧Below w.heap.size w w' from HA.out.mono fun e w' ⟨⟨r,h1,h2⟩,h3⟩=>⟨⟨r,h1,by rw[ha]at h2;exact of_decide_eq_true h2⟩,h3⟩)
  have HD2:Hid (zA1 T= !(zAa x)):=zL8 (by rw[HD.out,ha,Bool.true_and])
  clear ha HA HD
  cases hbl:zAa x with
  |true=>
   have HR:Hid (zA1 T=false):=zL8 (by rw[HD2.out,hbl];rfl)
   obtain⟨m,hix⟩:=zKL HX2.out hbl
   have hm: ¬(m:Int)<0:=by omega
   clear hbl HD2
   go_enter Tryz.func148,Tryz.ntmps148
   go_wp2_with fail
   refine HA2.out.mono ?_;rintro e w1 ⟨⟨r,rfl,hr⟩,hb1⟩
   have hc1:=(hb1.cell (p:=⟨g,o,none⟩) HL.out).trans HC.out
   have hp:=HP.out
   have HB1:=zL8 hb1
   clear hb1
   go_wp2_with fail
   refine(shl.strings_IndexByte _ _ _).mono ?_;rintro e w2 ⟨rfl,rfl⟩
   rw[hix]
   go_wp2_with fail
   go_ret
   exact⟨by rw[HR.out];rfl,HB1.out⟩
  |false=>
   have HR:Hid (zA1 T=true):=zL8 (by rw[HD2.out,hbl];rfl)
   have hix:=zKM HX2.out hbl
   clear hbl HD2
   go_enter Tryz.func148,Tryz.ntmps148
   go_wp2_with fail
   refine HA2.out.mono ?_;rintro e w1 ⟨⟨r,rfl,hr⟩,hb1⟩
   have hc1:=(hb1.cell (p:=⟨g,o,none⟩) HL.out).trans HC.out
   have hp:=HP.out
   have HB1:=zL8 hb1
   clear hb1
   go_wp2_with fail
   refine(shl.strings_IndexByte _ _ _).mono ?_;rintro e w2 ⟨rfl,rfl⟩
   rw[hix]
   go_wp2_with fail
   go_ret
   exact⟨by rw[HR.out];rfl,HB1.out⟩
end
end
end Go.Proofs.YtfcemodgopdkkaaGreatDoor
