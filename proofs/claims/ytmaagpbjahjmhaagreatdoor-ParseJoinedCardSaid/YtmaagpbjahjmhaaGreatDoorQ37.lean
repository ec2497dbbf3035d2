/- Parts: Vz Vza Yb Yv Yc. -/
import Derived.Test.YtmaagpbjahjmhaaGreatDoorQ19
import Derived.Test.YtmaagpbjahjmhaaGreatDoorQ36
import Derived.Test.YtmaagpbjahjmhaaGreatDoorQ14
import Derived.Lib.IndexEntry
import Derived.Lib.Bytealg
import Derived.Deep.WholeRow
set_option maxHeartbeats 6400000
set_option maxRecDepth 100000
namespace Go.Proofs.YtmaagpbjahjmhaaGreatDoor
section
open Go.RowKit
def okF (b:Nat):Bool:=b !=0&&b !=10&&b !=47
theorem ixF: ∀b:Nat,b<256→Lib.indexByte (⟨#[0,10,47]⟩:ByteArray).data.toList ((b:Int).toNat.toUInt8)=if b=0 then 0 else if b=10 then 1 else if b=47 then 2 else -1:=by decide+kernel
theorem zOv {b:Nat} (h:b<256) (h2:okF b=true):Lib.indexByte (⟨#[0,10,47]⟩:ByteArray).data.toList ((b:Int).toNat.toUInt8)= -1:=by
 simp only[okF,Bool.and_eq_true,bne_iff_ne]at h2
 rw[ixF b h,if_neg h2.1.1,if_neg h2.1.2,if_neg h2.2]
theorem zMp {b:Nat} (h:b<256) (h2:okF b=false): ∃k:Nat,Lib.indexByte (⟨#[0,10,47]⟩:ByteArray).data.toList ((b:Int).toNat.toUInt8)=(k:Int):=by
 rw[ixF b h]
 by_cases h0:b=0
 ·exact⟨0,by rw[if_pos h0];rfl⟩
 by_cases h1:b=10
 ·exact⟨1,by rw[if_neg h0,if_pos h1];rfl⟩
 by_cases h3:b=47
 ·exact⟨2,by rw[if_neg h0,if_neg h1,if_pos h3];rfl⟩
 ·simp[okF,h0,h1,h3]at h2
theorem zKL {b:Nat} (h:128≤b):okF b=true:=by
 simp only[okF,Bool.and_eq_true,bne_iff_ne];omega
theorem zQZ: ∀b:Nat,b<256→(⟨#[0,10,47]⟩:ByteArray).data.toList.contains (UInt8.ofNat b)= !(okF b):=by decide+kernel
theorem zKd {T:List Nat} {i:Nat} (hi:i<T.length) (h:okF (T.getD i 0)=false):T.all okF=false:=by
 rw[List.all_eq_false]
 refine⟨T[i],List.getElem_mem hi,?_⟩
 rw[zQt,zQ1 hi,Option.getD_some]at h
 rw[h];decide
theorem zKc {T:List Nat} (h: ∀j,j<T.length→okF (T.getD j 0)=true):T.all okF=true:=by
 rw[List.all_eq_true]
 intro b hb
 obtain⟨j,hj,rfl⟩:=List.getElem_of_mem hb
 have:=h j hj
 rwa[zQt,zQ1 hj,Option.getD_some]at this
theorem zQi {a b:UInt8} (h:128≤a.toNat):Lib.index (⟨#[0,10,47]⟩:ByteArray).data.toList (⟨#[a,b]⟩:ByteArray).data.toList= -1:=by
 have q: ∀x:UInt8,x.toNat<128→(a==x)=false:=fun x hx=>zQq.2 fun e=>by rw[e]at h;omega
 simp[Lib.index,List.isPrefixOf,q 0 (by decide),q 10 (by decide),q 47 (by decide)]
theorem zQh {a b c d:UInt8} (h:128≤a.toNat):Lib.index (⟨#[0,10,47]⟩:ByteArray).data.toList (⟨#[a,b,c,d]⟩:ByteArray).data.toList= -1:=by
 have q: ∀x:UInt8,x.toNat<128→(a==x)=false:=fun x hx=>zQq.2 fun e=>by rw[e]at h;omega
 simp[Lib.index,List.isPrefixOf,q 0 (by decide),q 10 (by decide),q 47 (by decide)]
section
variable {w w':World} {oa:Option Addr} {T:List Nat} {cap:Nat}
theorem zKl {P:Program} {ops:Array Oper} {rest:List Oper} {op:Oper} {a:Act} {w:World} {Q:Exit→Act→World→Prop} (hgd:op.guard=none) (t:TypeId) (x y:Operand) {t':TypeId} (ho:op.op= .binOp .eql t x y t') {A B:ByteArray}
  (hx:a.eval x= .string A) (hy:a.eval y= .string B) (h0:(A.toList==B.toList)=false) (h:wpList P ops Q rest (a.put op.dst (.bool false)) w):wpList P ops Q (op::rest) a w:=
 wpList_plain hgd fun _ hK=>by
  unfold Oper.wp execOp
  simp only[ho,hx,hy,binOp_string_eql,h0]
  exact hK _ _ h
def AnO (w:World) (T:List Nat) (e:Ending) (w':World):Prop:=(∃r:Int,e= .returned (.int .i64 r)∧decide (r<0)=T.all okF)∧Below w.heap.size w w'
theorem zF1 (n:Nat):Calls Tryz.prog 193 #[.int .i64 (n:Nat)] w fun e w'=>e= .returned (.bool (decide (8<n)))∧w=w':=by
 by_cases h:8<n
 ·have h':(8:Int)<(n:Int):=by omega
  rw[zQv h]
  clear h
  go_enter Tryz.func193,Tryz.ntmps193
  go_wp2_with fail
  go_ret
  exact⟨rfl,rfl⟩
 ·have h': ¬(8:Int)<(n:Int):=by omega
  rw[zQw h]
  clear h
  go_enter Tryz.func193,Tryz.ntmps193
  go_wp2_with fail
  go_ret
  exact⟨rfl,rfl⟩
theorem zPd {b g o:Nat} (hc:w.cell? ⟨g,o,none⟩=some (.int .u8 (b:Nat))) (hu:b<256):
  Calls Tryz.prog 157 #[.slice (some ⟨g,o,none⟩) 1 cap,.string ⟨#[0,10,47]⟩] w (AnO w [b]):=by
 have HA:Hid ([b].all okF=okF b):=zQk (by simp)
 have HU:=zQk hu
 by_cases h1:128≤b
 ·have h1':(128:Int)≤(b:Int):=by omega
  have HO:=zQk (zKL h1)
  have n0: ∀ty,(Instr.next (.pointer (some ⟨w.heap.size,0,none⟩)) true ty).run Tryz.prog (w.iter ⟨#[0,10,47]⟩ 0)= .ok (.tuple #[.bool true,.int .i64 0,.int .i32 0]) (w.iter ⟨#[0,10,47]⟩ 1):=fun ty=>run_next_ascii w ⟨#[0,10,47]⟩ 0 ty (by decide) (by decide)
  have n1: ∀ty,(Instr.next (.pointer (some ⟨w.heap.size,0,none⟩)) true ty).run Tryz.prog (w.iter ⟨#[0,10,47]⟩ 1)= .ok (.tuple #[.bool true,.int .i64 1,.int .i32 10]) (w.iter ⟨#[0,10,47]⟩ 2):=fun ty=>run_next_ascii w ⟨#[0,10,47]⟩ 1 ty (by decide) (by decide)
  have n2: ∀ty,(Instr.next (.pointer (some ⟨w.heap.size,0,none⟩)) true ty).run Tryz.prog (w.iter ⟨#[0,10,47]⟩ 2)= .ok (.tuple #[.bool true,.int .i64 2,.int .i32 47]) (w.iter ⟨#[0,10,47]⟩ 3):=fun ty=>run_next_ascii w ⟨#[0,10,47]⟩ 2 ty (by decide) (by decide)
  have nn: ∀ty,(Instr.next (.pointer (some ⟨w.heap.size,0,none⟩)) true ty).run Tryz.prog (w.iter ⟨#[0,10,47]⟩ 3)= .ok (.tuple #[.bool false]) (w.iter ⟨#[0,10,47]⟩ 3):=fun ty=>run_next_end w ⟨#[0,10,47]⟩ 3 ty (by decide)
  clear h1
  go_enter Tryz.func157,Tryz.ntmps157
  go_wp2_with fail
  refine wp_loop_rounds 4 ?_
  rw[rounds_succ]
  go_wp2_with fail
  rw[rounds_succ]
  go_wp2_with fail
  rw[rounds_succ]
  go_wp2_with fail
  rw[rounds_succ]
  go_wp2_with fail
  go_ret
  exact⟨⟨-1,rfl,by rw[HA.out,HO.out];rfl⟩,(zQl _ _).alloc (zQm _) _⟩
 ·have h1': ¬(128:Int)≤(b:Int):=by omega
  clear h1
  cases h2:okF b with
  |true=>
   have hx:=zOv HU.out h2
   rw[h2]at HA
   clear h2
   go_enter Tryz.func157,Tryz.ntmps157
   go_wp2_with fail
   rw[run_callFunc_extern Tryz.func163 (by kernel_rfl) (by kernel_rfl) (by kernel_rfl) (e:=Extern.BytealgIndexByte.indexByte) (by kernel_rfl),Lib.run_indexByteString]
   simp only[Result.andThen]
   rw[Oper.upon_value,hx]
   go_wp2_with fail
   go_ret
   exact⟨⟨-1,rfl,by rw[HA.out];rfl⟩,zQl _ _⟩
  |false=>
   obtain⟨k,hx⟩:=zMp HU.out h2
   have hk:(0:Int)≤(k:Int):=by omega
   rw[h2]at HA
   clear h2
   go_enter Tryz.func157,Tryz.ntmps157
   go_wp2_with fail
   rw[run_callFunc_extern Tryz.func163 (by kernel_rfl) (by kernel_rfl) (by kernel_rfl) (e:=Extern.BytealgIndexByte.indexByte) (by kernel_rfl),Lib.run_indexByteString]
   simp only[Result.andThen]
   rw[Oper.upon_value,hx]
   go_wp2_with fail
   go_ret
   exact⟨⟨0,rfl,by rw[HA.out];rfl⟩,zQl _ _⟩
theorem zDa.rest {i g o:Nat} (h: ∀m,m<T.length→w.cell? ⟨g,o+m,none⟩=some (.int .u8 (T.getD m 0:Nat))) (hi:i≤T.length): ∀m,m<(T.drop i).length→w.cell? ⟨g,o+i+m,none⟩=some (.int .u8 ((T.drop i).getD m 0:Nat)):=fun m hm=>by
 rw[List.length_drop]at hm
 have:=h (i+m) (by omega)
 rw[zQt,List.getElem?_drop,←zQt,Nat.add_assoc]
 exact this
theorem zPe {g o:Nat} (hc: ∀m,m<T.length→w.cell? ⟨g,o+m,none⟩=some (.int .u8 (T.getD m 0:Nat))) (hu: ∀b∈T,b<256) (h1:2≤T.length) (h8:T.length≤8) (hcap:T.length≤cap) (U:U8V w):
  Calls Tryz.prog 157 #[.slice (some ⟨g,o,none⟩) T.length cap,.string ⟨#[0,10,47]⟩] w (AnO w T):=by
 have HC:=zQk hc
 have HU:=zQk hu
 have HV:=zQk U
 have H1:=zQk h1
 have H8:=zQk h8
 have HCP:=zQk hcap
 have q1:((T.length:Int)==1)=false:=zQq.2 (by omega)
 have HS:=zF1 (w:=w) T.length
 rw[zQw (by omega)]at HS
 have HS:=zQk HS
 have hgl:g<w.heap.size:=zRH w _ (hc 0 (by omega))
 have HGL:=zQk hgl
 clear hc hu h1 hcap U hgl
 go_enter Tryz.func157,Tryz.ntmps157
 go_wp2_with fail
 refine HS.out.mono ?_;rintro e w1 ⟨rfl,rfl⟩
 go_wp2_with fail
 go_loopg [12] T.length (fun gk iv wr=> ∃i:Nat,iv= .int .i64 (i:Nat)∧gk=T.length - i∧i≤T.length∧Hid (∀j,j<i→okF (T.getD j 0)=true)∧Below w.heap.size w wr)
 case atStart=>exact⟨0,rfl,by omega,by omega,zQk (fun j hj=>by omega),zQl _ _⟩
 case round=>
 obtain⟨i,rfl,hg,hi,HP,hb⟩:=hrel
 have HG:=zQk hg
 have HB:=zQk hb
 clear HS
 by_cases hlt:i<T.length
 ·have hlt':(i:Int)<(T.length:Int):=by omega
  have hwr: ∀m,m<T.length→wr.cell? ⟨g,o+m,none⟩=some (.int .u8 (T.getD m 0:Nat)):=fun m hm=>(hb.cell (p:=⟨g,o+m,none⟩) HGL.out).trans (HC.out m hm)
  have HWR:=zQk hwr
  have hci:=hwr i hlt
  obtain⟨x,hx⟩: ∃x,T.getD i 0=x:=⟨_,rfl⟩
  rw[hx]at hci
  have HX:=zQk hx
  have hx256:x<256:=by
   rw[←hx,zQt,zQ1 hlt]
   exact HU.out _ (List.getElem_mem hlt)
  have HX2:=zQk hx256
  have HI:=zQk (show i<T.length from hlt)
  clear hg hb hwr hx
  by_cases hx1:x<128
  ·have hx1':(x:Int)<128:=by omega
   clear hx1
   cases hok:okF x with
   |true=>
    have hix:=zOv HX2.out hok
    have HD:=zQk (show 1≤1∧i+1≤T.length∧Hid (∀j,j<i+1→okF (T.getD j 0)=true)from⟨zQm _,by omega,zQk fun j hj=>by
     by_cases e:j=i
     ·subst e;rw[HX.out];exact hok
     ·exact HP.out j (by omega)⟩)
    clear hok hlt
    go_wp2_with fail
    rw[run_callFunc_extern Tryz.func163 (by kernel_rfl) (by kernel_rfl) (by kernel_rfl) (e:=Extern.BytealgIndexByte.indexByte) (by kernel_rfl),Lib.run_indexByteString]
    simp only[Result.andThen]
    rw[Oper.upon_value,hix]
    go_wp2_with fail
    go_roundg (T.length - (i+1))
    case measure=>have:=HG.out;have:=HD.out;omega
    case rel=>exact⟨i+1,by go_num,rfl,HD.out.2.1,HD.out.2.2,HB.out⟩
   |false=>
    obtain⟨k,hix⟩:=zMp HX2.out hok
    have hk:(0:Int)≤(k:Int):=by omega
    have HS:=zQk (zKd HI.out (by rw[HX.out];exact hok))
    clear hok hlt
    go_wp2_with fail
    rw[run_callFunc_extern Tryz.func163 (by kernel_rfl) (by kernel_rfl) (by kernel_rfl) (e:=Extern.BytealgIndexByte.indexByte) (by kernel_rfl),Lib.run_indexByteString]
    simp only[Result.andThen]
    rw[Oper.upon_value,hix]
    go_wp2_with fail
    go_ret
    exact⟨⟨i,rfl,by rw[HS.out];exact zQw (by omega)⟩,HB.out⟩
  ·have hx1': ¬(x:Int)<128:=by omega
   have hsl:=zE5 (some ⟨g,o,none⟩) T.length cap i hi
   rw[if_neg (by have:=HCP.out;omega),Option.map_some,show(⟨g,o,none⟩:Addr).add i=⟨g,o+i,none⟩from zCW _ _ _]at hsl
   obtain⟨r,k,hd⟩: ∃r k,Lib.decodeGo (zNj (T.drop i))=(r,k):=⟨_,_,rfl⟩
   have hdl:0<(T.drop i).length:=by rw[List.length_drop];omega
   have hd0:(T.drop i).getD 0 0=x:=by rw[←HX.out,zQt,List.getElem?_drop,zQt,Nat.add_zero]
   have hux: ∀b∈T.drop i,b<256:=fun b hb=>HU.out b (List.mem_of_mem_drop hb)
   obtain⟨d1,d2,d3,d4⟩:=zOR hux hdl (by rw[hd0];omega) hd
   have HDE:=Any7.utf8_DecodeRune zQK (zNj (T.drop i)) g (o+i) (cap - i) wr (Utf8Tabs_below HV.out.t HB.out) (fun j hj=>by
    rw[zEc]at hj
    rw[zDa.rest HWR.out hi j hj,zDx hux])
   rw[hd,zEc,List.length_drop]at HDE
   have HDE:=zQk HDE
   have HD:Hid (1≤k∧i+k≤T.length∧Hid (∀j,j<i+k→okF (T.getD j 0)=true)):=zQk ⟨d1,by rw[List.length_drop]at d2;omega,zQk fun j hj=>by
    by_cases e:j<i
    ·exact HP.out j e
    ·have h3:=d3 (j - i) (by omega)
     rw[zQt,List.getElem?_drop,show i+(j - i)=j by omega,←zQt]at h3
     exact zKL h3⟩
   have D4:=zQk d4
   have hik:i+k≤T.length:=HD.out.2.1
   clear d1 d2 d3 d4 hd hdl hd0 hux hx1 hlt
   go_wp2_with fail
   refine HDE.out.mono ?_;rintro e w2 ⟨rfl,hb2⟩
   have HB2:=zQk (HB.out.trans (hb2.mono HB.out.size))
   obtain⟨m,hm⟩:=(HV.out.below HB2.out).m
   clear hb2 hsl hci HDE
   have hd:=trivial
   rcases D4.out with hr|⟨hr128,hr0,hr1,hr2,hk⟩
   ·subst hr
    have n0: ∀ty,(Instr.next (.pointer (some ⟨w2.heap.size,0,none⟩)) true ty).run Tryz.prog (w2.iter ⟨#[0,10,47]⟩ 0)= .ok (.tuple #[.bool true,.int .i64 0,.int .i32 0]) (w2.iter ⟨#[0,10,47]⟩ 1):=fun ty=>run_next_ascii w2 ⟨#[0,10,47]⟩ 0 ty (by decide) (by decide)
    have n1: ∀ty,(Instr.next (.pointer (some ⟨w2.heap.size,0,none⟩)) true ty).run Tryz.prog (w2.iter ⟨#[0,10,47]⟩ 1)= .ok (.tuple #[.bool true,.int .i64 1,.int .i32 10]) (w2.iter ⟨#[0,10,47]⟩ 2):=fun ty=>run_next_ascii w2 ⟨#[0,10,47]⟩ 1 ty (by decide) (by decide)
    have n2: ∀ty,(Instr.next (.pointer (some ⟨w2.heap.size,0,none⟩)) true ty).run Tryz.prog (w2.iter ⟨#[0,10,47]⟩ 2)= .ok (.tuple #[.bool true,.int .i64 2,.int .i32 47]) (w2.iter ⟨#[0,10,47]⟩ 3):=fun ty=>run_next_ascii w2 ⟨#[0,10,47]⟩ 2 ty (by decide) (by decide)
    have nn: ∀ty,(Instr.next (.pointer (some ⟨w2.heap.size,0,none⟩)) true ty).run Tryz.prog (w2.iter ⟨#[0,10,47]⟩ 3)= .ok (.tuple #[.bool false]) (w2.iter ⟨#[0,10,47]⟩ 3):=fun ty=>run_next_end w2 ⟨#[0,10,47]⟩ 3 ty (by decide)
    clear hd
    go_wp2_with fail
    refine wp_loop_rounds 4 ?_
    rw[rounds_succ]
    go_wp2_with fail
    rw[rounds_succ]
    go_wp2_with fail
    rw[rounds_succ]
    go_wp2_with fail
    rw[rounds_succ]
    go_wp2_with fail
    go_roundg (T.length - (i+k))
    case measure=>have:=HG.out;have:=HD.out;omega
    case rel=>exact⟨i+k,by go_num,rfl,HD.out.2.1,HD.out.2.2,HB2.out.alloc HB2.out.size _⟩
   have e0:((r:Int)==0)=false:=zQq.2 (by omega)
   have e1:((r:Int)==10)=false:=zQq.2 (by omega)
   have e2:((r:Int)==47)=false:=zQq.2 (by omega)
   by_cases hr3:r=65533
   ·subst hr3
    have n0: ∀ty,(Instr.next (.pointer (some ⟨w2.heap.size,0,none⟩)) true ty).run Tryz.prog (w2.iter ⟨#[0,10,47]⟩ 0)= .ok (.tuple #[.bool true,.int .i64 0,.int .i32 0]) (w2.iter ⟨#[0,10,47]⟩ 1):=fun ty=>run_next_ascii w2 ⟨#[0,10,47]⟩ 0 ty (by decide) (by decide)
    have n1: ∀ty,(Instr.next (.pointer (some ⟨w2.heap.size,0,none⟩)) true ty).run Tryz.prog (w2.iter ⟨#[0,10,47]⟩ 1)= .ok (.tuple #[.bool true,.int .i64 1,.int .i32 10]) (w2.iter ⟨#[0,10,47]⟩ 2):=fun ty=>run_next_ascii w2 ⟨#[0,10,47]⟩ 1 ty (by decide) (by decide)
    have n2: ∀ty,(Instr.next (.pointer (some ⟨w2.heap.size,0,none⟩)) true ty).run Tryz.prog (w2.iter ⟨#[0,10,47]⟩ 2)= .ok (.tuple #[.bool true,.int .i64 2,.int .i32 47]) (w2.iter ⟨#[0,10,47]⟩ 3):=fun ty=>run_next_ascii w2 ⟨#[0,10,47]⟩ 2 ty (by decide) (by decide)
    have nn: ∀ty,(Instr.next (.pointer (some ⟨w2.heap.size,0,none⟩)) true ty).run Tryz.prog (w2.iter ⟨#[0,10,47]⟩ 3)= .ok (.tuple #[.bool false]) (w2.iter ⟨#[0,10,47]⟩ 3):=fun ty=>run_next_end w2 ⟨#[0,10,47]⟩ 3 ty (by decide)
    clear hd
    go_wp2_with fail
    refine wp_loop_rounds 4 ?_
    rw[rounds_succ]
    go_wp2_with fail
    rw[rounds_succ]
    go_wp2_with fail
    rw[rounds_succ]
    go_wp2_with fail
    rw[rounds_succ]
    go_wp2_with fail
    go_roundg (T.length - (i+k))
    case measure=>have:=HG.out;have:=HD.out;omega
    case rel=>exact⟨i+k,by go_num,rfl,HD.out.2.1,HD.out.2.2,HB2.out.alloc HB2.out.size _⟩
   have e3:((r:Int) !=65533)=true:=bne_iff_ne.2 (by omega)
   clear hr128 hr0 hr1 hr2 hr3
   rcases hk with ⟨rfl,a,b,he,ha⟩|⟨rfl,a,b,c,he,ha⟩|⟨rfl,a,b,c,d,he,ha⟩
   ·by_cases hmk:(2:Int)≤m
    ·clear hd
     go_wp2_with fail
     rw[run_callFunc_extern Tryz.func196 (by kernel_rfl) (by kernel_rfl) (by kernel_rfl) (e:=Extern.BytealgIndex.index) (by kernel_rfl),Lib.run_indexString ⟨#[0,10,47]⟩ ⟨#[a,b]⟩ w2 2 m (by kernel_rfl) hm (by show 2≤2;decide) hmk (by decide),zQi ha]
     simp only[Result.andThen]
     rw[Oper.upon_value]
     go_wp2_with fail
     go_roundg (T.length - (i+2))
     case measure=>have:=HG.out;have:=HD.out;omega
     case rel=>exact⟨i+2,by go_num,rfl,HD.out.2.1,HD.out.2.2,HB2.out⟩
    ·clear he ha
     have n0: ∀ty,(Instr.next (.pointer (some ⟨w2.heap.size,0,none⟩)) true ty).run Tryz.prog (w2.iter ⟨#[0,10,47]⟩ 0)= .ok (.tuple #[.bool true,.int .i64 0,.int .i32 0]) (w2.iter ⟨#[0,10,47]⟩ 1):=fun ty=>run_next_ascii w2 ⟨#[0,10,47]⟩ 0 ty (by decide) (by decide)
     have n1: ∀ty,(Instr.next (.pointer (some ⟨w2.heap.size,0,none⟩)) true ty).run Tryz.prog (w2.iter ⟨#[0,10,47]⟩ 1)= .ok (.tuple #[.bool true,.int .i64 1,.int .i32 10]) (w2.iter ⟨#[0,10,47]⟩ 2):=fun ty=>run_next_ascii w2 ⟨#[0,10,47]⟩ 1 ty (by decide) (by decide)
     have n2: ∀ty,(Instr.next (.pointer (some ⟨w2.heap.size,0,none⟩)) true ty).run Tryz.prog (w2.iter ⟨#[0,10,47]⟩ 2)= .ok (.tuple #[.bool true,.int .i64 2,.int .i32 47]) (w2.iter ⟨#[0,10,47]⟩ 3):=fun ty=>run_next_ascii w2 ⟨#[0,10,47]⟩ 2 ty (by decide) (by decide)
     have nn: ∀ty,(Instr.next (.pointer (some ⟨w2.heap.size,0,none⟩)) true ty).run Tryz.prog (w2.iter ⟨#[0,10,47]⟩ 3)= .ok (.tuple #[.bool false]) (w2.iter ⟨#[0,10,47]⟩ 3):=fun ty=>run_next_end w2 ⟨#[0,10,47]⟩ 3 ty (by decide)
     clear hd
     go_wp2_with fail
     refine wp_loop_rounds 4 ?_
     rw[rounds_succ]
     go_wp2_with fail
     rw[rounds_succ]
     go_wp2_with fail
     rw[rounds_succ]
     go_wp2_with fail
     rw[rounds_succ]
     go_wp2_with fail
     go_roundg (T.length - (i+2))
     case measure=>have:=HG.out;have:=HD.out;omega
     case rel=>exact⟨i+2,by go_num,rfl,HD.out.2.1,HD.out.2.2,HB2.out.alloc HB2.out.size _⟩
   ·have hst:((⟨#[0,10,47]⟩:ByteArray).toList==(⟨#[a,b,c]⟩:ByteArray).toList)=false:=by
     rw[Lib.toList_data,Lib.toList_data]
     refine zQq.2 fun e=>?_
     injection e with e
     rw[←e]at ha
     exact absurd ha (by decide)
    clear ha
    obtain⟨S,hS⟩: ∃S:ByteArray,(⟨#[a,b,c]⟩:ByteArray)=S:=⟨_,rfl⟩
    rw[hS]at hst he
    clear hS
    have HST:=zQk hst
    clear hst
    go_upto_if 109 with (refine zKl rfl _ _ _ rfl rfl rfl HST.out ?_)
    simp only[Act.put,List.setIfInBounds_toArray,List.set_cons_succ,List.set_cons_zero]
    go_wp2_with fail
    go_roundg (T.length - (i+3))
    case measure=>have:=HG.out;have:=HD.out;omega
    case rel=>exact⟨i+3,by go_num,rfl,HD.out.2.1,HD.out.2.2,HB2.out⟩
   ·by_cases hmk:(4:Int)≤m
    ·clear hd
     go_wp2_with fail
     rw[run_callFunc_extern Tryz.func196 (by kernel_rfl) (by kernel_rfl) (by kernel_rfl) (e:=Extern.BytealgIndex.index) (by kernel_rfl),Lib.run_indexString ⟨#[0,10,47]⟩ ⟨#[a,b,c,d]⟩ w2 2 m (by kernel_rfl) hm (by show 2≤4;decide) hmk (by decide),zQh ha]
     simp only[Result.andThen]
     rw[Oper.upon_value]
     go_wp2_with fail
     go_roundg (T.length - (i+4))
     case measure=>have:=HG.out;have:=HD.out;omega
     case rel=>exact⟨i+4,by go_num,rfl,HD.out.2.1,HD.out.2.2,HB2.out⟩
    ·clear he ha
     have n0: ∀ty,(Instr.next (.pointer (some ⟨w2.heap.size,0,none⟩)) true ty).run Tryz.prog (w2.iter ⟨#[0,10,47]⟩ 0)= .ok (.tuple #[.bool true,.int .i64 0,.int .i32 0]) (w2.iter ⟨#[0,10,47]⟩ 1):=fun ty=>run_next_ascii w2 ⟨#[0,10,47]⟩ 0 ty (by decide) (by decide)
     have n1: ∀ty,(Instr.next (.pointer (some ⟨w2.heap.size,0,none⟩)) true ty).run Tryz.prog (w2.iter ⟨#[0,10,47]⟩ 1)= .ok (.tuple #[.bool true,.int .i64 1,.int .i32 10]) (w2.iter ⟨#[0,10,47]⟩ 2):=fun ty=>run_next_ascii w2 ⟨#[0,10,47]⟩ 1 ty (by decide) (by decide)
     have n2: ∀ty,(Instr.next (.pointer (some ⟨w2.heap.size,0,none⟩)) true ty).run Tryz.prog (w2.iter ⟨#[0,10,47]⟩ 2)= .ok (.tuple #[.bool true,.int .i64 2,.int .i32 47]) (w2.iter ⟨#[0,10,47]⟩ 3):=fun ty=>run_next_ascii w2 ⟨#[0,10,47]⟩ 2 ty (by decide) (by decide)
     have nn: ∀ty,(Instr.next (.pointer (some ⟨w2.heap.size,0,none⟩)) true ty).run Tryz.prog (w2.iter ⟨#[0,10,47]⟩ 3)= .ok (.tuple #[.bool false]) (w2.iter ⟨#[0,10,47]⟩ 3):=fun ty=>run_next_end w2 ⟨#[0,10,47]⟩ 3 ty (by decide)
     clear hd
     go_wp2_with fail
     refine wp_loop_rounds 4 ?_
     rw[rounds_succ]
     go_wp2_with fail
     rw[rounds_succ]
     go_wp2_with fail
     rw[rounds_succ]
     go_wp2_with fail
     rw[rounds_succ]
     go_wp2_with fail
     go_roundg (T.length - (i+4))
     case measure=>have:=HG.out;have:=HD.out;omega
     case rel=>exact⟨i+4,by go_num,rfl,HD.out.2.1,HD.out.2.2,HB2.out.alloc HB2.out.size _⟩
 ·obtain rfl:i=T.length:=by omega
  have hlt': ¬(T.length:Int)<(T.length:Int):=by omega
  have HS:=zQk (zKc HP.out)
  clear hlt hg hb
  go_wp2_with fail
  go_ret
  exact⟨⟨-1,rfl,by rw[HS.out];rfl⟩,HB.out⟩
end
end
section
open Go.RowKit
section
variable {w w':World} {oa:Option Addr} {T:List Nat} {cap:Nat}
theorem zHM:(Tryz.prog.info? 226).map (fun i=>(i.zero,i.size))=some (some (.agg (Array.replicate 256 (.bool false))),256):=by kernel_rfl
theorem zOf {g o:Nat} (hc: ∀m,m<T.length→w.cell? ⟨g,o+m,none⟩=some (.int .u8 (T.getD m 0:Nat))) (hu: ∀b∈T,b<256) (h9:8<T.length) (hl:T.length≤4294967280):
  Calls Tryz.prog 157 #[.slice (some ⟨g,o,none⟩) T.length cap,.string ⟨#[0,10,47]⟩] w (AnO w T):=by
 have HC:=zQk hc
 have HU:=zQk hu
 have q1:((T.length:Int)==1)=false:=zQq.2 (by omega)
 have HS:=zF1 (w:=w) T.length
 rw[zQv h9]at HS
 have HS:=zQk HS
 have hgl:g<w.heap.size:=zRH w _ (hc 0 (by omega))
 have HGL:=zQk hgl
 have HL:=zQk hl
 have hM:=Any.bytes_makeASCIISet { zQG with } (zero_of_info zHM).1 (zero_of_info zHM).2 ⟨#[0,10,47]⟩ w (by decide) (by
  intro j b hb
  match j,hb with
  |0,hb=>cases hb;decide
  |1,hb=>cases hb;decide
  |2,hb=>cases hb;decide)
 obtain⟨cs,hcs⟩: ∃cs,Lib.setCells (⟨#[0,10,47]⟩:ByteArray).data.toList=cs:=⟨_,rfl⟩
 rw[hcs]at hM
 have hsz:cs.size=256:=by rw[←hcs];exact Lib.setCells_size _
 have hone:cs.all (·.oneCell')=true:=by rw[←hcs];exact Lib.setCells_one _
 have hat: ∀x:UInt8,cs[x.toNat]?=some (.bool ((⟨#[0,10,47]⟩:ByteArray).data.toList.contains x)):=fun x=>by rw[←hcs];exact Lib.setCells_at _ x
 have hf: ∀c,((w.alloc (.cells cs 226)).alloc (.cells c 226)).setRow (w.heap.size+1) cs=(w.alloc (.cells cs 226)).alloc (.cells cs 226):=fun c=>by
  have:=World.setRow_alloc_new (w.alloc (.cells cs 226)) c cs 226
  simpa using this
 have hcell: ∀b,b<256→((w.alloc (.cells cs 226)).alloc (.cells cs 226)).cell? ⟨w.heap.size+1,b,none⟩=some (.bool (!(okF b))):=fun b hb=>by
  have hx:=hat (UInt8.ofNat b)
  rw[show(UInt8.ofNat b).toNat=b by rw[UInt8.toNat_ofNat'];omega,zQZ b hb]at hx
  rw[World.cell?_alloc_at _ _ _ _ (by simp)]
  exact hx
 have hB:Below w.heap.size w ((w.alloc (.cells cs 226)).alloc (.cells cs 226)):=((zQl _ _).alloc (zQm _) _).alloc (by simp) _
 have HM:=zQk (show Calls Tryz.prog 174 #[.string ⟨#[0,10,47]⟩] w fun e w'=>e= .returned (.tuple #[.agg cs,.bool true])∧w'=w.alloc (.cells cs 226)from hM)
 have HF:=zQk hf
 have HON:=zQk hone
 have HCE:=zQk hcell
 have HBB:=zQk hB
 clear hc hu h9 hgl hM hcs hone hat hf hcell hB
 go_enter Tryz.func157,Tryz.ntmps157
 go_wp2_with fail
 refine HS.out.mono ?_;rintro e w1 ⟨rfl,rfl⟩
 go_wp2_with fail
 refine HM.out.mono ?_;rintro e w1 ⟨rfl,rfl⟩
 have hh: ∀c,((w.alloc (.cells cs 226)).alloc (.cells c 226)).heap[w.heap.size+1]?=some (.cells c 226 (0,0)):=fun c=>by
  have:=heap_alloc_last (w.alloc (.cells cs 226)) (.cells c 226)
  simpa using this
 have HH:=zQk hh
 have HZ:=zQk hsz
 clear hh hsz HS HM
 go_wp2_with (refine wpList_store_row rfl 226 _ _ rfl (w.heap.size+1) cs rfl rfl 226 _ (HH.out _) (by rw[HZ.out];exact(zero_of_info zHM).2) (by rw[HZ.out];kernel_rfl) HON.out ?_)
 go_upto_region 22 with fail
 rw[HF.out]
 obtain⟨W,hW⟩: ∃W,(w.alloc (.cells cs 226)).alloc (.cells cs 226)=W:=⟨_,rfl⟩
 rw[hW]at HCE HBB ⊢
 obtain⟨sb,hsb⟩: ∃a,w.heap.size+1=a:=⟨_,rfl⟩
 rw[hsb]at HCE
 have HSB:=zQk hsb
 rw[hsb]
 clear hW hsb HH HZ HON HF
 go_wp2_with fail
 go_loopg [62] T.length (fun gk iv wr=> ∃i:Nat,iv= .int .i64 (i:Nat)∧gk=T.length - i∧i≤T.length∧wr=W∧Hid (∀j,j<i→okF (T.getD j 0)=true))
 case atStart=>exact⟨0,rfl,by omega,by omega,rfl,zQk (fun j hj=>by omega)⟩
 case round=>
 obtain⟨i,rfl,hg,hi,rfl,HP⟩:=hrel
 have HG:=zQk hg
 by_cases hlt:i<T.length
 ·have hlt':(i:Int)<(T.length:Int):=by omega
  have hci:wr.cell? ⟨g,o+i,none⟩=some (.int .u8 (T.getD i 0:Nat)):=(HBB.out.cell (p:=⟨g,o+i,none⟩) HGL.out).trans (HC.out i hlt)
  obtain⟨x,hx⟩: ∃x,T.getD i 0=x:=⟨_,rfl⟩
  rw[hx]at hci
  have HX:=zQk hx
  have hx256:x<256:=by
   rw[←hx,zQt,zQ1 hlt]
   exact HU.out _ (List.getElem_mem hlt)
  have hce:=HCE.out x hx256
  have HI:=zQk (show i<T.length from hlt)
  have HCO:=Any.bytes_asciiSet_contains { zQG with } sb (UInt8.ofNat x) (!(okF x)) wr (by
   rw[show(UInt8.ofNat x).toNat=x by rw[UInt8.toNat_ofNat'];omega];exact hce)
  rw[show(UInt8.ofNat x).toNat=x by rw[UInt8.toNat_ofNat'];omega]at HCO
  have HCO:=zQk HCO
  have HI2:=zQk (show(i:Int)+1≤9223372036854775807 by have:=HL.out;omega)
  clear hg hx hlt hx256 hce
  cases hok:okF x with
  |true=>
   rw[hok]at HCO
   have HD:=zQk (show∀j,j<i+1→okF (T.getD j 0)=true from fun j hj=>by
    by_cases e:j=i
    ·subst e;rw[HX.out];exact hok
    ·exact HP.out j (by omega))
   clear hok
   go_wp2_with fail
   refine HCO.out.mono ?_;rintro e w2 ⟨rfl,rfl⟩
   go_wp2_with fail
   go_roundg (T.length - (i+1))
   case measure=>have:=HG.out;have:=HI.out;omega
   case rel=>exact⟨i+1,by go_num,rfl,HI.out,rfl,HD⟩
  |false=>
   rw[hok]at HCO
   have HST:=zQk (zKd HI.out (by rw[HX.out];exact hok))
   clear hok
   go_wp2_with fail
   refine HCO.out.mono ?_;rintro e w2 ⟨rfl,rfl⟩
   go_wp2_with fail
   go_ret
   exact⟨⟨i,rfl,by rw[HST.out];exact zQw (by omega)⟩,HBB.out⟩
 ·obtain rfl:i=T.length:=by omega
  have hlt': ¬(T.length:Int)<(T.length:Int):=by omega
  have HST:=zQk (zKc HP.out)
  clear hlt hg
  go_wp2_with fail
  go_ret
  exact⟨⟨-1,rfl,by rw[HST.out];rfl⟩,HBB.out⟩
theorem zOg (h:zDa w oa T) (hu: ∀b∈T,b<256) (h1:1≤T.length) (h2:T.length≤64) (hcap:T.length≤cap) (U:U8V w):
  Calls Tryz.prog 157 #[.slice oa T.length cap,.string ⟨#[0,10,47]⟩] w (AnO w T):=by
 obtain⟨g,o,rfl,hc⟩:=h (by omega)
 by_cases h3:T.length=1
 ·obtain⟨b,rfl⟩: ∃b,T=[b]:=List.length_eq_one_iff.1 h3
  exact zPd (hc 0 (by omega)) (hu b (by simp))
 ·by_cases h4:T.length≤8
  ·exact zPe hc hu (by omega) h4 hcap U
  ·exact zOf hc hu (by omega) (by omega)
end
end
section
open Go.RowKit
theorem ixB: ∀b:Nat,b<256→Lib.indexByte (⟨#[32,9]⟩:ByteArray).data.toList ((b:Int).toNat.toUInt8)=if b=32 then 0 else if b=9 then 1 else -1:=by decide+kernel
theorem zPU {b:Nat} (h:b<256) (h2:zAJ b=false):Lib.indexByte (⟨#[32,9]⟩:ByteArray).data.toList ((b:Int).toNat.toUInt8)= -1:=by
 simp only[zAJ,Bool.or_eq_false_iff,beq_eq_false_iff_ne]at h2
 rw[ixB b h,if_neg h2.1,if_neg h2.2]
theorem zPT {b:Nat} (h:b<256) (h2:zAJ b=true): ∃k:Nat,Lib.indexByte (⟨#[32,9]⟩:ByteArray).data.toList ((b:Int).toNat.toUInt8)=(k:Int):=by
 simp only[zAJ,Bool.or_eq_true,beq_iff_eq]at h2
 rw[ixB b h]
 rcases h2 with rfl|rfl
 ·exact⟨0,rfl⟩
 ·exact⟨1,rfl⟩
theorem zDU {w:World} {base:Nat} {o:Option Addr} {c:Nat} {T:List Nat} (h:w.ownsRow base 5 1 (.slice o T.length c) T.length (u8s T)):zDa w o T∧T.length≤c:=by
 refine⟨fun hp=>?_,(zJe h).1⟩
 obtain⟨_,g,rfl,_,hcell,_⟩:=zB0 h hp
 refine⟨g,0,rfl,fun i hi=>?_⟩
 obtain⟨u,hu1,hu2⟩:=hcell i (by omega)
 rw[Nat.zero_add,hu2,←hu1]
 simp[u8s,hi,List.getD_eq_getElem?_getD]
section
variable {w w':World} {E:PE} {i j k n:Nat} {l:List Value} {base:Nat} {c:Cm} {oa:Option Addr} {T:List Nat} {cap:Nat}
theorem zDR (h:zDa w oa T) (hu: ∀b∈T,b<256) (hcap:T.length≤cap) (U:U8V w):
  Calls Tryz.prog 111 #[.slice oa T.length cap] w fun e w'=>e= .returned (.bool (zBZ T))∧Below w.heap.size w w':=by
 have HF:Hid (zBZ T=(decide (1≤T.length∧T.length≤64)&&T.all okF&& !(zAJ (T.getD 0 0)))):=zQk rfl
 have HX:=zQk h
 by_cases h1:T.length=0
 ·have HR:Hid (zBZ T=false):=zQk (by rw[HF.out,zQw (by omega)];rfl)
  have q1: ¬(1:Int)≤(T.length:Int):=by omega
  clear h hu hcap U h1
  go_enter Tryz.func111,Tryz.ntmps111
  go_wp2_with fail
  go_ret
  exact⟨by rw[HR.out];rfl,zQl _ _⟩
 have q1:(1:Int)≤(T.length:Int):=by omega
 by_cases h2:64<T.length
 ·have HR:Hid (zBZ T=false):=zQk (by rw[HF.out,zQw (by omega)];rfl)
  have q2: ¬(T.length:Int)≤64:=by omega
  clear h hu hcap U h1 h2
  go_enter Tryz.func111,Tryz.ntmps111
  go_wp2_with fail
  go_ret
  exact⟨by rw[HR.out];rfl,zQl _ _⟩
 have q2:(T.length:Int)≤64:=by omega
 have HA:=zQk (zOg h hu (by omega) (by omega) hcap U)
 have HD:Hid (zBZ T=(T.all okF&& !(zAJ (T.getD 0 0)))):=zQk (by rw[HF.out,zQv (by omega)];rfl)
 obtain⟨g,o,rfl,hc⟩:=h (by omega)
 have hc0:=hc 0 (by omega)
 obtain⟨x,hx⟩: ∃x,T.getD 0 0=x:=⟨_,rfl⟩
 have hx256:x<256:=by
  rw[←hx,zQt,zQ1 (by omega)]
  exact hu _ (List.getElem_mem (by omega))
 rw[hx]at hc0 HD
 rw[Nat.add_zero]at hc0
 have HC:=zQk hc0
 have HX2:=zQk hx256
 have HL:=zQk (zRH w _ hc0)
 have HP:=zQk (show 0<T.length by omega)
 clear hu hcap U h1 h2 hc hc0 hx hx256 HF HX h
 cases ha:T.all okF with
 |false=>
  have HR:Hid (zBZ T=false):=zQk (by rw[HD.out,ha];rfl)
  have HA2:=zQk (show Calls Tryz.prog 157 #[.slice (some ⟨g,o,none⟩) T.length cap,.string ⟨#[0,10,47]⟩] w fun e w'=>(∃r:Int,e= .returned (.int .i64 r)∧ ¬r<0)∧Below w.heap.size w w' from HA.out.mono fun e w' ⟨⟨r,h1,h2⟩,h3⟩=>⟨⟨r,h1,by rw[ha]at h2;exact of_decide_eq_false h2⟩,h3⟩)
  clear ha HA
  go_enter Tryz.func111,Tryz.ntmps111
  go_wp2_with fail
  refine HA2.out.mono ?_;rintro e w1 ⟨⟨r,rfl,hr⟩,hb1⟩
  have HB1:=zQk hb1
  clear hb1
  go_wp2_with fail
  go_ret
  exact⟨by rw[HR.out];rfl,HB1.out⟩
 |true=>
  have HA2:=zQk (show Calls Tryz.prog 157 #[.slice (some ⟨g,o,none⟩) T.length cap,.string ⟨#[0,10,47]⟩] w fun e w'=>(∃r:Int,e= .returned (.int .i64 r)∧r<0)∧Below w.heap.size w w' from HA.out.mono fun e w' ⟨⟨r,h1,h2⟩,h3⟩=>⟨⟨r,h1,by rw[ha]at h2;exact of_decide_eq_true h2⟩,h3⟩)
  have HD2:Hid (zBZ T= !(zAJ x)):=zQk (by rw[HD.out,ha,Bool.true_and])
  clear ha HA HD
  cases hbl:zAJ x with
  |true=>
   have HR:Hid (zBZ T=false):=zQk (by rw[HD2.out,hbl];rfl)
   obtain⟨m,hix⟩:=zPT HX2.out hbl
   have hm: ¬(m:Int)<0:=by omega
   clear hbl HD2
   go_enter Tryz.func111,Tryz.ntmps111
   go_wp2_with fail
   refine HA2.out.mono ?_;rintro e w1 ⟨⟨r,rfl,hr⟩,hb1⟩
   have hc1:=(hb1.cell (p:=⟨g,o,none⟩) HL.out).trans HC.out
   have hp:=HP.out
   have HB1:=zQk hb1
   clear hb1
   go_wp2_with fail
   refine(shl.strings_IndexByte _ _ _).mono ?_;rintro e w2 ⟨rfl,rfl⟩
   rw[hix]
   go_wp2_with fail
   go_ret
   exact⟨by rw[HR.out];rfl,HB1.out⟩
  |false=>
   have HR:Hid (zBZ T=true):=zQk (by rw[HD2.out,hbl];rfl)
   have hix:=zPU HX2.out hbl
   clear hbl HD2
   go_enter Tryz.func111,Tryz.ntmps111
   go_wp2_with fail
   refine HA2.out.mono ?_;rintro e w1 ⟨⟨r,rfl,hr⟩,hb1⟩
   have hc1:=(hb1.cell (p:=⟨g,o,none⟩) HL.out).trans HC.out
   have hp:=HP.out
   have HB1:=zQk hb1
   clear hb1
   go_wp2_with fail
   refine(shl.strings_IndexByte _ _ _).mono ?_;rintro e w2 ⟨rfl,rfl⟩
   rw[hix]
   go_wp2_with fail
   go_ret
   exact⟨by rw[HR.out];rfl,HB1.out⟩
theorem zGr (h:RS E w i l) (hm:CmM w base l c) (hb:E.wb<base∧E.cb<base) (hbw:base≤w.heap.size):
  Calls Tryz.prog 89 #[.pointer (some ⟨E.rb,0,none⟩),.pointer (some ⟨E.cb,0,none⟩)] w (HdO E w base (zCl E.T i c)):=by
 have HS:=zQk (zO4 (E:=E) hb)
 have HBW:=zQk hbw
 have H:=zQk h
 have HM:=zQk hm
 obtain⟨R,hR⟩: ∃R,zCl E.T i c=R:=⟨_,rfl⟩
 rw[hR]
 unfold zCl at hR
 simp only at hR
 obtain⟨t,ht⟩: ∃t,zEF E.T (zAP zAJ E.T i) (zCz E.T (zAP zAJ E.T i))=t:=⟨_,rfl⟩
 rw[ht]at hR
 have HT:=zQk ht
 have hut: ∀b∈t,b<256:=by rw[←ht];exact zPs h.v.u
 have HUT:=zQk hut
 have HR:=zQk hR
 clear h hm hb hbw hR ht hut
 have HROW:=zIE H.out
 rw[HT.out]at HROW
 have HROW:=zQk HROW
 go_enter Tryz.func89,Tryz.ntmps89
 go_wp2_with fail
 refine HROW.out.mono ?_;rintro e w1 ⟨⟨v,rfl,hr1⟩,k1,h1⟩
 have m1:=HM.out.kept k1 HS.out
 obtain⟨o1,c1,rfl⟩:=zBj hr1
 obtain⟨v9,hv9,_⟩:=m1.tx
 have c9:w1.cell? ⟨E.cb,9,none⟩=some v9:=h1.cc hv9
 have f9:=h1.cf 9
 have H3:=zQk (h1.set 9 (v:= .slice o1 t.length c1) rfl)
 have HR3:Hid ((w1.setCell ⟨E.cb,9,none⟩ (.slice o1 t.length c1)).ownsRow base 5 1 (.slice o1 t.length c1) t.length (u8s t)):=zQk ((zAQ.put E w1 9 (.slice o1 t.length c1)).row (zAT hr1 HBW.out) fun b hb=>HS.out b (zQ7 HBW.out (hr1.lt b hb).1))
 have HM3:=zQk ((m1.setTx h1.cl.len (v:= .slice o1 t.length c1) (x:=t) ⟨o1,c1,rfl,zAT hr1 HBW.out⟩).kept (zAQ.put E w1 9 (.slice o1 t.length c1)) HS.out)
 have K3:=zQk (k1.tr (zAQ.put E w1 9 (.slice o1 t.length c1)))
 clear hr1 k1 h1 m1 HROW hv9
 go_upto_region 1 with fail
 obtain⟨W3,hW3⟩: ∃W,w1.setCell ⟨E.cb,9,none⟩ (.slice o1 t.length c1)=W:=⟨_,rfl⟩
 rw[hW3]at H3 HR3 HM3 K3 ⊢
 obtain⟨l3,hl3⟩: ∃l',l.set 9 (.slice o1 t.length c1)=l':=⟨_,rfl⟩
 rw[hl3]at H3 HM3
 have hl9:l3[9]?=some (.slice o1 t.length c1):=by rw[←hl3];exact List.getElem?_set_self (by rw[H.out.cl.len];omega)
 have c9:=H3.out.cc hl9
 have HIF:=zQk (zDR (zDU HR3.out).1 HUT.out (zDU HR3.out).2 H3.out.g.u8)
 have hr:=HR.out
 clear hW3 hl3 hl9 f9 HR3
 cases hf:zBZ t with
 |true=>
  rw[hf]at hr HIF
  rw[if_pos rfl]at hr
  subst hr
  clear hf
  go_wp2_with fail
  refine HIF.out.mono ?_;rintro e w4 ⟨rfl,hb4⟩
  have H4:=zQk (H3.out.below hb4)
  have HM4:=zQk (HM3.out.kept (zAQ.bel (S:=E.W) hb4) HS.out)
  have K4:=zQk (K3.out.tr (zAQ.bel hb4))
  clear hb4
  go_wp2_with fail
  go_end0
  exact⟨rfl,K4.out,l3,H4.out,HM4.out⟩
 |false=>
  rw[hf]at hr HIF
  rw[if_neg (by decide)]at hr
  subst hr
  clear hf
  go_wp2_with fail
  refine HIF.out.mono ?_;rintro e w4 ⟨rfl,hb4⟩
  have H4:=zQk (H3.out.below hb4)
  have HM4:=zQk (HM3.out.kept (zAQ.bel (S:=E.W) hb4) HS.out)
  have K4:=zQk (K3.out.tr (zAQ.bel hb4))
  clear hb4
  go_wp2_with fail
  refine(zA6 (er:=77) H4.out HM4.out.p (by decide)).mono ?_;rintro e w9 ⟨hp,hb9⟩
  have HR9:Hid (Res E w (.error (77,c.at_)) [] e w9):=zQk ⟨K4.out.tr (zAQ.bel hb9),_,_,hp,H4.out.below hb9⟩
  obtain⟨fb,rfl⟩:=HR9.out.bad
  clear hp hb9
  go_wp2_with fail
  exact⟨rfl,HR9.out⟩
end
end
section
open Go.RowKit
theorem zK9 {w:World} {base:Nat} {l:List Value} {c:Cm} (hm:CmM w base l c) (hu: ∀b∈c.tx,b<256) (U:U8V w) (hs:zDX c.nm c.wr c.tx=true):
  Calls Tryz.prog 42 #[.agg l.toArray] w fun e w'=>e= .returned (.bool true)∧Below w.heap.size w w':=by
 obtain⟨vt,ht,o,cp,rfl,hrow⟩:=hm.tx
 have hnew:=zQx w (.cells l.toArray 36)
 have hbl:=(zQl w.heap.size w).alloc (zQm _) (.cells l.toArray 36)
 have c7:(w.alloc (.cells l.toArray 36)).cell? ⟨w.heap.size,7,none⟩=some (.int .u8 (c.nm:Nat)):=(zQz _ _ 7 _ _ (0,0) hnew).trans (by simpa using hm.nm)
 have c9:(w.alloc (.cells l.toArray 36)).cell? ⟨w.heap.size,9,none⟩=some (.slice o c.tx.length cp):=(zQz _ _ 9 _ _ (0,0) hnew).trans (by simpa using ht)
 have c15:(w.alloc (.cells l.toArray 36)).cell? ⟨w.heap.size,15,none⟩=some (.bool c.wr):=(zQz _ _ 15 _ _ (0,0) hnew).trans (by simpa using hm.wr)
 have hby:Bys (w.alloc (.cells l.toArray 36)) base (.slice o c.tx.length cp) c.tx:=Bys.kept (S:=fun _=>False) ⟨o,cp,rfl,hrow⟩ (zAQ.bel hbl) fun _ _ e=>e
 have HU8:=zQk (U.below hbl)
 have HB:=zQk hbl
 have HBY:=zQk hby
 have HUT:=zQk hu
 clear hm hrow ht hnew hbl hby U hu
 revert c7 c9 c15 hs HBY HUT
 generalize c.nm=nm
 generalize c.wr=wr
 generalize c.tx=tx
 intro hs c7 c9 c15 HBY HUT
 have HS:=zQk hs
 clear hs
 go_enter Tryz.func42,Tryz.ntmps42
 go_upto_region 1 with fail
 obtain⟨b,hb⟩: ∃b,w.heap.size=b:=⟨_,rfl⟩
 have HBQ:=zQk hb
 rw[hb]at c7 c9 c15 ⊢
 clear hb
 obtain⟨W,hW⟩: ∃W,w.alloc (.cells l.toArray 36)=W:=⟨_,rfl⟩
 rw[hW]at c7 c9 c15 HBY HB HU8 ⊢
 clear hW
 by_cases n97:nm=97
 ·subst n97
  go_wp2_with fail
  go_ret
  exact⟨rfl,HB.out⟩
 have q97:((nm:Int)==97)=false:=zQq.2 (by omega)
 by_cases n99:nm=99
 ·subst n99
  go_wp2_with fail
  go_ret
  exact⟨rfl,HB.out⟩
 have q99:((nm:Int)==99)=false:=zQq.2 (by omega)
 by_cases n105:nm=105
 ·subst n105
  go_wp2_with fail
  go_ret
  exact⟨rfl,HB.out⟩
 have q105:((nm:Int)==105)=false:=zQq.2 (by omega)
 by_cases n98:nm=98
 ·subst n98
  have hl:zCk tx=true:=by have:=HS.out;simpa [zDX]using this
  have HC:=zDl HBY.out HUT.out
  rw[hl]at HC
  have HC:=zQk HC
  clear hl
  go_wp2_with fail
  refine HC.out.mono ?_;rintro e w1 ⟨rfl,hb1⟩
  have HB1:=zQk (HB.out.trans (hb1.mono HB.out.size))
  clear hb1
  go_wp2_with fail
  go_ret
  exact⟨rfl,HB1.out⟩
 have q98:((nm:Int)==98)=false:=zQq.2 (by omega)
 by_cases n116:nm=116
 ·subst n116
  have hl:zCk tx=true:=by have:=HS.out;simpa [zDX]using this
  have HC:=zDl HBY.out HUT.out
  rw[hl]at HC
  have HC:=zQk HC
  clear hl
  go_wp2_with fail
  refine HC.out.mono ?_;rintro e w1 ⟨rfl,hb1⟩
  have HB1:=zQk (HB.out.trans (hb1.mono HB.out.size))
  clear hb1
  go_wp2_with fail
  go_ret
  exact⟨rfl,HB1.out⟩
 have q116:((nm:Int)==116)=false:=zQq.2 (by omega)
 by_cases n58:nm=58
 ·subst n58
  have hl0:0<tx.length∧zCk tx=true:=by
   have:=HS.out
   simp[zDX]at this
   refine⟨List.length_pos_iff.2 ?_,this.2⟩
   intro e
   rw[e]at this
   simp at this
  have hp:(0:Int)<(tx.length:Int):=by omega
  have HC:=zDl HBY.out HUT.out
  rw[hl0.2]at HC
  have HC:=zQk HC
  clear hl0
  go_wp2_with fail
  refine HC.out.mono ?_;rintro e w1 ⟨rfl,hb1⟩
  have HB1:=zQk (HB.out.trans (hb1.mono HB.out.size))
  clear hb1
  go_wp2_with fail
  go_ret
  exact⟨rfl,HB1.out⟩
 have q58:((nm:Int)==58)=false:=zQq.2 (by omega)
 by_cases n114:nm=114
 ·subst n114
  have hl:zBZ tx=true:=by have:=HS.out;simpa [zDX]using this
  have hrow:=HBY.out
  obtain⟨o2,cp2,e2,hrow⟩:=hrow
  cases e2
  have HC:=zDR (zDU hrow).1 HUT.out (zDU hrow).2 HU8.out
  rw[hl]at HC
  have HC:=zQk HC
  clear hl hrow
  go_wp2_with fail
  refine HC.out.mono ?_;rintro e w1 ⟨rfl,hb1⟩
  have HB1:=zQk (HB.out.trans (hb1.mono HB.out.size))
  clear hb1
  go_wp2_with fail
  go_ret
  exact⟨rfl,HB1.out⟩
 have q114:((nm:Int)==114)=false:=zQq.2 (by omega)
 by_cases n119:nm=119
 ·subst n119
  have hl:zBZ tx=true:=by have:=HS.out;simpa [zDX]using this
  have hrow:=HBY.out
  obtain⟨o2,cp2,e2,hrow⟩:=hrow
  cases e2
  have HC:=zDR (zDU hrow).1 HUT.out (zDU hrow).2 HU8.out
  rw[hl]at HC
  have HC:=zQk HC
  clear hl hrow
  go_wp2_with fail
  refine HC.out.mono ?_;rintro e w1 ⟨rfl,hb1⟩
  have HB1:=zQk (HB.out.trans (hb1.mono HB.out.size))
  clear hb1
  go_wp2_with fail
  go_ret
  exact⟨rfl,HB1.out⟩
 have q119:((nm:Int)==119)=false:=zQq.2 (by omega)
 by_cases n115:nm=115∧wr=true
 ·obtain⟨rfl,rfl⟩:=n115
  have hl:zBZ tx=true:=by have:=HS.out;simpa [zDX]using this
  have hrow:=HBY.out
  obtain⟨o2,cp2,e2,hrow⟩:=hrow
  cases e2
  have HC:=zDR (zDU hrow).1 HUT.out (zDU hrow).2 HU8.out
  rw[hl]at HC
  have HC:=zQk HC
  clear hl hrow
  go_wp2_with fail
  refine HC.out.mono ?_;rintro e w1 ⟨rfl,hb1⟩
  have HB1:=zQk (HB.out.trans (hb1.mono HB.out.size))
  clear hb1
  go_wp2_with fail
  go_ret
  exact⟨rfl,HB1.out⟩
 have hl:tx=[]:=by
  have:=HS.out
  unfold zDX at this
  rw[if_neg (by omega),if_neg (by omega),if_neg (by omega),if_neg (by omega),if_neg n115]at this
  exact List.isEmpty_iff.1 this
 subst hl
 by_cases h115:nm=115
 ·subst h115
  have hw:wr=false:=by cases wr<;>simp_all
  subst hw
  clear n115
  go_wp2_with fail
  go_ret
  exact⟨rfl,HB.out⟩
 have q115:((nm:Int)==115)=false:=zQq.2 (by omega)
 clear n115
 go_wp2_with fail
 go_ret
 exact⟨rfl,HB.out⟩
end
section
open Go.RowKit
section
variable {w w':World} {E:PE} {i j k n:Nat} {l:List Value} {base:Nat} {c:Cm}
theorem zJa (h:RS E w i l) (hm:CmM w base l c) (hb:E.wb<base∧E.cb<base) (hbw:base≤w.heap.size):
  Calls Tryz.prog 146 #[.pointer (some ⟨E.rb,0,none⟩),.pointer (some ⟨E.cb,0,none⟩)] w (HdO E w base (zDG E.T i c)):=by
 have HS:=zQk (zO4 (E:=E) hb)
 have HB:=zQk hb
 have HBW:=zQk hbw
 have H0:=zQk h
 have HM0:=zQk hm
 obtain⟨R,hR⟩: ∃R,zDG E.T i c=R:=⟨_,rfl⟩
 rw[hR]
 have HR:Hid (zBb E.T (E.T.length+1 - i) i c=R):=zQk hR
 clear h hm hb hbw hR
 go_enter Tryz.func146,Tryz.ntmps146
 go_wp2_with fail
 go_loopg [4] (E.T.length+1 - i) (fun g x wr=> ∃(m kk:Nat) (l1:List Value) (c1:Cm),g=m∧Hid (zBb E.T m kk c1=R)∧E.T.length - kk<m∧RS E wr kk l1∧CmM wr base l1 c1∧zAQ w wr E.W)
 case atStart=>exact⟨_,i,l,c,rfl,HR,by have:=H0.out.v.at_;omega,H0.out,HM0.out,zAQ.refl _ _⟩
 case round=>
 obtain⟨m,kk,l1,c1,hgm,HN,hg,h1,m1,k1⟩:=hrel
 obtain⟨g',rfl⟩: ∃g',m=g'+1:=⟨m - 1,by omega⟩
 have HGM:=zQk hgm
 have hn:=HN.out
 rw[zB9]at hn
 have H1:=zQk h1
 have HM1:=zQk m1
 have K1:=zQk k1
 have HG:=zQk hg
 have r0:=h1.r0
 obtain⟨x,hx⟩: ∃x,E.T.getD kk 0=x:=⟨_,rfl⟩
 have HP:=zQk (zAx h1.v)
 rw[hx]at HP hn
 have hlt:x≠0→kk<E.T.length:=fun h0=>by
  by_cases hlt:kk<E.T.length
  ·exact hlt
  ·rw[zQt,zRK (by omega)]at hx
   exact absurd hx.symm h0
 have HXX:=zQk hx
 clear h1 m1 k1 hg hgm HN HR hx
 go_wp2_with fail
 refine HP.out.mono ?_;rintro e w2 ⟨rfl,hb2⟩
 have H2:=zQk (H1.out.below hb2)
 have HM2:=zQk (HM1.out.kept (zAQ.bel (S:=E.W) hb2) HS.out)
 have K2:=zQk (K1.out.tr (zAQ.bel hb2))
 clear hb2 r0 HP
 by_cases hx:x=103
 ·rw[if_pos hx]at hn
  have HLT:=zQk (hlt (by omega))
  subst hx
  clear hlt
  unfold zHl at hn
  have hx:=trivial
  cases hfl:c1.al with
  |true=>
   rw[if_pos hfl]at hn
   subst hn
   have hlf:l1[13]?=some (.bool true):=by rw[←hfl];exact HM2.out.al
   have HO:=zQk (zHZ H2.out HM2.out.p hlf)
   clear hlf hfl hx
   go_wp2_with fail
   refine HO.out.mono ?_;rintro e w9 hp
   have HR9:Hid (Res E w (.error (74,c1.at_)) [] e w9):=zQk (Res.up K2.out hp)
   obtain⟨fb,rfl⟩:=HR9.out.bad
   clear hp
   go_wp2_with fail
   exact⟨rfl,HR9.out⟩
  |false=>
   rw[if_neg (by rw[hfl];decide)]at hn
   have HN:=zQk hn
   have hlf:l1[13]?=some (.bool false):=by rw[←hfl];exact HM2.out.al
   have HO:=zQk (zJf H2.out hlf HLT.out)
   clear hlf hfl hx hn
   go_wp2_with fail
   refine HO.out.mono ?_;rintro e w3 ⟨k3,rfl,h3⟩
   have H3:=zQk h3
   have HM3:=zQk ((HM2.out.setAl H2.out.cl.len true).kept k3 HS.out)
   have K3:=zQk (K2.out.tr k3)
   clear k3 h3 HO
   go_wp2_with fail
   go_roundg g'
   case measure=>have:=HGM.out;omega
   case rel=>exact⟨_,kk+1,_,_,rfl,HN,by have:=HG.out;have:=HLT.out;omega,H3.out,HM3.out,K3.out⟩
 rw[if_neg hx]at hn
 have x1:((x:Int)==103)=false:=zQq.2 (by omega)
 clear hx
 by_cases hx:x=112
 ·rw[if_pos hx]at hn
  have HLT:=zQk (hlt (by omega))
  subst hx
  clear hlt x1
  unfold zHk at hn
  have hx:=trivial
  cases hfl:c1.pr with
  |true=>
   rw[if_pos hfl]at hn
   subst hn
   have hlf:l1[14]?=some (.bool true):=by rw[←hfl];exact HM2.out.pr
   have HO:=zQk (zHZ H2.out HM2.out.p hlf)
   clear hlf hfl hx
   go_wp2_with fail
   refine HO.out.mono ?_;rintro e w9 hp
   have HR9:Hid (Res E w (.error (74,c1.at_)) [] e w9):=zQk (Res.up K2.out hp)
   obtain⟨fb,rfl⟩:=HR9.out.bad
   clear hp
   go_wp2_with fail
   exact⟨rfl,HR9.out⟩
  |false=>
   rw[if_neg (by rw[hfl];decide)]at hn
   have HN:=zQk hn
   have hlf:l1[14]?=some (.bool false):=by rw[←hfl];exact HM2.out.pr
   have HO:=zQk (zJf H2.out hlf HLT.out)
   clear hlf hfl hx hn
   go_wp2_with fail
   refine HO.out.mono ?_;rintro e w3 ⟨k3,rfl,h3⟩
   have H3:=zQk h3
   have HM3:=zQk ((HM2.out.setPr H2.out.cl.len true).kept k3 HS.out)
   have K3:=zQk (K2.out.tr k3)
   clear k3 h3 HO
   go_wp2_with fail
   go_roundg g'
   case measure=>have:=HGM.out;omega
   case rel=>exact⟨_,kk+1,_,_,rfl,HN,by have:=HG.out;have:=HLT.out;omega,H3.out,HM3.out,K3.out⟩
 rw[if_neg hx]at hn
 have x2:((x:Int)==112)=false:=zQq.2 (by omega)
 clear hx
 by_cases hx:48≤x∧x≤57
 ·rw[if_pos hx]at hn
  have HLT:=zQk (hlt (by omega))
  have x3:(48:Int)≤(x:Int):=by omega
  have x4:(x:Int)≤57:=by omega
  clear hlt hx
  have HNU:=zGE (most:=1048576) H2.out.v (by decide) (fun j _=>zH0 (H2.out.v.u j))
  have r0:=H2.out.r0
  cases hq:zFD E.T 1048576 kk with
  |none=>
   rw[hq]at hn HNU
   have HNU:=zQk HNU
   unfold zHm at hn
   subst hn
   clear hq
   go_wp2_with fail
   refine HNU.out.mono ?_;rintro e w3 ⟨⟨rfl,hv3⟩,hb3⟩
   have h3:=H2.out.words hb3 hv3
   have m3:=HM2.out.kept (zAQ.nbut (E:=E) hb3) HS.out
   have c12:w3.cell? ⟨E.cb,12,none⟩=some (.int .i64 (c1.ct:Nat)):=h3.cc m3.ct
   have H3:=zQk h3
   have HM3:=zQk m3
   have K3:=zQk (K2.out.tr (zAQ.nbut hb3))
   clear h3 m3 hv3 hb3 r0 HNU
   by_cases hct:c1.ct=0
   ·have y1:((c1.ct:Int) !=0)=false:=by simp[hct]
    clear hct
    go_wp2_with fail
    refine(zA6 (er:=74) H3.out HM3.out.p (by decide)).mono ?_;rintro e w9 ⟨hp,hb9⟩
    have HR9:Hid (Res E w (.error (74,c1.at_)) [] e w9):=zQk ⟨K3.out.tr (zAQ.bel hb9),_,_,hp,H3.out.below hb9⟩
    obtain⟨fb,rfl⟩:=HR9.out.bad
    clear hp hb9
    go_wp2_with fail
    exact⟨rfl,HR9.out⟩
   ·have y1:((c1.ct:Int) !=0)=true:=bne_iff_ne.2 (by omega)
    clear hct
    go_wp2_with fail
    refine(zA6 (er:=74) H3.out HM3.out.p (by decide)).mono ?_;rintro e w9 ⟨hp,hb9⟩
    have HR9:Hid (Res E w (.error (74,c1.at_)) [] e w9):=zQk ⟨K3.out.tr (zAQ.bel hb9),_,_,hp,H3.out.below hb9⟩
    obtain⟨fb,rfl⟩:=HR9.out.bad
    clear hp hb9
    go_wp2_with fail
    exact⟨rfl,HR9.out⟩
  |some q=>
   obtain⟨v,j⟩:=q
   rw[hq]at hn HNU
   have hat:=zEV hq H2.out.v.at_
   have HAT:=zQk hat
   have HNU:=zQk HNU
   unfold zHm at hn
   simp only at hn
   clear hq hat
   by_cases hct:c1.ct=0
   ·have y1:((c1.ct:Int) !=0)=false:=by simp[hct]
    by_cases hv0:v=0
    ·rw[if_pos (.inr hv0)]at hn
     subst hn hv0
     have HCT:=zQk hct
     clear hct
     go_wp2_with fail
     refine HNU.out.mono ?_;rintro e w3 ⟨⟨rfl,hv3⟩,hb3⟩
     have h3:=H2.out.words hb3 hv3
     have m3:=HM2.out.kept (zAQ.nbut (E:=E) hb3) HS.out
     have c12:w3.cell? ⟨E.cb,12,none⟩=some (.int .i64 (c1.ct:Nat)):=h3.cc m3.ct
     have H3:=zQk h3
     have HM3:=zQk m3
     have K3:=zQk (K2.out.tr (zAQ.nbut hb3))
     clear h3 m3 hv3 hb3 r0 HNU
     go_wp2_with fail
     refine(zA6 (er:=74) H3.out HM3.out.p (by decide)).mono ?_;rintro e w9 ⟨hp,hb9⟩
     have HR9:Hid (Res E w (.error (74,c1.at_)) [] e w9):=zQk ⟨K3.out.tr (zAQ.bel hb9),_,_,hp,H3.out.below hb9⟩
     obtain⟨fb,rfl⟩:=HR9.out.bad
     clear hp hb9
     go_wp2_with fail
     exact⟨rfl,HR9.out⟩
    ·rw[if_neg (fun h=>h.elim (fun h=>h hct) hv0)]at hn
     have HN:=zQk hn
     have y2:((v:Int)==0)=false:=zQq.2 (by omega)
     clear hct hv0 hn
     go_wp2_with fail
     refine HNU.out.mono ?_;rintro e w3 ⟨⟨rfl,hv3⟩,hb3⟩
     have h3:=H2.out.words hb3 hv3
     have m3:=HM2.out.kept (zAQ.nbut (E:=E) hb3) HS.out
     have c12:w3.cell? ⟨E.cb,12,none⟩=some (.int .i64 (c1.ct:Nat)):=h3.cc m3.ct
     have f12:=h3.cf 12
     have H3:=zQk (h3.set 12 (v:= .int .i64 (v:Nat)) rfl)
     have HM3:=zQk ((m3.setCt h3.cl.len v).kept (zAQ.put E w3 12 (.int .i64 (v:Nat))) HS.out)
     have K3:=zQk ((K2.out.tr (zAQ.nbut hb3)).tr (zAQ.put E w3 12 (.int .i64 (v:Nat))))
     clear h3 m3 hv3 hb3 r0 HNU
     go_wp2_with fail
     go_roundg g'
     case measure=>have:=HGM.out;omega
     case rel=>exact⟨_,j,_,_,rfl,HN,by have:=HG.out;have:=HLT.out;have:=HAT.out;omega,H3.out,HM3.out,K3.out⟩
   ·rw[if_pos (.inl hct)]at hn
    subst hn
    have y1:((c1.ct:Int) !=0)=true:=bne_iff_ne.2 (by omega)
    clear hct
    go_wp2_with fail
    refine HNU.out.mono ?_;rintro e w3 ⟨⟨rfl,hv3⟩,hb3⟩
    have h3:=H2.out.words hb3 hv3
    have m3:=HM2.out.kept (zAQ.nbut (E:=E) hb3) HS.out
    have c12:w3.cell? ⟨E.cb,12,none⟩=some (.int .i64 (c1.ct:Nat)):=h3.cc m3.ct
    have H3:=zQk h3
    have HM3:=zQk m3
    have K3:=zQk (K2.out.tr (zAQ.nbut hb3))
    clear h3 m3 hv3 hb3 r0 HNU
    go_wp2_with fail
    refine(zA6 (er:=74) H3.out HM3.out.p (by decide)).mono ?_;rintro e w9 ⟨hp,hb9⟩
    have HR9:Hid (Res E w (.error (74,c1.at_)) [] e w9):=zQk ⟨K3.out.tr (zAQ.bel hb9),_,_,hp,H3.out.below hb9⟩
    obtain⟨fb,rfl⟩:=HR9.out.bad
    clear hp hb9
    go_wp2_with fail
    exact⟨rfl,HR9.out⟩
 rw[if_neg hx]at hn
 have HNX:=zQk hx
 clear hx
 by_cases hx:x=119
 ·rw[if_pos hx]at hn
  have HLT:=zQk (hlt (by omega))
  subst hx
  clear hlt x1 x2
  unfold zHj at hn
  have hx:=trivial
  cases hfl:c1.wr with
  |true=>
   rw[if_pos hfl]at hn
   subst hn
   have hlf:l1[15]?=some (.bool true):=by rw[←hfl];exact HM2.out.wr
   have HO:=zQk (zHZ H2.out HM2.out.p hlf)
   clear hlf hfl hx
   go_wp2_with fail
   refine HO.out.mono ?_;rintro e w9 hp
   have HR9:Hid (Res E w (.error (74,c1.at_)) [] e w9):=zQk (Res.up K2.out hp)
   obtain⟨fb,rfl⟩:=HR9.out.bad
   clear hp
   go_wp2_with fail
   exact⟨rfl,HR9.out⟩
  |false=>
   rw[if_neg (by rw[hfl];decide)]at hn
   have HN:=zQk hn
   have hlf:l1[15]?=some (.bool false):=by rw[←hfl];exact HM2.out.wr
   have HO:=zQk (zJf H2.out hlf HLT.out)
   clear hlf hfl hx hn
   go_wp2_with fail
   refine HO.out.mono ?_;rintro e w3 ⟨k3,rfl,h3⟩
   have H3:=zQk h3
   have HM3:=zQk ((HM2.out.setWr H2.out.cl.len true).kept k3 HS.out)
   have K3:=zQk (K2.out.tr k3)
   clear k3 h3 HO
   have HFI:=zQk (zGr H3.out HM3.out HB.out (zQ7 HBW.out K3.out.size))
   go_wp2_with fail
   refine HFI.out.mono ?_;rintro e w4 hf4
   cases hq:zCl E.T (kk+1) { c1 with wr:=true } with
   |error p=>
    rw[hq]at hf4
    have hRR:=HN.out
    rw[hq]at hRR
    subst hRR
    have HR4:Hid (Res E w (.error p) [] e w4):=zQk (Res.up (l:=[]) K3.out hf4)
    obtain⟨fb,rfl⟩:=HR4.out.bad
    clear hf4 hq
    go_wp2_with fail
    exact⟨rfl,HR4.out⟩
   |ok p=>
    obtain⟨c4,q4⟩:=p
    rw[hq]at hf4
    have hRR:=HN.out
    rw[hq]at hRR
    subst hRR
    obtain⟨rfl,k4,l4,h4,m4⟩:=hf4
    have HK4:=zQk (K3.out.tr k4)
    have HH4:=zQk h4
    have HM4:=zQk m4
    clear hq k4 h4 m4
    go_wp2_with fail
    go_end0
    exact⟨rfl,HK4.out,l4,HH4.out,HM4.out⟩
 rw[if_neg hx]at hn
 have x5:((x:Int)==119)=false:=zQq.2 (by omega)
 have HPE:=zQk (zGA H2.out)
 unfold zCf at hn
 simp only at hn
 unfold zPl at HPE
 have HN:=zQk hn
 clear hx hlt hn
 by_cases x3:(48:Int)≤(x:Int)
 ·have x4: ¬(x:Int)≤57:=fun h=>HNX.out ⟨by omega,by omega⟩
  go_wp2_with fail
  refine HPE.out.mono ?_;rintro e w4 hf4
  by_cases hq:(zEy E.T kk).1≠0
  ·rw[if_pos hq]at hf4
   have hRR:=HN.out
   rw[if_pos hq]at hRR
   subst hRR
   have HR4:Hid (Res E w (.error (zEy E.T kk)) [] e w4):=zQk (Res.up K2.out hf4)
   obtain⟨fb,rfl⟩:=HR4.out.bad
   clear hf4 hq
   go_wp2_with fail
   exact⟨rfl,HR4.out⟩
  ·rw[if_neg hq]at hf4
   have hRR:=HN.out
   rw[if_neg hq]at hRR
   subst hRR
   obtain⟨k4,rfl,h4⟩:=hf4
   have HK4:=zQk (K2.out.tr k4)
   have HH4:=zQk h4
   have HM4:=zQk (HM2.out.kept k4 HS.out)
   clear hq k4 h4
   go_wp2_with fail
   go_end0
   exact⟨rfl,HK4.out,l1,HH4.out,HM4.out⟩
 ·have x4:=trivial
  go_wp2_with fail
  refine HPE.out.mono ?_;rintro e w4 hf4
  by_cases hq:(zEy E.T kk).1≠0
  ·rw[if_pos hq]at hf4
   have hRR:=HN.out
   rw[if_pos hq]at hRR
   subst hRR
   have HR4:Hid (Res E w (.error (zEy E.T kk)) [] e w4):=zQk (Res.up K2.out hf4)
   obtain⟨fb,rfl⟩:=HR4.out.bad
   clear hf4 hq
   go_wp2_with fail
   exact⟨rfl,HR4.out⟩
  ·rw[if_neg hq]at hf4
   have hRR:=HN.out
   rw[if_neg hq]at hRR
   subst hRR
   obtain⟨k4,rfl,h4⟩:=hf4
   have HK4:=zQk (K2.out.tr k4)
   have HH4:=zQk h4
   have HM4:=zQk (HM2.out.kept k4 HS.out)
   clear hq k4 h4
   go_wp2_with fail
   go_end0
   exact⟨rfl,HK4.out,l1,HH4.out,HM4.out⟩
end
end
end Go.Proofs.YtmaagpbjahjmhaaGreatDoor
