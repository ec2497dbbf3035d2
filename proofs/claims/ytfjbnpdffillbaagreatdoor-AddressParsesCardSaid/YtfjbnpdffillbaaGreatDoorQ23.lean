/- Parts: Kc. -/
import Derived.Test.YtfjbnpdffillbaaGreatDoorQ2
import Derived.Test.YtfjbnpdffillbaaGreatDoorQ1
import Derived.Shelf.Spec.TrailingZeros
set_option maxHeartbeats 800000
set_option maxRecDepth 100000
namespace Go.Proofs.YtfjbnpdffillbaaGreatDoor
open Go.RowKit Go.Shelf
def zPE:Ren:=⟨fun|29=>200|n=>n,fun|0=>0|3=>3|4=>4|5=>5|22=>74|25=>160|54=>286|n=>n,fun|1=>2|n=>n⟩
theorem zOg:Lays7.n29 Tryz.prog zPE:= {
 mixed:=by kernel_rfl
 f29:=Tryz.func200.trans (congrArg some (by kernel_rfl))
 t0:=Tryz.underlying0
 a0:=Tryz.isAgg0
 z0:=Tryz.sizeOf0
 v0:=Tryz.zeroValue0
 i0:=by kernel_rfl
 t3:=Tryz.underlying3
 a3:=Tryz.isAgg3
 z3:=Tryz.sizeOf3
 v3:=Tryz.zeroValue3
 i3:=by kernel_rfl
 t4:=Tryz.underlying4
 a4:=Tryz.isAgg4
 z4:=Tryz.sizeOf4
 v4:=Tryz.zeroValue4
 i4:=by kernel_rfl
 t5:=Tryz.underlying5
 a5:=Tryz.isAgg5
 z5:=Tryz.sizeOf5
 v5:=Tryz.zeroValue5
 i5:=by kernel_rfl
 t22:=Tryz.underlying74
 a22:=Tryz.isAgg74
 z22:=Tryz.sizeOf74
 v22:=Tryz.zeroValue74
 i22:=by kernel_rfl
 t25:=Tryz.underlying160
 a25:=Tryz.isAgg160
 z25:=Tryz.sizeOf160
 v25:=Tryz.zeroValue160
 i25:=by kernel_rfl
 t54:=Tryz.underlying286
 a54:=Tryz.isAgg286
 z54:=Tryz.sizeOf286
 g1:=by kernel_rfl }
def zFw (w:World):Prop:=TabAt 2 Lib.deBruijn64tab w
theorem zFw.below {w w':World} (h:zFw w) (hb:Below w.heap.size w w'):zFw w':=fun j hj=>by
 have h1:=h j hj
 have hlt:2<w.heap.size:=by
  by_cases hlt:2<w.heap.size
  ·exact hlt
  ·rw[World.cell?,Array.getElem?_eq_none (show w.heap.size≤(⟨2,j,none⟩:Addr).block by show w.heap.size≤2;omega)]at h1;cases h1
 exact(hb.cell (p:=⟨2,j,none⟩) hlt).trans h1
theorem zN4 {x:Nat} (hx:x<18446744073709551616) {w:World} (ht:zFw w):
  Calls Tryz.prog 200 #[.int .u64 x] w fun e w'=>e= .returned (.int .i64 (Lib.ctz 64 x))∧w'=w:=
 Any7.bits_TrailingZeros64 zOg x hx w fun _=>ht
theorem zEb {a m:Nat} (ha:a<18446744073709551616) (hm:m<18446744073709551616):bits .and .u64 (a:Int) (m:Int)=((a &&& m:Nat):Int):=u64_and_nat a m ha hm
theorem zDz {a:Nat} (ha:a<18446744073709551616):IntKind.u64.wrap (a:Int)=(a:Int):=by rw[IntKind.wrap_u64];omega
theorem zO1 {a:Nat} (ha:a<9223372036854775808):bits .and .i64 (a:Int) 127=((a &&& 127:Nat):Int):=by
 show IntKind.i64.wrap ((BitVec.ofInt 64 (a:Int) &&& BitVec.ofInt 64 ((127:Nat):Int)).toNat:Int)=_
 have h:a &&& 127≤127:=Nat.and_le_right
 rw[BitVec.toNat_and,zDs a ha,zDs 127 (by omega)]
 exact IntWalk.i64_in _ (by omega)
theorem zK8 {x:Nat} (hx:x<18446744073709551616): ∃a b c d e f:Nat,
  IntKind.u64.wrap (bits .and .u64 ((x:Int) / (2:Int)) 6148914691236517205+bits .and .u64 (x:Int) 6148914691236517205)=(a:Int)∧
  IntKind.u64.wrap (bits .and .u64 ((a:Int) / (4:Int)) 3689348814741910323+bits .and .u64 (a:Int) 3689348814741910323)=(b:Int)∧
  bits .and .u64 (IntKind.u64.wrap ((b:Int) / (16:Int)+(b:Int))) 1085102592571150095=(c:Int)∧
  IntKind.u64.wrap ((c:Int)+(c:Int) / (256:Int))=(d:Int)∧
  IntKind.u64.wrap ((d:Int)+(d:Int) / (65536:Int))=(e:Int)∧
  IntKind.u64.wrap ((e:Int)+(e:Int) / (4294967296:Int))=(f:Int)∧f<9223372036854775808∧f &&& 127=pc 64 x:=by
 have h:=zPW x hx
 dsimp only at h
 generalize ea:((x >>> 1) &&& 6148914691236517205)+(x &&& 6148914691236517205)=a at h
 generalize eb:((a >>> 2) &&& 3689348814741910323)+(a &&& 3689348814741910323)=b at h
 generalize ec:(b >>> 4+b) &&& 1085102592571150095=c at h
 generalize ed:c+c >>> 8=d at h
 generalize ee:d+d >>> 16=e at h
 generalize ef:e+e >>> 32=f at h
 obtain⟨ha,hb,hbb,hd,he,hf,hr⟩:=h
 refine⟨a,b,c,d,e,f,?_,?_,?_,?_,?_,?_,hf,hr⟩
 ·have e:(x:Int) / (2:Int)=((x >>> 1:Nat):Int):=by rw[Nat.shiftRight_eq_div_pow];rfl
  have h1:x >>> 1<18446744073709551616:=by rw[Nat.shiftRight_eq_div_pow];omega
  rw[e,←ea]
  refine(congrArg IntKind.u64.wrap (congr (congrArg HAdd.hAdd (zEb h1 (m:=6148914691236517205) (by omega))) (zEb hx (m:=6148914691236517205) (by omega)))).trans ?_
  exact zDz (ea▸ha)
 ·have e:(a:Int) / (4:Int)=((a >>> 2:Nat):Int):=by rw[Nat.shiftRight_eq_div_pow];rfl
  have h1:a >>> 2<18446744073709551616:=by rw[Nat.shiftRight_eq_div_pow];omega
  rw[e,←eb]
  refine(congrArg IntKind.u64.wrap (congr (congrArg HAdd.hAdd (zEb h1 (m:=3689348814741910323) (by omega))) (zEb ha (m:=3689348814741910323) (by omega)))).trans ?_
  exact zDz (eb▸hb)
 ·have e:(b:Int) / (16:Int)+(b:Int)=((b >>> 4+b:Nat):Int):=by rw[Nat.shiftRight_eq_div_pow];rfl
  rw[e,zDz hbb,←ec]
  exact zEb hbb (m:=1085102592571150095) (by omega)
 ·have e:(c:Int)+(c:Int) / (256:Int)=((c+c >>> 8:Nat):Int):=by rw[Nat.shiftRight_eq_div_pow];rfl
  rw[e,ed]
  exact zDz hd
 ·have h:(d:Int)+(d:Int) / (65536:Int)=((d+d >>> 16:Nat):Int):=by rw[Nat.shiftRight_eq_div_pow];rfl
  rw[h,ee]
  exact zDz he
 ·have h:(e:Int)+(e:Int) / (4294967296:Int)=((e+e >>> 32:Nat):Int):=by rw[Nat.shiftRight_eq_div_pow];rfl
  rw[h,ef]
  exact zDz (by omega)
theorem zEv {x:Nat} (hx:x<18446744073709551616) {w:World} :
  Calls Tryz.prog 198 #[.int .u64 x] w fun e w'=>e= .returned (.int .i64 (pc 64 x:Nat))∧w'=w:=by
 obtain⟨a,b,c,d,e,f,e1,e2,e3,e4,e5,e6,hf,hr⟩:=zK8 hx
 have E1:=zPf e1
 have E2:=zPf e2
 have E3:=zPf e3
 have E4:=zPf e4
 have E5:=zPf e5
 have E6:=zPf e6
 have HR:=zPf hr
 clear e1 e2 e3 e4 e5 e6 hr
 go_enter Tryz.func198,Tryz.ntmps198
 go_wp2_with fail
 simp only[E1.out,E2.out,E3.out,E4.out,E5.out,E6.out]
 go_ret
 refine⟨?_,rfl⟩
 show Ending.returned (Value.int .i64 (bits .and .i64 (wrap64 (f:Int)) 127))=_
 rw[show wrap64 (f:Int)=(f:Int)from by unfold wrap64;omega,zO1 hf,HR.out]
def zHA (x:Nat):List Nat:=(List.range 64).filter fun i=>x.testBit i
theorem zLL {p q:Nat→Bool} {k n:Nat} (hk:k<n) (hp:p k=true) (hlow: ∀i,i<k→p i=false) (hq: ∀i,q i=(p i&&decide (i≠k))):
  (List.range n).filter p=k::(List.range n).filter q:=by
 have hr:List.range n=List.range k++(k::List.range' (k+1) (n - k - 1)):=by
  have h1:=List.range_eq_range' (n:=n)
  rw[h1,List.range_eq_range',show n=k+((n - k - 1)+1)by omega,←List.range'_append_1,List.range'_succ,Nat.zero_add,show k+(n - k - 1+1) - k - 1=n - k - 1 by omega]
 have e1:(List.range k).filter p=[]:=List.filter_eq_nil_iff.2 fun i hi=>by rw[hlow i (List.mem_range.1 hi)];exact Bool.false_ne_true
 have e2:(List.range k).filter q=[]:=List.filter_eq_nil_iff.2 fun i hi=>by rw[hq,hlow i (List.mem_range.1 hi)];exact Bool.false_ne_true
 have e3:q k=false:=by rw[hq];simp
 have e4:(List.range' (k+1) (n - k - 1)).filter p=(List.range' (k+1) (n - k - 1)).filter q:=List.filter_congr fun i hi=>by
  have:=(List.mem_range'_1.1 hi).1
  rw[hq,zPq (show i≠k by omega),Bool.and_true]
 rw[hr,List.filter_append,List.filter_append,e1,e2,List.nil_append,List.nil_append,List.filter_cons_of_pos hp,List.filter_cons_of_neg (by rw[e3];exact Bool.false_ne_true),e4]
theorem zML {x:Nat} (h0:x≠0) (hx:x<18446744073709551616): ∃m,x=2 ^ Lib.ctz 64 x*(2*m+1)∧Lib.ctz 64 x<64:=by
 obtain⟨m,hm,hk⟩:=Lib.ctzFrom_spec 64 x (by omega) hx
 exact⟨m,by rw[show Lib.ctz 64 x=Lib.ctzFrom 64 x by simp[Lib.ctz,h0]];exact hm,by rw[show Lib.ctz 64 x=Lib.ctzFrom 64 x by simp[Lib.ctz,h0]];exact hk⟩
theorem zC7 (k m i:Nat):(2 ^ k*(2*m+1)).testBit i=(decide (k≤i)&&(2*m+1).testBit (i - k)):=by
 rw[Nat.mul_comm,Nat.testBit_mul_two_pow]
theorem zNQ (k m:Nat):(2 ^ k*(2*m+1)) &&& (2 ^ k*(2*m+1) - 1)=2 ^ k*(2*m):=by
 have e:2 ^ k*(2*m+1) - 1=2 ^ k*(2*m)+(2 ^ k - 1):=by
  have:=Nat.two_pow_pos k
  rw[Nat.mul_add];omega
 rw[e]
 refine Nat.eq_of_testBit_eq fun i=>?_
 rw[Nat.testBit_and,zC7,Nat.testBit_two_pow_mul_add _ (by have:=Nat.two_pow_pos k;omega),Nat.mul_comm (2 ^ k),Nat.testBit_mul_two_pow]
 by_cases hi:k≤i
 ·rw[if_neg (by omega)]
  by_cases he:i=k
  ·subst he;simp[Nat.testBit_zero]
  ·obtain⟨j,rfl⟩: ∃j,i=k+(j+1):=⟨i - k - 1,by omega⟩
   rw[show k+(j+1) - k=j+1 by omega,Nat.testBit_succ,Nat.testBit_succ,show(2*m+1) / 2=m by omega,show 2*m / 2=m by omega]
   simp
 ·simp[hi]
theorem zLV {x:Nat} (h0:x≠0) (hx:x<18446744073709551616):zHA x=Lib.ctz 64 x::zHA (x &&& (x - 1))∧x &&& (x - 1)<x∧Lib.ctz 64 x<64:=by
 obtain⟨m,hm,hk⟩:=zML h0 hx
 generalize Lib.ctz 64 x=k at hm hk ⊢
 subst hm
 rw[zNQ]
 refine⟨?_,?_,hk⟩
 ·refine zLL hk ?_ ?_ ?_
  ·rw[zC7];simp[Nat.testBit_zero]
  ·intro i hi;rw[zC7];simp;omega
  ·intro i
   rw[zC7,Nat.mul_comm (2 ^ k),Nat.testBit_mul_two_pow]
   by_cases hi:k≤i
   ·by_cases he:i=k
    ·subst he;simp[Nat.testBit_zero]
    ·obtain⟨j,rfl⟩: ∃j,i=k+(j+1):=⟨i - k - 1,by omega⟩
     rw[show k+(j+1) - k=j+1 by omega,Nat.testBit_succ,Nat.testBit_succ,show(2*m+1) / 2=m by omega,show 2*m / 2=m by omega]
     simp
   ·simp[hi]
 ·have:=Nat.two_pow_pos k
  exact Nat.mul_lt_mul_of_pos_left (by omega) this
theorem zLU:zHA 0=[]:=by simp[zHA]
def zCt (c:Cls) (i:Nat):List Nat:=(zHA (c.word i).toNat).map fun b=>64*i+b
theorem zE0 (c:Cls) (i:Nat):(List.range' (64*i) 64).filter c.has=zCt c i:=by
 unfold zCt zHA
 rw[List.range'_eq_map_range,List.filter_map]
 congr 1
 refine List.filter_congr fun b hb=>?_
 have hb':=List.mem_range.1 hb
 unfold Function.comp Cls.has
 rw[show(64*i+b) / 64=i by omega,show(64*i+b) % 64=b by omega,BitVec.testBit_toNat]
theorem zI5 (c:Cls):c.els=zCt c 0++(zCt c 1++(zCt c 2++zCt c 3)):=by
 have h:List.range 256=List.range' (64*0) 64++(List.range' (64*1) 64++(List.range' (64*2) 64++List.range' (64*3) 64)):=by decide+kernel
 rw[←zE0 c 0,←zE0 c 1,←zE0 c 2,←zE0 c 3,←List.filter_append,←List.filter_append,←List.filter_append,←h]
 rfl
theorem zOG (x:Nat):pc 64 x=(zHA x).length:=by
 unfold pc zHA
 rw[List.countP_eq_length_filter]
theorem zNX (c:Cls):c.els.length=pc 64 c.w0.toNat+pc 64 c.w1.toNat+pc 64 c.w2.toNat+pc 64 c.w3.toNat:=by
 rw[zI5]
 simp only[List.length_append,zCt,List.length_map,zOG,Cls.word]
 omega
theorem zIW (c:Cls) {w:World} :
  Calls Tryz.prog 169 #[zBE c] w fun e w'=>e= .returned (.int .i64 (c.els.length:Nat))∧Below w.heap.size w w':=by
 rw[zNX]
 have p0:=zFr 64 c.w0.toNat
 have p1:=zFr 64 c.w1.toNat
 have p2:=zFr 64 c.w2.toNat
 have p3:=zFr 64 c.w3.toNat
 obtain⟨c0,c1,c2,c3⟩:=c
 simp only at p0 p1 p2 p3 ⊢
 go_enter Tryz.func169,Tryz.ntmps169
 go_wp2_with fail
 refine wp_loop_rounds 5 ?_
 rw[rounds_succ]
 go_wp2_with fail
 refine(zEv c0.isLt).mono ?_;rintro e w1 ⟨rfl,rfl⟩
 go_wp2_with fail
 rw[rounds_succ]
 go_wp2_with fail
 refine(zEv c1.isLt).mono ?_;rintro e w1 ⟨rfl,rfl⟩
 go_wp2_with fail
 rw[rounds_succ]
 go_wp2_with fail
 refine(zEv c2.isLt).mono ?_;rintro e w1 ⟨rfl,rfl⟩
 go_wp2_with fail
 rw[rounds_succ]
 go_wp2_with fail
 refine(zEv c3.isLt).mono ?_;rintro e w1 ⟨rfl,rfl⟩
 go_wp2_with fail
 rw[rounds_succ]
 go_wp2_with fail
 go_ret
 exact⟨by simp,(by repeat (first|exact zPg _ _|assumption|refine zP8 ?_|refine zP6 ?_ (by first|(simp;done)|(simp;omega)|omega) _|refine zP7 ?_ (by first|(simp;done)|(simp;omega)|omega) _))⟩
theorem zNu {x k:Nat} (hx:x<18446744073709551616):(bits .and .u64 ((x:Int) / 2 ^ k) 1==(1:Int))=x.testBit k:=by
 have e:(x:Int) / 2 ^ k=((x / 2 ^ k:Nat):Int):=by rw[Int.natCast_ediv,Int.natCast_pow];rfl
 have hlt:x / 2 ^ k<18446744073709551616:=Nat.lt_of_le_of_lt (Nat.div_le_self _ _) hx
 rw[e,show bits .and .u64 ((x / 2 ^ k:Nat):Int) 1=((x / 2 ^ k &&& 1:Nat):Int)from zEb hlt (m:=1) (by omega),Nat.and_one_is_mod,Nat.testBit_eq_decide_div_mod_eq]
 generalize x / 2 ^ k=y
 by_cases h:y % 2=1
 ·rw[h,zPq rfl];rfl
 ·rw[zPr h,show y % 2=0 by omega];rfl
theorem zKR (c:Cls) {b:Nat} (hb:b<256) {w:World} :
  Calls Tryz.prog 202 #[zBE c,.int .u8 b] w fun e w'=>e= .returned (.bool (c.has b))∧Below w.heap.size w w':=by
 have hc:(w.alloc (.cells #[.int .u64 c.w0.toNat,.int .u64 c.w1.toNat,.int .u64 c.w2.toNat,.int .u64 c.w3.toNat] 76)).cell? ⟨w.heap.size,b / 64,none⟩=some (.int .u64 (c.word (b / 64)).toNat):=
  zAX (c:=c) (T:=76) (zPs _ _) (b / 64) (by omega)
 have h4:(b:Int) / 64<4:=by omega
 have h0:0≤(b:Int) / 64:=by omega
 have hv:=zPf (zNu (x:=(c.word (b / 64)).toNat) (k:=b % 64) (c.word (b / 64)).isLt)
 go_enter Tryz.func202,Tryz.ntmps202
 go_wp2_with fail
 go_ret
 refine⟨?_,(by repeat (first|exact zPg _ _|assumption|refine zP8 ?_|refine zP6 ?_ (by first|(simp;done)|(simp;omega)|omega) _|refine zP7 ?_ (by first|(simp;done)|(simp;omega)|omega) _))⟩
 simp only[hv.out,BitVec.testBit_toNat]
 rfl
theorem zKb (c:Cls) {w:World} :
  Calls Tryz.prog 170 #[zBE c] w fun e w'=>e= .returned (.func (.func 199) #[] #[.pointer (some ⟨w.heap.size,0,none⟩)])∧w'=w.alloc (.cells (zAS c) 76):=by
 go_enter Tryz.func170,Tryz.ntmps170
 go_wp2_with fail
 go_ret
 exact⟨rfl,rfl⟩
end Go.Proofs.YtfjbnpdffillbaaGreatDoor
