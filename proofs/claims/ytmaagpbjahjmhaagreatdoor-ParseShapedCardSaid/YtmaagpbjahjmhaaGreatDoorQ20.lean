/- Parts: Fh Fi. -/
import Derived.Test.YtmaagpbjahjmhaaGreatDoorQ7
import Derived.Test.YtmaagpbjahjmhaaGreatDoorQ1
import Derived.OneCell
set_option maxHeartbeats 3200000
set_option maxRecDepth 100000
namespace Go.Proofs.YtmaagpbjahjmhaaGreatDoor
section
open Go.RowKit
def zP1:ByteArray:=⟨#[48,49,50,51,52,53,54,55,56,57]⟩
def zOa (c:Nat):Int:=if 48≤c∧c≤57 then(c:Int) - 48 else -1
def zPQ (c:Nat):Prop:= ∀w:World,Calls Tryz.prog 216 #[.string zP1,.int .i32 (c:Nat)] w fun e w'=>e= .returned (.int .i64 (zOa c))∧Below w.heap.size w w'
structure zHE (w:World) (bm most v:Nat) (h:Bool):Prop where
 m:w.heap[bm]?=some (.cells #[.int .i64 (most:Nat)] 3 (0,0))
 n:w.heap[bm+1]?=some (.cells #[.int .i64 (v:Nat)] 3 (0,0))
 h:w.heap[bm+1+1]?=some (.cells #[.bool h] 4 (0,0))
 vm:v≤most
 mm:most≤2147483647
section
variable {w w':World} {bm most v:Nat} {h:Bool}
theorem zHE.lt (k:zHE w bm most v h):bm+1+1<w.heap.size:=lt_of_block k.h
theorem zHE.below (k:zHE w bm most v h) (hb:Below w.heap.size w w'):zHE w' bm most v h:=
 ⟨(hb.block _ (lt_of_block k.m)).trans k.m,(hb.block _ (lt_of_block k.n)).trans k.n,(hb.block _ (lt_of_block k.h)).trans k.h,k.vm,k.mm⟩
theorem zHE.setN (k:zHE w bm most v h) {x:Nat} (hx:x≤most) {y:Int} (hy:(x:Int)=y):zHE (w.setCell ⟨bm+1,0,none⟩ (.int .i64 y)) bm most x h:=
 ⟨(zQ1 _ _ _ _ (by show bm≠bm+1;omega)).trans k.m,by subst hy;exact one_setCell k.n,(zQ1 _ _ _ _ (by show bm+1+1≠bm+1;omega)).trans k.h,hx,k.mm⟩
theorem zHE.setH (k:zHE w bm most v h) (x:Bool):zHE (w.setCell ⟨bm+1+1,0,none⟩ (.bool x)) bm most v x:=
 ⟨(zQ1 _ _ _ _ (by show bm≠bm+1+1;omega)).trans k.m,(zQ1 _ _ _ _ (by show bm+1≠bm+1+1;omega)).trans k.n,one_setCell k.h,k.vm,k.mm⟩
theorem zHE.store (k:zHE w bm most v h) {b:Nat} (hb:b<bm) (o:Nat) (x:Value):zHE (w.setCell ⟨b,o,none⟩ x) bm most v h:=
 ⟨(zQ1 _ _ _ _ (by show bm≠b;omega)).trans k.m,(zQ1 _ _ _ _ (by show bm+1≠b;omega)).trans k.n,(zQ1 _ _ _ _ (by show bm+1+1≠b;omega)).trans k.h,k.vm,k.mm⟩
def zKs (most d v:Nat) (h:Bool):Nat × Bool:=if most<d∨(most - d) / 10<v then(v,true)else(10*v+d,h)
theorem zLb (k:zHE w bm most v h) {c:Nat} (hc:c<256) (hI:zPQ c):
  Calls Tryz.prog 215 #[.int .i32 (c:Nat),.pointer (some ⟨bm,0,none⟩),.pointer (some ⟨bm+1,0,none⟩),.pointer (some ⟨bm+1+1,0,none⟩)] w fun e w'=>
   e= .returned (.bool (decide (48≤c∧c≤57)))∧zBU bm bm w w'∧w.heap.size≤w'.heap.size∧zHE w' bm most (if 48≤c∧c≤57 then(zKs most (c - 48) v h).1 else v) (if 48≤c∧c≤57 then(zKs most (c - 48) v h).2 else h):=by
 have HK:=zQr k
 have HI:=zQr (hI w)
 have hmm:=k.mm
 have hvm:=k.vm
 by_cases hd:48≤c∧c≤57
 ·rw[if_pos hd,if_pos hd,zQ2 hd]
  have ht:zOa c=((c - 48:Nat):Int):=by rw[zOa,if_pos hd];omega
  rw[ht]at HI
  obtain⟨d,hdd⟩: ∃d,c - 48=d:=⟨_,rfl⟩
  rw[hdd]at HI ⊢
  have hd9:d≤9:=by omega
  have hn: ¬(d:Int)<0:=by omega
  clear k hI hd ht hdd
  unfold zKs
  by_cases h1:most<d
  ·rw[if_pos (.inl h1)]
   have h1':(most:Int)<(d:Int):=by omega
   clear h1
   go_enter Tryz.func215,Tryz.ntmps215
   go_wp2_with fail
   refine HI.out.mono ?_;rintro e w1 ⟨rfl,hb1⟩
   have HK1:=zQr (HK.out.below hb1)
   have HB1:=zQr hb1
   have cm:=cell_of_one HK1.out.m
   have ch:=cell_of_one HK1.out.h
   have fh:=free_of_one HK1.out.h
   have hlt:=HK1.out.lt
   have hlt0:=HK.out.lt
   clear hb1
   go_wp2_with fail
   go_ret
   exact⟨rfl,(zBU.of_below HB1.out (by omega)).store (.inr (by omega)) _ _,by simpa [World.setCell]using HB1.out.size,HK1.out.setH true⟩
  ·by_cases h2:(most - d) / 10<v
   ·rw[if_pos (.inr h2)]
    have h1': ¬(most:Int)<(d:Int):=by omega
    have h2':((most:Int) - (d:Int)) / 10<(v:Int):=by omega
    clear h2
    go_enter Tryz.func215,Tryz.ntmps215
    go_wp2_with fail
    refine HI.out.mono ?_;rintro e w1 ⟨rfl,hb1⟩
    have HK1:=zQr (HK.out.below hb1)
    have HB1:=zQr hb1
    have cm:=cell_of_one HK1.out.m
    have cn:=cell_of_one HK1.out.n
    have ch:=cell_of_one HK1.out.h
    have fh:=free_of_one HK1.out.h
    have hlt:=HK1.out.lt
    have hlt0:=HK.out.lt
    clear hb1
    go_wp2_with fail
    go_ret
    exact⟨rfl,(zBU.of_below HB1.out (by omega)).store (.inr (by omega)) _ _,by simpa [World.setCell]using HB1.out.size,HK1.out.setH true⟩
   ·rw[if_neg (by omega)]
    have h1': ¬(most:Int)<(d:Int):=by omega
    have h2': ¬((most:Int) - (d:Int)) / 10<(v:Int):=by omega
    have h3:10*v+d≤most:=by omega
    clear h2
    go_enter Tryz.func215,Tryz.ntmps215
    go_wp2_with fail
    refine HI.out.mono ?_;rintro e w1 ⟨rfl,hb1⟩
    have HK1:=zQr (HK.out.below hb1)
    have HB1:=zQr hb1
    have cm:=cell_of_one HK1.out.m
    have cn:=cell_of_one HK1.out.n
    have fn:=free_of_one HK1.out.n
    have hlt:=HK1.out.lt
    have hlt0:=HK.out.lt
    clear hb1
    go_wp2_with fail
    go_ret
    exact⟨rfl,(zBU.of_below HB1.out (by omega)).store (.inr (by omega)) _ _,by simpa [World.setCell]using HB1.out.size,HK1.out.setN h3 (by omega)⟩
 ·rw[if_neg hd,if_neg hd,zQ3 hd]
  have ht:zOa c= -1:=by rw[zOa,if_neg hd]
  rw[ht]at HI
  clear k hI hd ht
  go_enter Tryz.func215,Tryz.ntmps215
  go_wp2_with fail
  refine HI.out.mono ?_;rintro e w1 ⟨rfl,hb1⟩
  have HK1:=zQr (HK.out.below hb1)
  have HB1:=zQr hb1
  have hlt0:=HK.out.lt
  clear hb1
  go_wp2_with fail
  go_ret
  exact⟨rfl,zBU.of_below HB1.out (by omega),HB1.out.size,HK1.out⟩
end
end
section
open Go.RowKit
section
variable {w:World} {wb bm most v:Nat} {oa:Option Addr} {cap:Nat} {T:List Nat} {i:Nat} {h:Bool}
theorem zLF {j:Nat} (hj:j<T.length) (hd:48≤T.getD j 0∧T.getD j 0≤57):zEL T most (T.length - j) j v h=zEL T most (T.length - (j+1)) (j+1) (zKs most (T.getD j 0 - 48) v h).1 (zKs most (T.getD j 0 - 48) v h).2:=by
 rw[show T.length - j=(T.length - (j+1))+1 by omega,zEL,if_neg (by omega),if_pos hd]
 unfold zKs
 split<;>rfl
theorem zMN {j:Nat} (hj:j<T.length) (hd: ¬(48≤T.getD j 0∧T.getD j 0≤57)):zEL T most (T.length - j) j v h=(v,h,j):=by
 rw[show T.length - j=(T.length - (j+1))+1 by omega,zEL,if_neg (by omega),if_neg hd]
theorem zNo {j:Nat} (hj: ¬j<T.length):zEL T most (T.length - j) j v h=(v,h,j):=by
 rw[show T.length - j=0 by omega,zEL]
theorem WdS.nbut {w':World} {i:Nat} {bm:Nat} (hv:WdS w wb oa cap T i) (hb:zBU bm bm w w') (hwb:wb<bm) (ht:0<T.length→ ∀g,oa=some ⟨g,0,none⟩→g<bm):WdS w' wb oa cap T i:=
 hv.block (hb.block wb hwb (by omega)) (fun hp g hg _=>hb.block g (ht hp g hg) (by have:=ht hp g hg;omega)) hb.size
theorem zHj (hv:WdS w wb oa cap T i) (k:zHE w bm most v h) (hwb:wb<bm) (ht:0<T.length→ ∀g,oa=some ⟨g,0,none⟩→g<bm) (hI: ∀j,j<T.length→zPQ (T.getD j 0)):
  Calls Tryz.prog 95 #[.pointer (some ⟨wb,0,none⟩),.func (.func 33) #[.pointer (some ⟨wb,0,none⟩)] #[],
   .func (.func 215) #[] #[.pointer (some ⟨bm,0,none⟩),.pointer (some ⟨bm+1,0,none⟩),.pointer (some ⟨bm+1+1,0,none⟩)]] w fun e w'=>
   e= .returned (.int .i64 (((zEL T most (T.length - i) i v h).2.2 - i:Nat):Int))∧WdS w' wb oa cap T (zEL T most (T.length - i) i v h).2.2∧
    zHE w' bm most (zEL T most (T.length - i) i v h).1 (zEL T most (T.length - i) i v h).2.1∧zBU bm wb w w':=by
 have HV:=zQr hv
 have HK:=zQr k
 have HT:=zQr ht
 have HI:=zQr hI
 have HWB:=zQr hwb
 have hlen:=hv.len
 obtain⟨r,hr⟩: ∃r,zEL T most (T.length - i) i v h=r:=⟨_,rfl⟩
 have HR:=zQr hr
 rw[hr]
 clear hv k ht hI hwb hr
 go_enter Tryz.func95,Tryz.ntmps95
 go_wp2_with fail
 refine(zAz HV.out).mono ?_;rintro e w1 ⟨rfl,hb1⟩
 have HV1:=zQr (HV.out.below hb1)
 have HK1:=zQr (HK.out.below hb1)
 have HB1:=zQr ((zBU.refl bm wb w).below hb1 (by have:=HK.out.lt;omega))
 clear hb1
 go_wp2_with fail
 go_loopg [7,8,9] (T.length - i) (fun n nv bv okv wr=> ∃(j vv:Nat) (hh:Bool),nv= .int .i64 ((j - i:Nat):Int)∧bv= .int .u8 (T.getD j 0:Nat)∧okv= .bool (decide (j<T.length))∧n=T.length - j∧i≤j∧j≤T.length∧
  Hid (zEL T most (T.length - j) j vv hh=r)∧WdS wr wb oa cap T j∧zHE wr bm most vv hh∧zBU bm wb w wr)
 case atStart=>exact⟨i,v,h,by simp,rfl,rfl,rfl,zQt _,HV.out.at_,HR.out,HV1.out,HK1.out,HB1.out⟩
 case round=>
  obtain⟨j,vv,hh,rfl,rfl,rfl,hg,hij,hjl,hn,hv,hk,hb⟩:=hrel
  have HG:=zQr hg
  have HN:=zQr hn.out
  have HV2:=zQr hv
  have HK2:=zQr hk
  have HB2:=zQr hb
  clear hg hn hv hk hb HV1 HK1 HB1
  by_cases hlt:j<T.length
  ·rw[zQ2 hlt]
   have HLT:=zQr hlt
   obtain⟨b,hbe⟩: ∃b,T.getD j 0=b:=⟨_,rfl⟩
   have HBE:=zQr hbe
   have hb256:b<256:=by have:=HV2.out.u j;omega
   have HD:=zQr (zLb HK2.out hb256 (hbe▸HI.out j hlt))
   rw[hbe]
   clear hbe hlt
   by_cases hd:48≤b∧b≤57
   ·rw[if_pos hd,if_pos hd,zQ2 hd]at HD
    have HNN:=zQr (zLF (most:=most) (v:=vv) (h:=hh) HLT.out (HBE.out▸hd))
    clear hd
    go_wp2_with fail
    refine HD.out.mono ?_;rintro e w3 ⟨rfl,hb3,hs3,hk3⟩
    have hv3:=HV2.out.nbut hb3 HWB.out HT.out
    have HV3:=zQr hv3
    have HK3:=zQr hk3
    have HB3:=zQr (HB2.out.trans (show zBU bm wb wr w3 from⟨hb3.os,hb3.tape,hb3.output,hb3.size,fun q hq _=>hb3.block q hq (by omega)⟩))
    have c1:=hv3.c1
    have f1:=hv3.fz 1
    clear hb3 hs3 hk3 hv3
    go_wp2_with fail
    refine(zAz (HV3.out.setAt (j:=j+1) (by have:=HLT.out;omega) (by go_num))).mono ?_;rintro e w4 ⟨rfl,hb4⟩
    have HV4:=zQr ((HV3.out.setAt (j:=j+1) (x:=(j:Int)+1) (by have:=HLT.out;omega) (by go_num)).below hb4)
    have HK4:=zQr ((HK3.out.store HWB.out 1 (.int .i64 ((j:Int)+1))).below hb4)
    have HB4:=zQr ((HB3.out.store (.inl rfl) 1 (.int .i64 ((j:Int)+1))).below hb4 (by have:=HK3.out.lt;simp[World.setCell];omega))
    clear hb4 c1 f1
    go_wp2_with fail
    go_roundg (T.length - (j+1))
    case measure=>have:=HG.out;have:=HLT.out;omega
    case rel=>
     refine⟨j+1,_,_,by go_num,rfl,rfl,rfl,by omega,by have:=HLT.out;omega,?_,HV4.out,HK4.out,HB4.out⟩
     have:=HNN.out
     rw[HBE.out]at this
     rw[←this]
     exact HN.out
   ·rw[if_neg hd,if_neg hd,zQ3 hd]at HD
    have HNN:=zQr ((zMN (most:=most) (v:=vv) (h:=hh) HLT.out (HBE.out▸hd)).symm.trans HN.out)
    clear hd
    go_wp2_with fail
    refine HD.out.mono ?_;rintro e w3 ⟨rfl,hb3,hs3,hk3⟩
    have HV3:=zQr (HV2.out.nbut hb3 HWB.out HT.out)
    have HK3:=zQr hk3
    have HB3:=zQr (HB2.out.trans (show zBU bm wb wr w3 from⟨hb3.os,hb3.tape,hb3.output,hb3.size,fun q hq _=>hb3.block q hq (by omega)⟩))
    clear hb3 hs3 hk3
    go_wp2_with fail
    go_ret
    rw[←HNN.out]
    exact⟨rfl,HV3.out,HK3.out,HB3.out⟩
  ·rw[zQ3 hlt]
   have HLT:=zQr hlt
   clear hlt
   go_wp2_with fail
   go_ret
   have h:=HN.out
   rw[zNo HLT.out]at h
   rw[←h]
   exact⟨rfl,HV2.out,HK2.out,HB2.out⟩
def zQp (wb:Nat) (oa:Option Addr) (cap:Nat) (T:List Nat) (i:Nat) (o:Option (Nat × Nat)) (e:Ending) (w':World):Prop:=
 match o with
 |none=>e= .returned (.tuple #[.int .i64 0,.int .i64 71])∧WdS w' wb oa cap T i
 |some (v,j)=>e= .returned (.tuple #[.int .i64 (v:Nat),.int .i64 0])∧WdS w' wb oa cap T j
theorem zNn (w:World) (hm:most≤2147483647):zHE (((w.alloc (.cells #[.int .i64 (most:Nat)] 3)).alloc (.cells #[.int .i64 0] 3)).alloc (.cells #[.bool false] 4)) w.heap.size most 0 false:=by
 have s1:(w.alloc (.cells #[.int .i64 (most:Nat)] 3)).heap.size=w.heap.size+1:=by simp
 have s2:((w.alloc (.cells #[.int .i64 (most:Nat)] 3)).alloc (.cells #[.int .i64 0] 3)).heap.size=w.heap.size+1+1:=by simp
 exact⟨(zQ5 _ _ (by omega)).trans ((zQ5 _ _ (by omega)).trans (zQ4 _ _)),(zQ5 _ _ (by omega)).trans (by rw[←s1];exact zQ4 _ _),by rw[←s2];exact zQ4 _ _,Nat.zero_le _,hm⟩
theorem zPD {w:World} {p:Addr} {x:Value} (h:w.cell? p=some x) (o:Obj):(w.alloc o).cell? p=some x:=Lib.cell?_alloc_some _ h
theorem zF5 (hv:WdS w wb oa cap T i) (hm:most≤2147483647) (hI: ∀j,j<T.length→zPQ (T.getD j 0)):
  Calls Tryz.prog 184 #[.pointer (some ⟨wb,0,none⟩),.int .i64 (most:Nat)] w fun e w'=>
   zQp wb oa cap T i (zHg T most i) e w'∧zBU w.heap.size wb w w':=by
 have hmf: ∀(fn:Fn) (first cap:Array Value) (w:World),(Instr.makeFunc fn first cap).run Tryz.prog w= .ok (.func fn first cap) w:=fun _ _ _ _=>rfl
 have HV:=zQr hv
 have HI:=zQr hI
 have c1:=hv.c1
 have c2:=hv.c2
 have lt:=hv.lt
 have hlen:=hv.len
 have hat:=hv.at_
 have hmn: ¬(most:Int)<0:=by omega
 clear hI
 go_enter Tryz.func184,Tryz.ntmps184
 go_wp2_with fail
 refine(zA4 (zPD c2 _)).mono ?_;rintro e w1 ⟨rfl,rfl⟩
 go_wp2_with fail
 obtain⟨r,hr⟩: ∃r,zEL T most (T.length - i) i 0 false=r:=⟨_,rfl⟩
 have HR:=zQr hr
 have HW:=zQr (zHj ((hv.alloc _).alloc _ |>.alloc _) (zNn w hm) lt (fun hp g hg=>hv.tlt hp g hg) HI.out)
 rw[hr]at HW
 have hat':=zHY (T:=T) (most:=most) (T.length - i) i 0 false (Nat.zero_le _) (by omega)
 rw[hr]at hat'
 obtain⟨x,hh,j⟩:=r
 simp only at hat'
 clear hv hr c1 c2
 have HAT:=zQr hat'
 refine HW.out.mono ?_;rintro e w1 ⟨rfl,hv1,hk1,hb1⟩
 simp only at hv1 hk1
 have HV1:=zQr hv1
 have HB1:=zQr ((((zBU.refl w.heap.size wb w).alloc (zQt _) _).alloc (by simp) _ |>.alloc (by simp;omega) _).trans hb1)
 have cn:=cell_of_one hk1.n
 have ch:=cell_of_one hk1.h
 have c1:=hv1.c1
 have f1:=hv1.fz 1
 have hjl:=hv1.at_
 clear hv1 hk1 hb1 HW hat'
 have HN:Hid (zHg T most i=if j=i∨hh=true then none else some (x,j)):=zQr (by unfold zHg;rw[HR.out])
 dsimp only
 by_cases hj:j=i
 ·subst hj
  have e0:((j - j:Nat):Int)=0:=by omega
  rw[e0]
  go_wp2_with fail
  go_ret2
  rw[HN.out,if_pos (Or.inl (by simp))]
  exact⟨⟨rfl,HV1.out.setAt hjl rfl⟩,HB1.out.store (.inl rfl) _ _⟩
 ·obtain⟨d,hd⟩: ∃d,j - i=d:=⟨_,rfl⟩
  rw[hd]
  have hd0: ¬(d:Int)=0:=by have:=HAT.out.1;omega
  have HJ:=zQr hj
  clear hj hd
  cases hh with
  |true=>
   go_wp2_with fail
   go_ret2
   rw[HN.out,if_pos (Or.inr (by simp))]
   exact⟨⟨rfl,HV1.out.setAt hat rfl⟩,HB1.out.store (.inl rfl) _ _⟩
  |false=>
   go_wp2_with fail
   go_ret2
   rw[HN.out,if_neg (not_or.2 ⟨HJ.out,by decide⟩)]
   exact⟨⟨rfl,HV1.out⟩,HB1.out⟩
end
end
end Go.Proofs.YtmaagpbjahjmhaaGreatDoor
