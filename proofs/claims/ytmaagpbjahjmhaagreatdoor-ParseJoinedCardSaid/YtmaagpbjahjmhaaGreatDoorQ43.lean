/- Parts: Yo. -/
import Derived.Test.YtmaagpbjahjmhaaGreatDoorQ42
import Derived.Test.YtmaagpbjahjmhaaGreatDoorQ38
import Derived.Test.YtmaagpbjahjmhaaGreatDoorQ37
namespace Go.Proofs.YtmaagpbjahjmhaaGreatDoor
open Go.RowKit
theorem zMM (T:List Nat):zCz T 0=(T.takeWhile zAc).length:=by
 have h:=zGU zAc T T.length 0 (by omega)
 rw[List.drop_zero]at h
 have h1:=congrArg List.length h
 rw[List.length_drop]at h1
 have h2:=zBn zAc (Nat.zero_le T.length)
 have h3:(T.takeWhile zAc).length+(T.dropWhile zAc).length=T.length:=by rw[←zQ4,List.takeWhile_append_dropWhile]
 unfold zCz
 omega
theorem zIs: ∀T:List Nat,(∀b∈T,b<256)→Lib.index (Lib.bytesOf (T.map fun b:Nat=>(b:Int))) [10]=if (T.takeWhile zAc).length<T.length then((T.takeWhile zAc).length:Int)else -1
 |[],_=>rfl
 |x::T,h=>by
  have ih:=zIs T fun b hb=>h b (by simp[hb])
  have hx:=h x (by simp)
  rw[show Lib.bytesOf ((x::T).map fun b:Nat=>(b:Int))=UInt8.ofNat x::Lib.bytesOf (T.map fun b:Nat=>(b:Int))from by simp[Lib.bytesOf]]
  unfold Lib.index
  by_cases h1:x=10
  ·subst h1
   rfl
  ·have hne:(10==UInt8.ofNat x)=false:=zQq.2 fun e=>by
    have h1':=congrArg UInt8.toNat e
    simp only[UInt8.toNat_ofNat']at h1'
    have:(10:UInt8).toNat=10:=rfl
    omega
   have hp:([10]:List UInt8).isPrefixOf (UInt8.ofNat x::Lib.bytesOf (T.map fun b:Nat=>(b:Int)))=false:=by simp[List.isPrefixOf,hne]
   rw[hp,ih,List.takeWhile_cons_of_pos (by simp[zAc,h1])]
   simp only[Bool.false_eq_true,if_false,List.length_cons]
   by_cases h2:(T.takeWhile zAc).length<T.length
   ·have e:(((T.takeWhile zAc).length:Int)== -1)=false:=zQq.2 (by omega)
    simp only[if_pos h2,e,Bool.false_eq_true,if_false,if_pos (show(T.takeWhile zAc).length+1<T.length+1 by omega)]
    omega
   ·simp only[if_neg h2,if_neg (show¬(T.takeWhile zAc).length+1<T.length+1 by omega)]
    rfl
section
variable {w:World} {oa:Option Addr} {T:List Nat} {cap:Nat}
theorem zOT {sb:Nat} (h:zDa w oa T) (hu: ∀b∈T,b<256) (hcap:T.length≤cap) (hnil:oa=none→cap=0) (hl:T.length≤65536) (hs:w.cell? ⟨sb,0,none⟩=some (.int .u8 10)) (U:U8V w):
  Calls Tryz.prog 36 #[.slice oa T.length cap,.slice (some ⟨sb,0,none⟩) 1 1] w fun e w'=>(∃v b,e= .returned (.tuple #[.slice oa (zCz T 0) cap,v,.bool b]))∧ ∃q,w'=w.drewN q:=by
 obtain⟨m,hm⟩:=U.m
 refine(Any.bytes_Cut_all zQg oa (some ⟨sb,0,none⟩) T.length cap 1 1 (T.map fun b:Nat=>(b:Int)) [10] m w (by simp) rfl ?_ ?_ ?_ ?_ hnil hcap (by omega) (by decide) hm).mono ?_
 ·intro x hx
  obtain⟨b,hb,rfl⟩:=List.mem_map.1 hx
  have:=hu b hb
  omega
 ·intro y hy
  simp at hy
  omega
 ·intro hp
  obtain⟨g,o,rfl,hc⟩:=h hp
  exact⟨g,o,rfl,fun i hi=>by rw[hc i hi];simp[List.getD_eq_getElem?_getD,hi]⟩
 ·intro _
  exact⟨sb,0,rfl,fun i hi=>by rw[show i=0 by omega,Nat.add_zero,hs];rfl⟩
 ·rintro e w' ⟨rfl,hw⟩
  refine⟨?_,hw⟩
  have hix:=zIs T hu
  rw[show Lib.bytesOf [10]=[10]from rfl,hix,zMM]
  unfold Lib.cutV
  by_cases h2:(T.takeWhile zAc).length<T.length
  ·rw[if_pos h2,if_pos (by omega)]
   exact⟨_,_,rfl⟩
  ·rw[if_neg h2,if_neg (by decide)]
   have h3:(T.takeWhile zAc).length≤T.length:=(List.takeWhile_prefix _).length_le
   rw[show(T.takeWhile zAc).length=T.length by omega]
   exact⟨_,_,rfl⟩
theorem zPa (h:zDa w oa T) {m:Nat} (hm:m≤T.length) (hnil:oa=none→cap=0) (hs: ∀g o s,oa≠some ⟨g,o,some s⟩):(convert 22 9 (.slice oa m cap)).run Tryz.prog w= .ok (.string (strOfNums ((T.take m).map fun b:Nat=>(b:Int)))) w:=by
 cases oa with
 |none=>
  have h0:T.length=0:=by
   by_cases hp:0<T.length
   ·obtain⟨g,o,h1,_⟩:=h hp
    cases h1
   ·omega
  obtain rfl:m=0:=by omega
  rw[hnil rfl,List.take_zero]
  exact run_convert_bytes_nil w _ _ Tryz.underlying22 Tryz.underlying5 _ _ _ Tryz.underlying9
 |some a=>
  obtain⟨g,o,sp⟩:=a
  obtain rfl:sp=none:=by
   cases sp with
   |none=>rfl
   |some x=>exact absurd rfl (hs g o x)
  refine run_convert_bytes_arg w _ _ Tryz.underlying22 Tryz.underlying5 g o m cap _ (by simp;omega) (fun i hi=>?_) _ Tryz.underlying9
  obtain⟨g2,o2,h1,hc⟩:=h (by omega)
  cases h1
  rw[hc i (by omega)]
  simp[List.getD_eq_getElem?_getD,hi,List.getElem?_eq_getElem (show i<T.length by omega)]
theorem zNx {l:List Nat} (h: ∀b∈l,b<256):((strOfNums (l.map fun b:Nat=>(b:Int))).toList==(⟨#[35,110]⟩:ByteArray).toList)=(l==[35,110]):=by
 rw[Lib.toList_data,Lib.toList_data,strOfNums_data,Bool.eq_iff_iff,beq_iff_eq,beq_iff_eq]
 constructor
 ·intro e
  have hl:=congrArg List.length e
  simp at hl
  obtain⟨a,b,rfl⟩: ∃a b,l=[a,b]:=by
   match l,hl with
   |[a,b],_=>exact⟨a,b,rfl⟩
  have ha:=h a (by simp)
  have hb:=h b (by simp)
  simp only[List.map_cons,List.map_nil,Int.toNat_natCast,List.cons.injEq,and_true]at e
  have e1:=congrArg UInt8.toNat e.1
  have e2:=congrArg UInt8.toNat e.2
  simp only[UInt8.toNat_ofNat']at e1 e2
  have f1:(35:UInt8).toNat=35:=rfl
  have f2:(110:UInt8).toNat=110:=rfl
  rw[f1]at e1
  rw[f2]at e2
  rw[show a=35 by omega,show b=110 by omega]
 ·rintro rfl
  rfl
end
end Go.Proofs.YtmaagpbjahjmhaaGreatDoor
