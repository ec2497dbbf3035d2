/- Parts: Fg Fk. -/
import Derived.Test.YtmaagpbjahjmhaaGreatDoorQ6
import Derived.Shelf.Bytes.SlClone
set_option maxHeartbeats 1600000
set_option maxRecDepth 100000
namespace Go.Proofs.YtmaagpbjahjmhaaGreatDoor
section
open Go.RowKit Go.Shelf
def zQK:Go.Shelf.Ren:=⟨fun|4=>84|n=>n,fun|4=>4|22=>22|5=>5|n=>n,fun|n=>n⟩
theorem zKY:SlLaysK.n4 Tryz.prog zQK:= {
 mixed:=by kernel_rfl
 f4:=Tryz.func84.trans (congrArg some (by kernel_rfl))
 t4:=Tryz.underlying4
 a4:=Tryz.isAgg4
 z4:=Tryz.sizeOf4
 v4:=Tryz.zeroValue4
 t22:=Tryz.underlying22
 a22:=Tryz.isAgg22
 z22:=Tryz.sizeOf22
 v22:=Tryz.zeroValue22
 t5:=Tryz.underlying5
 i5:=by kernel_rfl }
def zD2 (w:World) (oa:Option Addr) (T:List Nat):Prop:=0<T.length→ ∃g o,oa=some ⟨g,o,none⟩∧ ∀j,j<T.length→w.cell? ⟨g,o+j,none⟩=some (.int .u8 (T.getD j 0:Nat))
theorem zCC (g o i:Nat):(⟨g,o,none⟩:Addr).add i=⟨g,o+i,none⟩:=by unfold Addr.add;split<;>simp_all
theorem zLd {w:World} {oa:Option Addr} {cap:Nat} {T:List Nat} (h:zD2 w oa T) (hl:T.length≤4294967296) (hs: ∀g o s,oa≠some ⟨g,o,some s⟩):
  Calls Tryz.prog 84 #[.slice oa T.length cap] w fun e w'=> ∃v,e= .returned v∧w'.ownsRow w.heap.size 5 1 v T.length (u8s T)∧Below w.heap.size w w':=by
 cases oa with
 |none=>
  have h0:T=[]:=by
   rcases T with _|⟨x,l⟩
   ·rfl
   ·obtain⟨g,o,h1,_⟩:=h (by simp)
    cases h1
  subst h0
  refine(Any.bytes_Clone_nil zKY _ _ w).mono ?_
  rintro e w' ⟨rfl,rfl⟩
  exact⟨_,rfl,zQ7 _ _ _ _,zQs _ _⟩
 |some a=>
  refine(Any.bytes_Clone_at zKY a T.length cap (T.map fun b:Nat=>(b:Int)) w (by simp) (by omega) ?_).mono ?_
  ·intro i hi
   obtain⟨g,o,h1,h2⟩:=h (by omega)
   injection h1 with h1
   subst h1
   rw[zCC,h2 i hi]
   simp[List.getD_eq_getElem?_getD,hi]
  ·rintro e w' ⟨v,rfl,h1,_,h3⟩
   have h1':w'.ownsRow w.heap.size 5 1 v T.length ((T.map fun b:Nat=>(b:Int)).map (Value.int .u8)):=h1
   rw[List.map_map]at h1'
   exact⟨v,rfl,h1',h3⟩
theorem WdS.new {w w1:World} {v:Value} {T:List Nat} (h:w1.ownsRow w.heap.size 5 1 v T.length (u8s T)) (hl:T.length≤4294967296) (hu: ∀j,T.getD j 0<256):
  ∃oa cap,v= .slice oa T.length cap∧WdS (w1.alloc (.cells #[v,.int .i64 0,.bool true] 123)) w1.heap.size oa cap T 0:=by
 have hB:(w1.alloc (.cells #[v,.int .i64 0,.bool true] 123)).heap[w1.heap.size]?=some (.cells #[v,.int .i64 0,.bool true] 123 (0,0)):=zQ4 w1 _
 have k0: ∀v',v=v'→(w1.alloc (.cells #[v,.int .i64 0,.bool true] 123)).cell? ⟨w1.heap.size,0,none⟩=some v':=fun v' e=>by subst e;exact(zQ6 _ _ 0 _ _ (0,0) hB).trans rfl
 have k1:(w1.alloc (.cells #[v,.int .i64 0,.bool true] 123)).cell? ⟨w1.heap.size,1,none⟩=some (.int .i64 0):=(zQ6 _ _ 1 _ _ (0,0) hB).trans rfl
 have k2:(w1.alloc (.cells #[v,.int .i64 0,.bool true] 123)).cell? ⟨w1.heap.size,2,none⟩=some (.bool true):=(zQ6 _ _ 2 _ _ (0,0) hB).trans rfl
 have kf: ∀o,(w1.alloc (.cells #[v,.int .i64 0,.bool true] 123)).frozen? ⟨w1.heap.size,o,none⟩=false:=fun o=>zAF hB o
 have h0:=h
 rcases h.2 with ⟨rfl,hn⟩|⟨g,cap,cur,rfl,hb,hg,hnc,hcm,_⟩
 ·refine⟨none,0,by rw[hn],⟨by simp,k0 _ (by rw[hn]),k1,k2,kf,fun hp=>by omega,Nat.zero_le _,hl,hu,by omega,Nat.zero_le _⟩⟩
 ·have hlt:g<w1.heap.size:=(zQz.1 hg).1
  refine⟨_,cap,rfl,⟨by simp,k0 _ rfl,k1,k2,kf,fun _=>⟨g,rfl,by omega,by simp;omega,fun j hj=>?_⟩,Nat.zero_le _,hl,hu,hnc,hcm⟩⟩
  refine(zQv (w:=w1) (a:=⟨g,j,none⟩) (zQ5 _ _ (by omega))).trans ?_
  have hadd:(⟨g,0,none⟩:Addr).add j=⟨g,j,none⟩:=by rw[zCC,Nat.zero_add]
  rw[←hadd]
  refine h0.cells (g:=g) rfl j _ ?_
  simp[u8s,hj,List.getD_eq_getElem?_getD]
section
variable {w:World} {wb:Nat} {oa:Option Addr} {cap:Nat} {T:List Nat} {i:Nat}
theorem zLo (h:zD2 w oa T) (hl:T.length≤4294967296) (hs: ∀g o s,oa≠some ⟨g,o,some s⟩) (hu: ∀j,T.getD j 0<256):
  Calls Tryz.prog 28 #[.slice oa T.length cap] w fun e w'=> ∃wb ob cb,e= .returned (.pointer (some ⟨wb,0,none⟩))∧w.heap.size≤wb∧WdS w' wb ob cb T 0∧Below w.heap.size w w':=by
 have HC:=zQr (zLd (cap:=cap) h hl hs)
 clear h hs
 go_enter Tryz.func28,Tryz.ntmps28
 go_wp2_with fail
 refine HC.out.mono ?_;rintro e w1 ⟨v,rfl,h1,hb1⟩
 obtain⟨ob,cb,rfl,hws⟩:=WdS.new h1 hl hu
 have HW:=zQr hws
 have HB:=zQr hb1
 have HS:=zQr hb1.size
 clear hws hb1 h1 HC
 go_wp2_with fail
 go_ret
 exact⟨_,ob,cb,rfl,HS.out,HW.out,HB.out.alloc HS.out _⟩
theorem zA4 (h:w.cell? ⟨wb,2,none⟩=some (.bool true)):
  Calls Tryz.prog 94 #[.pointer (some ⟨wb,0,none⟩)] w fun e w'=>e= .returned (.bool false)∧w=w':=by
 go_enter Tryz.func94,Tryz.ntmps94
 go_wp2_with fail
 go_ret
 exact⟨rfl,rfl⟩
theorem zFX (h:WdS w wb oa cap T i):
  Calls Tryz.prog 100 #[.pointer (some ⟨wb,0,none⟩)] w fun e w'=>e= .returned (.int .i64 (i:Nat))∧w=w':=by
 have c1:=h.c1
 have c2:=h.c2
 clear h
 go_enter Tryz.func100,Tryz.ntmps100
 go_wp2_with fail
 refine(zA4 c2).mono ?_;rintro e w1 ⟨rfl,rfl⟩
 go_wp2_with fail
 go_ret
 exact⟨rfl,rfl⟩
theorem zAz (h:WdS w wb oa cap T i):
  Calls Tryz.prog 33 #[.pointer (some ⟨wb,0,none⟩)] w fun e w'=>e= .returned (.tuple #[.int .u8 (T.getD i 0:Nat),.bool (decide (i<T.length))])∧Below w.heap.size w w':=by
 have c0:=h.c0
 have c1:=h.c1
 have c2:=h.c2
 have lt:=h.lt
 have hat:=h.at_
 by_cases hi:i=T.length
 ·have HT:Hid (T.getD T.length 0=0):=zQr (by simp[List.getD_eq_getElem?_getD])
  rw[hi]at c1 ⊢
  clear h hat hi
  go_enter Tryz.func33,Tryz.ntmps33
  go_upto_region 1 with fail
  refine zAA (X:=none) 14 [([0],1)] [2,3,4,5,6,7,8,9,10,11,12,13] (by kernel_rfl) (by kernel_rfl) rfl (fun _ _ _ _ _ h=>h) ?_
  simp only[zAK,zAC,zAE,zAD,zAB,List.getD_cons_zero,List.getD_cons_succ,List.drop_succ_cons,List.drop_nil]
  repeat (go_big_quiet_step (fail))
  refine wpQuiet_nil ?_
  go_wp2_with fail
  refine(zA4 (w:=w.drew) c2).mono ?_;rintro e w1 ⟨rfl,rfl⟩
  go_wp2_with fail
  refine⟨zAJ.refl _,?_⟩
  repeat (go_big_quiet_step (fail))
  refine wpQuiet_nil ?_
  go_wp2_with fail
  go_ret2
  exact⟨by rw[HT.out,zQ3 (Nat.lt_irrefl _)];rfl,(zQs _ _).drew⟩
 ·have hlt:i<T.length:=by omega
  obtain⟨g,rfl,hgw,hgl,hc⟩:=h.tx (by omega)
  have hx:=hc i hlt
  have hne: ¬(i:Int)=(T.length:Int):=by omega
  have hlt':(i:Int)<(T.length:Int):=by omega
  have HD:Hid (decide (i<T.length)=true):=zQr (zQ2 hlt)
  have hlen:=h.len
  obtain⟨b,hbe⟩: ∃b,T.getD i 0=b:=⟨_,rfl⟩
  rw[hbe]at hx ⊢
  clear h hc hi hat hbe
  go_enter Tryz.func33,Tryz.ntmps33
  go_upto_region 1 with fail
  refine zAA (X:=none) 14 [([0],1)] [2,3,4,5,6,7,8,9,10,11,12,13] (by kernel_rfl) (by kernel_rfl) rfl (fun _ _ _ _ _ h=>h) ?_
  simp only[zAK,zAC,zAE,zAD,zAB,List.getD_cons_zero,List.getD_cons_succ,List.drop_succ_cons,List.drop_nil]
  repeat (go_big_quiet_step (fail))
  refine wpQuiet_nil ?_
  go_wp2_with fail
  refine(zA4 (w:=w.drew) c2).mono ?_;rintro e w1 ⟨rfl,rfl⟩
  go_wp2_with fail
  refine⟨zAJ.refl _,?_⟩
  repeat (go_big_quiet_step (fail))
  refine wpQuiet_nil ?_
  go_wp2_with fail
  refine zAA (X:=none) 12 [] [0,1,2,3,4,5,6,7,8,9,10,11] (by kernel_rfl) (by kernel_rfl) rfl (fun _ _ _ _ _ h=>h) ?_
  simp only[zAK,zAC,zAD,zAB,List.getD_cons_zero,List.getD_cons_succ,List.drop_succ_cons,List.drop_nil]
  repeat (go_big_quiet_step (fail))
  refine wpQuiet_nil ?_
  go_wp2_with fail
  go_ret2
  exact⟨by rw[HD.out];rfl,(zQs _ _).drew.drew⟩
theorem zB5 (h:WdS w wb oa cap T i):
  Calls Tryz.prog 102 #[.pointer (some ⟨wb,0,none⟩)] w fun e w'=>e= .returned (.tuple #[.int .u8 (T.getD i 0:Nat),.bool (decide (i<T.length))])∧WdS w' wb oa cap T (if i<T.length then i+1 else i)∧zBU w.heap.size wb w w':=by
 have HP:=zQr (zAz h)
 have HH:=zQr h
 by_cases hlt:i<T.length
 ·rw[if_pos hlt]
  rw[zQ2 hlt]at HP ⊢
  have HL:=zQr hlt
  have hle:i≤4294967296:=by have:=h.len;omega
  clear h hlt
  go_enter Tryz.func102,Tryz.ntmps102
  go_wp2_with fail
  refine HP.out.mono ?_;rintro e w1 ⟨rfl,hb1⟩
  have HW:=zQr (HH.out.below hb1)
  have HB:=zQr hb1
  have c1:=HW.out.c1
  have f1:=HW.out.fz 1
  clear hb1
  go_wp2_with fail
  go_ret2
  exact⟨rfl,HW.out.setAt (by have:=HL.out;omega) (by go_num),(zBU.of_below HB.out (zQt _)).store (.inl rfl) _ _⟩
 ·rw[if_neg hlt]
  rw[zQ3 hlt]at HP ⊢
  clear h hlt
  go_enter Tryz.func102,Tryz.ntmps102
  go_wp2_with fail
  refine HP.out.mono ?_;rintro e w1 ⟨rfl,hb1⟩
  have HW:=zQr (HH.out.below hb1)
  have HB:=zQr hb1
  clear hb1
  go_wp2_with fail
  go_ret2
  exact⟨rfl,HW.out,zBU.of_below HB.out (zQt _)⟩
end
end
section
open Go.RowKit
section
variable {w:World} {wb:Nat} {oa:Option Addr} {cap:Nat} {T:List Nat}
theorem zLr (hv:WdS w wb oa cap T T.length) (fv:Value):
  Calls Tryz.prog 95 #[.pointer (some ⟨wb,0,none⟩),.func (.func 33) #[.pointer (some ⟨wb,0,none⟩)] #[],fv] w fun e w'=>e= .returned (.int .i64 0)∧Below w.heap.size w w':=by
 have HP:=zQr (zAz hv)
 rw[zQ3 (Nat.lt_irrefl _)]at HP
 obtain⟨b,hb⟩: ∃b,T.getD T.length 0=b:=⟨_,rfl⟩
 rw[hb]at HP
 clear hv hb
 go_enter Tryz.func95,Tryz.ntmps95
 go_wp2_with fail
 refine HP.out.mono ?_;rintro e w1 ⟨rfl,hb1⟩
 have HB:=zQr hb1
 clear hb1
 go_wp2_with fail
 go_loopg [7,8,9] 0 (fun n nv bv okv wr=>n=0∧nv= .int .i64 0∧bv= .int .u8 (b:Nat)∧okv= .bool false∧wr=w1)
 case atStart=>exact⟨rfl,rfl,rfl,rfl,rfl⟩
 case round=>
  obtain⟨_,rfl,rfl,rfl,rfl⟩:=hrel
  go_wp2_with fail
  go_ret
  exact⟨rfl,HB.out⟩
theorem zNZ (hv:WdS w wb oa cap T T.length) (s:ByteArray):
  Calls Tryz.prog 32 #[.pointer (some ⟨wb,0,none⟩),.string s] w fun e w'=>e= .returned (.int .i64 0)∧Below w.heap.size w w':=by
 have hmf: ∀(fn:Fn) (first cap:Array Value) (w:World),(Instr.makeFunc fn first cap).run Tryz.prog w= .ok (.func fn first cap) w:=fun _ _ _ _=>rfl
 have HV:=zQr (hv.alloc (.cells #[.string s] 9))
 have c2:=HV.out.c2
 clear hv
 go_enter Tryz.func32,Tryz.ntmps32
 go_wp2_with fail
 refine(zA4 c2).mono ?_;rintro e w1 ⟨rfl,rfl⟩
 go_wp2_with fail
 refine(zLr HV.out _).mono ?_;rintro e w1 ⟨rfl,hb1⟩
 have HB:=zQr (((zQs w.heap.size w).alloc (zQt _) _).trans (hb1.mono (by simp)))
 clear hb1
 go_wp2_with fail
 go_ret
 exact⟨rfl,HB.out⟩
theorem zNP (hv:WdS w wb oa cap T T.length):
  Calls Tryz.prog 148 #[.pointer (some ⟨wb,0,none⟩)] w fun e w'=>e= .returned (.int .i64 0)∧Below w.heap.size w w':=by
 have c2:=hv.c2
 have HV:=zQr hv
 obtain⟨b,hb⟩: ∃b,T.getD T.length 0=b:=⟨_,rfl⟩
 have HBB:=zQr hb
 clear hv hb
 go_enter Tryz.func148,Tryz.ntmps148
 go_wp2_with fail
 refine(zA4 c2).mono ?_;rintro e w1 ⟨rfl,rfl⟩
 go_wp2_with fail
 refine(zNZ HV.out _).mono ?_;rintro e w1 ⟨rfl,hb1⟩
 have HB:=zQr hb1
 have HP:=zQr (zAz (HV.out.below hb1))
 rw[zQ3 (Nat.lt_irrefl _),HBB.out]at HP
 clear hb1
 go_wp2_with fail
 refine HP.out.mono ?_;rintro e w2 ⟨rfl,hb2⟩
 have HB2:=zQr (HB.out.trans (hb2.mono HB.out.size))
 clear hb2
 go_wp2_with fail
 go_ret
 exact⟨rfl,HB2.out⟩
end
end
end Go.Proofs.YtmaagpbjahjmhaaGreatDoor
