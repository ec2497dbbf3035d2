/- Parts: Vh Vi. -/
import Derived.Test.YtmaagpbjahjmhaaGreatDoorQ7
import Derived.Test.YtmaagpbjahjmhaaGreatDoorQ13
set_option maxHeartbeats 1600000
set_option maxRecDepth 100000
namespace Go.Proofs.YtmaagpbjahjmhaaGreatDoor
section
open Go.RowKit
structure SkS (w:World) (sb:Nat) (v:Value):Prop where
 lt:sb<w.heap.size
 c:w.cell? ⟨sb,0,none⟩=some v
section
variable {w w':World} {wb sb:Nat} {oa:Option Addr} {cap:Nat} {T:List Nat} {i:Nat} {v:Value}
theorem SkS.below (h:SkS w sb v) (hb:Below w.heap.size w w'):SkS w' sb v:=⟨zQu h.lt hb.size,(hb.cell (p:=⟨sb,0,none⟩) h.lt).trans h.c⟩
theorem SkS.store (h:SkS w sb v) (hb:wb<sb) (o:Nat) (u:Value):SkS (w.setCell ⟨wb,o,none⟩ u) sb v:=
 ⟨by simpa [World.setCell]using h.lt,(zQv (w:=w) (a:=⟨sb,0,none⟩) (zQ1 _ _ _ _ (by show sb≠wb;omega))).trans h.c⟩
theorem SkS.new (w:World) (v:Value):SkS (w.alloc (.cells #[v] 9)) w.heap.size v:=⟨by simp,(zQ6 _ _ 0 _ _ (0,0) (zQ4 w _)).trans rfl⟩
theorem zI6 (hv:WdS w wb oa cap T i) (k:SkS w sb (.string ⟨#[32,9]⟩)) (hwb:wb<sb) (ht:0<T.length→ ∀g,oa=some ⟨g,0,none⟩→g<sb):
  Calls Tryz.prog 95 #[.pointer (some ⟨wb,0,none⟩),.func (.func 33) #[.pointer (some ⟨wb,0,none⟩)] #[],.func (.func 96) #[] #[.pointer (some ⟨sb,0,none⟩)]] w fun e w'=>
   e= .returned (.int .i64 ((zAk zAL T i - i:Nat):Int))∧WdS w' wb oa cap T (zAk zAL T i)∧zBU sb wb w w':=by
 have HV:=zQr hv
 have HK:=zQr k
 have HT:=zQr ht
 have HWB:=zQr hwb
 have hlen:=hv.len
 obtain⟨r,hr⟩: ∃r,zAk zAL T i=r:=⟨_,rfl⟩
 have HR:=zQr hr
 rw[hr]
 clear hv k ht hwb hr
 go_enter Tryz.func95,Tryz.ntmps95
 go_wp2_with fail
 refine(zAz HV.out).mono ?_;rintro e w1 ⟨rfl,hb1⟩
 have HV1:=zQr (HV.out.below hb1)
 have HK1:=zQr (HK.out.below hb1)
 have HB1:=zQr ((zBU.refl sb wb w).below hb1 (by have:=HK.out.lt;omega))
 clear hb1
 go_wp2_with fail
 go_loopg [7,8,9] (T.length - i) (fun n nv bv okv wr=> ∃j:Nat,nv= .int .i64 ((j - i:Nat):Int)∧bv= .int .u8 (T.getD j 0:Nat)∧okv= .bool (decide (j<T.length))∧n=T.length - j∧i≤j∧j≤T.length∧
  Hid (zAk zAL T j=r)∧WdS wr wb oa cap T j∧SkS wr sb (.string ⟨#[32,9]⟩)∧zBU sb wb w wr)
 case atStart=>exact⟨i,by simp,rfl,rfl,rfl,zQt _,HV.out.at_,HR,HV1.out,HK1.out,HB1.out⟩
 case round=>
  obtain⟨j,rfl,rfl,rfl,hg,hij,hjl,HN,hv,hk,hb⟩:=hrel
  have HG:=zQr hg
  have HV2:=zQr hv
  have HK2:=zQr hk
  have HB2:=zQr hb
  clear hg hv hk hb HV1 HK1 HB1
  have hst:=zA0 zAL T j
  by_cases hlt:j<T.length
  ·rw[zQ2 hlt]
   have HLT:=zQr hlt
   obtain⟨b,hbe⟩: ∃b,T.getD j 0=b:=⟨_,rfl⟩
   have hb256:b<256:=by have:=HV2.out.u j;omega
   have HD:=zQr (zKn HK2.out.c hb256)
   rw[hbe]at hst ⊢
   clear hbe
   by_cases hd:zAL b=true
   ·rw[hd]at HD
    rw[if_pos ⟨hlt,hd⟩]at hst
    have HN2:Hid (zAk zAL T (j+1)=r):=zQr (hst.symm.trans HN.out)
    clear hd hlt hst
    go_wp2_with fail
    refine HD.out.mono ?_;rintro e w3 ⟨rfl,hb3⟩
    have hv3:=HV2.out.below hb3
    have HV3:=zQr hv3
    have HK3:=zQr (HK2.out.below hb3)
    have HB3:=zQr (HB2.out.below hb3 (Nat.le_of_lt HK2.out.lt))
    have c1:=hv3.c1
    have f1:=hv3.fz 1
    clear hb3 hv3
    go_wp2_with fail
    refine(zAz (HV3.out.setAt (j:=j+1) (by have:=HLT.out;omega) (by go_num))).mono ?_;rintro e w4 ⟨rfl,hb4⟩
    have HV4:=zQr ((HV3.out.setAt (j:=j+1) (x:=(j:Int)+1) (by have:=HLT.out;omega) (by go_num)).below hb4)
    have HK4:=zQr ((HK3.out.store HWB.out 1 (.int .i64 ((j:Int)+1))).below hb4)
    have HB4:=zQr ((HB3.out.store (.inl rfl) 1 (.int .i64 ((j:Int)+1))).below hb4 (by have:=HK3.out.lt;simp[World.setCell];omega))
    clear hb4 c1 f1
    go_wp2_with fail
    go_roundg (T.length - (j+1))
    case measure=>have:=HG.out;have:=HLT.out;omega
    case rel=>exact⟨j+1,by go_num,rfl,rfl,rfl,by omega,by have:=HLT.out;omega,HN2,HV4.out,HK4.out,HB4.out⟩
   ·have hd':zAL b=false:=by simpa using hd
    rw[hd']at HD
    rw[if_neg (fun h=>hd h.2)]at hst
    have HN2:Hid (j=r):=zQr (hst.symm.trans HN.out)
    clear hd hd' hlt hst
    go_wp2_with fail
    refine HD.out.mono ?_;rintro e w3 ⟨rfl,hb3⟩
    have HV3:=zQr (HV2.out.below hb3)
    have HB3:=zQr (HB2.out.below hb3 (Nat.le_of_lt HK2.out.lt))
    clear hb3
    go_wp2_with fail
    go_ret
    rw[←HN2.out]
    exact⟨rfl,HV3.out,HB3.out⟩
  ·rw[zQ3 hlt]
   rw[if_neg (fun h=>hlt h.1)]at hst
   have HN2:Hid (j=r):=zQr (hst.symm.trans HN.out)
   clear hlt hst
   go_wp2_with fail
   go_ret
   rw[←HN2.out]
   exact⟨rfl,HV2.out,HB2.out⟩
theorem zLq (hv:WdS w wb oa cap T i) (k:SkS w sb (.string ⟨#[32,9,59,10]⟩)) (hwb:wb<sb) (ht:0<T.length→ ∀g,oa=some ⟨g,0,none⟩→g<sb):
  Calls Tryz.prog 95 #[.pointer (some ⟨wb,0,none⟩),.func (.func 33) #[.pointer (some ⟨wb,0,none⟩)] #[],.func (.func 96) #[] #[.pointer (some ⟨sb,0,none⟩)]] w fun e w'=>
   e= .returned (.int .i64 ((zAk zCD T i - i:Nat):Int))∧WdS w' wb oa cap T (zAk zCD T i)∧zBU sb wb w w':=by
 have HV:=zQr hv
 have HK:=zQr k
 have HT:=zQr ht
 have HWB:=zQr hwb
 have hlen:=hv.len
 obtain⟨r,hr⟩: ∃r,zAk zCD T i=r:=⟨_,rfl⟩
 have HR:=zQr hr
 rw[hr]
 clear hv k ht hwb hr
 go_enter Tryz.func95,Tryz.ntmps95
 go_wp2_with fail
 refine(zAz HV.out).mono ?_;rintro e w1 ⟨rfl,hb1⟩
 have HV1:=zQr (HV.out.below hb1)
 have HK1:=zQr (HK.out.below hb1)
 have HB1:=zQr ((zBU.refl sb wb w).below hb1 (by have:=HK.out.lt;omega))
 clear hb1
 go_wp2_with fail
 go_loopg [7,8,9] (T.length - i) (fun n nv bv okv wr=> ∃j:Nat,nv= .int .i64 ((j - i:Nat):Int)∧bv= .int .u8 (T.getD j 0:Nat)∧okv= .bool (decide (j<T.length))∧n=T.length - j∧i≤j∧j≤T.length∧
  Hid (zAk zCD T j=r)∧WdS wr wb oa cap T j∧SkS wr sb (.string ⟨#[32,9,59,10]⟩)∧zBU sb wb w wr)
 case atStart=>exact⟨i,by simp,rfl,rfl,rfl,zQt _,HV.out.at_,HR,HV1.out,HK1.out,HB1.out⟩
 case round=>
  obtain⟨j,rfl,rfl,rfl,hg,hij,hjl,HN,hv,hk,hb⟩:=hrel
  have HG:=zQr hg
  have HV2:=zQr hv
  have HK2:=zQr hk
  have HB2:=zQr hb
  clear hg hv hk hb HV1 HK1 HB1
  have hst:=zA0 zCD T j
  by_cases hlt:j<T.length
  ·rw[zQ2 hlt]
   have HLT:=zQr hlt
   obtain⟨b,hbe⟩: ∃b,T.getD j 0=b:=⟨_,rfl⟩
   have hb256:b<256:=by have:=HV2.out.u j;omega
   have HD:=zQr (zNR HK2.out.c hb256)
   rw[hbe]at hst ⊢
   clear hbe
   by_cases hd:zCD b=true
   ·rw[hd]at HD
    rw[if_pos ⟨hlt,hd⟩]at hst
    have HN2:Hid (zAk zCD T (j+1)=r):=zQr (hst.symm.trans HN.out)
    clear hd hlt hst
    go_wp2_with fail
    refine HD.out.mono ?_;rintro e w3 ⟨rfl,hb3⟩
    have hv3:=HV2.out.below hb3
    have HV3:=zQr hv3
    have HK3:=zQr (HK2.out.below hb3)
    have HB3:=zQr (HB2.out.below hb3 (Nat.le_of_lt HK2.out.lt))
    have c1:=hv3.c1
    have f1:=hv3.fz 1
    clear hb3 hv3
    go_wp2_with fail
    refine(zAz (HV3.out.setAt (j:=j+1) (by have:=HLT.out;omega) (by go_num))).mono ?_;rintro e w4 ⟨rfl,hb4⟩
    have HV4:=zQr ((HV3.out.setAt (j:=j+1) (x:=(j:Int)+1) (by have:=HLT.out;omega) (by go_num)).below hb4)
    have HK4:=zQr ((HK3.out.store HWB.out 1 (.int .i64 ((j:Int)+1))).below hb4)
    have HB4:=zQr ((HB3.out.store (.inl rfl) 1 (.int .i64 ((j:Int)+1))).below hb4 (by have:=HK3.out.lt;simp[World.setCell];omega))
    clear hb4 c1 f1
    go_wp2_with fail
    go_roundg (T.length - (j+1))
    case measure=>have:=HG.out;have:=HLT.out;omega
    case rel=>exact⟨j+1,by go_num,rfl,rfl,rfl,by omega,by have:=HLT.out;omega,HN2,HV4.out,HK4.out,HB4.out⟩
   ·have hd':zCD b=false:=by simpa using hd
    rw[hd']at HD
    rw[if_neg (fun h=>hd h.2)]at hst
    have HN2:Hid (j=r):=zQr (hst.symm.trans HN.out)
    clear hd hd' hlt hst
    go_wp2_with fail
    refine HD.out.mono ?_;rintro e w3 ⟨rfl,hb3⟩
    have HV3:=zQr (HV2.out.below hb3)
    have HB3:=zQr (HB2.out.below hb3 (Nat.le_of_lt HK2.out.lt))
    clear hb3
    go_wp2_with fail
    go_ret
    rw[←HN2.out]
    exact⟨rfl,HV3.out,HB3.out⟩
  ·rw[zQ3 hlt]
   rw[if_neg (fun h=>hlt h.1)]at hst
   have HN2:Hid (j=r):=zQr (hst.symm.trans HN.out)
   clear hlt hst
   go_wp2_with fail
   go_ret
   rw[←HN2.out]
   exact⟨rfl,HV2.out,HB2.out⟩
theorem zDq (hv:WdS w wb oa cap T i):
  Calls Tryz.prog 32 #[.pointer (some ⟨wb,0,none⟩),.string ⟨#[32,9]⟩] w fun e w'=>(∃n:Int,e= .returned (.int .i64 n))∧WdS w' wb oa cap T (zAk zAL T i)∧zBU w.heap.size wb w w':=by
 have hmf: ∀(fn:Fn) (first cap:Array Value) (w:World),(Instr.makeFunc fn first cap).run Tryz.prog w= .ok (.func fn first cap) w:=fun _ _ _ _=>rfl
 have HV:=zQr (hv.alloc (.cells #[.string ⟨#[32,9]⟩] 9))
 have HK:=zQr (SkS.new w (.string ⟨#[32,9]⟩))
 have HWB:=zQr hv.lt
 have HT:=zQr (fun hp=>hv.tlt hp)
 have HB:=zQr ((zBU.refl w.heap.size wb w).alloc (zQt _) (.cells #[.string ⟨#[32,9]⟩] 9))
 have c2:=HV.out.c2
 clear hv
 go_enter Tryz.func32,Tryz.ntmps32
 go_wp2_with fail
 refine(zA4 c2).mono ?_;rintro e w1 ⟨rfl,rfl⟩
 go_wp2_with fail
 refine(zI6 HV.out HK.out HWB.out HT.out).mono ?_;rintro e w2 ⟨rfl,hv2,hb2⟩
 have HV2:=zQr hv2
 have HB2:=zQr (HB.out.trans hb2)
 clear hv2 hb2
 go_wp2_with fail
 go_ret
 exact⟨⟨_,rfl⟩,HV2.out,HB2.out⟩
theorem zNY (hv:WdS w wb oa cap T i):
  Calls Tryz.prog 32 #[.pointer (some ⟨wb,0,none⟩),.string ⟨#[32,9,59,10]⟩] w fun e w'=>(∃n:Int,e= .returned (.int .i64 n))∧WdS w' wb oa cap T (zAk zCD T i)∧zBU w.heap.size wb w w':=by
 have hmf: ∀(fn:Fn) (first cap:Array Value) (w:World),(Instr.makeFunc fn first cap).run Tryz.prog w= .ok (.func fn first cap) w:=fun _ _ _ _=>rfl
 have HV:=zQr (hv.alloc (.cells #[.string ⟨#[32,9,59,10]⟩] 9))
 have HK:=zQr (SkS.new w (.string ⟨#[32,9,59,10]⟩))
 have HWB:=zQr hv.lt
 have HT:=zQr (fun hp=>hv.tlt hp)
 have HB:=zQr ((zBU.refl w.heap.size wb w).alloc (zQt _) (.cells #[.string ⟨#[32,9,59,10]⟩] 9))
 have c2:=HV.out.c2
 clear hv
 go_enter Tryz.func32,Tryz.ntmps32
 go_wp2_with fail
 refine(zA4 c2).mono ?_;rintro e w1 ⟨rfl,rfl⟩
 go_wp2_with fail
 refine(zLq HV.out HK.out HWB.out HT.out).mono ?_;rintro e w2 ⟨rfl,hv2,hb2⟩
 have HV2:=zQr hv2
 have HB2:=zQr (HB.out.trans hb2)
 clear hv2 hb2
 go_wp2_with fail
 go_ret
 exact⟨⟨_,rfl⟩,HV2.out,HB2.out⟩
theorem zHk (hv:WdS w wb oa cap T i):
  Calls Tryz.prog 148 #[.pointer (some ⟨wb,0,none⟩)] w fun e w'=>e= .returned (.int .i64 ((zHd T i).1:Nat))∧WdS w' wb oa cap T (zHd T i).2∧zBU w.heap.size wb w w':=by
 have c2:=hv.c2
 have HV:=zQr hv
 obtain⟨r,hr⟩: ∃r,zHd T i=r:=⟨_,rfl⟩
 rw[hr]
 unfold zHd at hr
 simp only at hr
 have hlt:=zCX zAL hv.at_
 obtain⟨j,hj⟩: ∃j,zAk zAL T i=j:=⟨_,rfl⟩
 rw[hj]at hr hlt
 have HJ:=zQr hj
 clear hv hj
 go_enter Tryz.func148,Tryz.ntmps148
 go_wp2_with fail
 refine(zA4 c2).mono ?_;rintro e w1 ⟨rfl,rfl⟩
 go_wp2_with fail
 refine(zDq HV.out).mono ?_;rintro e w1 ⟨⟨_,rfl⟩,hv1,hb1⟩
 rw[HJ.out]at hv1
 have HV1:=zQr hv1
 have HB1:=zQr hb1
 have HLW:=zQr HV.out.lt
 obtain⟨b,hbe⟩: ∃b,T.getD j 0=b:=⟨_,rfl⟩
 have HP:=zAz hv1
 rw[hbe]at HP hr
 have HP:=zQr HP
 have hlen:=hv1.len
 clear hv1 hb1 c2 hbe HJ
 go_wp2_with fail
 refine HP.out.mono ?_;rintro e w2 ⟨rfl,hb2⟩
 have HV2:=zQr (HV1.out.below hb2)
 have HB2:=zQr (HB1.out.below hb2 HB1.out.size)
 clear hb2 HP HV1 HB1
 by_cases h0:j<T.length
 ·rw[zQ2 h0]
  by_cases h1:b=125
  ·rw[if_pos (.inr (.inl h1))]at hr
   subst h1 hr
   clear h0
   go_wp2_with fail
   go_ret
   exact⟨rfl,HV2.out,HB2.out⟩
  by_cases h2:b=35
  ·rw[if_pos (.inr (.inr h2))]at hr
   subst h2 hr
   clear h0 h1
   go_wp2_with fail
   go_ret
   exact⟨rfl,HV2.out,HB2.out⟩
  rw[if_neg (by omega)]at hr
  have q1:((b:Int)==125)=false:=zQx.2 (by omega)
  have q2:((b:Int)==35)=false:=zQx.2 (by omega)
  have c1:=HV2.out.c1
  have f1:=HV2.out.fz 1
  have fin:Hid (j+1≤T.length):=zQr (by omega)
  by_cases h3:b=59
  ·rw[if_pos (.inl h3)]at hr
   subst h3 hr
   clear h0 h1 h2
   go_wp2_with fail
   go_ret
   exact⟨rfl,HV2.out.setAt (j:=j+1) fin.out (by go_num),HB2.out.store (.inl rfl) _ _⟩
  by_cases h4:b=10
  ·rw[if_pos (.inr h4)]at hr
   subst h4 hr
   clear h0 h1 h2 h3
   go_wp2_with fail
   go_ret
   exact⟨rfl,HV2.out.setAt (j:=j+1) fin.out (by go_num),HB2.out.store (.inl rfl) _ _⟩
  rw[if_neg (by omega)]at hr
  have q3:((b:Int)==59)=false:=zQx.2 (by omega)
  have q4:((b:Int)==10)=false:=zQx.2 (by omega)
  subst hr
  clear h0 h1 h2 h3 h4
  go_wp2_with fail
  go_ret
  exact⟨rfl,HV2.out,HB2.out⟩
 ·rw[zQ3 h0]
  rw[if_pos (.inl (by omega))]at hr
  subst hr
  clear h0
  go_wp2_with fail
  go_ret
  exact⟨rfl,HV2.out,HB2.out⟩
end
end
section
open Go.RowKit Go.Shelf
theorem zJw {T:List Nat} {i j:Nat} (hj:j≤T.length):(zIs T i j).length=j - i:=by simp[zIs];omega
theorem zD2.drew {w:World} {oa:Option Addr} {T:List Nat} (h:zD2 w oa T):zD2 w.drew oa T:=h
theorem zMw {w:World} {wb:Nat} {oa:Option Addr} {cap:Nat} {T:List Nat} {k i j:Nat} (h:WdS w wb oa cap T k) (hi:i≤j) (hj:j≤T.length):
  ∃o2 c2,(∀W,(Instr.slice 22 (.slice oa T.length cap) (some (.int .i64 (i:Nat))) (some (.int .i64 (j:Nat))) none).run Tryz.prog W= .ok (.slice o2 (zIs T i j).length c2) W)∧zD2 w o2 (zIs T i j):=by
 refine⟨if cap=i then oa else oa.map (·.add i),cap - i,fun W=>?_,fun hp=>?_⟩
 ·rw[run_slice_lh (P:=Tryz.prog) W 22 oa T.length cap (by kernel_rfl) .i64 .i64 i j (by omega) (by omega) (by have:=h.cp;omega),zJw hj]
  rw[show(sizeOf (Tryz.prog.elem 22)).run Tryz.prog W= .ok 1 W by kernel_rfl]
  simp[Result.andThen,sliced]
 ·rw[zJw hj]at hp ⊢
  obtain⟨g,rfl,_,_,hc⟩:=h.tx (by omega)
  have:=h.cp
  refine⟨g,i,by rw[if_neg (by omega),Option.map_some,zCC,Nat.zero_add],fun m hm=>?_⟩
  rw[hc (i+m) (by omega)]
  unfold zIs
  rw[zQ0,zQ0,List.getElem?_take,if_pos hm,List.getElem?_drop]
theorem zOO {w:World} {oa:Option Addr} {cap:Nat} {T:List Nat} (h:zD2 w oa T) (hl:T.length≤4294967296):
  Calls Tryz.prog 84 #[.slice oa T.length cap] w fun e w'=> ∃v,e= .returned v∧w'.ownsRow w.heap.size 5 1 v T.length (u8s T)∧Below w.heap.size w w':=by
 cases oa with
 |none=>
  have h0:T=[]:=by
   rcases T with _|⟨x,l⟩
   ·rfl
   ·obtain⟨g,o,h1,_⟩:=h (by simp)
    cases h1
  subst h0
  refine(Any.bytes_Clone_nil zKY _ _ w).mono ?_
  rintro e w' ⟨rfl,rfl⟩
  exact⟨_,rfl,zQ7 _ _ _ _,zQs _ _⟩
 |some a=>
  refine(Any.bytes_Clone_at zKY a T.length cap (T.map fun b:Nat=>(b:Int)) w (by simp) (by omega) ?_).mono ?_
  ·intro i hi
   obtain⟨g,o,h1,h2⟩:=h (by omega)
   injection h1 with h1
   subst h1
   rw[zCC,h2 i hi]
   simp[List.getD_eq_getElem?_getD,hi]
  ·rintro e w' ⟨v,rfl,h1,_,h3⟩
   have h1':w'.ownsRow w.heap.size 5 1 v T.length ((T.map fun b:Nat=>(b:Int)).map (Value.int .u8)):=h1
   rw[List.map_map]at h1'
   exact⟨v,rfl,h1',h3⟩
section
variable {w w':World} {wb:Nat} {oa:Option Addr} {cap:Nat} {T:List Nat} {i:Nat}
theorem zNQ {b:Nat} (hb:b<256):Calls Tryz.prog 97 #[.int .i32 (b:Nat)] w fun e w'=>e= .returned (.bool (zAw b))∧Below w.heap.size w w':=by
 by_cases h:b=10
 ·subst h
  go_enter Tryz.func97,Tryz.ntmps97
  go_wp2_with fail
  go_ret
  exact⟨rfl,zQs _ _⟩
 ·have hp:Hid (zAw b=true):=zQr (by simp[zAw,h])
  have q:((b:Int) !=10)=true:=bne_iff_ne.2 (by omega)
  clear h
  go_enter Tryz.func97,Tryz.ntmps97
  go_wp2_with fail
  go_ret
  exact⟨by rw[hp.out];rfl,zQs _ _⟩
theorem zLp (hv:WdS w wb oa cap T i):
  Calls Tryz.prog 95 #[.pointer (some ⟨wb,0,none⟩),.func (.func 33) #[.pointer (some ⟨wb,0,none⟩)] #[],.func (.func 97) #[] #[]] w fun e w'=>
   e= .returned (.int .i64 ((zAk zAw T i - i:Nat):Int))∧WdS w' wb oa cap T (zAk zAw T i)∧zBU w.heap.size wb w w':=by
 have HV:=zQr hv
 have hlen:=hv.len
 obtain⟨r,hr⟩: ∃r,zAk zAw T i=r:=⟨_,rfl⟩
 have HR:=zQr hr
 rw[hr]
 clear hv hr
 go_enter Tryz.func95,Tryz.ntmps95
 go_wp2_with fail
 refine(zAz HV.out).mono ?_;rintro e w1 ⟨rfl,hb1⟩
 have HV1:=zQr (HV.out.below hb1)
 have HB1:=zQr ((zBU.refl w.heap.size wb w).below hb1 (zQt _))
 clear hb1
 go_wp2_with fail
 go_loopg [7,8,9] (T.length - i) (fun n nv bv okv wr=> ∃j:Nat,nv= .int .i64 ((j - i:Nat):Int)∧bv= .int .u8 (T.getD j 0:Nat)∧okv= .bool (decide (j<T.length))∧n=T.length - j∧i≤j∧j≤T.length∧
  Hid (zAk zAw T j=r)∧WdS wr wb oa cap T j∧zBU w.heap.size wb w wr)
 case atStart=>exact⟨i,by simp,rfl,rfl,rfl,zQt _,HV.out.at_,HR,HV1.out,HB1.out⟩
 case round=>
  obtain⟨j,rfl,rfl,rfl,hg,hij,hjl,HN,hv,hb⟩:=hrel
  have HG:=zQr hg
  have HV2:=zQr hv
  have HB2:=zQr hb
  clear hg hv hb HV1 HB1
  have hst:=zA0 zAw T j
  by_cases hlt:j<T.length
  ·rw[zQ2 hlt]
   have HLT:=zQr hlt
   obtain⟨b,hbe⟩: ∃b,T.getD j 0=b:=⟨_,rfl⟩
   have hb256:b<256:=by have:=HV2.out.u j;omega
   have HD:=zQr (zNQ (w:=wr) hb256)
   rw[hbe]at hst ⊢
   clear hbe
   by_cases hd:zAw b=true
   ·rw[hd]at HD
    rw[if_pos ⟨hlt,hd⟩]at hst
    have HN2:Hid (zAk zAw T (j+1)=r):=zQr (hst.symm.trans HN.out)
    clear hd hlt hst
    go_wp2_with fail
    refine HD.out.mono ?_;rintro e w3 ⟨rfl,hb3⟩
    have hv3:=HV2.out.below hb3
    have HV3:=zQr hv3
    have HB3:=zQr (HB2.out.below hb3 HB2.out.size)
    have c1:=hv3.c1
    have f1:=hv3.fz 1
    clear hb3 hv3
    go_wp2_with fail
    refine(zAz (HV3.out.setAt (j:=j+1) (by have:=HLT.out;omega) (by go_num))).mono ?_;rintro e w4 ⟨rfl,hb4⟩
    have HV4:=zQr ((HV3.out.setAt (j:=j+1) (x:=(j:Int)+1) (by have:=HLT.out;omega) (by go_num)).below hb4)
    have HB4:=zQr ((HB3.out.store (.inl rfl) 1 (.int .i64 ((j:Int)+1))).below hb4 (by have:=HB3.out.size;simpa [World.setCell]using this))
    clear hb4 c1 f1
    go_wp2_with fail
    go_roundg (T.length - (j+1))
    case measure=>have:=HG.out;have:=HLT.out;omega
    case rel=>exact⟨j+1,by go_num,rfl,rfl,rfl,by omega,by have:=HLT.out;omega,HN2,HV4.out,HB4.out⟩
   ·have hd':zAw b=false:=by simpa using hd
    rw[hd']at HD
    rw[if_neg (fun h=>hd h.2)]at hst
    have HN2:Hid (j=r):=zQr (hst.symm.trans HN.out)
    clear hd hd' hlt hst
    go_wp2_with fail
    refine HD.out.mono ?_;rintro e w3 ⟨rfl,hb3⟩
    have HV3:=zQr (HV2.out.below hb3)
    have HB3:=zQr (HB2.out.below hb3 HB2.out.size)
    clear hb3
    go_wp2_with fail
    go_ret
    rw[←HN2.out]
    exact⟨rfl,HV3.out,HB3.out⟩
  ·rw[zQ3 hlt]
   rw[if_neg (fun h=>hlt h.1)]at hst
   have HN2:Hid (j=r):=zQr (hst.symm.trans HN.out)
   clear hlt hst
   go_wp2_with fail
   go_ret
   rw[←HN2.out]
   exact⟨rfl,HV2.out,HB2.out⟩
theorem zHh (hv:WdS w wb oa cap T i):
  Calls Tryz.prog 34 #[.pointer (some ⟨wb,0,none⟩)] w fun e w'=>(∃v,e= .returned v∧w'.ownsRow w.heap.size 5 1 v (zIs T i (zDZ T i)).length (u8s (zIs T i (zDZ T i))))∧WdS w' wb oa cap T (zDZ T i)∧zBU w.heap.size wb w w':=by
 have hmf: ∀(fn:Fn) (first cap:Array Value) (w:World),(Instr.makeFunc fn first cap).run Tryz.prog w= .ok (.func fn first cap) w:=fun _ _ _ _=>rfl
 have c1:=hv.c1
 have c2:=hv.c2
 have HV:=zQr hv
 obtain⟨j,hj⟩: ∃j,zDZ T i=j:=⟨_,rfl⟩
 have HJ:=zKE (T:=T) hv.at_
 rw[hj]at HJ ⊢
 have HJ:=zQr HJ
 have HJE:=zQr hj
 obtain⟨R,hR⟩: ∃R,zIs T i j=R:=⟨_,rfl⟩
 have hRl:R.length≤4294967296:=by rw[←hR,zJw HJ.out.2];have:=HJ.out.2;have:=hv.len;omega
 rw[hR]
 have HRE:=zQr hR
 clear hv hj hR
 go_enter Tryz.func34,Tryz.ntmps34
 go_wp2_with fail
 refine(zA4 c2).mono ?_;rintro e w1 ⟨rfl,rfl⟩
 go_wp2_with fail
 refine(zLp HV.out).mono ?_;rintro e w1 ⟨rfl,hv1,hb1⟩
 rw[show zAk zAw T i=zDZ T i from rfl,HJE.out]at hv1
 have HV1:=zQr hv1
 have HB1:=zQr hb1
 have c0:=HV1.out.c0
 have d1:=HV1.out.c1
 have hij:(i:Int)≤(j:Int):=by have:=HJ.out.1;omega
 have hjc:(j:Int)≤(cap:Int):=by have:=HJ.out.2;have:=HV1.out.cp;omega
 have h0i:(0:Int)≤(i:Int):=by omega
 have hlw:=HV1.out.lt
 clear hv1 hb1 c1 c2
 obtain⟨o2,c2,hsl,htx⟩:=zMw HV1.out HJ.out.1 HJ.out.2
 rw[HRE.out]at hsl htx
 have HX:=zQr (zOO (cap:=c2) (htx.drew) hRl)
 have HV2:=zQr (HV1.out.below (zQs w1.heap.size w1).drew)
 have HB2:=zQr (HB1.out.below (zQs w1.heap.size w1).drew HB1.out.size)
 have hz:w1.drew.heap.size=w1.heap.size:=rfl
 clear htx HV1 HB1
 go_upto_region 5 with fail
 refine zAA (X:=none) 10 [] [0,1,2,3,4,5,6,7,8,9] (by kernel_rfl) (by kernel_rfl) rfl (fun _ _ _ _ _ h=>h) ?_
 simp only[zAK,zAC,zAD,zAB,List.getD_cons_zero,List.getD_cons_succ,List.drop_succ_cons,List.drop_zero]
 repeat (go_big_quiet_step (fail))
 refine wpQuiet_nil ?_
 go_wp2_with fail
 refine HX.out.mono ?_;rintro e w3 ⟨v,rfl,hr3,hb3⟩
 have HR3:=zQr (zAR hr3 (by rw[hz];exact HB2.out.size))
 have HV3:=zQr (HV2.out.below hb3)
 have HB3:=zQr (HB2.out.below hb3 HB2.out.size)
 clear hr3 hb3
 go_wp2_with fail
 go_ret
 exact⟨⟨_,rfl,HR3.out⟩,HV3.out,HB3.out⟩
end
end
end Go.Proofs.YtmaagpbjahjmhaaGreatDoor
