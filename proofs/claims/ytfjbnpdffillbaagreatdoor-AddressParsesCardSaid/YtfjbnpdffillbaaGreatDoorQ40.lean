/- Parts: Di Dj Dk. -/
import Derived.Test.YtfjbnpdffillbaaGreatDoorQ39
import Derived.Test.YtfjbnpdffillbaaGreatDoorQ10
import Derived.Test.YtfjbnpdffillbaaGreatDoorQ16
set_option maxHeartbeats 25600000
set_option maxRecDepth 100000
namespace Go.Proofs.YtfjbnpdffillbaaGreatDoor
section
open Go.RowKit
theorem zL3:Cls.range 0 255=⟨18446744073709551615#64,18446744073709551615#64,18446744073709551615#64,18446744073709551615#64⟩:=by decide+kernel
section
variable {rb:Nat} {ere:Bool} {mb mo cap:Nat} {L:List Mk} {k:Nat}
theorem zHj {fb:Bool} {grp:Rst→Out (List Nd)} {s:Rst} {bb:Nat} (h:zAH L s.i=⟨bb,false⟩) (hs:s.i<L.length):zCG ere fb L grp s=
  if (bb==94&&(ere||fb))=true then .ok ([zE6],false) ⟨s.i+1,s.ended⟩
  else if (bb==36&&(ere||decide (s.i+1=L.length)||seesAt L (s.i+1) [92,41]))=true then .ok ([zMV],false) ⟨s.i+1,s.ended⟩
  else if bb=46 then .ok ([zG0 (Cls.range 0 255)],true) ⟨s.i+1,s.ended⟩
  else if bb=91 then zDD L s
  else if seesAt L s.i (zA7 ere 40)=true then zAx (grp s)
  else if bb=92 then zAx (zEV ere L s)
  else .ok ([zCe bb],true) ⟨s.i+1,s.ended⟩:=by
 have h1: ∀c,signAt L s.i c=(bb==c):=fun c=>by simp[signAt,hs,h]
 rw[zHu,h1,h1]
 unfold zCG
 simp only[h]
 by_cases a1:bb=46
 ·subst a1;simp[zNx]
 by_cases a2:bb=91
 ·subst a2;simp
 by_cases a3:bb=92
 ·subst a3
  cases ere with
  |true=>simp[zFn]
  |false=>
   cases h5:signAt L (s.i+1) 40 with
   |false=>simp[zFn,h5]
   |true=>
    have h6:=zCC h5
    simp only[signAt,Bool.and_eq_true,beq_iff_eq,Bool.not_eq_true']at h5
    simp[zA0,show¬s.i+1=L.length by omega,h5.2.1,h5.2.2]
 by_cases a4:bb=94
 ·subst a4
  cases ere<;>cases fb<;>simp[zDj]
 by_cases a5:bb=36
 ·subst a5
  unfold zKU
  by_cases h6:s.i+1<L.length
  ·cases ere<;>cases h7:seesAt L (s.i+1) [92,41]<;>simp[h6,show¬s.i+1=L.length by omega]
  ·cases ere<;>simp[show s.i+1=L.length by omega]
 cases ere<;>by_cases a6:bb=40<;>simp[a1,a2,a3,a4,a5,a6]
structure AtS (w:World) (rb:Nat) (ere:Bool) (mb mo cap:Nat) (L:List Mk) (s:Rst) (k:Nat) (ev:Value) (B bb:Nat) (pl:Bool) (W:World):Prop where
 r:RfS W rb ere mb mo cap L s k ev
 b:zAr rb ev.ownBlock w W
 m0:W.cell? ⟨B,0,none⟩=some (.int .u8 (bb:Nat))
 m1:W.cell? ⟨B,1,none⟩=some (.bool pl)
 lt:B<W.heap.size
 hb:w.heap.size≤B
 hr:rb<w.heap.size
 ho: ∀g,ev.ownBlock=some g→g<w.heap.size
section
variable {w W W':World} {s:Rst} {ev:Value} {B bb:Nat} {pl:Bool}
theorem AtS.below (h:AtS w rb ere mb mo cap L s k ev B bb pl W) (hb:Below W.heap.size W W'):AtS w rb ere mb mo cap L s k ev B bb pl W':=
 ⟨h.r.below hb,h.b.below hb,(hb.cell (p:=⟨B,0,none⟩) h.lt).trans h.m0,(hb.cell (p:=⟨B,1,none⟩) h.lt).trans h.m1,zPi h.lt hb.size,h.hb,h.hr,h.ho⟩
theorem AtS.store {j:Nat} (h:AtS w rb ere mb mo cap L s k ev B bb pl W) (hb:Below j W W') (hj:w.heap.size≤j) (hB:B<j):AtS w rb ere mb mo cap L s k ev B bb pl W':=
 ⟨h.r.belowK hb (zPi h.hr hj) (fun g hg=>zPi (h.ho g hg) hj),h.b.belowK hj hb,(zPj (a:=⟨B,0,none⟩) (hb.block B hB)).trans h.m0,(zPj (a:=⟨B,1,none⟩) (hb.block B hB)).trans h.m1,zPi h.lt hb.size,h.hb,h.hr,h.ho⟩
theorem AtS.step (h:AtS w rb ere mb mo cap L s k ev B bb pl W) (hs:s.i<L.length):AtS w rb ere mb mo cap L ⟨s.i+1,s.ended⟩ k ev B bb pl (W.setCell ⟨rb,2,none⟩ (.int .i64 ((s.i:Int)+1))):=by
 have h1:=h.r.setAt (j:=s.i+1) hs
 have h2:=h.b.store 2 (.int .i64 ((s.i+1:Nat):Int))
 rw[Int.natCast_add,show((1:Nat):Int)=1 from rfl]at h1 h2
 have hne:B≠rb:=by have:=h.hb;have:=h.hr;omega
 exact⟨h1,h2,(zPj (a:=⟨B,0,none⟩) (zPp _ _ _ _ (by exact hne))).trans h.m0,(zPj (a:=⟨B,1,none⟩) (zPp _ _ _ _ (by exact hne))).trans h.m1,by simpa [World.setCell]using h.lt,h.hb,h.hr,h.ho⟩
end
def zN0 (rb:Nat) (ere:Bool) (mb mo cap:Nat) (L:List Mk) (k:Nat):Prop:= ∀(w:World) (s:Rst) (ev:Value) (fb:Bool),RfS w rb ere mb mo cap L s k ev→s.i<L.length→
 Calls Tryz.prog 162 #[.pointer (some ⟨rb,0,none⟩),.bool fb] w (zCl w rb ere mb mo cap L k ev (zCG ere fb L (zAN ere L k) s) (.tuple #[.slice none 0 0,.bool false]) fun a v w'=> ∃u,v= .tuple #[u,.bool (!a.2)]∧Nds w' w.heap.size u a.1)
theorem zHS (hg:Hid (zII rb ere mb mo cap L k)):zN0 rb ere mb mo cap L k:=by
 intro w s ev fb hv hs
 have hlen:=hv.m.len
 have HU:=zPf hv.m.u
 have cb:=hv.m.b s.i hs
 have cp:=hv.m.p s.i hs
 have hu:=hv.m.u s.i hs
 have c1:=hv.c1
 have c2:=hv.c2
 have rbl:=hv.lt
 have mbl:=hv.m.lt
 have hs':(s.i:Int)<(L.length:Int):=by omega
 have HPLN:=zPf (show(zAH L s.i).p=true→zCG ere fb L (zAN ere L k) s= .ok ([zCe (zAH L s.i).b],true) ⟨s.i+1,s.ended⟩from fun h=>by unfold zCG;simp only[h,if_true])
 have HSPL:=zPf (fun(bb:Nat) (h:zAH L s.i=⟨bb,false⟩)=>zHj (ere:=ere) (fb:=fb) (grp:=zAN ere L k) h hs)
 obtain⟨mk,hmk⟩: ∃mk,zAH L s.i=mk:=⟨_,rfl⟩
 rw[hmk]at cb cp hu HPLN HSPL
 have HMK:=zPf hmk
 obtain⟨bb,pl⟩:=mk
 simp only at cb cp hu
 have HV:=zPf hv
 clear hv hmk
 obtain⟨A,hA⟩: ∃A,zCG ere fb L (zAN ere L k) s=A:=⟨_,rfl⟩
 rw[hA]at HPLN HSPL ⊢
 clear hA
 go_enter Tryz.func162,Tryz.ntmps162
 go_wp2_with fail
 refine zAA (X:=none) 11 [([0,1,2,3,4,5,6,7,8,9],10)] [] (by kernel_rfl) (by kernel_rfl) rfl (fun _ _ _ _ _ h=>h) ?_
 simp only[zAI,zAC,zAF,zAD,zAB,List.getD_cons_zero,List.getD_cons_succ,List.drop_succ_cons,List.drop_zero]
 repeat (go_big_quiet_step (fail))
 refine wpQuiet_nil ?_
 go_wp2_with fail
 refine⟨zAa (zAR _ _),wpQuiet_nil ?_⟩
 go_upto_region 2 with fail
 have hba:Below w.heap.size w ((w.alloc (.cells #[.int .u8 (bb:Nat),.bool pl] 131)).drew):=((zPg _ _).alloc (zPh _) _).drew
 have S5:=zPf (show AtS w rb ere mb mo cap L s k ev w.heap.size bb pl ((w.alloc (.cells #[.int .u8 (bb:Nat),.bool pl] 131)).drew)from
  ⟨HV.out.below hba,zAr.of_below hba,(zPu (w.alloc (.cells #[.int .u8 (bb:Nat),.bool pl] 131)) w.heap.size 0 _ _ (0,0) (zPs w _)).trans rfl,(zPu (w.alloc (.cells #[.int .u8 (bb:Nat),.bool pl] 131)) w.heap.size 1 _ _ (0,0) (zPs w _)).trans rfl,by show w.heap.size<(w.alloc _).heap.size;simp,zPh _,HV.out.lt,HV.out.evlt⟩)
 clear hba HV cb cp c1 c2 rbl mbl
 revert S5
 generalize (w.alloc (.cells #[.int .u8 (bb:Nat),.bool pl] 131)).drew=W5
 generalize hBB:w.heap.size=B
 intro S5
 have HBB:=zPf hBB
 clear hBB
 have m0:=S5.out.m0
 have m1:=S5.out.m1
 have ml:=S5.out.lt
 cases pl with
 |true=>
  have HE:=zPf (HPLN.out rfl)
  clear HPLN HSPL
  have c2:=S5.out.r.c2
  have f2:=S5.out.r.fz 2
  have rbl:=S5.out.r.lt
  have S1:=zPf (S5.out.step hs)
  go_upto_region 25 with fail
  clear c2 f2 rbl m0 m1 ml
  revert S1
  generalize World.setCell _ ⟨rb,2,none⟩ (.int .i64 ((s.i:Int)+1))=w7
  intro S1
  have m0:=S1.out.m0
  have ml:=S1.out.lt
  go_wp2_with fail
  refine(zCo hu).mono ?_;rintro e w8 ⟨⟨v,rfl,hv⟩,hb8⟩
  have HV:=zPf (hv.mono S1.out.b.size)
  have HR8:=zPf (S1.out.r.below hb8)
  have HB8:=zPf (S1.out.b.below hb8)
  clear hv hb8
  go_wp2_with fail
  go_ret2
  exact⟨HB8.out,by rw[HE.out];exact⟨_,ev,rfl,HR8.out,zAo.refl _ _,_,rfl,HV.out⟩⟩
 |false=>
  have HS0:=zPf (HSPL.out bb rfl)
  clear HPLN HSPL
  have c0:=S5.out.r.c0
  have rbl:=S5.out.r.lt
  go_upto_region 3 with fail
  go_cut [24] (fun x wc=>x= .bool (bb==94&&(ere||fb))∧W5=wc)
  case first=>
   clear HS0
   by_cases a1:bb=94
   ·have a1':((bb:Int)==94)=true:=by rw[a1];rfl
    have A1:=zPf a1
    clear a1
    cases ere with
    |true=>
     go_wp2_with fail
     go_meet
     exact⟨by rw[A1.out];rfl,rfl⟩
    |false=>
     go_wp2_with fail
     go_meet
     exact⟨by rw[A1.out];rfl,rfl⟩
   ·have a1':((bb:Int)==94)=false:=zPl.2 (by omega)
    have A1:=zPf (show(bb==94)=false from zPl.2 a1)
    clear a1
    go_wp2_with fail
    go_meet
    exact⟨by rw[A1.out];rfl,rfl⟩
  case rest=>
   obtain⟨hx,rfl⟩:=hcut
   cases hc:(bb==94&&(ere||fb))with
   |true=>
    have HE:=zPf (show A= .ok ([zE6],false) ⟨s.i+1,s.ended⟩by rw[HS0.out,if_pos hc])
    rw[hc]at hx
    subst hx
    clear HS0 hc c0 rbl
    have c2:=S5.out.r.c2
    have f2:=S5.out.r.fz 2
    have rbl:=S5.out.r.lt
    have S1:=zPf (S5.out.step hs)
    go_upto_region 5 with fail
    clear c2 f2 rbl m0 m1 ml
    revert S1
    generalize World.setCell _ ⟨rb,2,none⟩ (.int .i64 ((s.i:Int)+1))=w7
    intro S1
    have HL:=zPf (Nds.lit w7 w.heap.size zE6 S1.out.b.size)
    have HR8:=zPf (S1.out.r.alloc (.cells (zAO zE6) 78))
    have HB8:=zPf (S1.out.b.alloc (.cells (zAO zE6) 78))
    go_wp2_with fail
    go_ret2
    exact⟨HB8.out,by rw[HE.out];exact⟨_,ev,rfl,HR8.out,zAo.refl _ _,_,rfl,HL.out⟩⟩
   |false=>
    have HS1:=zPf (show A=_ by rw[HS0.out,if_neg (by rw[hc];decide)])
    rw[hc]at hx
    subst hx
    clear HS0 hc
    have c1:=S5.out.r.c1
    have c2:=S5.out.r.c2
    obtain⟨ec,hec⟩: ∃ec,(ere||decide (s.i+1=L.length)||seesAt L (s.i+1) [92,41])=ec:=⟨_,rfl⟩
    rw[hec]at HS1
    have HEC:=zPf hec
    clear hec
    go_upto_region 6 with fail
    go_cut [46] (fun x wc=>x= .bool (bb==36&&ec)∧AtS w rb ere mb mo cap L s k ev B bb false wc)
    case first=>
     clear HS1
     by_cases a1:bb=36
     ·have a1':((bb:Int)==36)=true:=by rw[a1];rfl
      have A1:=zPf (show(bb==36)=true by rw[a1];rfl)
      clear a1
      cases ere with
      |true=>
       have HQ:=zPf (show ec=true from HEC.out.symm)
       refine zAA (X:=none) 31 [([0,1,2,3,4,5,6,7,8,9,10,11,12,13,14,15,16,17,18,19,20,21,22],23),([24,25],26)] [27,28,29,30] (by kernel_rfl) (by kernel_rfl) rfl (fun _ _ _ _ _ h=>h) ?_
       simp only[zAI,zAC,zAF,zAD,zAB,List.getD_cons_zero,List.getD_cons_succ,List.drop_succ_cons,List.drop_nil]
       repeat (go_big_quiet_step (fail))
       refine wpQuiet_nil ?_
       go_wp2_with fail
       refine⟨zAJ.refl _,?_⟩
       repeat (go_big_quiet_step (fail))
       refine wpQuiet_nil ?_
       go_wp2_with fail
       refine⟨zAJ.refl _,?_⟩
       repeat (go_big_quiet_step (fail))
       refine wpQuiet_nil ?_
       go_wp2_with fail
       go_meet
       exact⟨by rw[A1.out,HQ.out];rfl,(S5.out.below (zPg _ _).drew)⟩
      |false=>
       by_cases h3:s.i+1=L.length
       ·have h3':((s.i:Int)+1==(L.length:Int))=true:=by rw[beq_iff_eq];omega
        have HQ:=zPf (show ec=true by rw[←HEC.out,zPq h3];rfl)
        clear h3
        refine zAA (X:=none) 31 [([0,1,2,3,4,5,6,7,8,9,10,11,12,13,14,15,16,17,18,19,20,21,22],23),([24,25],26)] [27,28,29,30] (by kernel_rfl) (by kernel_rfl) rfl (fun _ _ _ _ _ h=>h) ?_
        simp only[zAI,zAC,zAF,zAD,zAB,List.getD_cons_zero,List.getD_cons_succ,List.drop_succ_cons,List.drop_nil]
        repeat (go_big_quiet_step (fail))
        refine wpQuiet_nil ?_
        go_wp2_with fail
        refine⟨zAJ.refl _,?_⟩
        repeat (go_big_quiet_step (fail))
        refine wpQuiet_nil ?_
        go_wp2_with fail
        refine⟨zAJ.refl _,?_⟩
        repeat (go_big_quiet_step (fail))
        refine wpQuiet_nil ?_
        go_wp2_with fail
        go_meet
        exact⟨by rw[A1.out,HQ.out];rfl,(S5.out.below (zPg _ _).drew)⟩
       ·have h3':((s.i:Int)+1==(L.length:Int))=false:=zPl.2 (by omega)
        have HQ:=zPf (show ec=(signAt L (s.i+1) 92&&signAt L (s.i+2) 41)by rw[←HEC.out,zPr h3,zHL];rfl)
        clear h3
        obtain⟨b92,h92⟩: ∃b,signAt L (s.i+1) 92=b:=⟨_,rfl⟩
        have H92:=zPf h92
        clear h92
        refine zAA (X:=none) 31 [([0,1,2,3,4,5,6,7,8,9,10,11,12,13,14,15,16,17,18,19,20,21,22],23),([24,25],26)] [27,28,29,30] (by kernel_rfl) (by kernel_rfl) rfl (fun _ _ _ _ _ h=>h) ?_
        simp only[zAI,zAC,zAF,zAD,zAB,List.getD_cons_zero,List.getD_cons_succ,List.drop_succ_cons,List.drop_nil]
        repeat (go_big_quiet_step (fail))
        refine wpQuiet_nil ?_
        go_wp2_with fail
        refine(zBm (S5.out.r.drew).v 1 rfl (by omega) 92 rfl).mono ?_;rintro e w1 ⟨rfl,hb1⟩
        rw[H92.out]
        have hkp:=zAJ.of_below (X:=none) hb1
        have S6:=zPf ((S5.out.below (zPg _ _).drew).below hb1)
        clear hb1 m0 m1 ml c0 rbl c1 c2
        have m0:=S6.out.m0
        have ml:=S6.out.lt
        go_wp2_with fail
        refine⟨hkp,?_⟩
        clear hkp
        cases b92 with
        |false=>
         repeat (go_big_quiet_step (fail))
         refine wpQuiet_nil ?_
         go_wp2_with fail
         refine⟨zAJ.refl _,?_⟩
         repeat (go_big_quiet_step (fail))
         refine wpQuiet_nil ?_
         go_wp2_with fail
         go_meet
         exact⟨by rw[A1.out,HQ.out,H92.out];rfl,S6.out⟩
        |true=>
         obtain⟨b41,h41⟩: ∃b,signAt L (s.i+2) 41=b:=⟨_,rfl⟩
         have H41:=zPf h41
         clear h41
         repeat (go_big_quiet_step (fail))
         refine wpQuiet_nil ?_
         go_wp2_with fail
         refine(zBm S6.out.r.v 2 rfl (by omega) 41 rfl).mono ?_;rintro e w2 ⟨rfl,hb2⟩
         rw[H41.out]
         have hkp:=zAJ.of_below (X:=none) hb2
         have S7:=zPf (S6.out.below hb2)
         clear hb2
         go_wp2_with fail
         refine⟨hkp,?_⟩
         clear hkp
         repeat (go_big_quiet_step (fail))
         refine wpQuiet_nil ?_
         go_wp2_with fail
         go_meet
         exact⟨by rw[A1.out,HQ.out,H92.out,H41.out];cases b41<;>rfl,S7.out⟩
     ·have a1':((bb:Int)==36)=false:=zPl.2 (by omega)
      have A1:=zPf (show(bb==36)=false from zPl.2 a1)
      clear a1
      refine zAA (X:=none) 31 [([0,1,2,3,4,5,6,7,8,9,10,11,12,13,14,15,16,17,18,19,20,21,22],23),([24,25],26)] [27,28,29,30] (by kernel_rfl) (by kernel_rfl) rfl (fun _ _ _ _ _ h=>h) ?_
      simp only[zAI,zAC,zAF,zAD,zAB,List.getD_cons_zero,List.getD_cons_succ,List.drop_succ_cons,List.drop_nil]
      repeat (go_big_quiet_step (fail))
      refine wpQuiet_nil ?_
      go_wp2_with fail
      refine⟨zAJ.refl _,?_⟩
      repeat (go_big_quiet_step (fail))
      refine wpQuiet_nil ?_
      go_wp2_with fail
      refine⟨zAJ.refl _,?_⟩
      repeat (go_big_quiet_step (fail))
      refine wpQuiet_nil ?_
      go_wp2_with fail
      go_meet
      exact⟨by rw[A1.out];rfl,(S5.out.below (zPg _ _).drew)⟩
    case rest=>
     obtain⟨hx,hs6⟩:=hcut
     have S5':=zPf hs6
     clear hs6 S5 m0 m1 ml c0 rbl c1 c2 HEC
     obtain⟨S5⟩:Nonempty (Hid (AtS w rb ere mb mo cap L s k ev B bb false wc)):=⟨S5'⟩
     clear S5'
     have m0:=S5.out.m0
     have m1:=S5.out.m1
     have ml:=S5.out.lt
     cases hc:(bb==36&&ec)with
     |true=>
      have HE:=zPf (show A= .ok ([zMV],false) ⟨s.i+1,s.ended⟩by rw[HS1.out,if_pos hc])
      rw[hc]at hx
      subst hx
      clear HS1 hc
      have c2:=S5.out.r.c2
      have f2:=S5.out.r.fz 2
      have rbl:=S5.out.r.lt
      have S1:=zPf (S5.out.step hs)
      go_upto_region 8 with fail
      clear c2 f2 rbl m0 m1 ml
      revert S1
      generalize World.setCell _ ⟨rb,2,none⟩ (.int .i64 ((s.i:Int)+1))=w7
      intro S1
      have HL:=zPf (Nds.lit w7 w.heap.size zMV S1.out.b.size)
      have HR8:=zPf (S1.out.r.alloc (.cells (zAO zMV) 78))
      have HB8:=zPf (S1.out.b.alloc (.cells (zAO zMV) 78))
      go_wp2_with fail
      go_ret2
      exact⟨HB8.out,by rw[HE.out];exact⟨_,ev,rfl,HR8.out,zAo.refl _ _,_,rfl,HL.out⟩⟩
     |false=>
      have HS2:=zPf (show A=_ by rw[HS1.out,if_neg (by rw[hc];decide)])
      rw[hc]at hx
      subst hx
      clear HS1 hc
      by_cases a2:bb=46
      ·have a2':((bb:Int)==46)=true:=by rw[a2];rfl
       have HE0:=zPf (show A= .ok ([zG0 (Cls.range 0 255)],true) ⟨s.i+1,s.ended⟩by rw[HS2.out,if_pos a2])
       have HE:=HE0.out
       rw[zL3]at HE
       have HE:=zPf HE
       clear a2 HS2 HE0
       have c2:=S5.out.r.c2
       have f2:=S5.out.r.fz 2
       have rbl:=S5.out.r.lt
       have S1:=zPf (S5.out.step hs)
       go_upto_region 12 with fail
       clear c2 f2 rbl m0 m1 ml
       revert S1
       generalize World.setCell _ ⟨rb,2,none⟩ (.int .i64 ((s.i:Int)+1))=w7
       intro S1
       have HL:=zPf (Nds.lit w7 w.heap.size (zG0 ⟨18446744073709551615#64,18446744073709551615#64,18446744073709551615#64,18446744073709551615#64⟩) S1.out.b.size)
       have HR8:=zPf (S1.out.r.alloc (.cells (zAO (zG0 ⟨18446744073709551615#64,18446744073709551615#64,18446744073709551615#64,18446744073709551615#64⟩)) 78))
       have HB8:=zPf (S1.out.b.alloc (.cells (zAO (zG0 ⟨18446744073709551615#64,18446744073709551615#64,18446744073709551615#64,18446744073709551615#64⟩)) 78))
       go_wp2_with fail
       go_ret2
       exact⟨HB8.out,by rw[HE.out];exact⟨_,ev,rfl,HR8.out,zAo.refl _ _,_,rfl,HL.out⟩⟩
      have a2':((bb:Int)==46)=false:=zPl.2 (by omega)
      have HS3:=zPf (show A=_ by rw[HS2.out,if_neg a2])
      clear HS2 a2
      by_cases a3:bb=91
      ·have a3':((bb:Int)==91)=true:=by rw[a3];rfl
       have HS4:=zPf (show A=match zAs L s.i with| .error (e,i)=> .no e i| .ok (c,i)=> .ok ([zG0 c],true) ⟨i,s.ended⟩by rw[HS3.out,if_pos a3];rfl)
       have hsg:signAt L s.i 91=true:=by simp[signAt,hs,HMK.out,a3]
       have HBK:=zPf (fun(W:World) (hM:zE8 W mb mo L)=>zH0 (cap:=cap) hM s.i hsg)
       have c1:=S5.out.r.c1
       have c2:=S5.out.r.c2
       have rbl:=S5.out.r.lt
       clear a3 HS3 hsg
       cases hbr:zAs L s.i with
       |error q=>
        obtain⟨er,p⟩:=q
        rw[hbr]at HS4
        have HE:=zPf (show A= .no er p from HS4.out)
        have HBC:=zPf (show∀(W:World),zE8 W mb mo L→Calls Tryz.prog 188 #[.slice (some ⟨mb,mo,none⟩) L.length cap,.int .i64 (s.i:Nat)] W fun e w'=>(∃c:Cls,e= .returned (.tuple #[zBE c,.int .i64 (p:Nat),.int .i64 (er:Nat)])∧((er:Int) !=0)=true∧Hid (er≠0))∧Below W.heap.size W w' from fun W hM=>
         (HBK.out W hM).mono fun e w' h=>by
          obtain⟨⟨v,h1,h2⟩,h3⟩:=h
          rw[hbr]at h2
          obtain⟨c,rfl,h4⟩:=h2
          exact⟨⟨c,h1,by rw[bne_iff_ne];omega,h4⟩,h3⟩)
        clear HBK hbr HS4
        go_wp2_with fail
        refine zBX (X:=none) 14 13 [([0,1,2,3,4,5,6,7],8)] [9,10,11,12] (by kernel_rfl) (by kernel_rfl) rfl (fun _ _ _ _ _ h=>h) ?_
        simp only[zDG,zAI,zAC,zAF,zAD,zAB,List.getD_cons_zero,List.getD_cons_succ,List.drop_succ_cons,List.drop_zero]
        repeat (go_big_quiet_step (fail))
        refine wpQuiet_nil ?_
        refine⟨?_,?_⟩
        ·go_wp2_with fail
         refine(HBC.out _ (S5.out.r.m.below (zPg _ _).drew)).mono ?_;rintro e w1 ⟨⟨c,rfl,hne,HNE⟩,hb1⟩
         have hkp:=zAJ.of_below (X:=none) hb1
         have hbx:Below wc.heap.size wc w1:=(zPg _ _).drew.trans hb1
         have S6:=zPf (S5.out.below hbx)
         clear hb1 hbx m0 m1 ml c1 c2 rbl
         go_wp2_with fail
         refine⟨hkp,?_⟩
         clear hkp
         repeat (go_big_quiet_step (fail))
         refine wpQuiet_nil ?_
         go_wp2_with fail
         refine⟨zAR _ _,wpQuiet_nil ?_⟩
         go_upto_region 15 with fail
         have hal:Below w1.heap.size w1 (w1.alloc (.cells (zAS c) 76)):=(by repeat (first|exact zPg _ _|assumption|refine zP8 ?_|refine zP6 ?_ (by first|(simp;done)|(simp;omega)|omega) _|refine zP7 ?_ (by first|(simp;done)|(simp;omega)|omega) _))
         have hcl:zAc (w1.alloc (.cells (zAS c) 76)) w1.heap.size c:=zPs w1 _
         have S7:=zPf (S6.out.below hal)
         have hBr:rb<w1.heap.size:=S6.out.r.lt
         clear hal S6
         change Code.wp _ _ _ _ (w1.alloc (.cells (zAS c) 76))
         revert hcl S7 hBr
         generalize w1.alloc (.cells (zAS c) 76)=w2
         generalize w1.heap.size=Bc
         intro hcl S7 hBr
         have HCL:=zPf hcl
         clear hcl
         go_wp2_with fail
         refine(zA4 S7.out.r er p rfl rfl).mono ?_;rintro e wf ⟨rfl,hnt⟩
         have HNT:=zPf hnt
         clear hnt
         go_wp2_with fail
         go_ret2
         exact zCl.no HE.out S7.out.b HNT.out HNE.out
        ·go_wp2_with fail
         refine⟨zAa (zAR _ _),wpQuiet_nil ?_⟩
         go_wp2_with fail
         have hba:Below wc.heap.size wc (wc.alloc (.cells #[.int .u64 0,.int .u64 0,.int .u64 0,.int .u64 0] 76)).drew:=((zPg _ _).alloc (zPh _) _).drew
         refine(HBC.out _ (S5.out.r.m.below hba)).mono ?_;rintro e w1 ⟨⟨c,rfl,hne,HNE⟩,hb1⟩
         have hkp:=zAJ.of_below (X:=none) hb1
         have hcz:zAc w1 wc.heap.size Cls.zero:=zAc.below (w:=(wc.alloc (.cells #[.int .u64 0,.int .u64 0,.int .u64 0,.int .u64 0] 76)).drew) (zPs wc _) hb1
         have S6:=zPf (S5.out.below (hba.trans (hb1.mono hba.size)))
         have hszb:w.heap.size≤wc.heap.size:=S5.out.b.size
         have HCZ:=zPf hcz
         obtain⟨q0,q1,q2,q3⟩:=hcz.cells
         have g0:=zAE hcz
         have ql:=hcz.lt
         clear hb1 hba hcz m0 m1 ml c1 c2 rbl
         go_wp2_with fail
         refine⟨hkp,?_⟩
         clear hkp
         repeat (go_big_quiet_step (fail))
         refine wpQuiet_nil ?_
         go_upto_region 15 with fail
         have hcl:zAc (zCA w1 wc.heap.size c) wc.heap.size c:=zAu HCZ.out c
         have S7:=zPf (S6.out.store (zBC (zPh wc.heap.size) c) hszb S5.out.lt)
         have hBr:rb<wc.heap.size:=S5.out.r.lt
         clear S6 HCZ q0 q1 q2 q3 g0 ql
         change Code.wp _ _ _ _ (zCA w1 wc.heap.size c)
         revert hcl S7 hBr
         generalize zCA w1 wc.heap.size c=w2
         generalize wc.heap.size=Bc
         intro hcl S7 hBr
         have HCL:=zPf hcl
         clear hcl
         go_wp2_with fail
         refine(zA4 S7.out.r er p rfl rfl).mono ?_;rintro e wf ⟨rfl,hnt⟩
         have HNT:=zPf hnt
         clear hnt
         go_wp2_with fail
         go_ret2
         exact zCl.no HE.out S7.out.b HNT.out HNE.out
       |ok q=>
        obtain⟨c,p⟩:=q
        rw[hbr]at HS4
        have HE:=zPf (show A= .ok ([zG0 c],true) ⟨p,s.ended⟩from HS4.out)
        have hpl:=(zCk HU.out hbr).2
        simp only at hpl
        have HBC:=zPf (show∀(W:World),zE8 W mb mo L→Calls Tryz.prog 188 #[.slice (some ⟨mb,mo,none⟩) L.length cap,.int .i64 (s.i:Nat)] W fun e w'=>e= .returned (.tuple #[zBE c,.int .i64 (p:Nat),.int .i64 0])∧Below W.heap.size W w' from fun W hM=>
         (HBK.out W hM).mono fun e w' h=>by
          obtain⟨⟨v,h1,h2⟩,h3⟩:=h
          rw[hbr]at h2
          have h4:v= .tuple #[zBE c,.int .i64 (p:Nat),.int .i64 0]:=h2
          exact⟨by rw[h1,h4],h3⟩)
        clear HBK hbr HS4
        go_wp2_with fail
        refine zBX (X:=none) 14 13 [([0,1,2,3,4,5,6,7],8)] [9,10,11,12] (by kernel_rfl) (by kernel_rfl) rfl (fun _ _ _ _ _ h=>h) ?_
        simp only[zDG,zAI,zAC,zAF,zAD,zAB,List.getD_cons_zero,List.getD_cons_succ,List.drop_succ_cons,List.drop_zero]
        repeat (go_big_quiet_step (fail))
        refine wpQuiet_nil ?_
        refine⟨?_,?_⟩
        ·go_wp2_with fail
         refine(HBC.out _ (S5.out.r.m.below (zPg _ _).drew)).mono ?_;rintro e w1 ⟨rfl,hb1⟩
         have hkp:=zAJ.of_below (X:=none) hb1
         have hbx:Below wc.heap.size wc w1:=(zPg _ _).drew.trans hb1
         have S6:=zPf (S5.out.below hbx)
         clear hb1 hbx m0 m1 ml c1 c2 rbl
         go_wp2_with fail
         refine⟨hkp,?_⟩
         clear hkp
         repeat (go_big_quiet_step (fail))
         refine wpQuiet_nil ?_
         go_wp2_with fail
         refine⟨zAR _ _,wpQuiet_nil ?_⟩
         go_upto_region 15 with fail
         have hal:Below w1.heap.size w1 (w1.alloc (.cells (zAS c) 76)):=(by repeat (first|exact zPg _ _|assumption|refine zP8 ?_|refine zP6 ?_ (by first|(simp;done)|(simp;omega)|omega) _|refine zP7 ?_ (by first|(simp;done)|(simp;omega)|omega) _))
         have hcl:zAc (w1.alloc (.cells (zAS c) 76)) w1.heap.size c:=zPs w1 _
         have S7:=zPf (S6.out.below hal)
         have hBr:rb<w1.heap.size:=S6.out.r.lt
         clear hal S6
         change Code.wp _ _ _ _ (w1.alloc (.cells (zAS c) 76))
         revert hcl S7 hBr
         generalize w1.alloc (.cells (zAS c) 76)=w2
         generalize w1.heap.size=Bc
         intro hcl S7 hBr
         obtain⟨d0,d1,d2,d3⟩:=c
         obtain⟨y0,y1,y2,y3⟩:=hcl.cells
         have yl:=hcl.lt
         have rbl:=S7.out.r.lt
         have f2:=S7.out.r.fz 2
         have c2:=S7.out.r.c2
         have hr8:=S7.out.r.setAt (j:=p) hpl
         have hb8:=S7.out.b.store 2 (.int .i64 (p:Nat))
         have hc8:zAc (w2.setCell ⟨rb,2,none⟩ (.int .i64 (p:Nat))) Bc ⟨d0,d1,d2,d3⟩:=(zPp _ _ _ _ (by show Bc≠rb;omega)).trans hcl
         clear hcl
         go_upto_region 19 with fail
         clear y0 y1 y2 y3 yl rbl f2 c2
         revert hr8 hb8 hc8
         generalize w2.setCell ⟨rb,2,none⟩ (.int .i64 (p:Nat))=w3
         intro hr8 hb8 hc8
         obtain⟨y0,y1,y2,y3⟩:=hc8.cells
         have yl:=hc8.lt
         have HL:=zPf (Nds.lit w3 w.heap.size (zG0 ⟨d0,d1,d2,d3⟩) hb8.size)
         have HR8:=zPf (hr8.alloc (.cells (zAO (zG0 ⟨d0,d1,d2,d3⟩)) 78))
         have HB8:=zPf (hb8.alloc (.cells (zAO (zG0 ⟨d0,d1,d2,d3⟩)) 78))
         clear hr8 hb8 hc8
         go_wp2_with fail
         go_ret2
         exact⟨HB8.out,by rw[HE.out];exact⟨_,ev,rfl,HR8.out,zAo.refl _ _,_,rfl,HL.out⟩⟩
        ·go_wp2_with fail
         refine⟨zAa (zAR _ _),wpQuiet_nil ?_⟩
         go_wp2_with fail
         have hba:Below wc.heap.size wc (wc.alloc (.cells #[.int .u64 0,.int .u64 0,.int .u64 0,.int .u64 0] 76)).drew:=((zPg _ _).alloc (zPh _) _).drew
         refine(HBC.out _ (S5.out.r.m.below hba)).mono ?_;rintro e w1 ⟨rfl,hb1⟩
         have hkp:=zAJ.of_below (X:=none) hb1
         have hcz:zAc w1 wc.heap.size Cls.zero:=zAc.below (w:=(wc.alloc (.cells #[.int .u64 0,.int .u64 0,.int .u64 0,.int .u64 0] 76)).drew) (zPs wc _) hb1
         have S6:=zPf (S5.out.below (hba.trans (hb1.mono hba.size)))
         have hszb:w.heap.size≤wc.heap.size:=S5.out.b.size
         have HCZ:=zPf hcz
         obtain⟨q0,q1,q2,q3⟩:=hcz.cells
         have g0:=zAE hcz
         have ql:=hcz.lt
         clear hb1 hba hcz m0 m1 ml c1 c2 rbl
         go_wp2_with fail
         refine⟨hkp,?_⟩
         clear hkp
         repeat (go_big_quiet_step (fail))
         refine wpQuiet_nil ?_
         go_upto_region 15 with fail
         have hcl:zAc (zCA w1 wc.heap.size c) wc.heap.size c:=zAu HCZ.out c
         have S7:=zPf (S6.out.store (zBC (zPh wc.heap.size) c) hszb S5.out.lt)
         have hBr:rb<wc.heap.size:=S5.out.r.lt
         clear S6 HCZ q0 q1 q2 q3 g0 ql
         change Code.wp _ _ _ _ (zCA w1 wc.heap.size c)
         revert hcl S7 hBr
         generalize zCA w1 wc.heap.size c=w2
         generalize wc.heap.size=Bc
         intro hcl S7 hBr
         obtain⟨d0,d1,d2,d3⟩:=c
         obtain⟨y0,y1,y2,y3⟩:=hcl.cells
         have yl:=hcl.lt
         have rbl:=S7.out.r.lt
         have f2:=S7.out.r.fz 2
         have c2:=S7.out.r.c2
         have hr8:=S7.out.r.setAt (j:=p) hpl
         have hb8:=S7.out.b.store 2 (.int .i64 (p:Nat))
         have hc8:zAc (w2.setCell ⟨rb,2,none⟩ (.int .i64 (p:Nat))) Bc ⟨d0,d1,d2,d3⟩:=(zPp _ _ _ _ (by show Bc≠rb;omega)).trans hcl
         clear hcl
         go_upto_region 19 with fail
         clear y0 y1 y2 y3 yl rbl f2 c2
         revert hr8 hb8 hc8
         generalize w2.setCell ⟨rb,2,none⟩ (.int .i64 (p:Nat))=w3
         intro hr8 hb8 hc8
         obtain⟨y0,y1,y2,y3⟩:=hc8.cells
         have yl:=hc8.lt
         have HL:=zPf (Nds.lit w3 w.heap.size (zG0 ⟨d0,d1,d2,d3⟩) hb8.size)
         have HR8:=zPf (hr8.alloc (.cells (zAO (zG0 ⟨d0,d1,d2,d3⟩)) 78))
         have HB8:=zPf (hb8.alloc (.cells (zAO (zG0 ⟨d0,d1,d2,d3⟩)) 78))
         clear hr8 hb8 hc8
         go_wp2_with fail
         go_ret2
         exact⟨HB8.out,by rw[HE.out];exact⟨_,ev,rfl,HR8.out,zAo.refl _ _,_,rfl,HL.out⟩⟩
      have a3':((bb:Int)==91)=false:=zPl.2 (by omega)
      have HS4:=zPf (show A=_ by rw[HS3.out,if_neg a3])
      clear HS3 a3
      obtain⟨sg,hsg⟩: ∃b,seesAt L s.i (zA7 ere 40)=b:=⟨_,rfl⟩
      rw[hsg]at HS4
      have HSG:=zPf hsg
      have hsl:sg=true→s.i+zAY ere≤L.length:=fun h=>by rw[h]at hsg;exact zBM hsg
      clear hsg
      go_wp2_with fail
      refine(zB3 S5.out.r.v 40 rfl).mono ?_;rintro e w1 ⟨rfl,hb1⟩
      rw[HSG.out]
      have S6:=zPf (S5.out.below hb1)
      clear hb1 m0 m1 ml S5
      have m0:=S6.out.m0
      have m1:=S6.out.m1
      have ml:=S6.out.lt
      cases sg with
      |true=>
       have HE0:=zPf (show A=zAx (zAN ere L k s)by rw[HS4.out,if_pos rfl])
       have hsl2:=hsl rfl
       clear HS4 hsl
       go_wp2_with fail
       refine(hg.out _ _ _ S6.out.r hsl2).mono ?_
       rintro e w2 ⟨hb2,hp2⟩
       have HB2:=zPf (S6.out.b.trans (zAo.refl _ _) hb2)
       cases hgr:zAN ere L k s with
       |no er p=>
        rw[hgr]at hp2 HE0
        obtain⟨rfl,her,q1,q2,q3⟩:=hp2
        have HQF:=zPf (show er≠0∧rb<w2.heap.size∧w2.cell? ⟨rb,6,none⟩=some (.int .i64 er)∧w2.cell? ⟨rb,7,none⟩=some (.int .i64 p)from⟨her,q1,q2,q3⟩)
        clear hb2 hgr her q1 q2 q3
        go_wp2_with fail
        go_ret2
        exact⟨HB2.out,by rw[HE0.out];exact⟨rfl,HQF.out⟩⟩
       |ok re t=>
        rw[hgr]at hp2 HE0
        obtain⟨v,ev2,rfl,hr2,hn2,hnd2⟩:=hp2
        have HR2:=zPf hr2
        have HN2:=zPf hn2
        have HND:=zPf (hnd2.mono S6.out.b.size)
        have HNO:=zPf (show zAo w ev.ownBlock ev2.ownBlock from(zAo.refl _ _).trans S6.out.b.size hn2)
        clear hb2 hgr hr2 hn2 hnd2
        go_wp2_with fail
        go_ret2
        exact⟨HB2.out,by rw[HE0.out];exact⟨_,ev2,rfl,HR2.out,HNO.out,_,rfl,HND.out⟩⟩
      |false=>
       have HS5:=zPf (show A=_ by rw[HS4.out,if_neg (by decide)])
       clear HS4 hsl
       by_cases a4:bb=92
       ·have a4':((bb:Int)==92)=true:=by rw[a4];rfl
        have HE0:=zPf (show A=zAx (zEV ere L s)by rw[HS5.out,if_pos a4])
        clear a4 HS5
        go_wp2_with fail
        refine(zIf S6.out.r hs).mono ?_
        rintro e w2 ⟨hb2,hp2⟩
        have HB2:=zPf (S6.out.b.trans (zAo.refl _ _) hb2)
        cases hgr:zEV ere L s with
        |no er p=>
         rw[hgr]at hp2 HE0
         obtain⟨rfl,her,q1,q2,q3⟩:=hp2
         have HQF:=zPf (show er≠0∧rb<w2.heap.size∧w2.cell? ⟨rb,6,none⟩=some (.int .i64 er)∧w2.cell? ⟨rb,7,none⟩=some (.int .i64 p)from⟨her,q1,q2,q3⟩)
         clear hb2 hgr her q1 q2 q3
         go_wp2_with fail
         go_ret2
         exact⟨HB2.out,by rw[HE0.out];exact⟨rfl,HQF.out⟩⟩
        |ok re t=>
         rw[hgr]at hp2 HE0
         obtain⟨v,ev2,rfl,hr2,hn2,hnd2⟩:=hp2
         have HR2:=zPf hr2
         have HND:=zPf (hnd2.mono S6.out.b.size)
         have HNO:=zPf (show zAo w ev.ownBlock ev2.ownBlock from(zAo.refl _ _).trans S6.out.b.size hn2)
         clear hb2 hgr hr2 hn2 hnd2
         go_wp2_with fail
         go_ret2
         exact⟨HB2.out,by rw[HE0.out];exact⟨_,ev2,rfl,HR2.out,HNO.out,_,rfl,HND.out⟩⟩
       ·have a4':((bb:Int)==92)=false:=zPl.2 (by omega)
        have HE:=zPf (show A= .ok ([zCe bb],true) ⟨s.i+1,s.ended⟩by rw[HS5.out,if_neg a4])
        clear a4 HS5
        have c2:=S6.out.r.c2
        have f2:=S6.out.r.fz 2
        have rbl:=S6.out.r.lt
        have S1:=zPf (S6.out.step hs)
        go_upto_region 25 with fail
        clear c2 f2 rbl m0 m1 ml
        revert S1
        generalize World.setCell _ ⟨rb,2,none⟩ (.int .i64 ((s.i:Int)+1))=w7
        intro S1
        have m0:=S1.out.m0
        have ml:=S1.out.lt
        go_wp2_with fail
        refine(zCo hu).mono ?_;rintro e w8 ⟨⟨v,rfl,hv⟩,hb8⟩
        have HV:=zPf (hv.mono S1.out.b.size)
        have HR8:=zPf (S1.out.r.below hb8)
        have HB8:=zPf (S1.out.b.below hb8)
        clear hv hb8
        go_wp2_with fail
        go_ret2
        exact⟨HB8.out,by rw[HE.out];exact⟨_,ev,rfl,HR8.out,zAo.refl _ _,_,rfl,HV.out⟩⟩
end
end
section
open Go.RowKit
theorem zPM:ElT Tryz.prog 38 52 1 24 (.slice none 0 0):=⟨Tryz.underlying38,by kernel_rfl,rfl,by decide⟩
section
variable {rb:Nat} {ere:Bool} {mb mo cap:Nat} {L:List Mk} {k:Nat}
theorem zDu (ls:List (List Nd)) (l:List Nd):(ls++[l]).flatten.length=ls.flatten.length+l.length:=by simp
theorem zLO {s:Rst} {re:List Nd} {t:Rst} (h:zEV ere L s= .ok re t):(re.getD 0 Nd.zero).op≠2:=by
 unfold zEV at h
 repeat' split at h
 all_goals first
  |(cases h;done)
  |(simp only[Out.ok.injEq]at h;rw[←h.1];simp[zCe,zF1])
theorem zI1 {s:Rst} {re:List Nd} {t:Rst} : ∀ {k:Nat},zAN ere L k s= .ok re t→(re.getD 0 Nd.zero).op≠2
 |0,h=>by cases h
 |k+1,h=>by
  unfold zAN at h
  split at h
  ·cases h
  ·split at h
   ·cases h
   ·split at h
    ·cases h
    ·simp only[Out.ok.injEq]at h;rw[←h.1];simp[zBz]
theorem zMg {fb:Bool} {s:Rst} {re:List Nd} {tk:Bool} {t:Rst} (h:zCG ere fb L (zAN ere L k) s= .ok (re,tk) t) (hs:s.i<L.length):(tk=true∧(re.getD 0 Nd.zero).op≠2)∨(tk=false∧(re=[zE6]∨re=[zMV])):=by
 obtain⟨m,hm⟩: ∃m,zAH L s.i=m:=⟨_,rfl⟩
 obtain⟨bb,pl⟩:=m
 cases pl with
 |true=>
  unfold zCG at h
  simp only[hm,if_true,Out.ok.injEq,Prod.mk.injEq]at h
  exact .inl ⟨h.1.2.symm,by rw[←h.1.1];simp[zCe]⟩
 |false=>
  rw[zHj hm hs]at h
  split at h
  ·simp only[Out.ok.injEq,Prod.mk.injEq]at h;exact .inr ⟨h.1.2.symm,.inl h.1.1.symm⟩
  split at h
  ·simp only[Out.ok.injEq,Prod.mk.injEq]at h;exact .inr ⟨h.1.2.symm,.inr h.1.1.symm⟩
  split at h
  ·simp only[Out.ok.injEq,Prod.mk.injEq]at h;exact .inl ⟨h.1.2.symm,by rw[←h.1.1];simp[zG0]⟩
  split at h
  ·unfold zDD at h
   split at h
   ·cases h
   ·simp only[Out.ok.injEq,Prod.mk.injEq]at h;exact .inl ⟨h.1.2.symm,by rw[←h.1.1];simp[zG0]⟩
  split at h
  ·cases hg:zAN ere L k s with
   |no e i=>rw[hg]at h;cases h
   |ok a u=>
    rw[hg]at h
    simp only[zAx,Out.ok.injEq,Prod.mk.injEq]at h
    exact .inl ⟨h.1.2.symm,by rw[←h.1.1];exact zI1 hg⟩
  split at h
  ·cases hg:zEV ere L s with
   |no e i=>rw[hg]at h;cases h
   |ok a u=>
    rw[hg]at h
    simp only[zAx,Out.ok.injEq,Prod.mk.injEq]at h
    exact .inl ⟨h.1.2.symm,by rw[←h.1.1];exact zLO hg⟩
  ·simp only[Out.ok.injEq,Prod.mk.injEq]at h;exact .inl ⟨h.1.2.symm,by rw[←h.1.1];simp[zCe]⟩
structure St4 (w:World) (rb:Nat) (ere:Bool) (mb mo cap:Nat) (L:List Mk) (k:Nat) (ev:Value) (W:World) (t:Rst) (ev1:Value) (ls:List (List Nd)) (va:Value) (vs:List Value):Prop where
 r:RfS W rb ere mb mo cap L t k ev1
 b:zAr rb ev.ownBlock w W
 n:zAo w ev.ownBlock ev1.ownBlock
 a:zFB W w.heap.size va ls vs
section
variable {w W W':World} {ev ev1 va:Value} {t:Rst} {ls:List (List Nd)} {vs:List Value}
theorem St4.below (h:St4 w rb ere mb mo cap L k ev W t ev1 ls va vs) (hb:Below W.heap.size W W'):St4 w rb ere mb mo cap L k ev W' t ev1 ls va vs:=⟨h.r.below hb,h.b.below hb,h.n,h.a.below hb⟩
theorem St4.step (h:St4 w rb ere mb mo cap L k ev W t ev1 ls va vs) {t':Rst} {ev2:Value} (hb:zAr rb ev1.ownBlock W W') (hr:RfS W' rb ere mb mo cap L t' k ev2) (hn:zAo W ev1.ownBlock ev2.ownBlock) (hrw:rb<w.heap.size):St4 w rb ere mb mo cap L k ev W' t' ev2 ls va vs:=
 ⟨hr,h.b.trans h.n hb,h.n.trans h.b.size hn,h.a.part h.r.own hb hrw⟩
theorem St4.push (h:St4 w rb ere mb mo cap L k ev W t ev1 ls va vs) {u v':Value} {l:List Nd} (hu:Nds W w.heap.size u l) (ho:W'.ownsRow w.heap.size 52 1 v' (ls.length+1) (vs++[u])) (hg:(W.alloc (.cells #[u] 52)).grownBy W' va.ownBlock) (hrw:rb<w.heap.size):
  St4 w rb ere mb mo cap L k ev W' t ev1 (ls++[l]) v' (vs++[u]):=by
 have hal:Below W.heap.size W (W.alloc (.cells #[u] 52)):=(zPg _ _).alloc (zPh _) _
 have ha:=h.a.below hal
 have hr:=h.r.below hal
 refine⟨hr.beside hg (fun g hgv=>?_) (fun g hgv=>?_),(h.b.below hal).beside hg fun g hgv=>(ha.row.lt g hgv).1,h.n,ha.push (hu.below hal) ho hg⟩
 ·have:=(ha.row.lt g hgv).1;omega
 ·exact zCp hr.own ha.row zMP.symm g hgv
end
def zNz (rb:Nat) (ere:Bool) (mb mo cap:Nat) (L:List Mk) (k:Nat):Prop:= ∀(w:World) (s:Rst) (ev:Value),RfS w rb ere mb mo cap L s k ev→
 Calls Tryz.prog 139 #[.pointer (some ⟨rb,0,none⟩)] w (zCl w rb ere mb mo cap L k ev (zDF ere (k==64) L (zAN ere L k) s) (.slice none 0 0) fun a v w'=> ∃ls vs,ls.length=a.1∧ls.flatten=a.2∧zFB w' w.heap.size v ls vs)
theorem zHO (hat:Hid (zN0 rb ere mb mo cap L k)):zNz rb ere mb mo cap L k:=by
 intro w s ev hv
 have hlen:=hv.m.len
 have HU:=zPf hv.m.u
 have hrw:=hv.lt
 have hsi:=hv.at_
 have hkl:=hv.kl
 have HV:=zPf hv
 obtain⟨o,ho⟩: ∃o:Nat,64 - k=o:=⟨_,rfl⟩
 have HO:=zPf ho
 clear hv ho
 go_enter Tryz.func139,Tryz.ntmps139
 go_wp2_with fail
 go_loopg [3,4] (L.length+1) (fun f va ld wr=> ∃(st:Rst) (ls:List (List Nd)) (vs:List Value) (lead:Bool) (ev':Value),ld= .bool lead∧RfS wr rb ere mb mo cap L st k ev'∧zAr rb ev.ownBlock w wr∧zAo w ev.ownBlock ev'.ownBlock∧zFB wr w.heap.size va ls vs∧
  Hid (zDF ere (k==64) L (zAN ere L k) s=zEe ere (k==64) L (zAN ere L k) f ls.flatten ls.length lead st)∧L.length<f+st.i∧ls.length+s.i≤st.i∧ls.flatten.length+4*s.i≤4*st.i)
 case atStart=>exact⟨s,[],[],true,ev,rfl,HV.out,zAr.refl _ _ _,zAo.refl _ _,zFB.nil _ _,rfl,by omega,by simp,by simp⟩
 case round=>
  obtain⟨st,ls,vs,lead,ev',rfl,hr,hb,hn,hal,HS,hf,hm,hal4⟩:=hrel
  have hst:=hr.at_
  obtain⟨f,hfg⟩: ∃f',gk=f'+1:=⟨gk - 1,by omega⟩
  rw[hfg]at HS hf
  have HFG:=zPf hfg
  have c1:=hr.c1
  have c2:=hr.c2
  have c5:=hr.c5
  rw[HO.out]at c5
  have rbl:=hr.lt
  have S0:=zPf (show St4 w rb ere mb mo cap L k ev wr st ev' ls u3 vs from⟨hr,hb,hn,hal⟩)
  clear hr hb hn hal hfg HV
  revert S0
  generalize u3=va
  intro S0
  obtain⟨br,hbr⟩: ∃b,(ere&&seesAt L st.i [124])=b:=⟨_,rfl⟩
  obtain⟨cl,hcl⟩: ∃b,seesAt L st.i (zA7 ere 41)=b:=⟨_,rfl⟩
  have HBR:=zPf hbr
  have HCL:=zPf hcl
  have HS0:=zPf (show zDF ere (k==64) L (zAN ere L k) s=if L.length≤st.i then .ok (ls.length,ls.flatten) st
     else if br then .ok (ls.length,ls.flatten) st
     else if cl then if k==64 then .no 41 st.i else .ok (ls.length,ls.flatten) st
     else if zAe ere L st.i&&(ere|| !lead|| !seesAt L st.i [42])then .no 42 st.i
     else match zCG ere (ls.length==0) L (zAN ere L k) st with
      | .no e i=> .no e i
      | .ok (re,takes) t=>
       if takes&&zAe ere L t.i then
        match zEY ere L t with
        | .no e i=> .no e i
        | .ok d u=>zEe ere (k==64) L (zAN ere L k) f (ls.flatten++d::re) (ls.length+1) ((re.getD 0 Nd.zero).op==2) u
       else zEe ere (k==64) L (zAN ere L k) f (ls.flatten++re) (ls.length+1) ((re.getD 0 Nd.zero).op==2) t by rw[HS.out,zEe,←hbr,←hcl];rfl)
  clear HS hbr hcl
  go_upto_region 3 with fail
  go_cut [34] (fun x wc=>x= .bool (decide (st.i<L.length)&& !br&& !(!(k==64)&&cl))∧St4 w rb ere mb mo cap L k ev wc st ev' ls va vs)
  case first=>
   clear HS0
   by_cases hlt:st.i<L.length
   ·have hlt':(st.i:Int)<(L.length:Int):=by omega
    have HLT:=zPf (zPq hlt)
    clear hlt
    refine zAA (X:=none) 10 [] [0,1,2,3,4,5,6,7,8,9] (by kernel_rfl) (by kernel_rfl) rfl (fun _ _ _ _ _ h=>h) ?_
    simp only[zAI,zAC,zAD,zAB,List.getD_cons_zero,List.getD_cons_succ,List.drop_succ_cons,List.drop_zero]
    repeat (go_big_quiet_step (fail))
    refine wpQuiet_nil ?_
    go_wp2_with fail
    refine(zIg (S0.out.r.drew).v).mono ?_;rintro e w1 ⟨rfl,hb1⟩
    rw[HBR.out]
    have S1:=zPf ((S0.out.below (zPg _ _).drew).below hb1)
    clear hb1 c1 c2 c5 rbl
    have c5:=S1.out.r.c5
    rw[HO.out]at c5
    have rbl:=S1.out.r.lt
    cases br with
    |true=>
     go_wp2_with fail
     go_meet
     exact⟨by rw[HLT.out];rfl,S1.out⟩
    |false=>
     by_cases h64:k=64
     ·have ho0:o=0:=by have:=HO.out;omega
      have h0': ¬(0:Int)<(o:Int):=by omega
      subst ho0
      have HK:=zPf (show(k==64)=true by rw[h64];rfl)
      clear h64
      go_wp2_with fail
      go_meet
      exact⟨by rw[HLT.out,HK.out];rfl,S1.out⟩
     ·have h0:0<o:=by have:=HO.out;omega
      have h0':(0:Int)<(o:Int):=by omega
      have HK:=zPf (show(k==64)=false from zPl.2 h64)
      clear h64
      go_wp2_with fail
      refine(zB3 S1.out.r.v 41 rfl).mono ?_;rintro e w2 ⟨rfl,hb2⟩
      rw[HCL.out]
      have S2:=zPf (S1.out.below hb2)
      clear hb2
      go_wp2_with fail
      go_meet
      exact⟨by rw[HLT.out,HK.out];cases cl<;>rfl,S2.out⟩
   ·have hlt': ¬(st.i:Int)<(L.length:Int):=by omega
    have HLT:=zPf (zPr hlt)
    clear hlt
    refine zAA (X:=none) 10 [] [0,1,2,3,4,5,6,7,8,9] (by kernel_rfl) (by kernel_rfl) rfl (fun _ _ _ _ _ h=>h) ?_
    simp only[zAI,zAC,zAD,zAB,List.getD_cons_zero,List.getD_cons_succ,List.drop_succ_cons,List.drop_zero]
    repeat (go_big_quiet_step (fail))
    refine wpQuiet_nil ?_
    go_wp2_with fail
    go_meet
    exact⟨by rw[HLT.out];rfl,S0.out.below (zPg _ _).drew⟩
  case rest=>
   obtain⟨hx,hs1⟩:=hcut
   have S1:=zPf hs1
   clear hs1 S0 c1 c2 c5 rbl HBR
   cases hc:(decide (st.i<L.length)&& !br&& !(!(k==64)&&cl))with
   |false=>
    have HE:=zPf (show zDF ere (k==64) L (zAN ere L k) s= .ok (ls.length,ls.flatten) st by
     rw[HS0.out]
     by_cases h1:L.length≤st.i
     ·rw[if_pos h1]
     rw[if_neg h1]
     have h2:decide (st.i<L.length)=true:=zPq (by omega)
     rw[h2]at hc
     cases br with
     |true=>rfl
     |false=>
      cases cl with
      |true=>
       cases hk:(k==64)with
       |true=>rw[hk]at hc;cases hc
       |false=>rfl
      |false=>cases hk:(k==64)<;>(rw[hk]at hc;cases hc))
    rw[hc]at hx
    subst hx
    clear HS0 hc
    go_wp2_with fail
    go_ret
    exact⟨S1.out.b,by rw[HE.out];exact⟨_,ev',rfl,S1.out.r,S1.out.n,ls,vs,rfl,rfl,S1.out.a⟩⟩
   |true=>
    have hlt:st.i<L.length:=by
     simp only[Bool.and_eq_true,decide_eq_true_eq]at hc
     exact hc.1.1
    have hbr:br=false:=by
     simp only[Bool.and_eq_true,Bool.not_eq_true']at hc
     exact hc.1.2
    subst hbr
    have HS1:=zPf (show zDF ere (k==64) L (zAN ere L k) s=_ by rw[HS0.out,if_neg (by omega),if_neg (by decide)])
    have HTOP:=zPf (show cl=true→(k==64)=true from fun h=>by
     subst h
     cases hk:(k==64)with
     |true=>rfl
     |false=>rw[hk]at hc;simp at hc)
    rw[hc]at hx
    subst hx
    clear HS0 hc
    go_wp2_with fail
    refine(zB3 S1.out.r.v 41 rfl).mono ?_;rintro e w2 ⟨rfl,hb2⟩
    rw[HCL.out]
    have S2:=zPf (S1.out.below hb2)
    clear hb2 S1 HCL
    have c0:=S2.out.r.c0
    have c2:=S2.out.r.c2
    have rbl:=S2.out.r.lt
    cases cl with
    |true=>
     have HE:=zPf (show zDF ere (k==64) L (zAN ere L k) s= .no 41 st.i by rw[HS1.out,if_pos rfl,if_pos (HTOP.out rfl)])
     clear HS1 HTOP
     go_wp2_with fail
     refine(zA4 S2.out.r 41 st.i rfl rfl).mono ?_;rintro e wf ⟨rfl,hnt⟩
     have HNT:=zPf hnt
     clear hnt
     go_wp2_with fail
     go_ret
     exact zCl.no HE.out S2.out.b HNT.out (by decide)
    |false=>
     have HS2:=zPf (show zDF ere (k==64) L (zAN ere L k) s=_ by rw[HS1.out,if_neg (by decide)])
     clear HS1 HTOP
     obtain⟨rp,hrp⟩: ∃b,zAe ere L st.i=b:=⟨_,rfl⟩
     rw[hrp,zBH]at HS2
     have HRP:=zPf hrp
     clear hrp
     obtain⟨st42,h42⟩: ∃b,signAt L st.i 42=b:=⟨_,rfl⟩
     rw[h42]at HS2
     have H42:=zPf h42
     clear h42
     go_upto_region 7 with fail
     go_cut [59] (fun x wc=>x= .bool (rp&&(ere|| !lead|| !st42))∧St4 w rb ere mb mo cap L k ev wc st ev' ls va vs)
     case first=>
      clear HS2
      go_wp2_with fail
      refine(zEl S2.out.r.v).mono ?_;rintro e w3 ⟨rfl,hb3⟩
      rw[HRP.out]
      have S3:=zPf (S2.out.below hb3)
      clear hb3 c0 c2 rbl S2
      have c0:=S3.out.r.c0
      have rbl:=S3.out.r.lt
      cases rp with
      |false=>
       go_wp2_with fail
       go_meet
       exact⟨rfl,S3.out⟩
      |true=>
       cases ere with
       |true=>
        go_wp2_with fail
        go_meet
        exact⟨rfl,S3.out⟩
       |false=>
        cases lead with
        |false=>
         go_wp2_with fail
         go_meet
         exact⟨rfl,S3.out⟩
        |true=>
         go_wp2_with fail
         refine(zBm S3.out.r.v 0 rfl (by omega) 42 rfl).mono ?_;rintro e w4 ⟨rfl,hb4⟩
         rw[Nat.add_zero,H42.out]
         have S4:=zPf (S3.out.below hb4)
         clear hb4
         go_wp2_with fail
         go_meet
         exact⟨by cases st42<;>rfl,S4.out⟩
     case rest=>
      obtain⟨hx,hs4⟩:=hcut
      have S4:=zPf hs4
      clear hs4 S2 c0 c2 rbl HRP H42
      have c2:=S4.out.r.c2
      have rbl:=S4.out.r.lt
      cases hc2:(rp&&(ere|| !lead|| !st42))with
      |true=>
       have HE:=zPf (show zDF ere (k==64) L (zAN ere L k) s= .no 42 st.i by rw[HS2.out,if_pos hc2])
       rw[hc2]at hx
       subst hx
       clear HS2
       go_wp2_with fail
       refine(zA4 S4.out.r 42 st.i rfl rfl).mono ?_;rintro e wf ⟨rfl,hnt⟩
       have HNT:=zPf hnt
       clear hnt
       go_wp2_with fail
       go_ret
       exact zCl.no HE.out S4.out.b HNT.out (by decide)
      |false=>
       have HS3:=zPf (show zDF ere (k==64) L (zAN ere L k) s=_ by rw[HS2.out,if_neg (by rw[hc2];decide)])
       rw[hc2]at hx
       subst hx
       clear HS2 hc2
       obtain⟨oa,ca,hoa⟩:=zBJ S4.out.a.row
       have HOA:=zPf hoa
       have hmb:((ls.length:Int)==0)=(ls.length==0):=by rw[Bool.eq_iff_iff];simp
       have HMB:=zPf hmb
       obtain⟨fb,hfb⟩: ∃b,(ls.length==0)=b:=⟨_,rfl⟩
       have HFB:=zPf (show((ls.length:Int)==0)=fb by rw[hmb,hfb])
       rw[hfb]at HS3
       have hfbo:=HFB.out
       clear hmb HMB hfb HFB
       subst hoa
       go_wp2_with fail
       refine(hat.out _ _ _ fb S4.out.r hlt).mono ?_
       rintro e w7 ⟨hb7,hp7⟩
       have HBB:=zPf hb7
       cases hatm:zCG ere fb L (zAN ere L k) st with
       |no er p=>
        rw[hatm]at hp7
        obtain⟨rfl,her,q1,q2,q3⟩:=hp7
        have hne:((er:Int) !=0)=true:=by rw[bne_iff_ne];omega
        have HE:=zPf (show zDF ere (k==64) L (zAN ere L k) s= .no er p by rw[HS3.out,hatm])
        clear HS3 hatm hb7 hfbo
        have HBT:=zPf (S4.out.b.trans S4.out.n HBB.out)
        have HQF:=zPf (show er≠0∧rb<w7.heap.size∧w7.cell? ⟨rb,6,none⟩=some (.int .i64 er)∧w7.cell? ⟨rb,7,none⟩=some (.int .i64 p)from⟨her,q1,q2,q3⟩)
        clear her q3
        go_wp2_with fail
        go_ret
        exact⟨HBT.out,by rw[HE.out];exact⟨rfl,HQF.out⟩⟩
       |ok a t=>
        obtain⟨re,tk⟩:=a
        rw[hatm]at hp7
        have hkind:=zMg hatm hlt
        have hsm:=zEZ HU.out hlt (fun re t=>zDA HU.out k st re t) hatm
        have hadv:=zDy HU.out hlt (fun re t=>zB7 HU.out k st re t) hatm
        have HS4:=zPf (show zDF ere (k==64) L (zAN ere L k) s=_ by rw[HS3.out,hatm])
        simp only at HS4
        obtain⟨v7,ev7,rfl,hr7,hn7,u,rfl,hnd7⟩:=hp7
        have S7:=zPf (S4.out.step hb7 hr7 hn7 hrw)
        have HN7:=zPf (hnd7.mono S4.out.b.size)
        have c6:=hr7.c6
        have rbl:=hr7.lt
        have hlt1:=hadv.lt
        have hle1:=hadv.le
        obtain⟨hsm1,hsm2⟩:=hsm
        simp only at hsm1 hsm2
        clear hb7 HBB hr7 hn7 hnd7 hatm hadv HS3 S4 hfbo c2
        obtain⟨g8,cp8,hu8,g8l,g8c⟩:=HN7.out.head hsm1
        subst hu8
        obtain⟨ld2,hld2⟩: ∃b,((re.getD 0 Nd.zero).op==2)=b:=⟨_,rfl⟩
        rw[hld2]at HS4
        have hpos:(0:Int)<(re.length:Int):=by omega
        go_upto_region 13 with fail
        go_cut [4] (fun x wc=>x= .bool ld2∧w7=wc)
        case first=>
         clear HS4
         rcases hkind with ⟨rfl,hop⟩|⟨rfl,hop⟩
         ·have h5:ld2=false:=by rw[←hld2];exact zPl.2 hop
          subst h5
          clear hld2 hop
          go_wp2_with fail
          go_meet
          exact⟨rfl,rfl⟩
         ·rcases hop with rfl|rfl
          ·have h5:ld2=true:=by rw[←hld2];rfl
           subst h5
           rw[show([zE6].getD 0 Nd.zero).op=2 from rfl]at g8c
           clear hld2
           go_wp2_with fail
           go_meet
           exact⟨rfl,rfl⟩
          ·have h5:ld2=false:=by rw[←hld2];rfl
           subst h5
           rw[show([zMV].getD 0 Nd.zero).op=3 from rfl]at g8c
           clear hld2
           go_wp2_with fail
           go_meet
           exact⟨rfl,rfl⟩
        case rest=>
         obtain⟨rfl,rfl⟩:=hcut
         clear hkind hld2 g8c
         obtain⟨rp2,hrp2⟩: ∃b,zAe ere L t.i=b:=⟨_,rfl⟩
         rw[hrp2]at HS4
         have HRP2:=zPf hrp2
         clear hrp2
         go_upto_region 14 with fail
         go_cut [93] (fun x wc=>x= .bool (tk&&rp2)∧St4 w rb ere mb mo cap L k ev wc t ev7 ls (.slice oa ls.length ca) vs∧Nds wc w.heap.size (.slice (some ⟨g8,0,none⟩) re.length cp8) re)
         case first=>
          clear HS4
          cases tk with
          |false=>
           go_wp2_with fail
           go_meet
           exact⟨rfl,S7.out,HN7.out⟩
          |true=>
           go_wp2_with fail
           refine(zEl S7.out.r.v).mono ?_;rintro e w8 ⟨rfl,hb8⟩
           rw[HRP2.out]
           have S8:=zPf (S7.out.below hb8)
           have HN8:=zPf (HN7.out.below hb8)
           clear hb8
           go_wp2_with fail
           go_meet
           exact⟨by cases rp2<;>rfl,S8.out,HN8.out⟩
         case rest=>
          obtain⟨hx,hs8,hn8⟩:=hcut
          have S8:=zPf hs8
          have HN8:=zPf hn8
          clear hs8 hn8 S7 HN7 c6 rbl
          cases hc3:(tk&&rp2)with
          |false=>
           have HSZ:=zPf (show zDF ere (k==64) L (zAN ere L k) s=_ by rw[HS4.out,if_neg (by rw[hc3];decide)])
           rw[hc3]at hx
           subst hx
           clear HS4 hc3
           have hlsl:ls.length≤4096:=by omega
           go_wp2_with (at_builtin;refine zAt zPM rfl _ _ rfl w.heap.size (n:=ls.length) (m:=1) (news:=[.slice (some ⟨g8,0,none⟩) re.length cp8]) rfl (S8.out.a.row.alloc _) rfl (Src.new _ [.slice (some ⟨g8,0,none⟩) re.length cp8] _ _ _) rfl (by simp[Value.oneCell']) (by unfold maxLen;omega) (by omega) (by have:=S8.out.b.size;simp;omega) ?_)
           intro v9 w9 hown9 hgr9 _
           have HZ:=zPf (S8.out.push HN8.out hown9 hgr9 hrw)
           clear hown9 hgr9
           go_wp2_with fail
           go_roundg f
           case measure=>have:=HFG.out;omega
           case rel=>
            obtain⟨z1,z2,z3,z4⟩:=HZ.out
            exact⟨t,ls++[re],_,ld2,ev7,rfl,z1,z2,z3,z4,(show zDF ere (k==64) L (zAN ere L k) s=_ by rw[HSZ.out,List.flatten_append,zPz];simp),by omega,by rw[List.length_append,List.length_singleton];omega,by rw[zDu];omega⟩
          |true=>
           have HS5:=zPf (show zDF ere (k==64) L (zAN ere L k) s=_ by rw[HS4.out,if_pos hc3])
           have hrpt:zAe ere L t.i=true:=by
            simp only[Bool.and_eq_true]at hc3
            rw[HRP2.out];exact hc3.2
           rw[hc3]at hx
           subst hx
           clear HS4 hc3
           go_wp2_with fail
           refine(zKz S8.out.r hrpt).mono ?_
           rintro e w7 ⟨hb9,hp9⟩
           have HBB:=zPf hb9
           cases hdp:zEY ere L t with
           |no er p=>
            rw[hdp]at hp9
            obtain⟨rfl,her,q1,q2,q3⟩:=hp9
            have hne:((er:Int) !=0)=true:=by rw[bne_iff_ne];omega
            have HE:=zPf (show zDF ere (k==64) L (zAN ere L k) s= .no er p by rw[HS5.out,hdp])
            clear HS5 hdp hb9
            have HBT:=zPf (S8.out.b.trans S8.out.n HBB.out)
            have HQF:=zPf (show er≠0∧rb<w7.heap.size∧w7.cell? ⟨rb,6,none⟩=some (.int .i64 er)∧w7.cell? ⟨rb,7,none⟩=some (.int .i64 p)from⟨her,q1,q2,q3⟩)
            clear her q3
            go_wp2_with fail
            go_ret
            exact⟨HBT.out.alloc _,by rw[HE.out];exact⟨rfl,HQF.out.1,zPi HQF.out.2.1 (by simp),(zPj (a:=⟨rb,6,none⟩) (zPt _ _ HQF.out.2.1)).trans HQF.out.2.2.1,(zPj (a:=⟨rb,7,none⟩) (zPt _ _ HQF.out.2.1)).trans HQF.out.2.2.2⟩⟩
           |ok d u=>
            rw[hdp]at hp9
            have HS6:=zPf (show zDF ere (k==64) L (zAN ere L k) s=_ by rw[HS5.out,hdp])
            simp only at HS6
            have hdv:=zE1 hrpt hdp
            have hlt2:=hdv.lt
            have hle2:=hdv.le
            obtain⟨v9,ev9,rfl,hr9,hn9,rfl⟩:=hp9
            have S9:=zPf (S8.out.step hb9 hr9 hn9 hrw)
            have HN9:=zPf (HN8.out.part S8.out.r.own hb9 hrw)
            clear hb9 HBB hr9 hn9 hdp hdv HS5 S8 HN8
            have hal:Below w7.heap.size w7 (w7.alloc (.cells (zAO d) 78)):=(by repeat (first|exact zPg _ _|assumption|refine zP8 ?_|refine zP6 ?_ (by first|(simp;done)|(simp;omega)|omega) _|refine zP7 ?_ (by first|(simp;done)|(simp;omega)|omega) _))
            have hd:(w7.alloc (.cells (zAO d) 78)).heap[w7.heap.size]?=some (.cells (zAO d) 78 (0,0)):=zPs w7 _
            have SA:=zPf (S9.out.below hal)
            have HNA:=zPf (HN9.out.below hal)
            clear S9 HN9 hal
            obtain⟨dop,⟨x0,x1,x2,x3⟩,xn,xmin,xmax,xk⟩:=d
            obtain⟨d,hdd⟩: ∃d:Nd,(⟨dop,⟨x0,x1,x2,x3⟩,xn,xmin,xmax,xk⟩:Nd)=d:=⟨_,rfl⟩
            have HDD:=zPf hdd
            clear hdd
            simp only[zAO]at SA HNA hd
            go_upto_region 16 with fail
            revert SA HNA hd
            generalize w7.alloc (.cells #[.int .i8 dop,.int .u64 x0.toNat,.int .u64 x1.toNat,.int .u64 x2.toNat,.int .u64 x3.toNat,.int .i64 xn,.int .i64 xmin,.int .i64 xmax,.int .i64 xk] 78)=wA
            generalize w7.heap.size=Bd
            intro hd SA HNA
            have hdl:=(zPn.1 hd).1
            have hdc: ∀j,wA.cell? ⟨Bd,j,none⟩=_:=fun j=>zPu _ _ j _ _ (0,0) hd
            have x0':=hdc 0
            have x1':=hdc 1
            have x2':=hdc 2
            have x3':=hdc 3
            have x4':=hdc 4
            have x5':=hdc 5
            have x6':=hdc 6
            have x7':=hdc 7
            have x8':=hdc 8
            simp only[List.getElem?_toArray,List.getElem?_cons_zero,List.getElem?_cons_succ]at x0' x1' x2' x3' x4' x5' x6' x7' x8'
            have c6:=SA.out.r.c6
            have rbl:=SA.out.r.lt
            have HKO:=zPf (zKQ HNA.out)
            have SB:=zPf (SA.out.below ((zPg _ _).alloc (zPh _) (.cells #[.slice (some ⟨g8,0,none⟩) re.length cp8] 52)))
            clear hdc hd SA HNA
            go_wp2_with fail
            refine(zEm (ls:=[re]) ⟨dop,⟨x0,x1,x2,x3⟩,xn,xmin,xmax,xk⟩ (cap:=1) HKO.out (by simp) (by simp;omega)).mono ?_;rintro e wB ⟨⟨vB,rfl,hvB⟩,hbB⟩
            rw[HDD.out]at hvB
            have HSZ:=HS6.out
            rw[HDD.out]at HSZ
            have HSZ:=zPf HSZ
            have S8:=zPf (SB.out.below hbB)
            have hndB:=hvB.mono SB.out.b.size
            rw[show([re]:List (List Nd)).flatten=re by simp]at hndB
            obtain⟨rd,hrd⟩: ∃rd,d::re=rd:=⟨_,rfl⟩
            rw[hrd]at hndB HSZ
            have HRD:=zPf (show rd.length=re.length+1 by rw[←hrd];simp)
            have HN8:=zPf hndB
            clear hvB hbB HS6 HKO SB x0' x1' x2' x3' x4' x5' x6' x7' x8' hdl c6 rbl hndB hrd HDD
            obtain⟨ou,cu,hou⟩:=zBJ HN8.out
            subst hou
            have hlsl:ls.length≤4096:=by omega
            go_wp2_with (at_builtin;refine zAt zPM rfl _ _ rfl w.heap.size (n:=ls.length) (m:=1) (news:=[.slice ou rd.length cu]) rfl (S8.out.a.row.alloc _) rfl (Src.new _ [.slice ou rd.length cu] _ _ _) rfl (by simp[Value.oneCell']) (by unfold maxLen;omega) (by omega) (by have:=S8.out.b.size;simp;omega) ?_)
            intro v9 w9 hown9 hgr9 _
            have HZ:=zPf (S8.out.push HN8.out hown9 hgr9 hrw)
            clear hown9 hgr9
            go_wp2_with fail
            go_roundg f
            case measure=>have:=HFG.out;omega
            case rel=>
             have hrdl:=HRD.out
             obtain⟨z1,z2,z3,z4⟩:=HZ.out
             exact⟨u,ls++[rd],_,ld2,ev9,rfl,z1,z2,z3,z4,(show zDF ere (k==64) L (zAN ere L k) s=_ by rw[HSZ.out,List.flatten_append,zPz];simp),by omega,by rw[List.length_append,List.length_singleton];omega,by rw[zDu];omega⟩
end
end
section
open Go.RowKit
theorem zFB.single {w:World} {base:Nat} {v:Value} {l:List Nd} {vs:List Value} (h:zFB w base v [l] vs): ∃g cp u,v= .slice (some ⟨g,0,none⟩) 1 cp∧g<w.heap.size∧w.cell? ⟨g,0,none⟩=some u∧Nds w base u l:=by
 obtain⟨u,hu,hnd⟩:=h.el 0 (by simp)
 rcases h.row.2 with ⟨_,h0⟩|⟨g,cp,cur,rfl,hg1,hg2,_⟩
 ·simp at h0
 ·have hc2:=zP4 h.row 0 (by simp)
  rw[hu]at hc2
  exact⟨g,cp,u,rfl,(zPn.1 hg2).1,hc2,hnd⟩
section
variable {rb:Nat} {ere:Bool} {mb mo cap:Nat} {L:List Mk} {k:Nat}
theorem zFV (hrow:Hid (zNz rb ere mb mo cap L k)):zKC rb ere mb mo cap L k:=by
 intro w s ev hv
 have hlen:=hv.m.len
 have HU:=zPf hv.m.u
 have hrw:=hv.lt
 have hsi:=hv.at_
 have HV:=zPf hv
 clear hv
 go_enter Tryz.func106,Tryz.ntmps106
 go_wp2_with fail
 go_loopg [3,4] (L.length+1) (fun f va mv wr=> ∃(st:Rst) (ks:List (List Nd)) (vs:List Value) (ev':Value) (more:Bool),mv= .bool more∧RfS wr rb ere mb mo cap L st k ev'∧zAr rb ev.ownBlock w wr∧zAo w ev.ownBlock ev'.ownBlock∧zFB wr w.heap.size va ks vs∧ks.length+s.i≤st.i+1∧ks.flatten.length+4*s.i≤4*st.i+1∧
  Hid (if more=true then zBG ere L k s=zBf ere L (zDF ere (k==64) L (zAN ere L k)) f ks.flatten ks.length st∧L.length<f+st.i∧ks.length+s.i≤st.i∧ks.flatten.length+4*s.i≤4*st.i
   else zBG ere L k s= .ok (if 1<ks.length then zJL ks.length::ks.flatten else ks.flatten) st∧0<ks.length))
 case atStart=>exact⟨s,[],[],ev,true,rfl,HV.out,zAr.refl _ _ _,zAo.refl _ _,zFB.nil _ _,by simp,by simp,zPf (by rw[if_pos rfl];exact⟨rfl,by omega,by simp,by simp⟩)⟩
 case round=>
  obtain⟨st,ks,vs,ev',more,rfl,hr,hb,hn,hal,hkl,hkf,HM⟩:=hrel
  have hst:=hr.at_
  have S0:=zPf (show St4 w rb ere mb mo cap L k ev wr st ev' ks u3 vs from⟨hr,hb,hn,hal⟩)
  clear hr hb hn hal HV
  revert S0
  generalize u3=va
  intro S0
  cases more with
  |true=>
   have HM1:=HM.out
   rw[if_pos rfl]at HM1
   obtain⟨HS,hf,hm,hal4⟩:=HM1
   obtain⟨f,hfg⟩: ∃f',gk=f'+1:=⟨gk - 1,by omega⟩
   rw[hfg]at HS hf
   have HFG:=zPf hfg
   have HS0:=zPf HS
   clear hfg HS HM
   go_wp2_with fail
   refine(hrow.out _ _ _ S0.out.r).mono ?_
   rintro e w1 ⟨hb1,hp1⟩
   cases hro:zDF ere (k==64) L (zAN ere L k) st with
   |no er p=>
    rw[hro]at hp1
    obtain⟨rfl,her,q1,q2,q3⟩:=hp1
    have hne:((er:Int) !=0)=true:=by rw[bne_iff_ne];omega
    have HE:=zPf (show zBG ere L k s= .no er p by rw[HS0.out,zBf,hro])
    have HBT:=zPf (S0.out.b.trans S0.out.n hb1)
    have HQF:=zPf (show er≠0∧rb<w1.heap.size∧w1.cell? ⟨rb,6,none⟩=some (.int .i64 er)∧w1.cell? ⟨rb,7,none⟩=some (.int .i64 p)from⟨her,q1,q2,q3⟩)
    clear her q3 hb1 hro HS0
    go_wp2_with fail
    go_ret
    exact⟨HBT.out,by rw[HE.out];exact⟨rfl,HQF.out⟩⟩
   |ok pr t=>
    obtain⟨parts,re⟩:=pr
    have hri:=zCz HU.out k hst hro
    have hsm:=zFD HU.out k hst hro
    simp only at hsm
    rw[hro]at hp1
    obtain⟨v1,ev1,rfl,hr1,hn1,ls,vs1,hl1,hl2,hll⟩:=hp1
    simp only at hl1 hl2
    have hti:=hri.le
    have hlt1:=hri.lt
    have S1:=zPf (S0.out.step hb1 hr1 hn1 hrw)
    have HLL:=zPf (hll.mono S0.out.b.size)
    obtain⟨br,hbr⟩: ∃b,(ere&&seesAt L t.i [124])=b:=⟨_,rfl⟩
    have HBR:=zPf hbr
    have hbl:br=true→t.i+1≤L.length:=fun h=>by rw[h]at hbr;simp only[Bool.and_eq_true]at hbr;simpa using zBU (by decide) hbr.2
    have HS1:=zPf (show zBG ere L k s=if ls.length==0&&(br||decide (0<ks.length))then .no 45 t.i
      else if !br then .ok (if 1<ks.length+1 then zJL (ks.length+1)::(ks.flatten++(if ls.length=1 then ls.flatten else zFA ls.length::ls.flatten))else(ks.flatten++(if ls.length=1 then ls.flatten else zFA ls.length::ls.flatten))) t
      else zBf ere L (zDF ere (k==64) L (zAN ere L k)) f (ks.flatten++(if ls.length=1 then ls.flatten else zFA ls.length::ls.flatten)) (ks.length+1) ⟨t.i+1,t.ended⟩by rw[HS0.out,zBf,hro,←hbr,hl1,hl2])
    have hsmA:ls.flatten.length+4*st.i≤4*t.i:=by rw[hl2];exact hsm.1
    have hsmB:ls.length+st.i≤t.i:=by rw[hl1];exact hsm.2
    have c6:=hr1.c6
    have rbl:=hr1.lt
    clear hb1 hr1 hn1 hll hri hro HS0 hbr hl1 hl2 hsm S0
    go_wp2_with fail
    refine(zIg S1.out.r.v).mono ?_;rintro e w2 ⟨rfl,hb2⟩
    rw[HBR.out]
    have S2:=zPf (S1.out.below hb2)
    have HL2:=zPf (HLL.out.below hb2)
    clear hb2 S1 HLL c6 rbl
    obtain⟨oa,ca,hoa⟩:=zBJ S2.out.a.row
    obtain⟨ol,cl,hol⟩:=zBJ HL2.out.row
    subst hoa
    subst hol
    have hlsl:ls.length≤4096:=by omega
    have hksl:ks.length≤4096:=by omega
    go_upto_region 8 with fail
    go_cut [26] (fun x wd=>x= .bool (ls.length==0&&(br||decide (0<ks.length)))∧w2=wd)
    case first=>
     clear HS1
     by_cases hp0:ls.length=0
     ·have e0:((ls.length:Int)==0)=true:=by rw[hp0];rfl
      have HP0:=zPf (show(ls.length==0)=true by rw[hp0];rfl)
      clear hp0
      cases br with
      |true=>
       go_wp2_with fail
       go_meet
       exact⟨by rw[HP0.out];rfl,rfl⟩
      |false=>
       by_cases hk0:0<ks.length
       ·have hk0':(0:Int)<(ks.length:Int):=by omega
        have HK0:=zPf (zPq hk0)
        clear hk0
        go_wp2_with fail
        go_meet
        exact⟨by rw[HP0.out,HK0.out];rfl,rfl⟩
       ·have hk0': ¬(0:Int)<(ks.length:Int):=by omega
        have HK0:=zPf (zPr hk0)
        clear hk0
        go_wp2_with fail
        go_meet
        exact⟨by rw[HP0.out,HK0.out];rfl,rfl⟩
     ·have e0:((ls.length:Int)==0)=false:=zPl.2 (by omega)
      have HP0:=zPf (show(ls.length==0)=false from zPl.2 hp0)
      clear hp0
      go_wp2_with fail
      go_meet
      exact⟨by rw[HP0.out];rfl,rfl⟩
    case rest=>
     obtain⟨hx,rfl⟩:=hcut
     cases hbad:(ls.length==0&&(br||decide (0<ks.length)))with
     |true=>
      have HE:=zPf (show zBG ere L k s= .no 45 t.i by rw[HS1.out,if_pos hbad])
      rw[hbad]at hx
      subst hx
      have c2:=S2.out.r.c2
      have rbl:=S2.out.r.lt
      clear HS1 hbad
      go_wp2_with fail
      refine(zA4 S2.out.r 45 t.i rfl rfl).mono ?_;rintro e wf ⟨rfl,hnt⟩
      have HNT:=zPf hnt
      clear hnt
      go_wp2_with fail
      go_ret
      exact zCl.no HE.out S2.out.b HNT.out (by decide)
     |false=>
      have HS2:=HS1.out
      rw[if_neg (by rw[hbad];decide)]at HS2
      obtain⟨re',hre'⟩: ∃re',(if ls.length=1 then ls.flatten else zFA ls.length::ls.flatten)=re':=⟨_,rfl⟩
      rw[hre']at HS2
      have HS3:=zPf HS2
      have hrel2:re'.length≤ls.flatten.length+1:=by rw[←hre'];split<;>simp
      have HRL:=zPf (show re'.length+4*st.i≤4*t.i+1 by omega)
      have hjc:=zId HL2.out S2.out.b.size (by omega) (by omega)
      rw[hre']at hjc
      have HJC:=zPf hjc
      rw[hbad]at hx
      subst hx
      clear HS1 HS2 hbad hre' hjc hrel2 HL2
      go_wp2_with fail
      refine HJC.out.mono ?_;rintro e w3 ⟨⟨uj,rfl,huj⟩,hb3⟩
      have S3:=zPf (S2.out.below hb3)
      obtain⟨ou,cu,hou⟩:=zBJ huj
      subst hou
      have HN3:=zPf huj
      clear hb3 huj S2 HJC
      go_wp2_with (at_builtin;refine zAt zPM rfl _ _ rfl w.heap.size (n:=ks.length) (m:=1) (news:=[.slice ou re'.length cu]) rfl (S3.out.a.row.alloc _) rfl (Src.new _ [.slice ou re'.length cu] _ _ _) rfl (by simp[Value.oneCell']) (by unfold maxLen;omega) (by omega) (by have:=S3.out.b.size;simp;omega) ?_)
      intro v9 w9 hown9 hgr9 _
      have S9:=zPf (S3.out.push HN3.out hown9 hgr9 hrw)
      clear hown9 hgr9 S3 HN3
      have c2:=S9.out.r.c2
      have f2:=S9.out.r.fz 2
      have rbl:=S9.out.r.lt
      cases br with
      |true=>
       have hbl2:=hbl rfl
       have hrZ:=S9.out.r.setAt (j:=t.i+1) hbl2
       have hbZ:=S9.out.b.store 2 (.int .i64 ((t.i+1:Nat):Int))
       have haZ:=S9.out.a.block (w':=w9.setCell ⟨rb,2,none⟩ (.int .i64 ((t.i+1:Nat):Int))) (fun g hg _=>zPp _ _ _ _ (by show g≠rb;omega))
       rw[Int.natCast_add,show((1:Nat):Int)=1 from rfl]at hrZ hbZ haZ
       have HZ:=zPf (show St4 w rb ere mb mo cap L k ev (w9.setCell ⟨rb,2,none⟩ (.int .i64 ((t.i:Int)+1))) ⟨t.i+1,t.ended⟩ ev1 (ks++[re']) v9 _ from⟨hrZ,hbZ,S9.out.n,haZ⟩)
       have HS4:=zPf (show zBG ere L k s=zBf ere L (zDF ere (k==64) L (zAN ere L k)) f (ks++[re']).flatten (ks++[re']).length ⟨t.i+1,t.ended⟩by rw[HS3.out,List.flatten_append,zPz];simp)
       clear hrZ hbZ haZ HS3 S9
       go_wp2_with fail
       go_roundg f
       case measure=>have:=HFG.out;omega
       case rel=>
        obtain⟨z1,z2,z3,z4⟩:=HZ.out
        have:=HRL.out
        exact⟨⟨t.i+1,t.ended⟩,ks++[re'],_,ev1,true,rfl,z1,z2,z3,z4,by rw[zPz,List.length_singleton];show _≤t.i+1+1;omega,by rw[zDu];show _≤4*(t.i+1)+1;omega,zPf (by rw[if_pos rfl];exact⟨HS4.out,by show _<f+(t.i+1);omega,by rw[zPz,List.length_singleton];show _≤t.i+1;omega,by rw[zDu];show _≤4*(t.i+1);omega⟩)⟩
      |false=>
       have HS4:=zPf (show zBG ere L k s= .ok (if 1<(ks++[re']).length then zJL (ks++[re']).length::(ks++[re']).flatten else(ks++[re']).flatten) t by rw[HS3.out,List.flatten_append,zPz];simp)
       clear HS3 c2 f2 rbl
       go_wp2_with fail
       go_roundg 0
       case measure=>have:=HFG.out;omega
       case rel=>
        obtain⟨z1,z2,z3,z4⟩:=S9.out
        have:=HRL.out
        exact⟨t,ks++[re'],_,ev1,false,rfl,z1,z2,z3,z4,by rw[zPz,List.length_singleton];omega,by rw[zDu];omega,zPf (by rw[if_neg (by decide)];exact⟨HS4.out,by simp⟩)⟩
  |false=>
   have HM1:=HM.out
   rw[if_neg (by decide)]at HM1
   obtain⟨HS,hk0⟩:=HM1
   have HS0:=zPf HS
   clear HS HM
   have hksl:ks.length≤4097:=by omega
   by_cases hk1:ks.length=1
   ·obtain⟨l,rfl⟩: ∃l,ks=[l]:=by
     match ks,hk1 with
     |[l],_=>exact⟨l,rfl⟩
    obtain⟨g,cp,u,hva,hgl,hcu,hnd⟩:=S0.out.a.single
    have HE:=zPf (show zBG ere L k s= .ok l st by rw[HS0.out];simp)
    have HN:=zPf hnd
    subst hva
    clear hk1 hnd HS0
    go_wp2_with fail
    go_ret
    exact⟨S0.out.b,by rw[HE.out];exact⟨_,ev',rfl,S0.out.r,S0.out.n,HN.out⟩⟩
   ·have hk1':((ks.length:Int)==1)=false:=zPl.2 (by omega)
    have HE:=zPf (show zBG ere L k s= .ok (zJL ks.length::ks.flatten) st by rw[HS0.out,if_pos (by omega)])
    obtain⟨oa,ca,hva,hkv⟩:=S0.out.a.kids
    have HK:=zPf hkv
    have hfl:ks.flatten.length≤80000:=by omega
    clear hk1 hkv HS0
    subst hva
    go_wp2_with fail
    refine(zEm (zJL ks.length) (cap:=ca) HK.out (by omega) (by omega)).mono ?_;rintro e w1 ⟨⟨u,rfl,hu⟩,hb1⟩
    have S1:=zPf (S0.out.below hb1)
    have HN:=zPf (hu.mono S0.out.b.size)
    clear hu hb1
    go_wp2_with fail
    go_ret
    exact⟨S1.out.b,by rw[HE.out];exact⟨_,ev',rfl,S1.out.r,S1.out.n,HN.out⟩⟩
theorem zHQ: ∀k,k≤64→zII rb ere mb mo cap L k
 |0,_=>zJo
 |k+1,h=>zJp (by omega) (zPf (zFV (zPf (zHO (zPf (zHS (zPf (zHQ k (by omega)))))))))
theorem zKt (k:Nat) (h:k≤64):zKC rb ere mb mo cap L k:=zFV (zPf (zHO (zPf (zHS (zPf (zHQ k h))))))
end
theorem zNU {x:Nd} (h:zAl x=true):1≤x.op∧x.op≤8:=by
 unfold zAl at h
 simp only[Bool.and_eq_true,decide_eq_true_eq]at h
 exact h.1.1.1.1
theorem zJd {ere:Bool} {L:List Mk} {oa:Option Addr} {cap:Nat} {w:World} (hm:0<L.length→L.length≤4096→ ∃mb mo,oa=some ⟨mb,mo,none⟩∧zE8 w mb mo L):
  Calls Tryz.prog 55 #[.bool ere,.slice oa L.length cap] w fun e w'=>zN1 w (zA5 ere L) e w'∧Below w.heap.size w w':=by
 by_cases hL:4096<L.length
 ·have hL':(4096:Int)<(L.length:Int):=by omega
  have HE:=zPf (show zA5 ere L= .error (2,4096)by rw[zA5,if_pos hL])
  clear hm hL
  go_enter Tryz.func55,Tryz.ntmps55
  go_wp2_with fail
  go_ret3
  exact⟨by rw[HE.out];rfl,zPg _ _⟩
 have hL': ¬(4096:Int)<(L.length:Int):=by omega
 by_cases h0:L.length=0
 ·have h0':((L.length:Int)==0)=true:=by rw[h0];rfl
  have HE:=zPf (show zA5 ere L= .error (45,0)by rw[zA5,if_neg hL,if_pos h0])
  clear hm hL h0
  go_enter Tryz.func55,Tryz.ntmps55
  go_wp2_with fail
  go_ret3
  exact⟨by rw[HE.out];rfl,zPg _ _⟩
 have h0':((L.length:Int)==0)=false:=zPl.2 (by omega)
 have HP:=zPf (show zA5 ere L=_ by rw[zA5,if_neg hL,if_neg h0])
 obtain⟨mb,mo,rfl,hmk⟩:=hm (by omega) (by omega)
 have HM:=zPf hmk
 have HL:=zPf (show L.length≤4096 by omega)
 clear hm hL h0 hmk
 go_enter Tryz.func55,Tryz.ntmps55
 go_upto_region 6 with fail
 have hal:Below w.heap.size w (w.alloc (.cells #[.bool ere,.slice (some ⟨mb,mo,none⟩) L.length cap,.int .i64 0,.int .i64 0,.slice none 0 0,.int .i64 0,.int .i64 0,.int .i64 0] 159)):=(by repeat (first|exact zPg _ _|assumption|refine zP8 ?_|refine zP6 ?_ (by first|(simp;done)|(simp;omega)|omega) _|refine zP7 ?_ (by first|(simp;done)|(simp;omega)|omega) _))
 have hrb:(w.alloc (.cells #[.bool ere,.slice (some ⟨mb,mo,none⟩) L.length cap,.int .i64 0,.int .i64 0,.slice none 0 0,.int .i64 0,.int .i64 0,.int .i64 0] 159)).heap[w.heap.size]?=some (.cells #[.bool ere,.slice (some ⟨mb,mo,none⟩) L.length cap,.int .i64 0,.int .i64 0,.slice none 0 0,.int .i64 0,.int .i64 0,.int .i64 0] 159 (0,0)):=zPs w _
 revert hal hrb
 generalize w.alloc (.cells #[.bool ere,.slice (some ⟨mb,mo,none⟩) L.length cap,.int .i64 0,.int .i64 0,.slice none 0 0,.int .i64 0,.int .i64 0,.int .i64 0] 159)=w1
 intro hal hrb
 have hc: ∀j,w1.cell? ⟨w.heap.size,j,none⟩=_:=fun j=>zPu _ _ j _ _ (0,0) hrb
 have hr:RfS w1 w.heap.size ere mb mo cap L ⟨0,[]⟩ 64 (.slice none 0 0):=
  ⟨(zPn.1 hrb).1,hc 0,hc 1,hc 2,hc 3,hc 4,hc 5,hc 6,hc 7,zAE hrb,zPv _ _ _ _,HM.out.below hal,HM.out.lt,Nat.zero_le _,Nat.zero_le _,zPh _⟩
 have HB1:=zPf hal
 have HR1:=zPf hr
 clear hal hrb hc hr
 go_wp2_with fail
 refine(zKt 64 (zPh _) _ _ _ HR1.out).mono ?_
 rintro e w2 ⟨hb2,hp2⟩
 have HB2:=zPf (show Below w.heap.size w w2 from⟨hb2.os.trans HB1.out.os,hb2.tape.trans HB1.out.tape,hb2.output.trans HB1.out.output,zP2 HB1.out.size hb2.size,fun i hi=>(hb2.block i (zPi hi HB1.out.size) (by omega) (by simp[Value.ownBlock])).trans (HB1.out.block i hi)⟩)
 cases hsd:zBG ere L 64 ⟨0,[]⟩with
 |no er p=>
  rw[hsd]at hp2
  obtain⟨rfl,her,q1,q2,q3⟩:=hp2
  have hne:((er:Int) !=0)=true:=by rw[bne_iff_ne];omega
  have HE:=zPf (show zA5 ere L= .error (er,p)by rw[HP.out,hsd])
  clear hb2 hsd her HP
  go_wp2_with fail
  refine zAA (X:=none) 11 [] [0,1,2,3,4,5,6,7,8,9,10] (by kernel_rfl) (by kernel_rfl) rfl (fun _ _ _ _ _ h=>h) ?_
  simp only[zAI,zAC,zAD,zAB,List.getD_cons_zero,List.getD_cons_succ,List.drop_succ_cons,List.drop_nil]
  repeat (go_big_quiet_step (fail))
  refine wpQuiet_nil ?_
  go_wp2_with fail
  go_ret3
  exact⟨by rw[HE.out];rfl,HB2.out.drew⟩
 |ok re t=>
  rw[hsd]at hp2
  obtain⟨v,ev2,rfl,hr2,hn2,hnd2⟩:=hp2
  have htop:=zCm hsd
  have hgood:=zDQ re _ _ _ _ _ htop
  have hok:=zEj (fun p hp=>hgood.2.2 p (Nat.zero_le _) hp)
  have hpos:0<re.length:=hgood.1
  have hsm:=zCT HM.out.u 64 (by simp) hsd
  have hri:=(zCv HM.out.u 64 (by simp) hsd).le
  obtain⟨wt,hwt⟩:=zBa re _ _ _ _ _ _ htop
  have hops: ∀x∈re,-128≤x.op∧x.op≤127:=fun x hx=>by
   obtain⟨p,hp⟩:=List.mem_iff_getElem?.1 hx
   obtain⟨y,hy,hg,_⟩:=hgood.2.2 p (Nat.zero_le _) (zPm.1 hp).1
   rw[hp]at hy
   cases hy
   have:=zNU hg
   omega
  obtain⟨g,cp,rfl,hg1,hnd⟩:=hnd2.at hpos (by have:=HL.out;simp only at hsm;omega) hok.2
  have HF:=zPf (show zA5 ere L=if 16384<wt then .error (48,L.length)else .ok re by rw[HP.out,hsd];simp only[hwt])
  have HN2:=zPf (hnd2.mono HB1.out.size)
  have HWC:=zPf (zHM (cap:=cp) hok.1 hops 260 0 (wt,re.length) w2 0 rfl hnd hwt)
  have c6:=hr2.c6
  have rbl:=hr2.lt
  clear hb2 hsd HP hr2 hn2 hnd2 htop hgood hok hsm hri hwt hops hnd
  go_wp2_with fail
  refine HWC.out.mono ?_;rintro e w3 ⟨rfl,hb3⟩
  have HB3:=zPf (HB2.out.trans (hb3.mono HB2.out.size))
  have HN3:=zPf (HN2.out.below hb3)
  clear hb3 HN2
  by_cases hq:16384<wt
  ·have HE:=zPf (show zA5 ere L= .error (48,L.length)by rw[HF.out,if_pos hq])
   go_wp2_with fail
   go_ret3
   exact⟨by rw[HE.out];rfl,HB3.out⟩
  ·have HE:=zPf (show zA5 ere L= .ok re by rw[HF.out,if_neg hq])
   go_wp2_with fail
   go_ret3
   exact⟨by rw[HE.out];exact⟨_,rfl,HN3.out⟩,HB3.out⟩
end
end Go.Proofs.YtfjbnpdffillbaaGreatDoor
