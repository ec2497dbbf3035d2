/- Parts: Cd Cb Cc. -/
import Derived.Test.YtfjbnpdffillbaaGreatDoorQ27
import Derived.Test.YtfjbnpdffillbaaGreatDoorQ6
import Derived.Test.YtfjbnpdffillbaaGreatDoorQ19
import Derived.Test.YtfjbnpdffillbaaGreatDoorQ28
import Derived.Test.YtfjbnpdffillbaaGreatDoorQ0
import Derived.Test.YtfjbnpdffillbaaGreatDoorQ42
import Derived.Test.YtfjbnpdffillbaaGreatDoorQ26
import Derived.Deep.DeepCutAuto
import Derived.Deep.LoopGhost
namespace Go.Proofs.YtfjbnpdffillbaaGreatDoor
open Go.RowKit
def saidAt (w:World) (B:Nat) (v:Value) (no:Bool):Prop:=w.heap[B]?=some (.cells #[v,.bool no] 222 (0,0))
theorem saidAt.lt {w:World} {B:Nat} {v:Value} {no:Bool} (h:saidAt w B v no):B<w.heap.size:=(Array.getElem?_eq_some_iff.1 h).1
theorem saidAt.below {w w':World} {B:Nat} {v:Value} {no:Bool} (h:saidAt w B v no) (hb:Below w.heap.size w w'):saidAt w' B v no:=(hb.block B h.lt).trans h
theorem saidAt.c0 {w:World} {B:Nat} {v:Value} {no:Bool} (h:saidAt w B v no):w.cell? ⟨B,0,none⟩=some v:=cell_of_row w B 0 _ _ _ h
theorem saidAt.c1 {w:World} {B:Nat} {v:Value} {no:Bool} (h:saidAt w B v no):w.cell? ⟨B,1,none⟩=some (.bool no):=cell_of_row w B 1 _ _ _ h
theorem saidAt.fz {w:World} {B:Nat} {v:Value} {no:Bool} (h:saidAt w B v no) (j:Nat):w.frozen? ⟨B,j,none⟩=false:=by
 simp only[World.frozen?]
 rw[show w.heap[(⟨B,j,none⟩:Addr).block]?=w.heap[B]? from rfl,h]
 simp
theorem saidAt.put {w:World} {B:Nat} {v:Value} {no:Bool} (h:saidAt w B v no) (u:Value):saidAt (w.setCell ⟨B,0,none⟩ u) B u no:=by
 unfold saidAt at h ⊢
 simp only[World.setCell,Array.getElem?_modify,h,if_true,Option.map_some]
 rfl
theorem saidAt.other {w:World} {B C:Nat} {v u:Value} {no:Bool} {j:Nat} (h:saidAt w B v no) (hne:B≠C):saidAt (w.setCell ⟨C,j,none⟩ u) B v no:=(Below.heap_setCell _ _ _ _ (by show B≠C;exact hne)).trans h
def SaidR (w:World) (base:Nat) (o:Option (List Nat)) (val:Value):Prop:=match o with
 |none=>val= .agg #[.slice none 0 0,.bool true]
 |some s=> ∃oa c,val= .agg #[.slice oa s.length c,.bool false]∧w.ownsRow base 131 2 (.slice oa s.length c) s.length (mksC (s.map mk))
theorem SaidR.below {w w':World} {base:Nat} {o:Option (List Nat)} {val:Value} (h:SaidR w base o val) (hb:Below w.heap.size w w'):SaidR w' base o val:=by
 cases o with
 |none=>exact h
 |some s=>obtain⟨oa,c,h1,h2⟩:=h;exact⟨oa,c,h1,row_of_block h2 fun g hg=>hb.block g (h2.lt g hg).2⟩
theorem SaidR.mono {w:World} {base b':Nat} {o:Option (List Nat)} {val:Value} (h:SaidR w base o val) (hb:b'≤base):SaidR w b' o val:=by
 cases o with
 |none=>exact h
 |some s=>obtain⟨oa,c,h1,h2⟩:=h;exact⟨oa,c,h1,ownsRow_mono h2 hb⟩
theorem SaidR.of_mks {w:World} {base:Nat} {s:List Nat} {v:Value} (h:Mks w base v (s.map mk)):SaidR w base (some s) (.agg #[v,.bool false]):=by
 obtain⟨o,c,rfl⟩:=own_form h
 unfold Mks at h
 rw[List.length_map]at h ⊢
 exact⟨o,c,rfl,h⟩
theorem none_call {w:World} :Calls Tryz.prog 176 #[] w fun e w'=>e= .returned (.agg #[.slice none 0 0,.bool true])∧Below w.heap.size w w':=by
 go_enter Tryz.func176,Tryz.ntmps176
 go_wp2_with fail
 exact bodyPost_ret (v:= .agg #[.slice none 0 0,.bool true]) (by simp[results,Tryz.results176,go_sem]) rfl ⟨rfl,(by repeat (first|exact Below.refl _ _|assumption|refine Below.drew ?_|refine Below.alloc ?_ (by first|(simp;done)|(simp;omega)|omega) _|refine Below.setCell ?_ (by first|(simp;done)|(simp;omega)|omega) _))⟩
set_option maxRecDepth 100000 in
set_option maxHeartbeats 3200000 in
theorem rsays_call (s:ByteArray) (hs:s.size≤4096) {w:World} :
  Calls Tryz.prog 179 #[.string s] w fun e w'=>(∃v,e= .returned v∧SaidR w' w.heap.size (some (bytesOf s)) v)∧Below w.heap.size w w':=by
 go_enter Tryz.func179,Tryz.ntmps179
 go_upto_region 2 with fail
 have hR:saidAt ((w.alloc (.cells #[.slice none 0 0,.bool false] 222)).alloc (.cells #[.slice none 0 0,.bool false] 222)) w.heap.size (.slice none 0 0) false:=(heap_alloc_old _ _ (by simp)).trans (heap_alloc_new _ _)
 have hX:saidAt ((w.alloc (.cells #[.slice none 0 0,.bool false] 222)).alloc (.cells #[.slice none 0 0,.bool false] 222)) (w.heap.size+1) (.slice none 0 0) false:=made_at (by simp)
 have hB:Below w.heap.size w ((w.alloc (.cells #[.slice none 0 0,.bool false] 222)).alloc (.cells #[.slice none 0 0,.bool false] 222)):=(by repeat (first|exact Below.refl _ _|assumption|refine Below.drew ?_|refine Below.alloc ?_ (by first|(simp;done)|(simp;omega)|omega) _|refine Below.setCell ?_ (by first|(simp;done)|(simp;omega)|omega) _))
 revert hR hX hB
 generalize (w.alloc (.cells #[.slice none 0 0,.bool false] 222)).alloc (.cells #[.slice none 0 0,.bool false] 222)=wx
 intro hR hX hB
 have HR:=Lib.hid hR
 have HX:=Lib.hid hX
 have HB:=Lib.hid hB
 clear hR hX hB
 go_wp2_with fail
 go_loopg [4] s.size (fun n iv wr=> ∃(d:Nat) (oa:Option Addr) (c:Nat),iv= .int .i64 (d:Nat)∧n=s.size - d∧d≤s.size∧saidAt wr w.heap.size (.slice none 0 0) false∧saidAt wr (w.heap.size+1) (.slice oa d c) false∧Mks wr (w.heap.size+2) (.slice oa d c) ((textM s).take d)∧Below w.heap.size w wr)
 case atStart=>exact⟨0,none,0,rfl,by omega,by omega,HR.out,HX.out,Mks.nil _ _,HB.out⟩
 case round=>
  obtain⟨d,oa,c,rfl,hg,hd,hR,hX,hm,hb⟩:=hrel
  have HG:=Lib.hid hg
  have HR:=Lib.hid hR
  have HX:=Lib.hid hX
  have HM:=Lib.hid hm
  have HB:=Lib.hid hb
  clear hg hR hX hb
  by_cases hlt:d<s.size
  ·have hlt':(d:Int)<(s.size:Int):=by omega
   have HT:=Lib.hid (textM_take s d hlt)
   have hln:((textM s).take d).length=d:=by rw[List.length_take,textM_length];omega
   have HL:=Lib.hid hln
   have c0:=HX.out.c0
   have xl:=HX.out.lt
   have HW:Below wr.heap.size wr (wr.alloc (.cells #[.int .u8 (s[d].toNat:Nat),.bool false] 131)).drew:=((Below.refl _ wr).alloc (Nat.le_refl _) _).drew
   have HM1:=Lib.hid (HM.out.below HW)
   have HX1:=Lib.hid (HX.out.below HW)
   have HR1:=Lib.hid (HR.out.below HW)
   have HB1:=Lib.hid (HB.out.trans (HW.mono HB.out.size))
   clear hm hln HW
   go_wp2_with fail
   refine wp_region_segs (X:=none) 7 [([0,1,2,3,4,5],6)] [] (by kernel_rfl) (by kernel_rfl) rfl (fun _ _ _ _ _ h=>h) ?_
   simp only[wpSegs,pickSegs_nil,pickSegs_cons,pickOps_nil,pickOps_cons,List.getD_cons_zero,List.getD_cons_succ,List.drop_succ_cons,List.drop_zero]
   repeat (go_big_quiet_step (fail))
   refine wpQuiet_nil ?_
   go_wp2_with fail
   refine⟨keeps_drew (keeps_alloc _ _),?_⟩
   repeat (go_big_quiet_step (fail))
   refine wpQuiet_nil ?_
   go_wp2_with (at_builtin;refine wpList_mks rfl _ _ rfl (w.heap.size+2) rfl HM1.out (ys:=[mk s[d].toNat]) rfl (Src.new wr (mksC [mk s[d].toNat]) _ _ _) (by rw[HL.out];show _+1≤_;omega) (by have:=xl;show w.heap.size+2≤(wr.alloc _).heap.size;simp;omega) ?_)
   intro v2 w2 hm2 hgr2 hblk2
   have HM2:=Lib.hid (show Mks w2 (w.heap.size+2) v2 ((textM s).take (d+1))by rw[HT.out];exact hm2)
   have hne: ∀b,b<w.heap.size+2→some b≠(Value.slice oa d c).ownBlock:=fun b hb e=>by have:=(HM1.out.lt b e.symm).1;omega
   have HX2:=Lib.hid (show saidAt w2 (w.heap.size+1) (.slice oa d c) false from(hgr2.block _ HX1.out.lt (hne _ (by omega))).trans HX1.out)
   have HR2:=Lib.hid (show saidAt w2 w.heap.size (.slice none 0 0) false from(hgr2.block _ HR1.out.lt (hne _ (by omega))).trans HR1.out)
   have HB2:=Lib.hid (HB1.out.grown hgr2 HB1.out.size (fun k hk=>by have:=(HM1.out.lt k hk).1;omega))
   obtain⟨o2,c2,rfl⟩: ∃o2 c2,v2= .slice o2 (d+1) c2:=by
    obtain⟨o2,c2,h⟩:=HM2.out.form
    exact⟨o2,c2,by rw[h,HT.out];simp[HL.out]⟩
   clear hm2 hgr2 hblk2 hne c0 xl
   have c0:=HX2.out.c0
   have xl:=HX2.out.lt
   have f0:=HX2.out.fz 0
   go_wp2_with fail
   go_roundg (s.size - (d+1))
   case measure=>have:=HG.out;omega
   case rel=>exact⟨d+1,o2,c2,by go_num,rfl,by omega,HR2.out.other (by omega),HX2.out.put _,HM2.out.block fun g hg=>Below.heap_setCell _ _ _ _ (by show g≠w.heap.size+1;have:=(HM2.out.lt g hg).1;omega),HB2.out.setCell (p:=⟨w.heap.size+1,0,none⟩) (by show w.heap.size≤w.heap.size+1;omega) _⟩
  ·have hlt': ¬(d:Int)<(s.size:Int):=by omega
   have hde:d=s.size:=by omega
   subst hde
   have c0:=HX.out.c0
   have c1:=HX.out.c1
   have xl:=HX.out.lt
   have rl:=HR.out.lt
   have y0:=HR.out.c0
   have y1:=HR.out.c1
   have f0:=HR.out.fz 0
   have f1:=HR.out.fz 1
   have HMM:=Lib.hid hm
   clear hm
   go_wp2_with fail
   refine bodyPost_ret (v:= .agg #[.slice oa s.size c,.bool false]) (by simp[results,Tryz.results179,go_sem, *]) rfl ⟨⟨_,rfl,⟨oa,c,by rw[bytesOf_length],?_⟩⟩,?_⟩
   ·have h:=HMM.out
    have hbl:(textM s).take s.size=textM s:=by rw[←textM_length,List.take_length]
    rw[hbl]at h
    have h2:=ownsRow_mono (base':=w.heap.size) h (by omega)
    rw[textM_length]at h2
    rw[bytesOf_length]
    refine row_of_block h2 fun g hg=>?_
    have hgb:=(HMM.out.lt g hg).1
    exact(Below.heap_setCell _ _ _ _ (by show g≠w.heap.size;omega)).trans (Below.heap_setCell _ _ _ _ (by show g≠w.heap.size;omega))
   ·exact(HB.out.setCell (p:=⟨w.heap.size,0,none⟩) (Nat.le_refl _) _).setCell (p:=⟨w.heap.size,1,none⟩) (Nat.le_refl _) _
def catS:Option (List Nat)→Option (List Nat)→Option (List Nat)
 |some s,some t=>if s.length+t.length≤4096 then some (s++t)else none
 |_,_=>none
def saidNo:Option (List Nat)→Bool
 |none=>true
 |some _=>false
theorem SaidR.form {w:World} {base:Nat} {o:Option (List Nat)} {val:Value} (h:SaidR w base o val): ∃oa c,val= .agg #[.slice oa (o.getD []).length c,.bool (saidNo o)]∧w.ownsRow base 131 2 (.slice oa (o.getD []).length c) (o.getD []).length (mksC ((o.getD []).map mk)):=by
 cases o with
 |none=>exact⟨none,0,h,World.ownsRow_nil _ _ _ _⟩
 |some s=>exact h
theorem SaidR.none_ {w:World} {base:Nat} :SaidR w base none (.agg #[.slice none 0 0,.bool true]):=rfl
set_option maxRecDepth 100000 in
set_option maxHeartbeats 3200000 in
theorem then_parts {w:World} {oa ob:Option Addr} {na nb ca cb:Nat} {noa nob:Bool} {s t:List Nat} {ba bb:Nat} (hna:na=s.length) (hnb:nb=t.length) (ra:w.ownsRow ba 131 2 (.slice oa na ca) na (mksC (s.map mk))) (rb:w.ownsRow bb 131 2 (.slice ob nb cb) nb (mksC (t.map mk))) (la:na≤100000) (lb:nb≤100000):
  Calls Tryz.prog 178 #[.agg #[.slice oa na ca,.bool noa],.agg #[.slice ob nb cb,.bool nob]] w fun e w'=>(∃v,e= .returned v∧SaidR w' w.heap.size (if noa||nob then none else if na+nb≤4096 then some (s++t)else none) v)∧Below w.heap.size w w':=by
 have HRA:=Lib.hid ra
 have HRB:=Lib.hid rb
 have HNA:=Lib.hid hna
 have HNB:=Lib.hid hnb
 have HNO:Hid (∀W:World,noa=true∨nob=true∨ ¬na+nb≤4096→(if noa||nob then none else if na+nb≤4096 then some (s++t)else none)=(none:Option (List Nat))):=fun _ h=>by
  rcases h with rfl|rfl|h
  ·rfl
  ·simp
  ·rw[if_neg h];split<;>rfl
 have HYES:Hid (¬(noa=true∨nob=true∨ ¬na+nb≤4096)→(if noa||nob then none else if na+nb≤4096 then some (s++t)else none)=some (s++t)):=fun h=>by
  have h1:noa=false:=by cases noa<;>simp_all
  have h2:nob=false:=by cases nob<;>simp_all
  rw[h1,h2,if_neg (by simp),if_pos (by omega)]
 generalize (if noa||nob then none else if na+nb≤4096 then some (s++t)else none)=res at HNO HYES ⊢
 clear ra rb hna hnb
 go_enter Tryz.func178,Tryz.ntmps178
 go_upto_region 1 with fail
 have hA:saidAt (((w.alloc (.cells #[.slice oa na ca,.bool noa] 222)).alloc (.cells #[.slice ob nb cb,.bool nob] 222)).alloc (.cells #[.slice none 0 0,.bool false] 222)) w.heap.size (.slice oa na ca) noa:=(heap_alloc_old _ _ (by simp;omega)).trans ((heap_alloc_old _ _ (by simp)).trans (heap_alloc_new _ _))
 have hB:saidAt (((w.alloc (.cells #[.slice oa na ca,.bool noa] 222)).alloc (.cells #[.slice ob nb cb,.bool nob] 222)).alloc (.cells #[.slice none 0 0,.bool false] 222)) (w.heap.size+1) (.slice ob nb cb) nob:=(heap_alloc_old _ _ (by simp)).trans (made_at (by simp))
 have hR:saidAt (((w.alloc (.cells #[.slice oa na ca,.bool noa] 222)).alloc (.cells #[.slice ob nb cb,.bool nob] 222)).alloc (.cells #[.slice none 0 0,.bool false] 222)) (w.heap.size+1+1) (.slice none 0 0) false:=made_at (by simp)
 have hW:Below w.heap.size w (((w.alloc (.cells #[.slice oa na ca,.bool noa] 222)).alloc (.cells #[.slice ob nb cb,.bool nob] 222)).alloc (.cells #[.slice none 0 0,.bool false] 222)):=(by repeat (first|exact Below.refl _ _|assumption|refine Below.drew ?_|refine Below.alloc ?_ (by first|(simp;done)|(simp;omega)|omega) _|refine Below.setCell ?_ (by first|(simp;done)|(simp;omega)|omega) _))
 revert hA hB hR hW
 generalize ((w.alloc (.cells #[.slice oa na ca,.bool noa] 222)).alloc (.cells #[.slice ob nb cb,.bool nob] 222)).alloc (.cells #[.slice none 0 0,.bool false] 222)=wx
 intro hA hB hR hW
 have HA:=Lib.hid hA
 have HB:=Lib.hid hB
 have HR:=Lib.hid hR
 have HW:=Lib.hid hW
 have HRA1:=Lib.hid (row_of_block HRA.out fun g hg=>hW.block g (HRA.out.lt g hg).2)
 have HRB1:=Lib.hid (row_of_block HRB.out fun g hg=>hW.block g (HRB.out.lt g hg).2)
 clear hA hB hR hW HRA HRB
 have a0:=HA.out.c0
 have a1:=HA.out.c1
 have al:=HA.out.lt
 have b0:=HB.out.c0
 have b1:=HB.out.c1
 have bl:=HB.out.lt
 have la':(na:Int)≤100000:=by omega
 have lb':(nb:Int)≤100000:=by omega
 by_cases hno:noa=true∨nob=true∨ ¬na+nb≤4096
 ·have HQ:=Lib.hid (HNO.out w hno)
  have hgo:Hid (noa=true∨noa=false∧nob=true∨noa=false∧nob=false∧(4096:Int)<(na:Int)+(nb:Int)):=by
   cases noa<;>cases nob<;>simp_all[Hid]<;>omega
  clear HNO HYES hno
  rcases hgo.out with rfl|⟨rfl,rfl⟩|⟨rfl,rfl,hg⟩
  all_goals
   go_wp2_with fail
   refine none_call.mono ?_;rintro e w1 ⟨rfl,hb1⟩
   have HR1:=Lib.hid (HR.out.below hb1)
   have HW1:=Lib.hid (HW.out.trans (hb1.mono HW.out.size))
   clear a0 a1 al b0 b1 bl hb1
   have r0:=HR1.out.c0
   have r1:=HR1.out.c1
   have rl:=HR1.out.lt
   have f0:=HR1.out.fz 0
   have f1:=HR1.out.fz 1
   go_wp2_with fail
   refine bodyPost_ret (v:= .agg #[.slice none 0 0,.bool true]) (by simp[results,Tryz.results178,go_sem, *]) rfl ⟨⟨_,rfl,by rw[HQ.out];exact SaidR.none_⟩,(HW1.out.setCell (p:=⟨w.heap.size+1+1,0,none⟩) (by show w.heap.size≤w.heap.size+1+1;omega) _).setCell (p:=⟨w.heap.size+1+1,1,none⟩) (by show w.heap.size≤w.heap.size+1+1;omega) _⟩
 ·have HQ:=Lib.hid (HYES.out hno)
  obtain rfl:noa=false:=by cases noa<;>simp_all
  obtain rfl:nob=false:=by cases nob<;>simp_all
  have hsum: ¬(4096:Int)<(na:Int)+(nb:Int):=by omega
  clear HNO HYES hno
  have hX:saidAt (wx.alloc (.cells #[.slice none 0 0,.bool false] 222)) wx.heap.size (.slice none 0 0) false:=made_at rfl
  have hY:Below wx.heap.size wx (wx.alloc (.cells #[.slice none 0 0,.bool false] 222)):=(Below.refl _ wx).alloc (Nat.le_refl _) _
  go_upto_region 4 with fail
  revert hX hY
  have hord:w.heap.size+1+1<wx.heap.size:=HR.out.lt
  generalize wx.alloc (.cells #[.slice none 0 0,.bool false] 222)=wy
  generalize hbx:wx.heap.size=B at hord ⊢
  intro hX hY
  have HBX:=Lib.hid hbx
  rw[←hbx]at hY
  have HX:=Lib.hid hX
  have HNE:=Lib.hid (show∀g,(Value.slice ob nb cb).ownBlock=some g→g≠B from fun g hg=>by have:=(HRB1.out.lt g hg).2;omega)
  have HA1:=Lib.hid (HA.out.below hY)
  have HB1:=Lib.hid (HB.out.below hY)
  have HR1:=Lib.hid (HR.out.below hY)
  have HW1:=Lib.hid (HW.out.trans (hY.mono HW.out.size))
  have HRA2:=Lib.hid (row_of_block HRA1.out fun g hg=>hY.block g (HRA1.out.lt g hg).2)
  have HRB2:=Lib.hid (row_of_block HRB1.out fun g hg=>hY.block g (HRB1.out.lt g hg).2)
  clear hX hY hbx a0 a1 al b0 b1 bl HA HB HR HW HRA1 HRB1
  have a0:=HA1.out.c0
  have al:=HA1.out.lt
  have x0:=HX.out.c0
  have xl:=HX.out.lt
  go_wp2_with (at_builtin;refine wpList_mks rfl _ _ rfl (B+1) rfl (Mks.nil _ _) (ys:=s.map mk) rfl (by rw[List.length_map,←HNA.out];exact Src.own HRA2.out) (by rw[List.length_map,←HNA.out];simp;omega) xl ?_)
  intro v1 w1 hm1 hgr1 hblk1
  have hno: ∀k,some k≠(Value.slice none 0 0).ownBlock:=fun k e=>by simp[Value.ownBlock]at e
  have HM1:=Lib.hid (show Mks w1 (B+1) v1 (s.map mk)from hm1)
  have HB2:=Lib.hid (show saidAt w1 (w.heap.size+1) (.slice ob nb cb) false from(hgr1.block _ HB1.out.lt (hno _)).trans HB1.out)
  have HX2:=Lib.hid (show saidAt w1 B (.slice none 0 0) false from(hgr1.block _ HX.out.lt (hno _)).trans HX.out)
  have HR2:=Lib.hid (show saidAt w1 (w.heap.size+1+1) (.slice none 0 0) false from(hgr1.block _ HR1.out.lt (hno _)).trans HR1.out)
  have HW2:=Lib.hid (HW1.out.grown hgr1 HW1.out.size (fun k hk=>absurd hk.symm (hno k)))
  have HRB3:=Lib.hid (row_of_block HRB2.out fun g hg=>hgr1.block g (HRB2.out.lt g hg).2 (hno g))
  obtain⟨o1,c1,rfl⟩: ∃o1 c1,v1= .slice o1 na c1:=by
   obtain⟨o1,c1,h⟩:=HM1.out.form
   exact⟨o1,c1,by rw[h,List.length_map,HNA.out]⟩
  clear hm1 hgr1 hblk1 hno a0 al x0 xl HA1 HB1 HX HR1 HW1 HRA2 HRB2
  have f0:=HX2.out.fz 0
  have x0:=HX2.out.c0
  have xl:=HX2.out.lt
  go_upto_region 5 with fail
  have HB3:=Lib.hid (HB2.out.other (C:=B) (j:=0) (u:= .slice o1 na c1) (by omega))
  have HX3:=Lib.hid (HX2.out.put (.slice o1 na c1))
  have HR3:=Lib.hid (HR2.out.other (C:=B) (j:=0) (u:= .slice o1 na c1) (by omega))
  have HW3:=Lib.hid (HW2.out.setCell (p:=⟨B,0,none⟩) (by show w.heap.size≤B;omega) (.slice o1 na c1))
  have HM3:=Lib.hid (show Mks (w1.setCell ⟨B,0,none⟩ (.slice o1 na c1)) (B+1) (.slice o1 na c1) (s.map mk)from HM1.out.block fun g hg=>Below.heap_setCell _ _ _ _ (by show g≠B;have:=(HM1.out.lt g hg).1;omega))
  have HRB4:=Lib.hid (show(w1.setCell ⟨B,0,none⟩ (.slice o1 na c1)).ownsRow bb 131 2 (.slice ob nb cb) nb (mksC (t.map mk))from row_of_block HRB3.out fun g hg=>Below.heap_setCell _ _ _ _ (by show g≠B;exact HNE.out g hg))
  clear f0 x0 xl HB2 HX2 HR2 HW2 HM1 HRB3
  generalize w1.setCell ⟨B,0,none⟩ (.slice o1 na c1)=w2 at HB3 HX3 HR3 HW3 HM3 HRB4 ⊢
  have b0:=HB3.out.c0
  have bl:=HB3.out.lt
  have x0:=HX3.out.c0
  have xl:=HX3.out.lt
  go_wp2_with (at_builtin;refine wpList_mks rfl _ _ rfl (B+1) rfl HM3.out (ys:=t.map mk) rfl (by rw[List.length_map,←HNB.out];exact Src.own HRB4.out) (by rw[List.length_map,List.length_map,←HNA.out,←HNB.out];omega) xl ?_)
  intro v2 w3 hm2 hgr2 hblk2
  have hne: ∀k,k<B+1→some k≠(Value.slice o1 na c1).ownBlock:=fun k hk e=>by have:=(HM3.out.lt k e.symm).1;omega
  have HM4:=Lib.hid (show Mks w3 (B+1) v2 ((s++t).map mk)by rw[List.map_append];exact hm2)
  have HX4:=Lib.hid (show saidAt w3 B (.slice o1 na c1) false from(hgr2.block _ HX3.out.lt (hne _ (by omega))).trans HX3.out)
  have HR4:=Lib.hid (show saidAt w3 (w.heap.size+1+1) (.slice none 0 0) false from(hgr2.block _ HR3.out.lt (hne _ (by omega))).trans HR3.out)
  have HW4:=Lib.hid (HW3.out.grown hgr2 HW3.out.size (fun k hk=>by have:=(HM3.out.lt k hk).1;omega))
  obtain⟨o2,c2,rfl⟩: ∃o2 c2,v2= .slice o2 (na+nb) c2:=by
   obtain⟨o2,c2,h⟩:=HM4.out.form
   exact⟨o2,c2,by rw[h,List.length_map,List.length_append,HNA.out,HNB.out]⟩
  clear hm2 hgr2 hblk2 hne b0 bl x0 xl HB3 HX3 HR3 HW3 HM3 HRB4
  have f0:=HX4.out.fz 0
  have x0:=HX4.out.c0
  have xl:=HX4.out.lt
  go_upto_region 6 with fail
  have HX5:=Lib.hid (HX4.out.put (.slice o2 (na+nb) c2))
  have HR5:=Lib.hid (HR4.out.other (C:=B) (j:=0) (u:= .slice o2 (na+nb) c2) (by omega))
  have HW5:=Lib.hid (HW4.out.setCell (p:=⟨B,0,none⟩) (by show w.heap.size≤B;omega) (.slice o2 (na+nb) c2))
  have HM5:=Lib.hid (show Mks (w3.setCell ⟨B,0,none⟩ (.slice o2 (na+nb) c2)) (B+1) (.slice o2 (na+nb) c2) ((s++t).map mk)from HM4.out.block fun g hg=>Below.heap_setCell _ _ _ _ (by show g≠B;have:=(HM4.out.lt g hg).1;omega))
  clear f0 x0 xl HX4 HR4 HW4 HM4
  generalize w3.setCell ⟨B,0,none⟩ (.slice o2 (na+nb) c2)=w4 at HX5 HR5 HW5 HM5 ⊢
  have x0:=HX5.out.c0
  have x1:=HX5.out.c1
  have xl:=HX5.out.lt
  have r0:=HR5.out.c0
  have r1:=HR5.out.c1
  have rl:=HR5.out.lt
  have f0:=HR5.out.fz 0
  have f1:=HR5.out.fz 1
  go_wp2_with fail
  refine bodyPost_ret (v:= .agg #[.slice o2 (na+nb) c2,.bool false]) (by simp[results,Tryz.results178,go_sem, *]) rfl ⟨⟨_,rfl,?_⟩,(HW5.out.setCell (p:=⟨w.heap.size+1+1,0,none⟩) (by show w.heap.size≤w.heap.size+1+1;omega) _).setCell (p:=⟨w.heap.size+1+1,1,none⟩) (by show w.heap.size≤w.heap.size+1+1;omega) _⟩
  rw[HQ.out]
  have hlen:(s++t).length=na+nb:=by rw[List.length_append,HNA.out,HNB.out]
  refine⟨o2,c2,by rw[hlen],?_⟩
  have h:=HM5.out
  unfold Mks at h
  rw[List.length_map,hlen]at h
  rw[hlen]
  exact row_of_block (ownsRow_mono h (by omega)) fun g hg=>by
   have hgb:=(HM5.out.lt g hg).1
   exact(Below.heap_setCell _ _ _ _ (by show g≠w.heap.size+1+1;omega)).trans (Below.heap_setCell _ _ _ _ (by show g≠w.heap.size+1+1;omega))
end Go.Proofs.YtfjbnpdffillbaaGreatDoor
namespace Go.Proofs.YtfjbnpdffillbaaGreatDoor
open Go.RowKit
theorem range_snoc (lo n:Nat):Cls.of (List.range' lo (n+1))=(Cls.of (List.range' lo n)).add (lo+n):=by
 unfold Cls.of
 rw[List.range'_concat,List.foldl_append]
 simp
set_option maxRecDepth 100000 in
set_option maxHeartbeats 1600000 in
theorem rrange_call (lo hi:Nat) (hlo:lo<256) (hhi:hi<256) {w:World} :
  Calls Tryz.prog 224 #[.int .u8 (lo:Nat),.int .u8 (hi:Nat)] w fun e w'=>e= .returned (clsV (Cls.range lo hi))∧Below w.heap.size w w':=by
 go_enter Tryz.func224,Tryz.ntmps224
 go_upto_region 2 with fail
 have hR:clsAt ((w.alloc (.cells #[.int .u64 0,.int .u64 0,.int .u64 0,.int .u64 0] 76)).alloc (.cells #[.int .u64 0,.int .u64 0,.int .u64 0,.int .u64 0] 76)) w.heap.size Cls.zero:=(heap_alloc_old _ _ (by simp)).trans (made_at (by simp))
 have hZ:clsAt ((w.alloc (.cells #[.int .u64 0,.int .u64 0,.int .u64 0,.int .u64 0] 76)).alloc (.cells #[.int .u64 0,.int .u64 0,.int .u64 0,.int .u64 0] 76)) (w.heap.size+1) Cls.zero:=made_at (by simp)
 have hB:Below w.heap.size w ((w.alloc (.cells #[.int .u64 0,.int .u64 0,.int .u64 0,.int .u64 0] 76)).alloc (.cells #[.int .u64 0,.int .u64 0,.int .u64 0,.int .u64 0] 76)):=(by repeat (first|exact Below.refl _ _|assumption|refine Below.drew ?_|refine Below.alloc ?_ (by first|(simp;done)|(simp;omega)|omega) _|refine Below.setCell ?_ (by first|(simp;done)|(simp;omega)|omega) _))
 revert hR hZ hB
 generalize (w.alloc (.cells #[.int .u64 0,.int .u64 0,.int .u64 0,.int .u64 0] 76)).alloc (.cells #[.int .u64 0,.int .u64 0,.int .u64 0,.int .u64 0] 76)=wx
 intro hR hZ hB
 have HR:=Lib.hid hR
 have HZ:=Lib.hid hZ
 have HB:=Lib.hid hB
 clear hR hZ hB
 go_wp2_with fail
 go_loopg [6] (hi+1 - lo) (fun k iv wr=> ∃n:Nat,iv= .int .i64 ((lo+n:Nat):Int)∧k=hi+1 - lo - n∧n≤hi+1 - lo∧clsAt wr w.heap.size Cls.zero∧clsAt wr (w.heap.size+1) (Cls.of (List.range' lo n))∧Below w.heap.size w wr)
 case atStart=>exact⟨0,rfl,by omega,by omega,HR.out,HZ.out,HB.out⟩
 case round=>
  obtain⟨n,rfl,hg,hn,hR,hZ,hB⟩:=hrel
  have HG:=Lib.hid hg
  have HR:=Lib.hid hR
  have HZ:=Lib.hid hZ
  have HB:=Lib.hid hB
  have HN:=Lib.hid (range_snoc lo n)
  clear hg hB
  obtain⟨b,hb⟩: ∃b,b=lo+n:=⟨_,rfl⟩
  rw[←hb]
  have HBB:=Lib.hid hb
  by_cases hlt:n<hi+1 - lo
  ·have hlt':(b:Int)≤(hi:Int):=by omega
   have hb256:b<256:=by omega
   have hmod:(b:Int) % 256=(b:Int):=by omega
   obtain⟨d,hd⟩: ∃d,d=Cls.of (List.range' lo n):=⟨_,rfl⟩
   rw[←hd]at hZ
   have HD:=Lib.hid hd
   have hzl:=hZ.lt
   obtain⟨z0,z1,z2,z3⟩:=hZ.cells
   have HZ2:=Lib.hid hZ
   clear hd hZ hR hb
   go_wp2_with fail
   refine(rwith_call d hb256).mono ?_;rintro e w2 ⟨rfl,hb2⟩
   have HR2:=Lib.hid (HR.out.below hb2)
   have HZ3:=Lib.hid (HZ2.out.below hb2)
   have HB2:=Lib.hid (HB.out.trans (hb2.mono HB.out.size))
   clear hb2 z0 z1 z2 z3 hzl
   obtain⟨q,hq⟩: ∃q,q=d.add b:=⟨_,rfl⟩
   rw[←hq]
   have HQ:=Lib.hid hq
   clear hq
   have hzl:=HZ3.out.lt
   obtain⟨z0,z1,z2,z3⟩:=HZ3.out.cells
   have f0:=frozen_cls HZ3.out
   go_wp2_with fail
   go_roundg (hi+1 - lo - (n+1))
   case measure=>have:=HG.out;omega
   case rel=>exact⟨n+1,by have:=HBB.out;rw[show lo+(n+1)=b+1 by omega];go_num,rfl,by omega,(store4_other (by omega) q).trans HR2.out,by rw[HN.out,←HD.out,←HBB.out,←HQ.out];exact store4_cls HZ3.out q,store4_below' (by omega) q HB2.out⟩
  ·have hlt': ¬(b:Int)≤(hi:Int):=by omega
   obtain⟨d,hd⟩: ∃d,d=Cls.range lo hi:=⟨_,rfl⟩
   have hz:clsAt wr (w.heap.size+1) d:=by rw[hd,Cls.range,show hi+1 - lo=n by omega];exact hZ
   have HD:=Lib.hid hd
   obtain⟨z0,z1,z2,z3⟩:=hz.cells
   obtain⟨y0,y1,y2,y3⟩:=hR.cells
   have hzl:=hz.lt
   have hrl:=hR.lt
   have f0:=frozen_cls hR
   clear hR hZ hz hd
   go_wp2_with fail
   exact bodyPost_ret (v:=clsV d) (by simp[results,Tryz.results224,go_sem, *]) rfl ⟨by rw[HD.out],store4_below' (by omega) d HB.out⟩
def upR (c:Cls) (i:Nat):List (Nat × Nat):=runsOf ((List.range i).filter c.has)
theorem upR_succ (c:Cls) (i:Nat):upR c (i+1)=if c.has i then runAdd (upR c i) i else upR c i:=by
 unfold upR runsOf
 rw[List.range_succ,List.filter_append,List.foldl_append]
 cases h:c.has i<;>simp[h]
theorem runAdd_last (l:List (Nat × Nat)) (b:Nat): ∃r,(runAdd l b).getLast?=some r∧r.2=b:=by
 unfold runAdd
 split
 ·exact⟨(b,b),rfl,rfl⟩
 ·split
  ·exact⟨_,by simp;rfl,rfl⟩
  ·exact⟨_,by simp;rfl,rfl⟩
theorem upR_last (c:Cls): ∀i,match (upR c i).getLast? with
  |none=> ∀j,j<i→c.has j=false
  |some r=>r.2<i∧c.has r.2=true∧ ∀j,r.2<j→j<i→c.has j=false
 |0=>by simp[upR,runsOf]
 |i+1=>by
  have ih:=upR_last c i
  rw[upR_succ]
  cases h:c.has i with
  |true=>
   obtain⟨r,hr,hb⟩:=runAdd_last (upR c i) i
   simp only[if_true,hr]
   exact⟨by omega,by rw[hb];exact h,fun j h1 h2=>by omega⟩
  |false=>
   simp only[Bool.false_eq_true,if_false]
   generalize (upR c i).getLast?=o at ih ⊢
   cases o with
   |none=>
    exact fun j hj=>by
     rcases Nat.lt_or_ge j i with h1|h1
     ·exact ih j h1
     ·rw[show j=i by omega];exact h
   |some r=>
    refine⟨by have:=ih.1;omega,ih.2.1,fun j h1 h2=>?_⟩
    rcases Nat.lt_or_ge j i with h3|h3
    ·exact ih.2.2 j h1 h3
    ·rw[show j=i by omega];exact h
theorem upR_ext {c:Cls} {i:Nat} (h0:0<i) (h:c.has (i - 1)=true): ∃a r,upR c i=a++[r]∧r.2+1=i:=by
 have hl:=upR_last c i
 cases hg:(upR c i).getLast? with
 |none=>rw[hg]at hl;have:=hl (i - 1) (by omega);rw[h]at this;cases this
 |some r=>
  rw[hg]at hl
  obtain⟨a,ha⟩:=List.getLast?_eq_some_iff.1 hg
  refine⟨a,r,ha,?_⟩
  have h1:=hl.1
  rcases Nat.lt_or_ge r.2 (i - 1)with h2|h2
  ·have:=hl.2.2 (i - 1) h2 (by omega);rw[h]at this;cases this
  ·omega
theorem upR_new {c:Cls} {i:Nat} (h: ¬(0<i∧c.has (i - 1)=true)):runAdd (upR c i) i=upR c i++[(i,i)]:=by
 have hl:=upR_last c i
 unfold runAdd
 cases hg:(upR c i).getLast? with
 |none=>rw[List.getLast?_eq_none_iff]at hg;rw[hg];rfl
 |some r=>
  rw[hg]at hl
  have hne: ¬r.2+1=i:=fun e=>h ⟨by omega,by rw[show i - 1=r.2 by omega];exact hl.2.1⟩
  simp only[if_neg hne]
theorem upR_len (c:Cls) (i:Nat):(upR c i).length≤i:=by
 have h1:=runsOf_go ((List.range i).filter c.has) []
 have h2:=List.length_filter_le c.has (List.range i)
 simp at h1 h2
 exact Nat.le_trans h1 h2
theorem elRun:ElT Tryz.prog 166 168 2 2 (.agg #[.int .u8 0,.int .u8 0]):=⟨Tryz.underlying166,infoRun,rfl,by decide⟩
set_option maxRecDepth 100000 in
set_option maxHeartbeats 3200000 in
theorem rruns_call (c:Cls) {w:World} :
  Calls Tryz.prog 237 #[clsV c] w fun e w'=>(∃v,e= .returned v∧w'.ownsRow w.heap.size 168 2 v c.runs.length (runCells c.runs))∧Below w.heap.size w w':=by
 go_enter Tryz.func237,Tryz.ntmps237
 go_upto_region 1 with fail
 have hA:clsAt (w.alloc (.cells #[.int .u64 c.w0.toNat,.int .u64 c.w1.toNat,.int .u64 c.w2.toNat,.int .u64 c.w3.toNat] 76)) w.heap.size c:=heap_alloc_new _ _
 have hB:Below w.heap.size w (w.alloc (.cells #[.int .u64 c.w0.toNat,.int .u64 c.w1.toNat,.int .u64 c.w2.toNat,.int .u64 c.w3.toNat] 76)):=(by repeat (first|exact Below.refl _ _|assumption|refine Below.drew ?_|refine Below.alloc ?_ (by first|(simp;done)|(simp;omega)|omega) _|refine Below.setCell ?_ (by first|(simp;done)|(simp;omega)|omega) _))
 revert hA hB
 generalize w.alloc (.cells #[.int .u64 c.w0.toNat,.int .u64 c.w1.toNat,.int .u64 c.w2.toNat,.int .u64 c.w3.toNat] 76)=wx
 intro hA hB
 have HA:=Lib.hid hA
 have HB:=Lib.hid hB
 clear hA hB
 go_wp2_with fail
 go_loopg [3,4] 256 (fun k rv iv wr=> ∃i:Nat,iv= .int .i64 (i:Nat)∧k=256 - i∧i≤256∧clsAt wr w.heap.size c∧wr.ownsRow (w.heap.size+1) 168 2 rv (upR c i).length (runCells (upR c i))∧Below w.heap.size w wr)
 case atStart=>exact⟨0,rfl,by omega,by omega,HA.out,World.ownsRow_nil _ _ _ _,HB.out⟩
 case round=>
  obtain⟨i,rfl,hg,hi,hA,hO,hB⟩:=hrel
  have HG:=Lib.hid hg
  have HA:=Lib.hid hA
  have HO:=Lib.hid hO
  have HB:=Lib.hid hB
  have HN:=Lib.hid (upR_succ c i)
  have hln:=upR_len c i
  clear hg hB hO
  by_cases hlt:i<256
  ·have hlt':(i:Int)<256:=by omega
   obtain⟨z0,z1,z2,z3⟩:=hA.cells
   have hl:=hA.lt
   have hmod:(i:Int) % 256=(i:Int):=by omega
   clear hA
   go_wp2_with fail
   refine(rhas_call c hlt).mono ?_;rintro e w1 ⟨rfl,hb1⟩
   have HA1:=Lib.hid (HA.out.below hb1)
   have HO1:=Lib.hid (row_of_block HO.out fun b hb=>hb1.block b (HO.out.lt b hb).2)
   have HB1:=Lib.hid (HB.out.trans (hb1.mono HB.out.size))
   clear hb1 z0 z1 z2 z3 hl HA HO HB
   cases hh:c.has i with
   |false=>
    have HNT:=Lib.hid (show upR c (i+1)=upR c i by rw[HN.out,if_neg (by simp[hh])])
    clear hh
    go_wp2_with fail
    go_roundg (256 - (i+1))
    case measure=>have:=HG.out;omega
    case rel=>exact⟨i+1,by go_num,rfl,by omega,HA1.out,by rw[HNT.out];exact HO1.out,HB1.out⟩
   |true=>
    have HNT:=Lib.hid (show upR c (i+1)=runAdd (upR c i) i by rw[HN.out,if_pos (by simp[hh])])
    obtain⟨z0,z1,z2,z3⟩:=HA1.out.cells
    have hl:=HA1.out.lt
    clear hh
    by_cases h0:0<i
    ·have h0':(0:Int)<(i:Int):=by omega
     obtain⟨j,hj⟩: ∃j,j=i - 1:=⟨_,rfl⟩
     have hj1:(i:Int) - 1=(j:Int):=by omega
     have hj256:j<256:=by omega
     have hjm:(j:Int) % 256=(j:Int):=by omega
     have HJ:=Lib.hid hj
     clear hj
     go_wp2_with fail
     refine(rhas_call c hj256).mono ?_;rintro e w2 ⟨rfl,hb2⟩
     have HA2:=Lib.hid (HA1.out.below hb2)
     have HO2:=Lib.hid (row_of_block HO1.out fun b hb=>hb2.block b (HO1.out.lt b hb).2)
     have HB2:=Lib.hid (HB1.out.trans (hb2.mono HB1.out.size))
     clear hb2 z0 z1 z2 z3 hl HA1 HO1 HB1
     cases hh:c.has j with
     |true=>
      obtain⟨a,r,har,hr⟩:=upR_ext h0 (show c.has (i - 1)=true by rw[←HJ.out];exact hh)
      have hrow:=HO2.out
      rw[har]at hrow hln
      rw[List.length_append]at hrow hln
      obtain⟨g,cap,rfl⟩:=ownsRow_succ (k:=a.length) hrow
      have hcl:=hrow.cellAt (a.length*2+1) (by show a.length*2+1<(a.length+1)*2;omega)
      rw[runCells_last]at hcl
      have hfr:=hrow.frozenAt (a.length*2+1)
      have hgl:=(hrow.lt g rfl)
      obtain⟨hst,hgr⟩:=hrow.stored (a.length*2+1) (.int .u8 (i:Nat))
      have hadd:runAdd (upR c i) i=a++[(r.1,i)]:=by
       rw[har];unfold runAdd;simp[hr]
      rw[runCells_set,←hadd,←HNT.out]at hst
      have hlen2:a.length+1=(upR c (i+1)).length:=by rw[HNT.out,hadd];simp
      have HST:=Lib.hid hst
      have HL2:=Lib.hid hlen2
      have hal:(a.length:Int)+1≤9223372036854775807:=by simp at hln;omega
      clear hh har hadd hst hgr hrow hlen2
      go_wp2_with fail
      go_roundg (256 - (i+1))
      case measure=>have:=HG.out;omega
      case rel=>exact⟨i+1,by go_num,rfl,by omega,(Below.heap_setCell _ _ _ _ (by show w.heap.size≠g;omega)).trans HA2.out,by rw[←HL2.out];exact HST.out,HB2.out.setCell (p:=⟨g,a.length*2+1,none⟩) (by show w.heap.size≤g;omega) _⟩
     |false=>
      have HNW:=Lib.hid (upR_new (c:=c) (i:=i) (fun h=>by rw[←HJ.out,hh]at h;exact absurd h.2 (by simp)))
      clear hh
      go_wp2_with (at_builtin;refine wpList_app elRun rfl _ _ rfl (w.heap.size+1) (n:=(upR c i).length) (m:=1) (news:=[.int .u8 (i:Nat),.int .u8 (i:Nat)]) rfl (HO2.out.alloc _) rfl (Src.new w2 [.int .u8 (i:Nat),.int .u8 (i:Nat)] _ _ _) rfl (by simp[Value.oneCell']) (by unfold maxLen;omega) (by omega) (by have:=HA2.out.lt;simp;omega) ?_)
      intro v3 w3 hown hgr _
      have hb3:=(HB2.out.alloc HB2.out.size (.cells #[.int .u8 (i:Nat),.int .u8 (i:Nat)] 168)).grown hgr (by have:=HB2.out.size;simp;omega) (fun k hk=>by have:=(HO2.out.lt k hk).1;omega)
      have HB3:=Lib.hid hb3
      have HA3:=Lib.hid (show clsAt w3 w.heap.size c from(hgr.block _ (by have:=HA2.out.lt;simp;omega) (fun e=>by have:=(HO2.out.lt _ e.symm).1;omega)).trans ((heap_alloc_old _ _ HA2.out.lt).trans HA2.out))
      have HO3:=Lib.hid (show w3.ownsRow (w.heap.size+1) 168 2 v3 (upR c (i+1)).length (runCells (upR c (i+1)))by
       rw[HNT.out,HNW.out,runCells_append,List.length_append];exact hown)
      clear hown hgr hb3
      go_wp2_with fail
      go_roundg (256 - (i+1))
      case measure=>have:=HG.out;omega
      case rel=>exact⟨i+1,by go_num,rfl,by omega,HA3.out,HO3.out,HB3.out⟩
    ·have h0': ¬(0:Int)<(i:Int):=by omega
     have HNW:=Lib.hid (upR_new (c:=c) (i:=i) (fun h=>h0 h.1))
     clear z0 z1 z2 z3 hl
     go_wp2_with (at_builtin;refine wpList_app elRun rfl _ _ rfl (w.heap.size+1) (n:=(upR c i).length) (m:=1) (news:=[.int .u8 (i:Nat),.int .u8 (i:Nat)]) rfl (HO1.out.alloc _) rfl (Src.new w1 [.int .u8 (i:Nat),.int .u8 (i:Nat)] _ _ _) rfl (by simp[Value.oneCell']) (by unfold maxLen;omega) (by omega) (by have:=HA1.out.lt;simp;omega) ?_)
     intro v3 w3 hown hgr _
     have hb3:=(HB1.out.alloc HB1.out.size (.cells #[.int .u8 (i:Nat),.int .u8 (i:Nat)] 168)).grown hgr (by have:=HB1.out.size;simp;omega) (fun k hk=>by have:=(HO1.out.lt k hk).1;omega)
     have HB3:=Lib.hid hb3
     have HA3:=Lib.hid (show clsAt w3 w.heap.size c from(hgr.block _ (by have:=HA1.out.lt;simp;omega) (fun e=>by have:=(HO1.out.lt _ e.symm).1;omega)).trans ((heap_alloc_old _ _ HA1.out.lt).trans HA1.out))
     have HO3:=Lib.hid (show w3.ownsRow (w.heap.size+1) 168 2 v3 (upR c (i+1)).length (runCells (upR c (i+1)))by
      rw[HNT.out,HNW.out,runCells_append,List.length_append];exact hown)
     clear hown hgr hb3
     go_wp2_with fail
     go_roundg (256 - (i+1))
     case measure=>have:=HG.out;omega
     case rel=>exact⟨i+1,by go_num,rfl,by omega,HA3.out,HO3.out,HB3.out⟩
  ·obtain rfl:i=256:=by omega
   clear hA
   go_wp2_with fail
   go_ret
   exact⟨⟨_,rfl,ownsRow_low HO.out (by omega)⟩,HB.out⟩
theorem endB_cells (b:Nat):mksC ((endB b).map mk)=if b=91∨b=93∨b=45∨b=94 then [.int .u8 91,.bool false,.int .u8 46,.bool false,.int .u8 (b:Nat),.bool false,.int .u8 46,.bool false,.int .u8 93,.bool false]else [.int .u8 (b:Nat),.bool false]:=by
 unfold endB
 split<;>rfl
theorem made_row (w:World) (cs:List Value) (n:Nat) (hn:cs.length=n*2) (hm:n≤maxLen):(w.alloc (.cells cs.toArray 131)).ownsRow w.heap.size 131 2 (.slice (some ⟨w.heap.size,0,none⟩) n n) n cs:=
 ⟨hn,.inr ⟨_,n,cs.toArray,rfl,Nat.le_refl _,heap_alloc_new w _,Nat.le_refl _,hm,by simpa using hn,by simp[←hn]⟩⟩
set_option maxRecDepth 100000 in
set_option maxHeartbeats 1600000 in
theorem byteOf_call (b:Nat) (hb:b<256) {w:World} :
  Calls Tryz.prog 238 #[.int .u8 (b:Nat)] w fun e w'=>(∃v,e= .returned v∧Mks w' w.heap.size v ((endB b).map mk))∧Below w.heap.size w w':=by
 have HC:=Lib.hid (endB_cells b)
 by_cases h1:b=91∨b=93∨b=45∨b=94
 ·have HL:=Lib.hid (show((endB b).map mk).length=5 by unfold endB;rw[if_pos h1];rfl)
  have hc:=HC.out
  rw[if_pos h1]at hc
  have HC2:=Lib.hid hc
  clear hc HC
  rcases h1 with rfl|rfl|rfl|rfl
  all_goals
   go_enter Tryz.func238,Tryz.ntmps238
   go_wp2_with fail
   go_ret
   refine⟨⟨_,rfl,?_⟩,(by repeat (first|exact Below.refl _ _|assumption|refine Below.drew ?_|refine Below.alloc ?_ (by first|(simp;done)|(simp;omega)|omega) _|refine Below.setCell ?_ (by first|(simp;done)|(simp;omega)|omega) _))⟩
   unfold Mks
   rw[HL.out,HC2.out]
   exact made_row w _ 5 rfl (by decide)
 ·have HL:=Lib.hid (show((endB b).map mk).length=1 by unfold endB;rw[if_neg h1];rfl)
  have hc:=HC.out
  rw[if_neg h1]at hc
  have HC2:=Lib.hid hc
  have e1:((b:Int)==91)=false:=beq_eq_false_iff_ne.2 (by omega)
  have e2:((b:Int)==93)=false:=beq_eq_false_iff_ne.2 (by omega)
  have e3:((b:Int)==45)=false:=beq_eq_false_iff_ne.2 (by omega)
  have e4:((b:Int)==94)=false:=beq_eq_false_iff_ne.2 (by omega)
  clear hc HC h1
  go_enter Tryz.func238,Tryz.ntmps238
  go_wp2_with fail
  go_ret
  refine⟨⟨_,rfl,?_⟩,(by repeat (first|exact Below.refl _ _|assumption|refine Below.drew ?_|refine Below.alloc ?_ (by first|(simp;done)|(simp;omega)|omega) _|refine Below.setCell ?_ (by first|(simp;done)|(simp;omega)|omega) _))⟩
  unfold Mks
  rw[HL.out,HC2.out]
  exact made_row w _ 1 rfl (by decide)
end Go.Proofs.YtfjbnpdffillbaaGreatDoor
namespace Go.Proofs.YtfjbnpdffillbaaGreatDoor
open Go.RowKit
theorem runAdd_le {l:List (Nat × Nat)} {b:Nat} (h: ∀r∈l,r.1≤r.2): ∀r∈runAdd l b,r.1≤r.2:=by
 intro r hr
 unfold runAdd at hr
 split at hr
 ·simp at hr;subst hr;exact Nat.le_refl _
 ·rename_i q hq
  have hqm:=List.mem_of_getLast? hq
  split at hr
  ·rename_i hqb
   rcases List.mem_append.1 hr with h1|h1
   ·exact h r ((List.dropLast_sublist l).subset h1)
   ·simp at h1;subst h1;have:=h q hqm;simp only;omega
  ·rcases List.mem_append.1 hr with h1|h1
   ·exact h r h1
   ·simp at h1;subst h1;exact Nat.le_refl _
theorem runsOf_le: ∀(l:List Nat) (r:List (Nat × Nat)),(∀x∈r,x.1≤x.2)→ ∀x∈l.foldl runAdd r,x.1≤x.2
 |[],_,h=>h
 |b::l,r,h=>runsOf_le l (runAdd r b) (runAdd_le h)
theorem runs_le (c:Cls): ∀r∈c.runs,r.1≤r.2:=runsOf_le _ [] (by simp)
theorem els_zero {c:Cls} :c.els.length=0↔c=Cls.zero:=by
 constructor
 ·intro h
  refine els_inj ?_
  rw[List.eq_nil_of_length_eq_zero h]
  symm
  exact List.filter_eq_nil_iff.2 fun b _=>by rw[has_zero];simp
 ·rintro rfl
  have:Cls.zero.els=[]:=List.filter_eq_nil_iff.2 fun b _=>by rw[has_zero];simp
  rw[this];rfl
theorem els_full {c:Cls} :c.els.length=256↔c=allC:=by
 have ha:allC.els=List.range 256:=List.filter_eq_self.2 fun b hb=>by
  have hb':=List.mem_range.1 hb
  rw[allC,has_range (by decide) hb']
  simp only[Nat.zero_le,decide_true,Bool.true_and,decide_eq_true_eq]
  omega
 constructor
 ·intro h
  refine els_inj ?_
  rw[ha]
  refine List.filter_eq_self.2 fun b hb=>?_
  have hsub:c.els.Sublist (List.range 256):=List.filter_sublist
  have heq:=hsub.eq_of_length (by rw[h,List.length_range])
  have hm:b∈c.els:=heq▸hb
  exact(mem_els.1 hm).2
 ·intro h
  rw[h,ha,List.length_range]
theorem neg_zero:Cls.zero.neg=true:=by
 have h:Cls.zero≠allC:=fun e=>by
  have h1:=els_full.2 e
  have h0:=els_zero.2 (rfl:Cls.zero=Cls.zero)
  omega
 simp[Cls.neg,h]
theorem not_zero:Cls.zero.not=allC:=Cls.ext' fun i hi=>by rw[has_not,has_zero,allC,has_range (by decide) hi];simp;omega
theorem neg_pos {c:Cls} (hn:c.els.length<256) (h10:c.has 10=true):c.neg=true:=by
 have h:c≠allC:=fun e=>by have:=els_full.2 e;omega
 simp[Cls.neg,h,h10]
theorem neg_no1 {c:Cls} (hn: ¬c.els.length<256):c.neg=false:=by
 have h:c=allC:=els_full.1 (by have:=els_length c;omega)
 simp[Cls.neg,h]
theorem neg_no2 {c:Cls} (h0:c.els.length≠0) (h10:c.has 10=false):c.neg=false:=by
 have h:c≠Cls.zero:=fun e=>h0 (els_zero.2 e)
 simp[Cls.neg,h,h10]
theorem Mks.srcV {w:World} {base:Nat} {v:Value} {L:List Mk} (h:Mks w base v L):Src w v L.length (mksC L):=Src.own h
theorem runCells_two: ∀(R:List (Nat × Nat)) (i:Nat) (r:Nat × Nat),R[i]?=some r→(runCells R)[i*2]?=some (.int .u8 (r.1:Nat))∧(runCells R)[i*2+1]?=some (.int .u8 (r.2:Nat))
 |[],i,r,h=>by simp at h
 |x::l,0,r,h=>by simp at h;subst h;exact⟨rfl,rfl⟩
 |x::l,i+1,r,h=>by
  have h1:=runCells_two l i r (by simpa using h)
  have h2:runCells (x::l)= .int .u8 (x.1:Nat):: .int .u8 (x.2:Nat)::runCells l:=rfl
  rw[h2,show(i+1)*2=i*2+1+1 by omega]
  simpa using h1
abbrev mkB (l:List Nat):List Mk:=l.map mk
structure BrI (w:World) (rv:Value) (R:List (Nat × Nat)) (s:List Nat) (lv:Value) (W:World):Prop where
 r:W.ownsRow w.heap.size 168 2 rv R.length (runCells R)
 l:Mks W (w.heap.size+1) lv (s.map mk)
 b:Below w.heap.size w W
 a: ∀k,lv.ownBlock=some k→rv.ownBlock≠some k
theorem BrI.below {w W W':World} {rv lv:Value} {R:List (Nat × Nat)} {s:List Nat} (h:BrI w rv R s lv W) (hb:Below W.heap.size W W'):BrI w rv R s lv W':=
 ⟨row_of_block h.r fun g hg=>hb.block g (h.r.lt g hg).2,h.l.below hb,h.b.trans (hb.mono h.b.size),h.a⟩
theorem BrI.app {w W W':World} {rv lv v':Value} {R:List (Nat × Nat)} {s:List Nat} (h:BrI w rv R s lv W) (t:List Nat) {ys:List Mk} (hm:Mks W' (w.heap.size+1) v' ys) (hys:ys=mkB (s++t)) (hg:W.grownBy W' lv.ownBlock) (hk:v'.ownBlock=lv.ownBlock∨v'.ownBlock=some W.heap.size):BrI w rv R (s++t) v' W':=
 ⟨h.r.kept hg (by
   cases hr:rv.ownBlock with
   |none=>exact .inl rfl
   |some b=>exact .inr fun e=>h.a b e.symm hr),by have e:=hys;subst e;exact hm,h.b.grown hg h.b.size (fun k hk=>by have:=(h.l.lt k hk).1;omega),fun k hk2=>by
  rcases hk with e|e
  ·exact h.a k (e▸hk2)
  ·rw[e]at hk2
   cases hk2
   exact fun hr=>by have:=(h.r.lt _ hr).2;omega⟩
set_option maxRecDepth 100000 in
set_option maxHeartbeats 6400000 in
theorem rbrack_call (c:Cls) {w:World} :
  Calls Tryz.prog 233 #[clsV c] w fun e w'=>(∃v,e= .returned v∧Mks w' w.heap.size v ((brackB c).map mk))∧Below w.heap.size w w':=by
 go_enter Tryz.func233,Tryz.ntmps233
 go_upto_region 1 with fail
 have hA:clsAt (w.alloc (.cells #[.int .u64 c.w0.toNat,.int .u64 c.w1.toNat,.int .u64 c.w2.toNat,.int .u64 c.w3.toNat] 76)) w.heap.size c:=heap_alloc_new _ _
 have hB:Below w.heap.size w (w.alloc (.cells #[.int .u64 c.w0.toNat,.int .u64 c.w1.toNat,.int .u64 c.w2.toNat,.int .u64 c.w3.toNat] 76)):=(by repeat (first|exact Below.refl _ _|assumption|refine Below.drew ?_|refine Below.alloc ?_ (by first|(simp;done)|(simp;omega)|omega) _|refine Below.setCell ?_ (by first|(simp;done)|(simp;omega)|omega) _))
 have hS:(w.alloc (.cells #[.int .u64 c.w0.toNat,.int .u64 c.w1.toNat,.int .u64 c.w2.toNat,.int .u64 c.w3.toNat] 76)).heap.size=w.heap.size+1:=by simp
 revert hA hB hS
 generalize w.alloc (.cells #[.int .u64 c.w0.toNat,.int .u64 c.w1.toNat,.int .u64 c.w2.toNat,.int .u64 c.w3.toNat] 76)=wx
 intro hA hB hS
 have HA:=Lib.hid (hA.below ((Below.refl _ wx).alloc (Nat.le_refl _) (.cells #[.int .u8 91,.bool false] 131)))
 have HB:=Lib.hid (hB.alloc hB.size (.cells #[.int .u8 91,.bool false] 131))
 have HM:=Lib.hid (show Mks (wx.alloc (.cells #[.int .u8 91,.bool false] 131)) (w.heap.size+1) (.slice (some ⟨wx.heap.size,0,none⟩) 1 1) ([91].map mk)from ownsRow_low (made_row wx [.int .u8 91,.bool false] 1 rfl (by decide)) (by omega))
 clear hA hB hS
 go_upto_region 2 with fail
 revert HA HB HM
 generalize wx.alloc (.cells #[.int .u8 91,.bool false] 131)=wy
 generalize (Value.slice (some ⟨wx.heap.size,0,none⟩) 1 1)=v1
 intro HA HB HM
 obtain⟨z0,z1,z2,z3⟩:=HA.out.cells
 have hl:=HA.out.lt
 have hlen:=els_length c
 obtain⟨P,hP⟩: ∃P:List Nat,P=[91]++(if c.neg then [94]else []):=⟨_,rfl⟩
 obtain⟨C,hC⟩: ∃C:Cls,C=if c.neg then c.not else c:=⟨_,rfl⟩
 have HP:=Lib.hid hP
 have HC:=Lib.hid hC
 clear hP hC
 go_wp2_with fail
 refine(rsize_call c).mono ?_;rintro e w1 ⟨rfl,hb1⟩
 have HA1:=Lib.hid (HA.out.below hb1)
 have HM1:=Lib.hid (HM.out.below hb1)
 have HB1:=Lib.hid (HB.out.trans (hb1.mono HB.out.size))
 clear hb1 z0 z1 z2 z3 hl HA HB HM
 generalize hnn:c.els.length=n at hlen ⊢
 have HN:=Lib.hid hnn
 clear hnn
 go_upto_if 12 with fail
 go_cut [3] (fun lv wc=>clsAt wc w.heap.size C∧Mks wc (w.heap.size+1) lv (P.map mk)∧Below w.heap.size w wc)
 case first=>
  obtain⟨z0,z1,z2,z3⟩:=HA1.out.cells
  have hl:=HA1.out.lt
  by_cases h0:n=0
  ·have e0:((n:Int)==0)=true:=by rw[h0];rfl
   have hcz:=els_zero.1 (HN.out.trans h0)
   have HPP:=Lib.hid (show P=[91]++[94]by rw[HP.out,hcz,neg_zero];rfl)
   have HCC:=Lib.hid (show C=Cls.range 0 255 by rw[HC.out,hcz,neg_zero,if_pos rfl,not_zero];rfl)
   clear h0 hcz
   go_wp2_with (at_builtin;refine wpList_mks rfl _ _ rfl (w.heap.size+1) rfl ((HM1.out).below ((Below.refl _ w1).alloc (Nat.le_refl _) (.cells #[.int .u8 94,.bool false] 131))) (ys:=[mk 94]) rfl (Src.new w1 (mksC [mk 94]) _ _ _) (by simp) (by simp;omega) ?_)
   intro v2 w2 hm2 hgr2 hblk2
   have HM2:=Lib.hid (show Mks w2 (w.heap.size+1) v2 (P.map mk)by rw[HPP.out];exact hm2)
   have HB2:=Lib.hid ((HB1.out.alloc HB1.out.size (.cells #[.int .u8 94,.bool false] 131)).grown hgr2 (by have:=HB1.out.size;simp;omega) (fun k hk=>by have:=(HM1.out.lt k hk).1;omega))
   have HA2:=Lib.hid (show clsAt w2 w.heap.size c from(hgr2.block _ (by simp;omega) (fun e=>by have:=(HM1.out.lt _ e.symm).1;omega)).trans ((heap_alloc_old _ _ hl).trans HA1.out))
   clear hm2 hgr2 hblk2 z0 z1 z2 z3 hl
   go_wp2_with fail
   refine(rrange_call 0 255 (by decide) (by decide)).mono ?_;rintro e w3 ⟨rfl,hb3⟩
   have HA3:=Lib.hid (HA2.out.below hb3)
   have HM3:=Lib.hid (HM2.out.below hb3)
   have HB3:=Lib.hid (HB2.out.trans (hb3.mono HB2.out.size))
   clear hb3
   rw[←HCC.out]
   have hl:=HA3.out.lt
   obtain⟨z0,z1,z2,z3⟩:=HA3.out.cells
   have f0:=frozen_cls HA3.out
   go_wp2_with fail
   go_meet
   exact⟨store4_cls HA3.out C,HM3.out.block fun g hg=>store4_other (by have:=(HM3.out.lt g hg).1;omega) C,store4_below' (by omega) C HB3.out⟩
  ·have e0:((n:Int)==0)=false:=beq_eq_false_iff_ne.2 (by omega)
   by_cases h1:n<256
   ·have h1':(n:Int)<256:=by omega
    go_wp2_with fail
    refine(rhas_call c (b:=10) (by decide)).mono ?_;rintro e w2 ⟨rfl,hb2⟩
    have HA2:=Lib.hid (HA1.out.below hb2)
    have HM2:=Lib.hid (HM1.out.below hb2)
    have HB2:=Lib.hid (HB1.out.trans (hb2.mono HB1.out.size))
    clear hb2 z0 z1 z2 z3 hl HA1 HM1 HB1
    obtain⟨z0,z1,z2,z3⟩:=HA2.out.cells
    have hl:=HA2.out.lt
    cases hh:c.has 10 with
    |true=>
     have hng:=neg_pos (c:=c) (by rw[HN.out];exact h1) hh
     have HPP:=Lib.hid (show P=[91]++[94]by rw[HP.out,hng];rfl)
     have HCC:=Lib.hid (show C=c.not by rw[HC.out,hng,if_pos rfl])
     clear hh hng h0 h1
     go_wp2_with (at_builtin;refine wpList_mks rfl _ _ rfl (w.heap.size+1) rfl ((HM2.out).below ((Below.refl _ w2).alloc (Nat.le_refl _) (.cells #[.int .u8 94,.bool false] 131))) (ys:=[mk 94]) rfl (Src.new w2 (mksC [mk 94]) _ _ _) (by simp) (by simp;omega) ?_)
     intro v3 w3 hm3 hgr3 hblk3
     have HM3:=Lib.hid (show Mks w3 (w.heap.size+1) v3 (P.map mk)by rw[HPP.out];exact hm3)
     have HB3:=Lib.hid ((HB2.out.alloc HB2.out.size (.cells #[.int .u8 94,.bool false] 131)).grown hgr3 (by have:=HB2.out.size;simp;omega) (fun k hk=>by have:=(HM2.out.lt k hk).1;omega))
     have HA3:=Lib.hid (show clsAt w3 w.heap.size c from(hgr3.block _ (by simp;omega) (fun e=>by have:=(HM2.out.lt _ e.symm).1;omega)).trans ((heap_alloc_old _ _ hl).trans HA2.out))
     clear hm3 hgr3 hblk3 z0 z1 z2 z3 hl HA2 HM2 HB2
     obtain⟨z0,z1,z2,z3⟩:=HA3.out.cells
     have hl:=HA3.out.lt
     go_wp2_with fail
     refine(rnot_call c).mono ?_;rintro e w4 ⟨rfl,hb4⟩
     have HA4:=Lib.hid (HA3.out.below hb4)
     have HM4:=Lib.hid (HM3.out.below hb4)
     have HB4:=Lib.hid (HB3.out.trans (hb4.mono HB3.out.size))
     clear hb4 z0 z1 z2 z3 hl
     rw[←HCC.out]
     have hl:=HA4.out.lt
     obtain⟨z0,z1,z2,z3⟩:=HA4.out.cells
     have f0:=frozen_cls HA4.out
     go_wp2_with fail
     go_meet
     exact⟨store4_cls HA4.out C,HM4.out.block fun g hg=>store4_other (by have:=(HM4.out.lt g hg).1;omega) C,store4_below' (by omega) C HB4.out⟩
    |false=>
     have hng:=neg_no2 (c:=c) (by rw[HN.out];exact h0) hh
     have HPP:=Lib.hid (show P=[91]by rw[HP.out,hng];rfl)
     have HCC:=Lib.hid (show C=c by rw[HC.out,hng];rfl)
     clear hh hng h0 h1
     go_wp2_with fail
     go_meet
     exact⟨by rw[HCC.out];exact HA2.out,by rw[HPP.out];exact HM2.out,HB2.out⟩
   ·have h1': ¬(n:Int)<256:=by omega
    have hng:=neg_no1 (c:=c) (by rw[HN.out];exact h1)
    have HPP:=Lib.hid (show P=[91]by rw[HP.out,hng];rfl)
    have HCC:=Lib.hid (show C=c by rw[HC.out,hng];rfl)
    clear hng h0 h1
    go_wp2_with fail
    go_meet
    exact⟨by rw[HCC.out];exact HA1.out,by rw[HPP.out];exact HM1.out,HB1.out⟩
 case rest=>
 obtain⟨hA,hM,hB⟩:=hcut
 have HA:=Lib.hid hA
 have HM:=Lib.hid hM
 have HB:=Lib.hid hB
 have HPL:=Lib.hid (show P.length≤2 by rw[HP.out];split<;>simp)
 clear hA hM hB HA1 HM1 HB1
 obtain⟨z0,z1,z2,z3⟩:=HA.out.cells
 have hl:=HA.out.lt
 go_wp2_with fail
 refine(rruns_call C).mono ?_;rintro e w3 ⟨⟨v3,rfl,hr3⟩,hb3⟩
 have HM3:=Lib.hid (HM.out.below hb3)
 have HB3:=Lib.hid (HB.out.trans (hb3.mono HB.out.size))
 have hrl:=runs_length C
 have HLT:=Lib.hid (runs_lt (c:=C))
 have HLE:=Lib.hid (runs_le C)
 have HBK:=Lib.hid (show brackB c=P++(C.runs.flatMap runB++[93])by rw[brackB,HP.out,HC.out,List.append_assoc])
 have HLTM:=Lib.hid (HM.out.lt)
 have HBS:=Lib.hid (HB.out.size)
 generalize C.runs=R at hr3 hrl HLT HLE HBK
 obtain⟨o3,c3,rfl⟩:=own_form hr3
 have HR3:=Lib.hid hr3
 clear hr3 hb3 z0 z1 z2 z3 hl HA HM HB
 go_wp2_with fail
 go_loopg [3,6] R.length (fun k lv iv wr=> ∃i:Nat,iv= .int .i64 (i:Nat)∧k=R.length - i∧i≤R.length∧BrI w (.slice o3 R.length c3) R (P++(R.take i).flatMap runB) lv wr)
 case atStart=>exact⟨0,rfl,by omega,by omega,ownsRow_low HR3.out HBS.out,by simpa using HM3.out,HB3.out,fun k h1 h2=>by have:=(HLTM.out k h1).2;have:=(HR3.out.lt k h2).1;omega⟩
 case round=>
  obtain⟨i,rfl,hg,hi,hI⟩:=hrel
  have HG:=Lib.hid hg
  have HI:=Lib.hid hI
  clear hg
  by_cases hlt:i<R.length
  ·have hlt':(i:Int)<(R.length:Int):=by omega
   obtain⟨r,hr⟩: ∃r,R[i]?=some r:=⟨_,List.getElem?_eq_getElem hlt⟩
   obtain⟨_,g3,rfl,hg3,hc3,_⟩:=own_some hI.r (by omega)
   obtain⟨h1,h2⟩:=runCells_two R i r hr
   obtain⟨u0,hu0,z0⟩:=hc3 (i*2) (by omega)
   obtain⟨u1,hu1,z1⟩:=hc3 (i*2+1) (by omega)
   rw[h1]at hu0
   rw[h2]at hu1
   cases hu0
   cases hu1
   have hrm:=List.mem_of_getElem? hr
   obtain⟨b1,b2⟩:=HLT.out r hrm
   have hle:=HLE.out r hrm
   have HT:=Lib.hid (show(R.take (i+1)).flatMap runB=(R.take i).flatMap runB++runB r by rw[List.take_add_one,hr];simp)
   have HC3:=Lib.hid (show∀W:World,W.ownsRow w.heap.size 168 2 (.slice (some ⟨g3,0,none⟩) R.length c3) R.length (runCells R)→g3<W.heap.size∧W.cell? ⟨g3,i*2,none⟩=some (.int .u8 (r.1:Nat))∧W.cell? ⟨g3,i*2+1,none⟩=some (.int .u8 (r.2:Nat))from fun W hW=>
    ⟨(hW.lt g3 rfl).2,by rw[World.ownsRow.cellAt hW (i*2) (by omega)];exact h1,by rw[World.ownsRow.cellAt hW (i*2+1) (by omega)];exact h2⟩)
   clear hc3 h1 h2 hI hrm hr
   go_wp2_with fail
   refine(byteOf_call r.1 b1).mono ?_;rintro e w4 ⟨⟨v4,rfl,hm4⟩,hb4⟩
   have HI4:=Lib.hid (HI.out.below hb4)
   have HM4:=Lib.hid hm4
   have HS4:=Lib.hid (HI4.out.b.size)
   have hl4:=(endB_length r.1).2
   clear hm4 hb4 z0 z1 hg3
   have hsl:=HPL.out
   have HFL:=Lib.hid (show(P++(R.take i).flatMap runB).length≤3000 by
    rw[List.length_append]
    have:=runsB_length (R.take i)
    rw[List.length_take]at this
    omega)
   go_wp2_with (at_builtin;refine wpList_mks rfl _ _ rfl (w.heap.size+1) rfl HI4.out.l (ys:=(endB r.1).map mk) rfl (Mks.srcV HM4.out) (by rw[List.length_map,List.length_map];have:=HFL.out;omega) (by have:=HI4.out.r.lt g3 rfl;omega) ?_)
   intro v5 w5 hm5 hgr5 hblk5
   have HI5:=Lib.hid (HI4.out.app (endB r.1) hm5 (by simp[mkB]) hgr5 hblk5)
   clear hm5 hgr5 hblk5
   obtain⟨hg3,z0,z1⟩:=HC3.out w5 HI5.out.r
   go_wp2_with fail
   by_cases hq:r.2=r.1
   ·have hq': ¬(r.1:Int)<(r.2:Int):=by omega
    have HRB:=Lib.hid (show runB r=endB r.1 by rw[runB,if_pos hq,List.append_nil])
    clear hq
    refine wp_region_segs (X:=none) 11 [] [0,1,2,3,4,5,6,7,8,9,10] (by kernel_rfl) (by kernel_rfl) rfl (fun _ _ _ _ _ h=>h) ?_
    simp only[wpSegs,pickSegs_nil,pickOps_nil,pickOps_cons,List.getD_cons_zero,List.getD_cons_succ,List.drop_succ_cons,List.drop_nil]
    repeat (go_big_quiet_step (fail))
    refine wpQuiet_nil ?_
    go_wp2_with fail
    go_roundg (R.length - (i+1))
    case measure=>have:=HG.out;omega
    case rel=>exact⟨i+1,by go_num,rfl,by omega,by rw[HT.out,HRB.out,←List.append_assoc];exact HI5.out.below (Below.refl _ w5).drew⟩
   ·have hq':(r.1:Int)<(r.2:Int):=by omega
    have HRB:=Lib.hid (show runB r=endB r.1++([45]++endB r.2)by rw[runB,if_neg hq];rfl)
    clear hq
    refine wp_region_segs (X:=none) 11 [] [0,1,2,3,4,5,6,7,8,9,10] (by kernel_rfl) (by kernel_rfl) rfl (fun _ _ _ _ _ h=>h) ?_
    simp only[wpSegs,pickSegs_nil,pickOps_nil,pickOps_cons,List.getD_cons_zero,List.getD_cons_succ,List.drop_succ_cons,List.drop_nil]
    repeat (go_big_quiet_step (fail))
    refine wpQuiet_nil ?_
    have HI6:=Lib.hid (HI5.out.below ((Below.refl _ w5).drew.alloc (by simp) (.cells #[.int .u8 45,.bool false] 131)))
    have hl6:=(endB_length r.2).2
    have HF5:=Lib.hid (show(P++(R.take i).flatMap runB++endB r.1).length≤3010 by rw[List.length_append];have:=HFL.out;omega)
    have HF6:=Lib.hid (show(P++(R.take i).flatMap runB++endB r.1++[45]).length≤3020 by rw[List.length_append];have:=HF5.out;simp only[List.length_cons,List.length_nil];omega)
    clear hg3 z0 z1
    go_wp2_with (at_builtin;refine wpList_mks rfl _ _ rfl (w.heap.size+1) rfl HI6.out.l (ys:=[mk 45]) rfl (Src.new w5.drew (mksC [mk 45]) _ _ _) (by rw[List.length_map];have:=HF5.out;show _+1≤_;omega) (by have:=HI5.out.r.lt g3 rfl;show w.heap.size+1≤(w5.alloc _).heap.size;simp;omega) ?_)
    intro v6 w6 hm6 hgr6 hblk6
    have HI7:=Lib.hid (HI6.out.app [45] hm6 (by simp[mkB]) hgr6 (by rcases hblk6 with h|h;exact .inl h;exact .inr (by rw[h];show some (w5.heap.size+1)=some (w5.alloc _).heap.size;simp)))
    clear hm6 hgr6 hblk6
    obtain⟨hg3,z0,z1⟩:=HC3.out w6 HI7.out.r
    go_wp2_with fail
    refine(byteOf_call r.2 b2).mono ?_;rintro e w7 ⟨⟨v7,rfl,hm7⟩,hb7⟩
    have HI8:=Lib.hid (HI7.out.below hb7)
    have HM7:=Lib.hid hm7
    clear hm7 hb7 z0 z1 hg3
    go_wp2_with (at_builtin;refine wpList_mks rfl _ _ rfl (w.heap.size+1) rfl HI8.out.l (ys:=(endB r.2).map mk) rfl (Mks.srcV HM7.out) (by rw[List.length_map,List.length_map];have:=HF6.out;omega) (by have:=HI8.out.r.lt g3 rfl;omega) ?_)
    intro v8 w8 hm8 hgr8 hblk8
    have HI9:=Lib.hid (HI8.out.app (endB r.2) hm8 (by simp[mkB]) hgr8 hblk8)
    clear hm8 hgr8 hblk8
    go_wp2_with fail
    go_roundg (R.length - (i+1))
    case measure=>have:=HG.out;omega
    case rel=>exact⟨i+1,by go_num,rfl,by omega,by rw[HT.out,HRB.out,←List.append_assoc,←List.append_assoc,←List.append_assoc];exact HI9.out⟩
  ·have hlt': ¬(i:Int)<(R.length:Int):=by omega
   obtain rfl:i=R.length:=by omega
   have HFL:=Lib.hid (show(P++(R.take R.length).flatMap runB).length≤3000 by
    rw[List.length_append,List.take_length]
    have:=runsB_length R
    have:=HPL.out
    omega)
   have HI6:=Lib.hid (HI.out.below ((Below.refl _ wr).alloc (Nat.le_refl _) (.cells #[.int .u8 93,.bool false] 131)))
   clear hI
   go_wp2_with (at_builtin;refine wpList_mks rfl _ _ rfl (w.heap.size+1) rfl HI6.out.l (ys:=[mk 93]) rfl (Src.new wr (mksC [mk 93]) _ _ _) (by rw[List.length_map];have:=HFL.out;show _+1≤_;omega) (by have:=HI.out.b.size;simp;omega) ?_)
   intro v6 w6 hm6 hgr6 hblk6
   have HI7:=Lib.hid (HI6.out.app [93] hm6 (by simp[mkB]) hgr6 (by simpa using hblk6))
   clear hm6 hgr6 hblk6
   go_wp2_with fail
   go_ret
   refine⟨⟨_,rfl,?_⟩,HI7.out.b⟩
   have h:=HI7.out.l
   rw[List.take_length,List.append_assoc,←HBK.out]at h
   exact ownsRow_low h (by omega)
end Go.Proofs.YtfjbnpdffillbaaGreatDoor
