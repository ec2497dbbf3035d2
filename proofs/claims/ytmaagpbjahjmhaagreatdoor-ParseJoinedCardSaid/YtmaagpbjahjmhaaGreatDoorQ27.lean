/- Parts: Td. -/
import Derived.Test.YtmaagpbjahjmhaaGreatDoorQ26
import Derived.Test.YtmaagpbjahjmhaaGreatDoorQ7
import Derived.Deep.LoopGhost
import Derived.Deep.CutBlock
set_option maxHeartbeats 3200000
set_option maxRecDepth 100000
namespace Go.Proofs.YtmaagpbjahjmhaaGreatDoor
open Go.RowKit
structure LkS (w:World) (xb:Nat) (oa:Option Addr) (nb no cap:Nat) (re:List Nd) (i:Nat) (en:List Bool) (ev:Value):Prop where
 lt:xb<w.heap.size
 c0:w.cell? ⟨xb,0,none⟩=some (.slice oa re.length cap)
 c1:w.cell? ⟨xb,1,none⟩=some (.int .i64 i)
 c2:w.cell? ⟨xb,2,none⟩=some ev
 fz: ∀o,w.frozen? ⟨xb,o,none⟩=false
 own:w.ownsRow (xb+1) 4 1 ev en.length (en.map .bool)
 nd:0<re.length→oa=some ⟨nb,no,none⟩∧zHs w nb no re
 nlt:nb<xb
 len:re.length≤4294967296
 at_:i≤re.length
 el:en.length≤255
section
variable {w w':World} {xb:Nat} {oa:Option Addr} {nb no cap:Nat} {re:List Nd} {i:Nat} {en:List Bool} {ev:Value}
theorem zHs.of_block (h:zHs w nb no re) (hb:w'.heap[nb]?=w.heap[nb]?) (hs:w.heap.size≤w'.heap.size):zHs w' nb no re:=
 ⟨Nat.lt_of_lt_of_le h.lt hs,h.len,fun i hi j=>(h.c i hi j).imp (fun e=>(World.cell?_of_block (w:=w) (a:=⟨nb,no+i*9+j,none⟩) hb).trans e) id,h.k⟩
theorem LkS.evlt (h:LkS w xb oa nb no cap re i en ev): ∀g,ev.ownBlock=some g→xb<g∧g<w.heap.size:=fun g hg=>⟨(h.own.lt g hg).1,(h.own.lt g hg).2⟩
theorem LkS.block (h:LkS w xb oa nb no cap re i en ev) (hb: ∀g,ev.ownBlock=some g→w'.heap[g]?=w.heap[g]?) (hr:w'.heap[xb]?=w.heap[xb]?) (hm:w'.heap[nb]?=w.heap[nb]?) (hs:w.heap.size≤w'.heap.size):LkS w' xb oa nb no cap re i en ev where
 lt:=Nat.lt_of_lt_of_le h.lt hs
 c0:=(World.cell?_of_block (w:=w) (a:=⟨xb,0,none⟩) hr).trans h.c0
 c1:=(World.cell?_of_block (w:=w) (a:=⟨xb,1,none⟩) hr).trans h.c1
 c2:=(World.cell?_of_block (w:=w) (a:=⟨xb,2,none⟩) hr).trans h.c2
 fz:=fun o=>(World.frozen?_of_block (w:=w) (a:=⟨xb,o,none⟩) hr).trans (h.fz o)
 own:=zAW h.own hb
 nd:=fun hp=>⟨(h.nd hp).1,(h.nd hp).2.of_block hm hs⟩
 nlt:=h.nlt
 len:=h.len
 at_:=h.at_
 el:=h.el
theorem LkS.below (h:LkS w xb oa nb no cap re i en ev) (hb:Below w.heap.size w w'):LkS w' xb oa nb no cap re i en ev:=
 h.block (fun g hg=>hb.block g (h.evlt g hg).2) (hb.block xb h.lt) (hb.block nb (Nat.lt_trans h.nlt h.lt)) hb.size
theorem LkS.drew (h:LkS w xb oa nb no cap re i en ev):LkS w.drew xb oa nb no cap re i en ev:=h.below (Below.refl _ _).drew
theorem LkS.alloc (h:LkS w xb oa nb no cap re i en ev) (o:Obj):LkS (w.alloc o) xb oa nb no cap re i en ev:=h.below ((Below.refl _ _).alloc (Nat.le_refl _) _)
theorem LkS.setAt (h:LkS w xb oa nb no cap re i en ev) {j:Nat} (hj:j≤re.length):LkS (w.setCell ⟨xb,1,none⟩ (.int .i64 j)) xb oa nb no cap re j en ev where
 lt:=by simpa [World.setCell]using h.lt
 c0:=(zAG _ _ _ _ _ (by decide)).trans h.c0
 c1:=World.cell?_setCell_same _ _ _ h.c1
 c2:=(zAG _ _ _ _ _ (by decide)).trans h.c2
 fz:=fun o=>zAK _ _ _ _ (h.fz o)
 own:=ownsRow_setCell_below h.own (Nat.lt_succ_self _) _
 nd:=fun hp=>⟨(h.nd hp).1,(h.nd hp).2.of_block (Below.heap_setCell _ _ _ _ (by have:=h.nlt;show nb≠xb;omega)) (by simp)⟩
 nlt:=h.nlt
 len:=h.len
 at_:=hj
 el:=h.el
theorem LkS.not_xb (h:LkS w xb oa nb no cap re i en ev) {b:Nat} (hb:b≤xb):some b≠ev.ownBlock:=fun e=>by have:=(h.own.lt b e.symm).1;omega
theorem LkS.push (h:LkS w xb oa nb no cap re i en ev) (hg:w.grownBy w' ev.ownBlock) {ev':Value} {en':List Bool} (ho:w'.ownsRow (xb+1) 4 1 ev' en'.length (en'.map .bool)) (hl:en'.length≤255):
  LkS (w'.setCell ⟨xb,2,none⟩ ev') xb oa nb no cap re i en' ev':=by
 have hr:w'.heap[xb]?=w.heap[xb]?:=hg.block xb h.lt (h.not_xb (Nat.le_refl _))
 have hm:w'.heap[nb]?=w.heap[nb]?:=hg.block nb (Nat.lt_trans h.nlt h.lt) (h.not_xb (Nat.le_of_lt h.nlt))
 have hs:=hg.size
 exact {
  lt:=by simpa [World.setCell]using Nat.lt_of_lt_of_le h.lt hs
  c0:=(zAG _ _ _ _ _ (by decide)).trans ((World.cell?_of_block (w:=w) (a:=⟨xb,0,none⟩) hr).trans h.c0)
  c1:=(zAG _ _ _ _ _ (by decide)).trans ((World.cell?_of_block (w:=w) (a:=⟨xb,1,none⟩) hr).trans h.c1)
  c2:=World.cell?_setCell_same _ _ _ ((World.cell?_of_block (w:=w) (a:=⟨xb,2,none⟩) hr).trans h.c2)
  fz:=fun o=>zAK _ _ _ _ ((World.frozen?_of_block (w:=w) (a:=⟨xb,o,none⟩) hr).trans (h.fz o))
  own:=ownsRow_setCell_below ho (Nat.lt_succ_self _) _
  nd:=fun hp=>⟨(h.nd hp).1,((h.nd hp).2.of_block hm hs).of_block (Below.heap_setCell _ _ _ _ (by have:=h.nlt;show nb≠xb;omega)) (by simp)⟩
  nlt:=h.nlt
  len:=h.len
  at_:=h.at_
  el:=hl }
theorem LkS.note (h:LkS w xb oa nb no cap re i en ev) {g cp:Nat} (hev:ev= .slice (some ⟨g,0,none⟩) en.length cp) (j:Nat):LkS (w.setCell ⟨g,j,none⟩ (.bool true)) xb oa nb no cap re i (en.set j true) ev:=by
 subst hev
 have ho:=h.own
 have hg:=(ho.lt g rfl).1
 obtain⟨h1,h2⟩:=World.ownsRow.stored ho j (.bool true)
 have hr:(w.setCell ⟨g,j,none⟩ (.bool true)).heap[xb]?=w.heap[xb]?:=Below.heap_setCell _ _ _ _ (by simp;omega)
 have hm:(w.setCell ⟨g,j,none⟩ (.bool true)).heap[nb]?=w.heap[nb]?:=Below.heap_setCell _ _ _ _ (by have:=h.nlt;simp;omega)
 exact {
  lt:=by simpa [World.setCell]using h.lt
  c0:=(World.cell?_of_block (w:=w) (a:=⟨xb,0,none⟩) hr).trans h.c0
  c1:=(World.cell?_of_block (w:=w) (a:=⟨xb,1,none⟩) hr).trans h.c1
  c2:=(World.cell?_of_block (w:=w) (a:=⟨xb,2,none⟩) hr).trans h.c2
  fz:=fun o=>(World.frozen?_of_block (w:=w) (a:=⟨xb,o,none⟩) hr).trans (h.fz o)
  own:=by simpa [List.map_set]using h1
  nd:=fun hp=>⟨(h.nd hp).1,(h.nd hp).2.of_block hm (by simp)⟩
  nlt:=h.nlt
  len:=h.len
  at_:=h.at_
  el:=by simpa using h.el }
theorem LkS.form (h:LkS w xb oa nb no cap re i en ev): ∃o c,ev= .slice o en.length c:=by
 rcases h.own.2 with ⟨h1,h2⟩|⟨g,cp,_,h1,_⟩
 ·exact⟨none,0,by rw[h1,h2]⟩
 ·exact⟨_,_,h1⟩
theorem LkS.row (h:LkS w xb oa nb no cap re i en ev) (hn:0<en.length): ∃g cp,ev= .slice (some ⟨g,0,none⟩) en.length cp∧xb<g∧g<w.heap.size:=by
 rcases h.own.2 with ⟨_,h2⟩|⟨g,cp,_,h1,h3,h4,_⟩
 ·omega
 ·exact⟨g,cp,h1,h3,(Array.getElem?_eq_some_iff.1 h4).1⟩
def LkP (w:World) (xb:Nat) (oa:Option Addr) (nb no cap:Nat) (re:List Nd) (ev:Value) (r:Option (Nat × List Bool)) (e:Ending) (w':World):Prop:=
 zA8 xb ev.ownBlock w w'∧match r with
 |none=>e= .returned (.bool false)
 |some (j,en')=> ∃ev',e= .returned (.bool true)∧LkS w' xb oa nb no cap re j en' ev'∧zBX w ev.ownBlock ev'.ownBlock
theorem zGN {g:Nat→List Bool→Option (Nat × List Bool)} (hg: ∀i en r,g i en=some r→en.length≤r.2.length): ∀(k i:Nat) (en:List Bool) (r:Nat × List Bool),zBY g k i en=some r→en.length≤r.2.length
 |0,_,_,_,he=>by simp only[zBY,Option.some.injEq]at he;subst he;exact Nat.le_refl _
 |k+1,i,en,r,he=>by
  unfold zBY at he
  split at he
  ·cases he
  ·rename_i j en1 h1
   exact Nat.le_trans (hg _ _ _ h1) (zGN hg k _ _ _ he)
theorem zGG (re:List Nd): ∀(f g i:Nat) (en:List Bool) (r:Nat × List Bool),zA0 re f g i en=some r→en.length≤r.2.length
 |0,_,_,_,_,h=>by simp[zA0]at h
 |f+1,g,i,en,r,h=>by
  rw[zA0]at h
  split at h
  ·cases h
  ·split at h
   ·cases h
   ·split at h
    ·cases h
    ·split at h
     ·split at h
      ·cases h
      ·split at h
       ·cases h
       ·rename_i j en1 hk
        cases h
        have:=zGN (fun i en r=>zGG re f (g+1) i en r) _ _ _ _ hk
        simp only[List.length_append,List.length_set]at this ⊢
        omega
     ·exact zGN (fun i en r=>zGG re f g i en r) _ _ _ _ h
def zOn (xb:Nat) (oa:Option Addr) (nb no cap:Nat) (re:List Nd) (f:Nat):Prop:= ∀(g i:Nat) (en:List Bool) (w:World) (ev:Value) (wi gi:Int),f≤260→wi=((260 - f:Nat):Int)→gi=g→g≤64→LkS w xb oa nb no cap re i en ev→
  Calls Tryz.prog 112 #[.pointer (some ⟨xb,0,none⟩),.int .i64 wi,.int .i64 gi] w (LkP w xb oa nb no cap re ev (zA0 re f g i en))
theorem zMa:zOn xb oa nb no cap re 0:=fun g i en w ev wi gi hf hwi hgi hg hv=>by
  have hw:decide ((259:Int)<wi)=true:=by simp;omega
  have hlen:=hv.len
  have c0:=hv.c0
  have c1:=hv.c1
  have xl:=hv.lt
  have HN:Hid (zA0 re 0 g i en=none):=rfl
  clear hv hwi
  by_cases h1:i=re.length
  ·subst h1
   go_enter Tryz.func112,Tryz.ntmps112
   go_wp2_with fail
   refine zAA (X:=none) 28 [([0,1,2,3,4,5,6,7,8,9,10,11,12,13,14,15,16,17,18,19,20,21,22,23,24],25)] [26,27] (by kernel_rfl) (by kernel_rfl) rfl (fun _ _ _ _ _ h=>h) ?_
   simp only[zAM,zAC,zAE,zAD,zAB,List.getD_cons_zero,List.getD_cons_succ,List.drop_succ_cons,List.drop_nil]
   repeat (go_big_quiet_step (fail))
   refine wpQuiet_nil ?_
   go_wp2_with fail
   refine⟨zAI.refl _,?_⟩
   repeat (go_big_quiet_step (fail))
   refine wpQuiet_nil ?_
   go_wp2_with fail
   go_ret
   exact⟨(zA8.refl _ _ _).drew,by rw[HN.out];rfl⟩
  ·have h1':((i:Int)==(re.length:Int))=false:=by simp;omega
   go_enter Tryz.func112,Tryz.ntmps112
   go_wp2_with fail
   refine zAA (X:=none) 28 [([0,1,2,3,4,5,6,7,8,9,10,11,12,13,14,15,16,17,18,19,20,21,22,23,24],25)] [26,27] (by kernel_rfl) (by kernel_rfl) rfl (fun _ _ _ _ _ h=>h) ?_
   simp only[zAM,zAC,zAE,zAD,zAB,List.getD_cons_zero,List.getD_cons_succ,List.drop_succ_cons,List.drop_nil]
   repeat (go_big_quiet_step (fail))
   refine wpQuiet_nil ?_
   go_wp2_with fail
   refine⟨zAI.refl _,?_⟩
   repeat (go_big_quiet_step (fail))
   refine wpQuiet_nil ?_
   go_wp2_with fail
   go_ret
   exact⟨(zA8.refl _ _ _).drew,by rw[HN.out];rfl⟩
theorem zMb (f:Nat) (HNA:Hid (zOn xb oa nb no cap re f)):zOn xb oa nb no cap re (f+1):=fun g i en w ev wi gi hf hwi hgi hg hv=>by
  have hw:decide ((259:Int)<wi)=false:=by simp;omega
  have hlen:=hv.len
  have c0:=hv.c0
  have c1:=hv.c1
  have xl:=hv.lt
  by_cases h1:i=re.length
  ·have HN:Hid (zA0 re (f+1) g i en=none):=by rw[Hid,zA0,List.getElem?_eq_none (by omega)]
   subst h1
   clear hv hwi
   go_enter Tryz.func112,Tryz.ntmps112
   go_wp2_with fail
   refine zAA (X:=none) 28 [([0,1,2,3,4,5,6,7,8,9,10,11,12,13,14,15,16,17,18,19,20,21,22,23,24],25)] [26,27] (by kernel_rfl) (by kernel_rfl) rfl (fun _ _ _ _ _ h=>h) ?_
   simp only[zAM,zAC,zAE,zAD,zAB,List.getD_cons_zero,List.getD_cons_succ,List.drop_succ_cons,List.drop_nil]
   repeat (go_big_quiet_step (fail))
   refine wpQuiet_nil ?_
   go_wp2_with fail
   refine⟨zAI.refl _,?_⟩
   repeat (go_big_quiet_step (fail))
   refine wpQuiet_nil ?_
   go_wp2_with fail
   go_ret
   exact⟨(zA8.refl _ _ _).drew,by rw[HN.out];rfl⟩
  have hi:i<re.length:=by have:=hv.at_;omega
  have h1':((i:Int)==(re.length:Int))=false:=by simp;omega
  have hi':(i:Int)<(re.length:Int):=by omega
  obtain⟨hoa,hnd⟩:=hv.nd (by omega)
  obtain⟨x,hx⟩: ∃x,re[i]?=some x:=⟨_,List.getElem?_eq_getElem hi⟩
  obtain⟨n0,n1,n2,n3,n4,n5,n6,n7,n8⟩:=hnd.cells hx
  have nbl:=hnd.lt
  have hkm:=hnd.k x (List.mem_of_getElem? hx)
  rw[hoa]at c0
  have HV:=Lib.hid hv
  have HX:=Lib.hid hx
  have HSH:=Lib.hid (zK1 x)
  have HW:=Lib.hid hwi
  clear hv hnd hx hwi hoa
  cases hgd:zAd x with
  |false=>
   have HN:Hid (zA0 re (f+1) g i en=none):=by rw[Hid,zA0,HX.out];simp only[hgd];rfl
   rw[hgd]at HSH
   obtain⟨op,⟨x0,x1,x2,x3⟩,xn,xmin,xmax,xk⟩:=x
   simp only at n0 n1 n2 n3 n4 n5 n6 n7 n8 hkm
   go_enter Tryz.func112,Tryz.ntmps112
   go_wp2_with fail
   refine zAA (X:=none) 28 [([0,1,2,3,4,5,6,7,8,9,10,11,12,13,14,15,16,17,18,19,20,21,22,23,24],25)] [26,27] (by kernel_rfl) (by kernel_rfl) rfl (fun _ _ _ _ _ h=>h) ?_
   simp only[zAM,zAC,zAE,zAD,zAB,List.getD_cons_zero,List.getD_cons_succ,List.drop_succ_cons,List.drop_nil]
   repeat (go_big_quiet_step (fail))
   refine wpQuiet_nil ?_
   go_wp2_with fail
   refine(HSH.out w.drew).mono ?_;rintro e w1 ⟨rfl,hb1⟩
   have HB1:=Lib.hid ((zA8.refl xb ev.ownBlock w).drew.below hb1)
   have hk:=zAI.of_below (X:=none) hb1
   go_wp2_with fail
   refine⟨hk,?_⟩
   repeat (go_big_quiet_step (fail))
   refine wpQuiet_nil ?_
   clear hk hb1
   go_wp2_with fail
   go_ret
   exact⟨HB1.out,by rw[HN.out];rfl⟩
  |true=>
   rw[hgd]at HSH
   have HN:Hid (zA0 re (f+1) g i en=if x.op==8&&(decide (x.n<1)||decide ((en.length:Int)<x.n)|| !en.getD (x.n.toNat - 1) false)then none
    else if x.op=7 then
     if x.n≠(en.length:Int)+1∨255<x.n∨64≤g then none
     else match zBY (zA0 re f (g+1)) x.kids.toNat (i+1) (en++[false])with
      |none=>none
      |some (j,en')=>some (j,en'.set en.length true)
    else zBY (zA0 re f g) x.kids.toNat (i+1) en):=by rw[Hid,zA0,HX.out];simp only[hgd,Bool.not_true,Bool.false_eq_true,if_false];rfl
   obtain⟨op,⟨x0,x1,x2,x3⟩,xn,xmin,xmax,xk⟩:=x
   simp only at n0 n1 n2 n3 n4 n5 n6 n7 n8 hkm HN
   go_enter Tryz.func112,Tryz.ntmps112
   go_wp2_with fail
   refine zAA (X:=none) 28 [([0,1,2,3,4,5,6,7,8,9,10,11,12,13,14,15,16,17,18,19,20,21,22,23,24],25)] [26,27] (by kernel_rfl) (by kernel_rfl) rfl (fun _ _ _ _ _ h=>h) ?_
   simp only[zAM,zAC,zAE,zAD,zAB,List.getD_cons_zero,List.getD_cons_succ,List.drop_succ_cons,List.drop_nil]
   repeat (go_big_quiet_step (fail))
   refine wpQuiet_nil ?_
   go_wp2_with fail
   refine(HSH.out w.drew).mono ?_;rintro e w1 ⟨rfl,hb1⟩
   have hv1:=HV.out.drew.below hb1
   have HV1:=Lib.hid hv1
   have HB1:=Lib.hid ((zA8.refl xb ev.ownBlock w).drew.below hb1)
   have hnd1:=(hv1.nd (by omega)).2
   obtain⟨m0,m1,m2,m3,m4,m5,m6,m7,m8⟩:=hnd1.cells HX.out
   simp only at m0 m1 m2 m3 m4 m5 m6 m7 m8
   have d0:=hv1.c0
   have d1:=hv1.c1
   have y1:=hv1.fz 1
   have xl1:=hv1.lt
   have nbl1:=hnd1.lt
   rw[(HV.out.nd (by omega)).1]at d0
   have hk:=zAI.of_below (X:=none) hb1
   go_wp2_with fail
   refine⟨hk,?_⟩
   repeat (go_big_quiet_step (fail))
   refine wpQuiet_nil ?_
   clear hk hb1 hnd1 hv1 n0 n1 n2 n3 n4 n5 n6 n7 n8 c0 c1 nbl xl
   go_wp2_with fail
   refine zAA (X:=none) 11 [([0,1,2,3,4,5,6,7,8,9],10)] [] (by kernel_rfl) (by kernel_rfl) rfl (fun _ _ _ _ _ h=>h) ?_
   simp only[zAM,zAC,zAE,zAD,zAB,List.getD_cons_zero,List.getD_cons_succ,List.drop_succ_cons,List.drop_zero]
   repeat (go_big_quiet_step (fail))
   refine wpQuiet_nil ?_
   go_wp2_with fail
   refine⟨zAr (zAb _ _),wpQuiet_nil ?_⟩
   have hv2:=HV1.out.setAt (j:=i+1) hi
   have hb2:=HB1.out.store 1 (.int .i64 ((i+1:Nat):Int))
   rw[Int.natCast_add,show((1:Nat):Int)=1 from rfl]at hv2 hb2
   have hsz1:(w1.setCell ⟨xb,1,none⟩ (.int .i64 ((i:Int)+1))).heap.size=w1.heap.size:=by simp
   have hv3:=(hv2.alloc (.cells (zAV ⟨op,⟨x0,x1,x2,x3⟩,xn,xmin,xmax,xk⟩) 101)).drew
   have hb3:=(hb2.alloc (.cells (zAV ⟨op,⟨x0,x1,x2,x3⟩,xn,xmin,xmax,xk⟩) 101)).drew
   have hB3:zFe ((w1.setCell ⟨xb,1,none⟩ (.int .i64 ((i:Int)+1))).alloc (.cells (zAV ⟨op,⟨x0,x1,x2,x3⟩,xn,xmin,xmax,xk⟩) 101)).drew w1.heap.size ⟨op,⟨x0,x1,x2,x3⟩,xn,xmin,xmax,xk⟩:=by
    have h:=heap_alloc_new (w1.setCell ⟨xb,1,none⟩ (.int .i64 ((i:Int)+1))) (.cells (zAV ⟨op,⟨x0,x1,x2,x3⟩,xn,xmin,xmax,xk⟩) 101)
    rw[hsz1]at h
    exact h
   have hBw:=HB1.out.size
   have hel1: ∀z,ev.ownBlock=some z→z≠w1.heap.size:=fun z hz=>by have:=(HV1.out.evlt z hz).2;omega
   have HV3:=Lib.hid hv3
   have HB2:=Lib.hid hb3
   have HD3:=Lib.hid hB3
   have HEL:=Lib.hid hel1
   clear hv2 hb2 hv3 hb3 hB3 hsz1 hel1
   go_upto_region 5 with fail
   clear m0 m1 m2 m3 m4 m5 m6 m7 m8 d0 d1 y1 nbl1
   revert HV3 HB2 HD3
   simp only[zAV]
   generalize ((w1.setCell ⟨xb,1,none⟩ (.int .i64 ((i:Int)+1))).alloc (.cells #[.int .i8 op,.int .u64 x0.toNat,.int .u64 x1.toNat,.int .u64 x2.toNat,.int .u64 x3.toNat,.int .i64 xn,.int .i64 xmin,.int .i64 xmax,.int .i64 xk] 101)).drew=W3
   intro HV3 HB2 HD3
   clear HV1 HB1
   generalize w1.heap.size=B at HD3 HEL hBw xl1 ⊢
   obtain⟨b0,b1,b2,b3,b4,b5,b6,b7,b8,zB⟩:=HD3.out.cells
   simp only at b0 b1 b2 b3 b4 b5 b6 b7 b8
   have Bl:=HD3.out.lt
   have xl:=HV3.out.lt
   have e2:=HV3.out.c2
   have q2:=HV3.out.fz 2
   obtain⟨eo,ec,hev⟩:=HV3.out.form
   rw[hev]at e2
   have HEV:=Lib.hid hev
   clear hev
   have hxB: ¬xb=B:=by omega
   go_upto_block 0 with fail
   go_cut [2] (fun u wd=> ∃(g1:Nat) (en1:List Bool) (ev1:Value),u= .int .i64 (g1:Nat)∧g1≤64∧LkS wd xb oa nb no cap re (i+1) en1 ev1∧zA8 xb ev.ownBlock w wd∧zBX w ev.ownBlock ev1.ownBlock∧zFe wd B ⟨op,⟨x0,x1,x2,x3⟩,xn,xmin,xmax,xk⟩∧some B≠ev1.ownBlock∧(op=7→en1.length=en.length+1∧xn=(en.length:Int)+1)∧
    Hid (zA0 re (f+1) g i en=match zBY (zA0 re f g1) xk.toNat (i+1) en1 with
     |none=>none
     |some (j,e')=>some (j,if op=7 then e'.set en.length true else e')))
   case first=>
    by_cases h8:op=8
    ·subst h8
     by_cases r1:xn<1
     ·have HF:Hid (zA0 re (f+1) g i en=none):=by rw[Hid,HN.out,if_pos (by simp[r1])]
      have r1':decide (xn<1)=true:=by simpa using r1
      clear HN
      go_wp2_with fail
      refine zAA (X:=none) 25 [] [0,1,2,3,4,5,6,7,8,9,10,11,12,13,14,15,16,17,18,19,20,21,22,23,24] (by kernel_rfl) (by kernel_rfl) rfl (fun _ _ _ _ _ h=>h) ?_
      simp only[zAM,zAC,zAD,zAB,List.getD_cons_zero,List.getD_cons_succ,List.drop_succ_cons,List.drop_nil]
      repeat (go_big_quiet_step (fail))
      refine wpQuiet_nil ?_
      go_wp2_with fail
      go_wp2_with fail
      go_ret
      exact⟨HB2.out.drew,by rw[HF.out];rfl⟩
     by_cases r2:(en.length:Int)<xn
     ·have HF:Hid (zA0 re (f+1) g i en=none):=by rw[Hid,HN.out,if_pos (by simp[r2])]
      have r1':decide (xn<1)=false:=by simpa using r1
      have r2':decide ((en.length:Int)<xn)=true:=by simpa using r2
      clear HN
      go_wp2_with fail
      refine zAA (X:=none) 25 [] [0,1,2,3,4,5,6,7,8,9,10,11,12,13,14,15,16,17,18,19,20,21,22,23,24] (by kernel_rfl) (by kernel_rfl) rfl (fun _ _ _ _ _ h=>h) ?_
      simp only[zAM,zAC,zAD,zAB,List.getD_cons_zero,List.getD_cons_succ,List.drop_succ_cons,List.drop_nil]
      repeat (go_big_quiet_step (fail))
      refine wpQuiet_nil ?_
      go_wp2_with fail
      go_wp2_with fail
      go_ret
      exact⟨HB2.out.drew,by rw[HF.out];rfl⟩
     obtain⟨m,rfl⟩: ∃m:Nat,xn=(m:Int)+1:=⟨(xn - 1).toNat,by omega⟩
     have hmt:((m:Int)+1).toNat - 1=m:=by omega
     obtain⟨ge,ce,hev2,hge,gel⟩:=HV3.out.row (by omega)
     clear e2
     have e2:=HV3.out.c2
     rw[hev2]at e2
     have ecell:W3.cell? ⟨ge,m,none⟩=some (.bool (en.getD m false)):=by
      rw[World.ownsRow.cellAt (hev2▸HV3.out.own) _ (by omega)]
      simp[List.getD_eq_getElem?_getD,show m<en.length by omega]
     have HEV2:=Lib.hid hev2
     have hel:=HV3.out.el
     have hm255:(m:Int)≤255:=by omega
     have hml:(m:Int)<(en.length:Int):=by omega
     have hmb:decide ((m:Int)<(en.length:Int))=true:=by simpa using hml
     have hms:(m:Int)+1 - 1=(m:Int):=by omega
     have r1':decide ((m:Int)+1<1)=false:=by simp;omega
     have r2':decide ((en.length:Int)<(m:Int)+1)=false:=by simp;omega
     clear hev2
     cases hb:en.getD m false with
     |false=>
      have HF:Hid (zA0 re (f+1) g i en=none):=by rw[Hid,HN.out,if_pos (by rw[hmt,hb];simp)]
      rw[hb]at ecell
      clear HN
      go_wp2_with fail
      refine zAA (X:=none) 25 [] [0,1,2,3,4,5,6,7,8,9,10,11,12,13,14,15,16,17,18,19,20,21,22,23,24] (by kernel_rfl) (by kernel_rfl) rfl (fun _ _ _ _ _ h=>h) ?_
      simp only[zAM,zAC,zAD,zAB,List.getD_cons_zero,List.getD_cons_succ,List.drop_succ_cons,List.drop_nil]
      repeat (go_big_quiet_step (fail))
      refine wpQuiet_nil ?_
      go_wp2_with fail
      go_wp2_with fail
      go_ret
      exact⟨HB2.out.drew,by rw[HF.out];rfl⟩
     |true=>
      rw[hb]at ecell
      go_wp2_with fail
      refine zAA (X:=none) 25 [] [0,1,2,3,4,5,6,7,8,9,10,11,12,13,14,15,16,17,18,19,20,21,22,23,24] (by kernel_rfl) (by kernel_rfl) rfl (fun _ _ _ _ _ h=>h) ?_
      simp only[zAM,zAC,zAD,zAB,List.getD_cons_zero,List.getD_cons_succ,List.drop_succ_cons,List.drop_nil]
      repeat (go_big_quiet_step (fail))
      refine wpQuiet_nil ?_
      go_wp2_with fail
      go_meet
      exact⟨g,en,ev,rfl,hg,HV3.out.drew,HB2.out.drew,zBX.refl _ _,HD3.out.below (Below.refl _ _).drew,fun e=>HEL.out B e.symm rfl,fun h=>absurd h (by decide: ¬(8:Int)=7),by
       rw[Hid,HN.out,if_neg (by rw[hmt,hb];simp;omega),if_neg (by decide: ¬(8:Int)=7)]
       cases zBY (zA0 re f g) xk.toNat (i+1) en with
       |none=>rfl
       |some q=>simp only[if_neg (by decide: ¬(8:Int)=7)]⟩
    have h8':(op==8)=false:=by simpa using h8
    by_cases h7:op=7
    ·subst h7
     have hel:=HV3.out.el
     go_wp2_with (at_builtin;refine zAa zQV rfl _ _ rfl (xb+1) rfl ((HEV.out▸HV3.out.own).alloc _) rfl (Src.new W3 [.bool false] _ _ _) rfl (by simp[Value.oneCell']) (by unfold maxLen;omega) (by omega) (by simp;omega) ?_)
     intro v1 w2 hown2 hgr2 hblk2
     rw[←HEV.out]at hgr2 hblk2
     have hvA:=HV3.out.alloc (.cells #[.bool false] 4)
     have hgb:w2.heap[xb]?=(W3.alloc (.cells #[.bool false] 4)).heap[xb]?:=hgr2.block xb hvA.lt (hvA.not_xb (Nat.le_refl _))
     have hdB:zFe w2 B ⟨7,⟨x0,x1,x2,x3⟩,xn,xmin,xmax,xk⟩:=(HD3.out.below ((Below.refl _ _).alloc (Nat.le_refl _) (.cells #[.bool false] 4))).block (hgr2.block B (by simp;omega) (fun e=>HEL.out B e.symm rfl))
     have E2:=(World.cell?_of_block (a:=⟨xb,2,none⟩) hgb).trans hvA.c2
     have Q2:=(World.frozen?_of_block (a:=⟨xb,2,none⟩) hgb).trans (hvA.fz 2)
     obtain⟨gv,cv,hv1⟩: ∃gv cv,v1= .slice (some ⟨gv,0,none⟩) (en.length+1) cv:=by
      rcases hown2.2 with ⟨_,h⟩|⟨gv,cv,_,h,_⟩
      ·omega
      ·exact⟨gv,cv,h⟩
     subst hv1
     have hn1:zBX w ev.ownBlock (Value.slice (some ⟨gv,0,none⟩) (en.length+1) cv).ownBlock:=by
      rcases hblk2 with h|h
      ·exact .inl h
      ·exact .inr fun z hz=>by rw[h]at hz;cases hz;omega
     have hBv:some B≠(Value.slice (some ⟨gv,0,none⟩) (en.length+1) cv).ownBlock:=by
      rcases hblk2 with h|h
      ·rw[h];exact fun e=>HEL.out B e.symm rfl
      ·rw[h];intro e;cases e;omega
     have HB5:=Lib.hid (((HB2.out.alloc (.cells #[.bool false] 4)).grown (zBX.refl _ _) hgr2).store 2 (.slice (some ⟨gv,0,none⟩) (en.length+1) cv))
     have HP5:=Lib.hid (fun(h:en.length+1≤255)=>hvA.push hgr2 (ev':= .slice (some ⟨gv,0,none⟩) (en.length+1) cv) (en':=en++[false]) (by simpa using hown2) (by simpa using h))
     have HD5:=Lib.hid (hdB.store (b:=xb) (fun e=>hxB e.symm) 2 (.slice (some ⟨gv,0,none⟩) (en.length+1) cv))
     have HN1:=Lib.hid hn1
     have HBV:=Lib.hid hBv
     have hC5:(w2.setCell ⟨xb,2,none⟩ (.slice (some ⟨gv,0,none⟩) (en.length+1) cv)).cell? ⟨xb,2,none⟩=some (.slice (some ⟨gv,0,none⟩) (en.length+1) cv):=World.cell?_setCell_same _ _ _ E2
     have hxl5:xb<(w2.setCell ⟨xb,2,none⟩ (.slice (some ⟨gv,0,none⟩) (en.length+1) cv)).heap.size:=by simpa using Nat.lt_of_lt_of_le hvA.lt hgr2.size
     clear hvA hgb hdB hown2 hgr2 hblk2 hn1 hBv b0 b1 b2 b3 b4 b5 b6 b7 b8 zB Bl xl e2 q2
     go_upto_region 11 with fail
     clear E2 Q2
     revert HB5 HP5 HD5 hC5 hxl5
     generalize w2.setCell ⟨xb,2,none⟩ (.slice (some ⟨gv,0,none⟩) (en.length+1) cv)=W5
     intro HB5 HP5 HD5 hC5 hxl5
     obtain⟨b0,b1,b2,b3,b4,b5,b6,b7,b8,zB⟩:=HD5.out.cells
     simp only at b0 b1 b2 b3 b4 b5 b6 b7 b8
     have Bl:=HD5.out.lt
     by_cases s1: ¬xn=(en.length:Int)+1
     ·have HF:Hid (zA0 re (f+1) g i en=none):=by rw[Hid,HN.out,if_neg (by simp),if_pos trivial,if_pos (by omega)]
      have s1':(xn !=(en.length:Int)+1)=true:=by simpa using s1
      clear HN
      go_wp2_with fail
      refine zAA (X:=none) 17 [] [0,1,2,3,4,5,6,7,8,9,10,11,12,13,14,15,16] (by kernel_rfl) (by kernel_rfl) rfl (fun _ _ _ _ _ h=>h) ?_
      simp only[zAM,zAC,zAD,zAB,List.getD_cons_zero,List.getD_cons_succ,List.drop_succ_cons,List.drop_nil]
      repeat (go_big_quiet_step (fail))
      refine wpQuiet_nil ?_
      go_wp2_with fail
      go_ret
      exact⟨HB5.out.drew,by rw[HF.out];rfl⟩
     have s1:=Decidable.not_not.1 s1
     subst s1
     have s1':(((en.length:Int)+1) !=(en.length:Int)+1)=false:=by simp
     by_cases s2:255<(en.length:Int)+1
     ·have HF:Hid (zA0 re (f+1) g i en=none):=by rw[Hid,HN.out,if_neg (by simp),if_pos trivial,if_pos (by omega)]
      have s2':decide (255<(en.length:Int)+1)=true:=by simpa using s2
      clear HN
      go_wp2_with fail
      refine zAA (X:=none) 17 [] [0,1,2,3,4,5,6,7,8,9,10,11,12,13,14,15,16] (by kernel_rfl) (by kernel_rfl) rfl (fun _ _ _ _ _ h=>h) ?_
      simp only[zAM,zAC,zAD,zAB,List.getD_cons_zero,List.getD_cons_succ,List.drop_succ_cons,List.drop_nil]
      repeat (go_big_quiet_step (fail))
      refine wpQuiet_nil ?_
      go_wp2_with fail
      go_ret
      exact⟨HB5.out.drew,by rw[HF.out];rfl⟩
     have s2':decide (255<(en.length:Int)+1)=false:=by simpa using s2
     by_cases s3:g=64
     ·have HF:Hid (zA0 re (f+1) g i en=none):=by rw[Hid,HN.out,if_neg (by simp),if_pos trivial,if_pos (by omega)]
      have s3':((g:Int)==64)=true:=by simp;omega
      clear HN
      go_wp2_with fail
      refine zAA (X:=none) 17 [] [0,1,2,3,4,5,6,7,8,9,10,11,12,13,14,15,16] (by kernel_rfl) (by kernel_rfl) rfl (fun _ _ _ _ _ h=>h) ?_
      simp only[zAM,zAC,zAD,zAB,List.getD_cons_zero,List.getD_cons_succ,List.drop_succ_cons,List.drop_nil]
      repeat (go_big_quiet_step (fail))
      refine wpQuiet_nil ?_
      go_wp2_with fail
      go_ret
      exact⟨HB5.out.drew,by rw[HF.out];rfl⟩
     have s3':((g:Int)==64)=false:=by simp;omega
     go_wp2_with fail
     refine zAA (X:=none) 17 [] [0,1,2,3,4,5,6,7,8,9,10,11,12,13,14,15,16] (by kernel_rfl) (by kernel_rfl) rfl (fun _ _ _ _ _ h=>h) ?_
     simp only[zAM,zAC,zAD,zAB,List.getD_cons_zero,List.getD_cons_succ,List.drop_succ_cons,List.drop_nil]
     repeat (go_big_quiet_step (fail))
     refine wpQuiet_nil ?_
     go_wp2_with fail
     go_meet
     have hP:=HP5.out (by omega)
     refine⟨g+1,en++[false],_,by go_num,by omega,hP.drew,HB5.out.drew,HN1.out,HD5.out.below (Below.refl _ _).drew,HBV.out,fun _=>⟨by simp,by simp⟩,?_⟩
     rw[Hid,HN.out,if_neg (by simp),if_pos trivial,if_neg (by omega)]
     cases zBY (zA0 re f (g+1)) xk.toNat (i+1) (en++[false])with
     |none=>rfl
     |some q=>rfl
    ·go_wp2_with fail
     go_meet
     exact⟨g,en,ev,rfl,hg,HV3.out,HB2.out,zBX.refl _ _,HD3.out,fun e=>HEL.out B e.symm rfl,fun h=>absurd h h7,by
      rw[Hid,HN.out,h8',Bool.false_and,if_neg (by decide: ¬false=true),if_neg h7]
      cases zBY (zA0 re f g) xk.toNat (i+1) en with
      |none=>rfl
      |some q=>simp only[if_neg h7]⟩
   case rest=>
    obtain⟨g1,en1,ev1,rfl,hg1,hvc,hbc,hnw,hdB,hBe,h7c,HK⟩:=hcut
    clear b0 b1 b2 b3 b4 b5 b6 b7 b8 zB Bl xl e2 q2 HV3 HB2 HD3 HN
    obtain⟨b0,b1,b2,b3,b4,b5,b6,b7,b8,zB⟩:=hdB.cells
    simp only at b0 b1 b2 b3 b4 b5 b6 b7 b8
    have Bl:=hdB.lt
    have HVC:=Lib.hid hvc
    have HBC:=Lib.hid hbc
    have HNW:=Lib.hid hnw
    have HDB:=Lib.hid hdB
    have HBE:=Lib.hid hBe
    have H7:=Lib.hid h7c
    have IH:=Lib.hid (fun(j:Nat) (en2:List Bool) (w2:World) (ev2:Value) (wi2:Int) (hw2:wi2=((260 - f:Nat):Int)) (h:LkS w2 xb oa nb no cap re j en2 ev2)=>HNA.out g1 j en2 w2 ev2 wi2 (g1:Int) (by omega) hw2 rfl hg1 h)
    have hwl:0≤wi∧wi≤259:=by have:=HW.out;omega
    have hwl1:=hwl.1
    have hwl2:=hwl.2
    clear hwl hvc hbc hnw hdB hBe h7c
    go_wp2_with fail
    go_loopg [114] xk.toNat (fun n cv wr=> ∃(d p:Nat) (en2:List Bool) (ev2:Value),cv= .int .i64 (d:Nat)∧n=xk.toNat - d∧d≤xk.toNat∧LkS wr xb oa nb no cap re p en2 ev2∧zA8 xb ev.ownBlock w wr∧zBX w ev.ownBlock ev2.ownBlock∧zFe wr B ⟨op,⟨x0,x1,x2,x3⟩,xn,xmin,xmax,xk⟩∧some B≠ev2.ownBlock∧en1.length≤en2.length∧Hid (zBY (zA0 re f g1) xk.toNat (i+1) en1=zBY (zA0 re f g1) (xk.toNat - d) p en2))
    case atStart=>exact⟨0,i+1,en1,ev1,rfl,by omega,by omega,HVC.out,HBC.out,HNW.out,HDB.out,HBE.out,Nat.le_refl _,rfl⟩
    case round=>
     obtain⟨d,p,en2,ev2,rfl,hg,hd,hvr,hbr,hnr,hdr,hBr,hlr,HS⟩:=hrel
     have HG:=Lib.hid hg
     clear hg b0 b1 b2 b3 b4 b5 b6 b7 b8 zB Bl
     by_cases hlt:d<xk.toNat
     ·have hlt':(d:Int)<xk:=by omega
      have hwi2:wi+1=((260 - f:Nat):Int):=by have:=HW.out;omega
      have HP:=Lib.hid (IH.out p en2 wr ev2 (wi+1) hwi2 hvr)
      have HS1:=HS.out
      rw[show xk.toNat - d=(xk.toNat - (d+1))+1 by omega,zBY]at HS1
      have HLR:=Lib.hid hlr
      have HBR:=Lib.hid hbr
      have HDR:=Lib.hid hdr
      have HNR:=Lib.hid hnr
      have HBn:=Lib.hid hBr
      have HWI:=Lib.hid hwi2
      clear hwi2 hlr hbr hdr hnr hBr hvr HS
      cases hq:zA0 re f g1 p en2 with
      |none=>
       rw[hq]at HS1
       have HF:Hid (zA0 re (f+1) g i en=none):=by rw[Hid,HK.out,HS1]
       have hp:=HP.out
       rw[hq]at hp
       clear HS1 HP
       go_wp2_with fail
       refine hp.mono ?_;rintro e w3 ⟨hb3,rfl⟩
       clear hp
       have HB4:=Lib.hid (HBR.out.trans HNR.out hb3)
       clear hb3
       go_wp2_with fail
       go_ret
       exact⟨HB4.out,by rw[HF.out];rfl⟩
      |some q=>
       obtain⟨p3,en3⟩:=q
       rw[hq]at HS1
       simp only at HS1
       have hp:=HP.out
       rw[hq]at hp
       have HS3:=Lib.hid HS1
       have hln:=zGG _ _ _ _ _ _ hq
       simp only at hln
       clear HS1 HP
       go_wp2_with fail
       refine hp.mono ?_;rintro e w3 ⟨hb3,ev3,rfl,hv3,hn3⟩
       clear hp
       have HB4:=Lib.hid (HBR.out.trans HNR.out hb3)
       have HD4:=Lib.hid (HDR.out.block (hb3.block B HDR.out.lt (fun e=>hxB e.symm) HBn.out))
       have HE4:=Lib.hid (hn3.ne HDR.out.lt HBn.out)
       have HN4:=Lib.hid (HNR.out.trans HBR.out.size hn3)
       have HV4:=Lib.hid hv3
       clear hb3 hn3 hv3
       go_wp2_with fail
       go_roundg (xk.toNat - (d+1))
       case measure=>have:=HG.out;omega
       case rel=>exact⟨d+1,p3,en3,ev3,by go_num,rfl,by omega,HV4.out,HB4.out,HN4.out,HD4.out,HE4.out,Nat.le_trans HLR.out hln,HS3.out⟩
     ·have hlt': ¬(d:Int)<xk:=by omega
      have HS1:=HS.out
      rw[show xk.toNat - d=0 by omega,zBY]at HS1
      have HF:Hid (zA0 re (f+1) g i en=some (p,if op=7 then en2.set en.length true else en2)):=by rw[Hid,HK.out,HS1]
      clear HS HS1 HK
      obtain⟨b0,b1,b2,b3,b4,b5,b6,b7,b8,zB⟩:=hdr.cells
      simp only at b0 b1 b2 b3 b4 b5 b6 b7 b8
      have Bl:=hdr.lt
      have HVR:=Lib.hid hvr
      have HBR:=Lib.hid hbr
      have HNR:=Lib.hid hnr
      have HBn:=Lib.hid hBr
      by_cases h7:op=7
      ·subst h7
       obtain⟨hl1,hxn⟩:=H7.out rfl
       subst hxn
       obtain⟨ge,ce,hev2,hge,gel⟩:=hvr.row (by omega)
       have e2:=hvr.c2
       rw[hev2]at e2
       have xlr:=hvr.lt
       have hel:=hvr.el
       have c1:=hvr.c1
       have hel2:(en.length:Int)<(en2.length:Int):=by omega
       have hel3:(en2.length:Int)≤255:=by omega
       have ecell:wr.cell? ⟨ge,en.length,none⟩=some (.bool (en2.getD en.length false)):=by
        rw[World.ownsRow.cellAt (hev2▸hvr.own) _ (by omega)]
        simp[List.getD_eq_getElem?_getD,show en.length<en2.length by omega]
       have fg:wr.frozen? ⟨ge,en.length,none⟩=false:=World.ownsRow.frozenAt (hev2▸hvr.own) _
       have hms:(en.length:Int)+1 - 1=(en.length:Int):=by omega
       have HEV2:=Lib.hid hev2
       have HL:=Lib.hid hlr
       clear hvr hbr hnr hBr hdr hev2 hlr hl1
       go_wp2_with fail
       refine zAA (X:=none) 8 [] [0,1,2,3,4,5,6,7] (by kernel_rfl) (by kernel_rfl) rfl (fun _ _ _ _ _ h=>h) ?_
       simp only[zAM,zAC,zAD,zAB,List.getD_cons_zero,List.getD_cons_succ,List.drop_succ_cons,List.drop_zero]
       repeat (go_big_quiet_step (fail))
       refine wpQuiet_nil ?_
       go_wp2_with fail
       go_ret
       refine⟨(HBR.out.note HNR.out (g:=ge) (by rw[HEV2.out];rfl) en.length (.bool true)).drew,?_⟩
       rw[HF.out,if_pos trivial]
       exact⟨ev2,rfl,(HVR.out.note HEV2.out en.length).drew,HNR.out⟩
      ·have h7':(op==7)=false:=by simpa using h7
       clear hvr hbr hnr hBr hdr
       go_wp2_with fail
       go_ret
       refine⟨HBR.out,?_⟩
       rw[HF.out,if_neg h7]
       exact⟨ev2,rfl,HVR.out,HNR.out⟩
theorem zKN: ∀(f:Nat),zOn xb oa nb no cap re f
 |0=>zMa
 |f+1=>zMb f (zKN f)
end
end Go.Proofs.YtmaagpbjahjmhaaGreatDoor
