/- Parts: Td Ua Ub Uc. -/
import Derived.Test.YtfcemodgopdkkaaGreatDoorQ4
import Derived.Test.YtfcemodgopdkkaaGreatDoorQ3
import Derived.Deep.LoopGhost
import Derived.Deep.CutBlock
set_option maxHeartbeats 6400000
set_option maxRecDepth 100000
namespace Go.Proofs.YtfcemodgopdkkaaGreatDoor
section
open Go.RowKit
structure LkS (w:World) (xb:Nat) (oa:Option Addr) (nb no cap:Nat) (re:List Nd) (i:Nat) (en:List Bool) (ev:Value):Prop where
 lt:xb<w.heap.size
 c0:w.cell? ⟨xb,0,none⟩=some (.slice oa re.length cap)
 c1:w.cell? ⟨xb,1,none⟩=some (.int .i64 i)
 c2:w.cell? ⟨xb,2,none⟩=some ev
 fz: ∀o,w.frozen? ⟨xb,o,none⟩=false
 own:w.ownsRow (xb+1) 4 1 ev en.length (en.map .bool)
 nd:0<re.length→oa=some ⟨nb,no,none⟩∧zCm w nb no re
 nlt:nb<xb
 len:re.length≤4294967296
 at_:i≤re.length
 el:en.length≤255
section
variable {w w':World} {xb:Nat} {oa:Option Addr} {nb no cap:Nat} {re:List Nd} {i:Nat} {en:List Bool} {ev:Value}
theorem zCm.of_block (h:zCm w nb no re) (hb:w'.heap[nb]?=w.heap[nb]?) (hs:w.heap.size≤w'.heap.size):zCm w' nb no re:=
 ⟨zMB h.lt hs,h.len,fun i hi j=>(h.c i hi j).imp (fun e=>(zMC (w:=w) (a:=⟨nb,no+i*9+j,none⟩) hb).trans e) id,h.k⟩
theorem LkS.evlt (h:LkS w xb oa nb no cap re i en ev): ∀g,ev.ownBlock=some g→xb<g∧g<w.heap.size:=fun g hg=>⟨(h.own.lt g hg).1,(h.own.lt g hg).2⟩
theorem LkS.block (h:LkS w xb oa nb no cap re i en ev) (hb: ∀g,ev.ownBlock=some g→w'.heap[g]?=w.heap[g]?) (hr:w'.heap[xb]?=w.heap[xb]?) (hm:w'.heap[nb]?=w.heap[nb]?) (hs:w.heap.size≤w'.heap.size):LkS w' xb oa nb no cap re i en ev where
 lt:=zMB h.lt hs
 c0:=(zMC (w:=w) (a:=⟨xb,0,none⟩) hr).trans h.c0
 c1:=(zMC (w:=w) (a:=⟨xb,1,none⟩) hr).trans h.c1
 c2:=(zMC (w:=w) (a:=⟨xb,2,none⟩) hr).trans h.c2
 fz:=fun o=>(zMD (w:=w) (a:=⟨xb,o,none⟩) hr).trans (h.fz o)
 own:=zAK h.own hb
 nd:=fun hp=>⟨(h.nd hp).1,(h.nd hp).2.of_block hm hs⟩
 nlt:=h.nlt
 len:=h.len
 at_:=h.at_
 el:=h.el
theorem LkS.below (h:LkS w xb oa nb no cap re i en ev) (hb:Below w.heap.size w w'):LkS w' xb oa nb no cap re i en ev:=
 h.block (fun g hg=>hb.block g (h.evlt g hg).2) (hb.block xb h.lt) (hb.block nb (Nat.lt_trans h.nlt h.lt)) hb.size
theorem LkS.drew (h:LkS w xb oa nb no cap re i en ev):LkS w.drew xb oa nb no cap re i en ev:=h.below (zL9 _ _).drew
theorem LkS.alloc (h:LkS w xb oa nb no cap re i en ev) (o:Obj):LkS (w.alloc o) xb oa nb no cap re i en ev:=h.below ((zL9 _ _).alloc (zMA _) _)
theorem LkS.setAt (h:LkS w xb oa nb no cap re i en ev) {j:Nat} (hj:j≤re.length):LkS (w.setCell ⟨xb,1,none⟩ (.int .i64 j)) xb oa nb no cap re j en ev where
 lt:=by simpa [World.setCell]using h.lt
 c0:=(zAF _ _ _ _ _ (by decide)).trans h.c0
 c1:=zMR _ _ _ h.c1
 c2:=(zAF _ _ _ _ _ (by decide)).trans h.c2
 fz:=fun o=>zA8 _ _ _ _ (h.fz o)
 own:=ownsRow_setCell_below h.own (Nat.lt_succ_self _) _
 nd:=fun hp=>⟨(h.nd hp).1,(h.nd hp).2.of_block (zMI _ _ _ _ (by have:=h.nlt;show nb≠xb;omega)) (by simp)⟩
 nlt:=h.nlt
 len:=h.len
 at_:=hj
 el:=h.el
theorem LkS.not_xb (h:LkS w xb oa nb no cap re i en ev) {b:Nat} (hb:b≤xb):some b≠ev.ownBlock:=fun e=>by have:=(h.own.lt b e.symm).1;omega
theorem LkS.push (h:LkS w xb oa nb no cap re i en ev) (hg:w.grownBy w' ev.ownBlock) {ev':Value} {en':List Bool} (ho:w'.ownsRow (xb+1) 4 1 ev' en'.length (en'.map .bool)) (hl:en'.length≤255):
  LkS (w'.setCell ⟨xb,2,none⟩ ev') xb oa nb no cap re i en' ev':=by
 have hr:w'.heap[xb]?=w.heap[xb]?:=hg.block xb h.lt (h.not_xb (zMA _))
 have hm:w'.heap[nb]?=w.heap[nb]?:=hg.block nb (Nat.lt_trans h.nlt h.lt) (h.not_xb (Nat.le_of_lt h.nlt))
 have hs:=hg.size
 exact {
  lt:=by simpa [World.setCell]using zMB h.lt hs
  c0:=(zAF _ _ _ _ _ (by decide)).trans ((zMC (w:=w) (a:=⟨xb,0,none⟩) hr).trans h.c0)
  c1:=(zAF _ _ _ _ _ (by decide)).trans ((zMC (w:=w) (a:=⟨xb,1,none⟩) hr).trans h.c1)
  c2:=zMR _ _ _ ((zMC (w:=w) (a:=⟨xb,2,none⟩) hr).trans h.c2)
  fz:=fun o=>zA8 _ _ _ _ ((zMD (w:=w) (a:=⟨xb,o,none⟩) hr).trans (h.fz o))
  own:=ownsRow_setCell_below ho (Nat.lt_succ_self _) _
  nd:=fun hp=>⟨(h.nd hp).1,((h.nd hp).2.of_block hm hs).of_block (zMI _ _ _ _ (by have:=h.nlt;show nb≠xb;omega)) (by simp)⟩
  nlt:=h.nlt
  len:=h.len
  at_:=h.at_
  el:=hl }
theorem LkS.note (h:LkS w xb oa nb no cap re i en ev) {g cp:Nat} (hev:ev= .slice (some ⟨g,0,none⟩) en.length cp) (j:Nat):LkS (w.setCell ⟨g,j,none⟩ (.bool true)) xb oa nb no cap re i (en.set j true) ev:=by
 subst hev
 have ho:=h.own
 have hg:=(ho.lt g rfl).1
 obtain⟨h1,h2⟩:=zMW ho j (.bool true)
 have hr:(w.setCell ⟨g,j,none⟩ (.bool true)).heap[xb]?=w.heap[xb]?:=zMI _ _ _ _ (by simp;omega)
 have hm:(w.setCell ⟨g,j,none⟩ (.bool true)).heap[nb]?=w.heap[nb]?:=zMI _ _ _ _ (by have:=h.nlt;simp;omega)
 exact {
  lt:=by simpa [World.setCell]using h.lt
  c0:=(zMC (w:=w) (a:=⟨xb,0,none⟩) hr).trans h.c0
  c1:=(zMC (w:=w) (a:=⟨xb,1,none⟩) hr).trans h.c1
  c2:=(zMC (w:=w) (a:=⟨xb,2,none⟩) hr).trans h.c2
  fz:=fun o=>(zMD (w:=w) (a:=⟨xb,o,none⟩) hr).trans (h.fz o)
  own:=by simpa [List.map_set]using h1
  nd:=fun hp=>⟨(h.nd hp).1,(h.nd hp).2.of_block hm (by simp)⟩
  nlt:=h.nlt
  len:=h.len
  at_:=h.at_
  el:=by simpa using h.el }
theorem LkS.form (h:LkS w xb oa nb no cap re i en ev): ∃o c,ev= .slice o en.length c:=by
 rcases h.own.2 with ⟨h1,h2⟩|⟨g,cp,_,h1,_⟩
 ·exact⟨none,0,by rw[h1,h2]⟩
 ·exact⟨_,_,h1⟩
theorem LkS.row (h:LkS w xb oa nb no cap re i en ev) (hn:0<en.length): ∃g cp,ev= .slice (some ⟨g,0,none⟩) en.length cp∧xb<g∧g<w.heap.size:=by
 rcases h.own.2 with ⟨_,h2⟩|⟨g,cp,_,h1,h3,h4,_⟩
 ·omega
 ·exact⟨g,cp,h1,h3,(zMG.1 h4).1⟩
def LkP (w:World) (xb:Nat) (oa:Option Addr) (nb no cap:Nat) (re:List Nd) (ev:Value) (r:Option (Nat × List Bool)) (e:Ending) (w':World):Prop:=
 zBQ xb ev.ownBlock w w'∧match r with
 |none=>e= .returned (.bool false)
 |some (j,en')=> ∃ev',e= .returned (.bool true)∧LkS w' xb oa nb no cap re j en' ev'∧zBL w ev.ownBlock ev'.ownBlock
theorem zDY {g:Nat→List Bool→Option (Nat × List Bool)} (hg: ∀i en r,g i en=some r→en.length≤r.2.length): ∀(k i:Nat) (en:List Bool) (r:Nat × List Bool),zAu g k i en=some r→en.length≤r.2.length
 |0,_,_,_,he=>by simp only[zAu,Option.some.injEq]at he;subst he;exact zMA _
 |k+1,i,en,r,he=>by
  unfold zAu at he
  split at he
  ·cases he
  ·rename_i j en1 h1
   exact zMV (hg _ _ _ h1) (zDY hg k _ _ _ he)
theorem zCh (re:List Nd): ∀(f g i:Nat) (en:List Bool) (r:Nat × List Bool),zAX re f g i en=some r→en.length≤r.2.length
 |0,_,_,_,_,h=>by simp[zAX]at h
 |f+1,g,i,en,r,h=>by
  rw[zAX]at h
  split at h
  ·cases h
  ·split at h
   ·cases h
   ·split at h
    ·cases h
    ·split at h
     ·split at h
      ·cases h
      ·split at h
       ·cases h
       ·rename_i j en1 hk
        cases h
        have:=zDY (fun i en r=>zCh re f (g+1) i en r) _ _ _ _ hk
        simp only[List.length_append,List.length_set]at this ⊢
        omega
     ·exact zDY (fun i en r=>zCh re f g i en r) _ _ _ _ h
def zJm (xb:Nat) (oa:Option Addr) (nb no cap:Nat) (re:List Nd) (f:Nat):Prop:= ∀(g i:Nat) (en:List Bool) (w:World) (ev:Value) (wi gi:Int),f≤260→wi=((260 - f:Nat):Int)→gi=g→g≤64→LkS w xb oa nb no cap re i en ev→
  Calls Tryz.prog 112 #[.pointer (some ⟨xb,0,none⟩),.int .i64 wi,.int .i64 gi] w (LkP w xb oa nb no cap re ev (zAX re f g i en))
theorem zIH:zJm xb oa nb no cap re 0:=fun g i en w ev wi gi hf hwi hgi hg hv=>by
  have hw:decide ((259:Int)<wi)=true:=by simp;omega
  have hlen:=hv.len
  have c0:=hv.c0
  have c1:=hv.c1
  have xl:=hv.lt
  have HN:Hid (zAX re 0 g i en=none):=rfl
  clear hv hwi
  by_cases h1:i=re.length
  ·subst h1
   go_enter Tryz.func112,Tryz.ntmps112
   go_wp2_with fail
   refine zAA (X:=none) 28 [([0,1,2,3,4,5,6,7,8,9,10,11,12,13,14,15,16,17,18,19,20,21,22,23,24],25)] [26,27] (by kernel_rfl) (by kernel_rfl) rfl (fun _ _ _ _ _ h=>h) ?_
   simp only[zAJ,zAC,zAG,zAD,zAB,List.getD_cons_zero,List.getD_cons_succ,List.drop_succ_cons,List.drop_nil]
   repeat (go_big_quiet_step (fail))
   refine wpQuiet_nil ?_
   go_wp2_with fail
   refine⟨zAP.refl _,?_⟩
   repeat (go_big_quiet_step (fail))
   refine wpQuiet_nil ?_
   go_wp2_with fail
   go_ret
   exact⟨(zBQ.refl _ _ _).drew,by rw[HN.out];rfl⟩
  ·have h1':((i:Int)==(re.length:Int))=false:=by simp;omega
   go_enter Tryz.func112,Tryz.ntmps112
   go_wp2_with fail
   refine zAA (X:=none) 28 [([0,1,2,3,4,5,6,7,8,9,10,11,12,13,14,15,16,17,18,19,20,21,22,23,24],25)] [26,27] (by kernel_rfl) (by kernel_rfl) rfl (fun _ _ _ _ _ h=>h) ?_
   simp only[zAJ,zAC,zAG,zAD,zAB,List.getD_cons_zero,List.getD_cons_succ,List.drop_succ_cons,List.drop_nil]
   repeat (go_big_quiet_step (fail))
   refine wpQuiet_nil ?_
   go_wp2_with fail
   refine⟨zAP.refl _,?_⟩
   repeat (go_big_quiet_step (fail))
   refine wpQuiet_nil ?_
   go_wp2_with fail
   go_ret
   exact⟨(zBQ.refl _ _ _).drew,by rw[HN.out];rfl⟩
theorem zII (f:Nat) (HNA:Hid (zJm xb oa nb no cap re f)):zJm xb oa nb no cap re (f+1):=fun g i en w ev wi gi hf hwi hgi hg hv=>by
  have hw:decide ((259:Int)<wi)=false:=by simp;omega
  have hlen:=hv.len
  have c0:=hv.c0
  have c1:=hv.c1
  have xl:=hv.lt
  by_cases h1:i=re.length
  ·have HN:Hid (zAX re (f+1) g i en=none):=by rw[Hid,zAX,zMj (by omega)]
   subst h1
   clear hv hwi
   go_enter Tryz.func112,Tryz.ntmps112
   go_wp2_with fail
   refine zAA (X:=none) 28 [([0,1,2,3,4,5,6,7,8,9,10,11,12,13,14,15,16,17,18,19,20,21,22,23,24],25)] [26,27] (by kernel_rfl) (by kernel_rfl) rfl (fun _ _ _ _ _ h=>h) ?_
   simp only[zAJ,zAC,zAG,zAD,zAB,List.getD_cons_zero,List.getD_cons_succ,List.drop_succ_cons,List.drop_nil]
   repeat (go_big_quiet_step (fail))
   refine wpQuiet_nil ?_
   go_wp2_with fail
   refine⟨zAP.refl _,?_⟩
   repeat (go_big_quiet_step (fail))
   refine wpQuiet_nil ?_
   go_wp2_with fail
   go_ret
   exact⟨(zBQ.refl _ _ _).drew,by rw[HN.out];rfl⟩
  have hi:i<re.length:=by have:=hv.at_;omega
  have h1':((i:Int)==(re.length:Int))=false:=by simp;omega
  have hi':(i:Int)<(re.length:Int):=by omega
  obtain⟨hoa,hnd⟩:=hv.nd (by omega)
  obtain⟨x,hx⟩: ∃x,re[i]?=some x:=⟨_,zMP hi⟩
  obtain⟨n0,n1,n2,n3,n4,n5,n6,n7,n8⟩:=hnd.cells hx
  have nbl:=hnd.lt
  have hkm:=hnd.k x (zMc hx)
  rw[hoa]at c0
  have HV:=zL8 hv
  have HX:=zL8 hx
  have HSH:=zL8 (zGw x)
  have HW:=zL8 hwi
  clear hv hnd hx hwi hoa
  cases hgd:zAg x with
  |false=>
   have HN:Hid (zAX re (f+1) g i en=none):=by rw[Hid,zAX,HX.out];simp only[hgd];rfl
   rw[hgd]at HSH
   obtain⟨op,⟨x0,x1,x2,x3⟩,xn,xmin,xmax,xk⟩:=x
   simp only at n0 n1 n2 n3 n4 n5 n6 n7 n8 hkm
   go_enter Tryz.func112,Tryz.ntmps112
   go_wp2_with fail
   refine zAA (X:=none) 28 [([0,1,2,3,4,5,6,7,8,9,10,11,12,13,14,15,16,17,18,19,20,21,22,23,24],25)] [26,27] (by kernel_rfl) (by kernel_rfl) rfl (fun _ _ _ _ _ h=>h) ?_
   simp only[zAJ,zAC,zAG,zAD,zAB,List.getD_cons_zero,List.getD_cons_succ,List.drop_succ_cons,List.drop_nil]
   repeat (go_big_quiet_step (fail))
   refine wpQuiet_nil ?_
   go_wp2_with fail
   refine(HSH.out w.drew).mono ?_;rintro e w1 ⟨rfl,hb1⟩
   have HB1:=zL8 ((zBQ.refl xb ev.ownBlock w).drew.below hb1)
   have hk:=zAP.of_below (X:=none) hb1
   go_wp2_with fail
   refine⟨hk,?_⟩
   repeat (go_big_quiet_step (fail))
   refine wpQuiet_nil ?_
   clear hk hb1
   go_wp2_with fail
   go_ret
   exact⟨HB1.out,by rw[HN.out];rfl⟩
  |true=>
   rw[hgd]at HSH
   have HN:Hid (zAX re (f+1) g i en=if x.op==8&&(decide (x.n<1)||decide ((en.length:Int)<x.n)|| !en.getD (x.n.toNat - 1) false)then none
    else if x.op=7 then
     if x.n≠(en.length:Int)+1∨255<x.n∨64≤g then none
     else match zAu (zAX re f (g+1)) x.kids.toNat (i+1) (en++[false])with
      |none=>none
      |some (j,en')=>some (j,en'.set en.length true)
    else zAu (zAX re f g) x.kids.toNat (i+1) en):=by rw[Hid,zAX,HX.out];simp only[hgd,Bool.not_true,Bool.false_eq_true,if_false];rfl
   obtain⟨op,⟨x0,x1,x2,x3⟩,xn,xmin,xmax,xk⟩:=x
   simp only at n0 n1 n2 n3 n4 n5 n6 n7 n8 hkm HN
   go_enter Tryz.func112,Tryz.ntmps112
   go_wp2_with fail
   refine zAA (X:=none) 28 [([0,1,2,3,4,5,6,7,8,9,10,11,12,13,14,15,16,17,18,19,20,21,22,23,24],25)] [26,27] (by kernel_rfl) (by kernel_rfl) rfl (fun _ _ _ _ _ h=>h) ?_
   simp only[zAJ,zAC,zAG,zAD,zAB,List.getD_cons_zero,List.getD_cons_succ,List.drop_succ_cons,List.drop_nil]
   repeat (go_big_quiet_step (fail))
   refine wpQuiet_nil ?_
   go_wp2_with fail
   refine(HSH.out w.drew).mono ?_;rintro e w1 ⟨rfl,hb1⟩
   have hv1:=HV.out.drew.below hb1
   have HV1:=zL8 hv1
   have HB1:=zL8 ((zBQ.refl xb ev.ownBlock w).drew.below hb1)
   have hnd1:=(hv1.nd (by omega)).2
   obtain⟨m0,m1,m2,m3,m4,m5,m6,m7,m8⟩:=hnd1.cells HX.out
   simp only at m0 m1 m2 m3 m4 m5 m6 m7 m8
   have d0:=hv1.c0
   have d1:=hv1.c1
   have y1:=hv1.fz 1
   have xl1:=hv1.lt
   have nbl1:=hnd1.lt
   rw[(HV.out.nd (by omega)).1]at d0
   have hk:=zAP.of_below (X:=none) hb1
   go_wp2_with fail
   refine⟨hk,?_⟩
   repeat (go_big_quiet_step (fail))
   refine wpQuiet_nil ?_
   clear hk hb1 hnd1 hv1 n0 n1 n2 n3 n4 n5 n6 n7 n8 c0 c1 nbl xl
   go_wp2_with fail
   refine zAA (X:=none) 11 [([0,1,2,3,4,5,6,7,8,9],10)] [] (by kernel_rfl) (by kernel_rfl) rfl (fun _ _ _ _ _ h=>h) ?_
   simp only[zAJ,zAC,zAG,zAD,zAB,List.getD_cons_zero,List.getD_cons_succ,List.drop_succ_cons,List.drop_zero]
   repeat (go_big_quiet_step (fail))
   refine wpQuiet_nil ?_
   go_wp2_with fail
   refine⟨zBS (zA5 _ _),wpQuiet_nil ?_⟩
   have hv2:=HV1.out.setAt (j:=i+1) hi
   have hb2:=HB1.out.store 1 (.int .i64 ((i+1:Nat):Int))
   rw[Int.natCast_add,show((1:Nat):Int)=1 from rfl]at hv2 hb2
   have hsz1:(w1.setCell ⟨xb,1,none⟩ (.int .i64 ((i:Int)+1))).heap.size=w1.heap.size:=by simp
   have hv3:=(hv2.alloc (.cells (zAY ⟨op,⟨x0,x1,x2,x3⟩,xn,xmin,xmax,xk⟩) 127)).drew
   have hb3:=(hb2.alloc (.cells (zAY ⟨op,⟨x0,x1,x2,x3⟩,xn,xmin,xmax,xk⟩) 127)).drew
   have hB3:zC7 ((w1.setCell ⟨xb,1,none⟩ (.int .i64 ((i:Int)+1))).alloc (.cells (zAY ⟨op,⟨x0,x1,x2,x3⟩,xn,xmin,xmax,xk⟩) 127)).drew w1.heap.size ⟨op,⟨x0,x1,x2,x3⟩,xn,xmin,xmax,xk⟩:=by
    have h:=zML (w1.setCell ⟨xb,1,none⟩ (.int .i64 ((i:Int)+1))) (.cells (zAY ⟨op,⟨x0,x1,x2,x3⟩,xn,xmin,xmax,xk⟩) 127)
    rw[hsz1]at h
    exact h
   have hBw:=HB1.out.size
   have hel1: ∀z,ev.ownBlock=some z→z≠w1.heap.size:=fun z hz=>by have:=(HV1.out.evlt z hz).2;omega
   have HV3:=zL8 hv3
   have HB2:=zL8 hb3
   have HD3:=zL8 hB3
   have HEL:=zL8 hel1
   clear hv2 hb2 hv3 hb3 hB3 hsz1 hel1
   go_upto_region 5 with fail
   clear m0 m1 m2 m3 m4 m5 m6 m7 m8 d0 d1 y1 nbl1
   revert HV3 HB2 HD3
   simp only[zAY]
   generalize ((w1.setCell ⟨xb,1,none⟩ (.int .i64 ((i:Int)+1))).alloc (.cells #[.int .i8 op,.int .u64 x0.toNat,.int .u64 x1.toNat,.int .u64 x2.toNat,.int .u64 x3.toNat,.int .i64 xn,.int .i64 xmin,.int .i64 xmax,.int .i64 xk] 127)).drew=W3
   intro HV3 HB2 HD3
   clear HV1 HB1
   generalize w1.heap.size=B at HD3 HEL hBw xl1 ⊢
   obtain⟨b0,b1,b2,b3,b4,b5,b6,b7,b8,zB⟩:=HD3.out.cells
   simp only at b0 b1 b2 b3 b4 b5 b6 b7 b8
   have Bl:=HD3.out.lt
   have xl:=HV3.out.lt
   have e2:=HV3.out.c2
   have q2:=HV3.out.fz 2
   obtain⟨eo,ec,hev⟩:=HV3.out.form
   rw[hev]at e2
   have HEV:=zL8 hev
   clear hev
   have hxB: ¬xb=B:=by omega
   go_upto_block 0 with fail
   go_cut [2] (fun u wd=> ∃(g1:Nat) (en1:List Bool) (ev1:Value),u= .int .i64 (g1:Nat)∧g1≤64∧LkS wd xb oa nb no cap re (i+1) en1 ev1∧zBQ xb ev.ownBlock w wd∧zBL w ev.ownBlock ev1.ownBlock∧zC7 wd B ⟨op,⟨x0,x1,x2,x3⟩,xn,xmin,xmax,xk⟩∧some B≠ev1.ownBlock∧(op=7→en1.length=en.length+1∧xn=(en.length:Int)+1)∧
    Hid (zAX re (f+1) g i en=match zAu (zAX re f g1) xk.toNat (i+1) en1 with
     |none=>none
     |some (j,e')=>some (j,if op=7 then e'.set en.length true else e')))
   case first=>
    by_cases h8:op=8
    ·subst h8
     by_cases r1:xn<1
     ·have HF:Hid (zAX re (f+1) g i en=none):=by rw[Hid,HN.out,if_pos (by simp[r1])]
      have r1':decide (xn<1)=true:=by simpa using r1
      clear HN
      go_wp2_with fail
      refine zAA (X:=none) 25 [] [0,1,2,3,4,5,6,7,8,9,10,11,12,13,14,15,16,17,18,19,20,21,22,23,24] (by kernel_rfl) (by kernel_rfl) rfl (fun _ _ _ _ _ h=>h) ?_
      simp only[zAJ,zAC,zAD,zAB,List.getD_cons_zero,List.getD_cons_succ,List.drop_succ_cons,List.drop_nil]
      repeat (go_big_quiet_step (fail))
      refine wpQuiet_nil ?_
      go_wp2_with fail
      go_wp2_with fail
      go_ret
      exact⟨HB2.out.drew,by rw[HF.out];rfl⟩
     by_cases r2:(en.length:Int)<xn
     ·have HF:Hid (zAX re (f+1) g i en=none):=by rw[Hid,HN.out,if_pos (by simp[r2])]
      have r1':decide (xn<1)=false:=by simpa using r1
      have r2':decide ((en.length:Int)<xn)=true:=by simpa using r2
      clear HN
      go_wp2_with fail
      refine zAA (X:=none) 25 [] [0,1,2,3,4,5,6,7,8,9,10,11,12,13,14,15,16,17,18,19,20,21,22,23,24] (by kernel_rfl) (by kernel_rfl) rfl (fun _ _ _ _ _ h=>h) ?_
      simp only[zAJ,zAC,zAD,zAB,List.getD_cons_zero,List.getD_cons_succ,List.drop_succ_cons,List.drop_nil]
      repeat (go_big_quiet_step (fail))
      refine wpQuiet_nil ?_
      go_wp2_with fail
      go_wp2_with fail
      go_ret
      exact⟨HB2.out.drew,by rw[HF.out];rfl⟩
     obtain⟨m,rfl⟩: ∃m:Nat,xn=(m:Int)+1:=⟨(xn - 1).toNat,by omega⟩
     have hmt:((m:Int)+1).toNat - 1=m:=by omega
     obtain⟨ge,ce,hev2,hge,gel⟩:=HV3.out.row (by omega)
     clear e2
     have e2:=HV3.out.c2
     rw[hev2]at e2
     have ecell:W3.cell? ⟨ge,m,none⟩=some (.bool (en.getD m false)):=by
      rw[zMX (hev2▸HV3.out.own) _ (by omega)]
      simp[List.getD_eq_getElem?_getD,show m<en.length by omega]
     have HEV2:=zL8 hev2
     have hel:=HV3.out.el
     have hm255:(m:Int)≤255:=by omega
     have hml:(m:Int)<(en.length:Int):=by omega
     have hmb:decide ((m:Int)<(en.length:Int))=true:=by simpa using hml
     have hms:(m:Int)+1 - 1=(m:Int):=by omega
     have r1':decide ((m:Int)+1<1)=false:=by simp;omega
     have r2':decide ((en.length:Int)<(m:Int)+1)=false:=by simp;omega
     clear hev2
     cases hb:en.getD m false with
     |false=>
      have HF:Hid (zAX re (f+1) g i en=none):=by rw[Hid,HN.out,if_pos (by rw[hmt,hb];simp)]
      rw[hb]at ecell
      clear HN
      go_wp2_with fail
      refine zAA (X:=none) 25 [] [0,1,2,3,4,5,6,7,8,9,10,11,12,13,14,15,16,17,18,19,20,21,22,23,24] (by kernel_rfl) (by kernel_rfl) rfl (fun _ _ _ _ _ h=>h) ?_
      simp only[zAJ,zAC,zAD,zAB,List.getD_cons_zero,List.getD_cons_succ,List.drop_succ_cons,List.drop_nil]
      repeat (go_big_quiet_step (fail))
      refine wpQuiet_nil ?_
      go_wp2_with fail
      go_wp2_with fail
      go_ret
      exact⟨HB2.out.drew,by rw[HF.out];rfl⟩
     |true=>
      rw[hb]at ecell
      go_wp2_with fail
      refine zAA (X:=none) 25 [] [0,1,2,3,4,5,6,7,8,9,10,11,12,13,14,15,16,17,18,19,20,21,22,23,24] (by kernel_rfl) (by kernel_rfl) rfl (fun _ _ _ _ _ h=>h) ?_
      simp only[zAJ,zAC,zAD,zAB,List.getD_cons_zero,List.getD_cons_succ,List.drop_succ_cons,List.drop_nil]
      repeat (go_big_quiet_step (fail))
      refine wpQuiet_nil ?_
      go_wp2_with fail
      go_meet
      exact⟨g,en,ev,rfl,hg,HV3.out.drew,HB2.out.drew,zBL.refl _ _,HD3.out.below (zL9 _ _).drew,fun e=>HEL.out B e.symm rfl,fun h=>absurd h (by decide: ¬(8:Int)=7),by
       rw[Hid,HN.out,if_neg (by rw[hmt,hb];simp;omega),if_neg (by decide: ¬(8:Int)=7)]
       cases zAu (zAX re f g) xk.toNat (i+1) en with
       |none=>rfl
       |some q=>simp only[if_neg (by decide: ¬(8:Int)=7)]⟩
    have h8':(op==8)=false:=by simpa using h8
    by_cases h7:op=7
    ·subst h7
     have hel:=HV3.out.el
     go_wp2_with (at_builtin;refine zAN zLj rfl _ _ rfl (xb+1) rfl ((HEV.out▸HV3.out.own).alloc _) rfl (Src.new W3 [.bool false] _ _ _) rfl (by simp[Value.oneCell']) (by unfold maxLen;omega) (by omega) (by simp;omega) ?_)
     intro v1 w2 hown2 hgr2 hblk2
     rw[←HEV.out]at hgr2 hblk2
     have hvA:=HV3.out.alloc (.cells #[.bool false] 4)
     have hgb:w2.heap[xb]?=(W3.alloc (.cells #[.bool false] 4)).heap[xb]?:=hgr2.block xb hvA.lt (hvA.not_xb (zMA _))
     have hdB:zC7 w2 B ⟨7,⟨x0,x1,x2,x3⟩,xn,xmin,xmax,xk⟩:=(HD3.out.below ((zL9 _ _).alloc (zMA _) (.cells #[.bool false] 4))).block (hgr2.block B (by simp;omega) (fun e=>HEL.out B e.symm rfl))
     have E2:=(zMC (a:=⟨xb,2,none⟩) hgb).trans hvA.c2
     have Q2:=(zMD (a:=⟨xb,2,none⟩) hgb).trans (hvA.fz 2)
     obtain⟨gv,cv,hv1⟩: ∃gv cv,v1= .slice (some ⟨gv,0,none⟩) (en.length+1) cv:=by
      rcases hown2.2 with ⟨_,h⟩|⟨gv,cv,_,h,_⟩
      ·omega
      ·exact⟨gv,cv,h⟩
     subst hv1
     have hn1:zBL w ev.ownBlock (Value.slice (some ⟨gv,0,none⟩) (en.length+1) cv).ownBlock:=by
      rcases hblk2 with h|h
      ·exact .inl h
      ·exact .inr fun z hz=>by rw[h]at hz;cases hz;omega
     have hBv:some B≠(Value.slice (some ⟨gv,0,none⟩) (en.length+1) cv).ownBlock:=by
      rcases hblk2 with h|h
      ·rw[h];exact fun e=>HEL.out B e.symm rfl
      ·rw[h];intro e;cases e;omega
     have HB5:=zL8 (((HB2.out.alloc (.cells #[.bool false] 4)).grown (zBL.refl _ _) hgr2).store 2 (.slice (some ⟨gv,0,none⟩) (en.length+1) cv))
     have HP5:=zL8 (fun(h:en.length+1≤255)=>hvA.push hgr2 (ev':= .slice (some ⟨gv,0,none⟩) (en.length+1) cv) (en':=en++[false]) (by simpa using hown2) (by simpa using h))
     have HD5:=zL8 (hdB.store (b:=xb) (fun e=>hxB e.symm) 2 (.slice (some ⟨gv,0,none⟩) (en.length+1) cv))
     have HN1:=zL8 hn1
     have HBV:=zL8 hBv
     have hC5:(w2.setCell ⟨xb,2,none⟩ (.slice (some ⟨gv,0,none⟩) (en.length+1) cv)).cell? ⟨xb,2,none⟩=some (.slice (some ⟨gv,0,none⟩) (en.length+1) cv):=zMR _ _ _ E2
     have hxl5:xb<(w2.setCell ⟨xb,2,none⟩ (.slice (some ⟨gv,0,none⟩) (en.length+1) cv)).heap.size:=by simpa using zMB hvA.lt hgr2.size
     clear hvA hgb hdB hown2 hgr2 hblk2 hn1 hBv b0 b1 b2 b3 b4 b5 b6 b7 b8 zB Bl xl e2 q2
     go_upto_region 11 with fail
     clear E2 Q2
     revert HB5 HP5 HD5 hC5 hxl5
     generalize w2.setCell ⟨xb,2,none⟩ (.slice (some ⟨gv,0,none⟩) (en.length+1) cv)=W5
     intro HB5 HP5 HD5 hC5 hxl5
     obtain⟨b0,b1,b2,b3,b4,b5,b6,b7,b8,zB⟩:=HD5.out.cells
     simp only at b0 b1 b2 b3 b4 b5 b6 b7 b8
     have Bl:=HD5.out.lt
     by_cases s1: ¬xn=(en.length:Int)+1
     ·have HF:Hid (zAX re (f+1) g i en=none):=by rw[Hid,HN.out,if_neg (by simp),if_pos trivial,if_pos (by omega)]
      have s1':(xn !=(en.length:Int)+1)=true:=by simpa using s1
      clear HN
      go_wp2_with fail
      refine zAA (X:=none) 17 [] [0,1,2,3,4,5,6,7,8,9,10,11,12,13,14,15,16] (by kernel_rfl) (by kernel_rfl) rfl (fun _ _ _ _ _ h=>h) ?_
      simp only[zAJ,zAC,zAD,zAB,List.getD_cons_zero,List.getD_cons_succ,List.drop_succ_cons,List.drop_nil]
      repeat (go_big_quiet_step (fail))
      refine wpQuiet_nil ?_
      go_wp2_with fail
      go_ret
      exact⟨HB5.out.drew,by rw[HF.out];rfl⟩
     have s1:=Decidable.not_not.1 s1
     subst s1
     have s1':(((en.length:Int)+1) !=(en.length:Int)+1)=false:=by simp
     by_cases s2:255<(en.length:Int)+1
     ·have HF:Hid (zAX re (f+1) g i en=none):=by rw[Hid,HN.out,if_neg (by simp),if_pos trivial,if_pos (by omega)]
      have s2':decide (255<(en.length:Int)+1)=true:=by simpa using s2
      clear HN
      go_wp2_with fail
      refine zAA (X:=none) 17 [] [0,1,2,3,4,5,6,7,8,9,10,11,12,13,14,15,16] (by kernel_rfl) (by kernel_rfl) rfl (fun _ _ _ _ _ h=>h) ?_
      simp only[zAJ,zAC,zAD,zAB,List.getD_cons_zero,List.getD_cons_succ,List.drop_succ_cons,List.drop_nil]
      repeat (go_big_quiet_step (fail))
      refine wpQuiet_nil ?_
      go_wp2_with fail
      go_ret
      exact⟨HB5.out.drew,by rw[HF.out];rfl⟩
     have s2':decide (255<(en.length:Int)+1)=false:=by simpa using s2
     by_cases s3:g=64
     ·have HF:Hid (zAX re (f+1) g i en=none):=by rw[Hid,HN.out,if_neg (by simp),if_pos trivial,if_pos (by omega)]
      have s3':((g:Int)==64)=true:=by simp;omega
      clear HN
      go_wp2_with fail
      refine zAA (X:=none) 17 [] [0,1,2,3,4,5,6,7,8,9,10,11,12,13,14,15,16] (by kernel_rfl) (by kernel_rfl) rfl (fun _ _ _ _ _ h=>h) ?_
      simp only[zAJ,zAC,zAD,zAB,List.getD_cons_zero,List.getD_cons_succ,List.drop_succ_cons,List.drop_nil]
      repeat (go_big_quiet_step (fail))
      refine wpQuiet_nil ?_
      go_wp2_with fail
      go_ret
      exact⟨HB5.out.drew,by rw[HF.out];rfl⟩
     have s3':((g:Int)==64)=false:=by simp;omega
     go_wp2_with fail
     refine zAA (X:=none) 17 [] [0,1,2,3,4,5,6,7,8,9,10,11,12,13,14,15,16] (by kernel_rfl) (by kernel_rfl) rfl (fun _ _ _ _ _ h=>h) ?_
     simp only[zAJ,zAC,zAD,zAB,List.getD_cons_zero,List.getD_cons_succ,List.drop_succ_cons,List.drop_nil]
     repeat (go_big_quiet_step (fail))
     refine wpQuiet_nil ?_
     go_wp2_with fail
     go_meet
     have hP:=HP5.out (by omega)
     refine⟨g+1,en++[false],_,by go_num,by omega,hP.drew,HB5.out.drew,HN1.out,HD5.out.below (zL9 _ _).drew,HBV.out,fun _=>⟨by simp,by simp⟩,?_⟩
     rw[Hid,HN.out,if_neg (by simp),if_pos trivial,if_neg (by omega)]
     cases zAu (zAX re f (g+1)) xk.toNat (i+1) (en++[false])with
     |none=>rfl
     |some q=>rfl
    ·go_wp2_with fail
     go_meet
     exact⟨g,en,ev,rfl,hg,HV3.out,HB2.out,zBL.refl _ _,HD3.out,fun e=>HEL.out B e.symm rfl,fun h=>absurd h h7,by
      rw[Hid,HN.out,h8',Bool.false_and,if_neg (by decide: ¬false=true),if_neg h7]
      cases zAu (zAX re f g) xk.toNat (i+1) en with
      |none=>rfl
      |some q=>simp only[if_neg h7]⟩
   case rest=>
    obtain⟨g1,en1,ev1,rfl,hg1,hvc,hbc,hnw,hdB,hBe,h7c,HK⟩:=hcut
    clear b0 b1 b2 b3 b4 b5 b6 b7 b8 zB Bl xl e2 q2 HV3 HB2 HD3 HN
    obtain⟨b0,b1,b2,b3,b4,b5,b6,b7,b8,zB⟩:=hdB.cells
    simp only at b0 b1 b2 b3 b4 b5 b6 b7 b8
    have Bl:=hdB.lt
    have HVC:=zL8 hvc
    have HBC:=zL8 hbc
    have HNW:=zL8 hnw
    have HDB:=zL8 hdB
    have HBE:=zL8 hBe
    have H7:=zL8 h7c
    have IH:=zL8 (fun(j:Nat) (en2:List Bool) (w2:World) (ev2:Value) (wi2:Int) (hw2:wi2=((260 - f:Nat):Int)) (h:LkS w2 xb oa nb no cap re j en2 ev2)=>HNA.out g1 j en2 w2 ev2 wi2 (g1:Int) (by omega) hw2 rfl hg1 h)
    have hwl:0≤wi∧wi≤259:=by have:=HW.out;omega
    have hwl1:=hwl.1
    have hwl2:=hwl.2
    clear hwl hvc hbc hnw hdB hBe h7c
    go_wp2_with fail
    go_loopg [114] xk.toNat (fun n cv wr=> ∃(d p:Nat) (en2:List Bool) (ev2:Value),cv= .int .i64 (d:Nat)∧n=xk.toNat - d∧d≤xk.toNat∧LkS wr xb oa nb no cap re p en2 ev2∧zBQ xb ev.ownBlock w wr∧zBL w ev.ownBlock ev2.ownBlock∧zC7 wr B ⟨op,⟨x0,x1,x2,x3⟩,xn,xmin,xmax,xk⟩∧some B≠ev2.ownBlock∧en1.length≤en2.length∧Hid (zAu (zAX re f g1) xk.toNat (i+1) en1=zAu (zAX re f g1) (xk.toNat - d) p en2))
    case atStart=>exact⟨0,i+1,en1,ev1,rfl,by omega,by omega,HVC.out,HBC.out,HNW.out,HDB.out,HBE.out,zMA _,rfl⟩
    case round=>
     obtain⟨d,p,en2,ev2,rfl,hg,hd,hvr,hbr,hnr,hdr,hBr,hlr,HS⟩:=hrel
     have HG:=zL8 hg
     clear hg b0 b1 b2 b3 b4 b5 b6 b7 b8 zB Bl
     by_cases hlt:d<xk.toNat
     ·have hlt':(d:Int)<xk:=by omega
      have hwi2:wi+1=((260 - f:Nat):Int):=by have:=HW.out;omega
      have HP:=zL8 (IH.out p en2 wr ev2 (wi+1) hwi2 hvr)
      have HS1:=HS.out
      rw[show xk.toNat - d=(xk.toNat - (d+1))+1 by omega,zAu]at HS1
      have HLR:=zL8 hlr
      have HBR:=zL8 hbr
      have HDR:=zL8 hdr
      have HNR:=zL8 hnr
      have HBn:=zL8 hBr
      have HWI:=zL8 hwi2
      clear hwi2 hlr hbr hdr hnr hBr hvr HS
      cases hq:zAX re f g1 p en2 with
      |none=>
       rw[hq]at HS1
       have HF:Hid (zAX re (f+1) g i en=none):=by rw[Hid,HK.out,HS1]
       have hp:=HP.out
       rw[hq]at hp
       clear HS1 HP
       go_wp2_with fail
       refine hp.mono ?_;rintro e w3 ⟨hb3,rfl⟩
       clear hp
       have HB4:=zL8 (HBR.out.trans HNR.out hb3)
       clear hb3
       go_wp2_with fail
       go_ret
       exact⟨HB4.out,by rw[HF.out];rfl⟩
      |some q=>
       obtain⟨p3,en3⟩:=q
       rw[hq]at HS1
       simp only at HS1
       have hp:=HP.out
       rw[hq]at hp
       have HS3:=zL8 HS1
       have hln:=zCh _ _ _ _ _ _ hq
       simp only at hln
       clear HS1 HP
       go_wp2_with fail
       refine hp.mono ?_;rintro e w3 ⟨hb3,ev3,rfl,hv3,hn3⟩
       clear hp
       have HB4:=zL8 (HBR.out.trans HNR.out hb3)
       have HD4:=zL8 (HDR.out.block (hb3.block B HDR.out.lt (fun e=>hxB e.symm) HBn.out))
       have HE4:=zL8 (hn3.ne HDR.out.lt HBn.out)
       have HN4:=zL8 (HNR.out.trans HBR.out.size hn3)
       have HV4:=zL8 hv3
       clear hb3 hn3 hv3
       go_wp2_with fail
       go_roundg (xk.toNat - (d+1))
       case measure=>have:=HG.out;omega
       case rel=>exact⟨d+1,p3,en3,ev3,by go_num,rfl,by omega,HV4.out,HB4.out,HN4.out,HD4.out,HE4.out,zMV HLR.out hln,HS3.out⟩
     ·have hlt': ¬(d:Int)<xk:=by omega
      have HS1:=HS.out
      rw[show xk.toNat - d=0 by omega,zAu]at HS1
      have HF:Hid (zAX re (f+1) g i en=some (p,if op=7 then en2.set en.length true else en2)):=by rw[Hid,HK.out,HS1]
      clear HS HS1 HK
      obtain⟨b0,b1,b2,b3,b4,b5,b6,b7,b8,zB⟩:=hdr.cells
      simp only at b0 b1 b2 b3 b4 b5 b6 b7 b8
      have Bl:=hdr.lt
      have HVR:=zL8 hvr
      have HBR:=zL8 hbr
      have HNR:=zL8 hnr
      have HBn:=zL8 hBr
      by_cases h7:op=7
      ·subst h7
       obtain⟨hl1,hxn⟩:=H7.out rfl
       subst hxn
       obtain⟨ge,ce,hev2,hge,gel⟩:=hvr.row (by omega)
       have e2:=hvr.c2
       rw[hev2]at e2
       have xlr:=hvr.lt
       have hel:=hvr.el
       have c1:=hvr.c1
       have hel2:(en.length:Int)<(en2.length:Int):=by omega
       have hel3:(en2.length:Int)≤255:=by omega
       have ecell:wr.cell? ⟨ge,en.length,none⟩=some (.bool (en2.getD en.length false)):=by
        rw[zMX (hev2▸hvr.own) _ (by omega)]
        simp[List.getD_eq_getElem?_getD,show en.length<en2.length by omega]
       have fg:wr.frozen? ⟨ge,en.length,none⟩=false:=zMY (hev2▸hvr.own) _
       have hms:(en.length:Int)+1 - 1=(en.length:Int):=by omega
       have HEV2:=zL8 hev2
       have HL:=zL8 hlr
       clear hvr hbr hnr hBr hdr hev2 hlr hl1
       go_wp2_with fail
       refine zAA (X:=none) 8 [] [0,1,2,3,4,5,6,7] (by kernel_rfl) (by kernel_rfl) rfl (fun _ _ _ _ _ h=>h) ?_
       simp only[zAJ,zAC,zAD,zAB,List.getD_cons_zero,List.getD_cons_succ,List.drop_succ_cons,List.drop_zero]
       repeat (go_big_quiet_step (fail))
       refine wpQuiet_nil ?_
       go_wp2_with fail
       go_ret
       refine⟨(HBR.out.note HNR.out (g:=ge) (by rw[HEV2.out];rfl) en.length (.bool true)).drew,?_⟩
       rw[HF.out,if_pos trivial]
       exact⟨ev2,rfl,(HVR.out.note HEV2.out en.length).drew,HNR.out⟩
      ·have h7':(op==7)=false:=by simpa using h7
       clear hvr hbr hnr hBr hdr
       go_wp2_with fail
       go_ret
       refine⟨HBR.out,?_⟩
       rw[HF.out,if_neg h7]
       exact⟨ev2,rfl,HVR.out,HNR.out⟩
theorem zGO: ∀(f:Nat),zJm xb oa nb no cap re f
 |0=>zIH
 |f+1=>zII f (zGO f)
end
end
section
open Go.RowKit
def zAR (n:Nd):Bool:=
 decide (1≤n.op)&&decide (n.op≤8)
 &&(n.op==1||n.set==Cls.zero)
 &&(n.op==7||n.op==8||n.n==0)
 &&(if n.op=6 then decide (0≤n.min)&&decide (n.min≤255)&&(n.max== -1||decide (n.min≤n.max)&&decide (n.max≤255))else n.min==0&&n.max==0)
def zB2 (n:Nd):Bool:=if n.op=6∨n.op=7 then n.kids==1 else if n.op=5 then decide (2≤n.kids)else if n.op=4 then n.kids==0||decide (2≤n.kids)else n.kids==0
theorem zCV (n:Nd):zAg n=(zAR n&&zB2 n):=rfl
theorem zJi (b c d e b' c' d' e':Int) (w:World):
  (Op.equalIn 10000 125 (.agg #[.int .u64 b,.int .u64 c,.int .u64 d,.int .u64 e]) (.agg #[.int .u64 b',.int .u64 c',.int .u64 d',.int .u64 e'])).run Tryz.prog w= .ok (decide (b=b')&&decide (c=c')&&decide (d=d')&&decide (e=e')) w:=by
 obtain⟨i,hi⟩: ∃i,Tryz.prog.info? 123=some i:=Option.isSome_iff_exists.1 (by kernel_rfl)
 rw[run_equalIn_array w 9999 _ _ Tryz.underlying125 hi,show Tryz.prog.cellsOf 123=1 by kernel_rfl]
 simp[Op.eqItems,go_sem,List.range_succ]
 repeat' split
 all_goals simp_all
theorem zKG (x0 x1 x2 x3:BitVec 64) (b:Bool) (hb:((⟨x0,x1,x2,x3⟩:Cls)==Cls.zero)=b) (w:World):
  (binOp .neq 125 (.agg #[.int .u64 x0.toNat,.int .u64 x1.toNat,.int .u64 x2.toNat,.int .u64 x3.toNat]) (.agg #[.int .u64 0,.int .u64 0,.int .u64 0,.int .u64 0])).run Tryz.prog w= .ok (.bool (!b)) w:=by
 rw[run_neq_struct,zJi,←hb,zGb]
 simp only[Result.andThen]
 congr 3
 rw[Bool.eq_iff_iff]
 simp[and_assoc]
theorem zD5 (x:Nd) (h:x.op<1∨8<x.op):zAR x=false:=by
 unfold zAR
 rcases h with h|h
 ·rw[zMK (by omega)];simp
 ·rw[zMK (show¬x.op≤8 by omega)];simp
theorem zHT (x:Nd) (w:World) (h1: -128≤x.op) (h2:x.op≤127):Calls Tryz.prog 248 #[ndV x] w fun e w'=>e= .returned (.bool (zAR x))∧Below w.heap.size w w':=by
 by_cases ho:x.op<1
 ·have hf:=zL8 (zD5 x (.inl ho))
  obtain⟨op,⟨x0,x1,x2,x3⟩,xn,xmin,xmax,xk⟩:=x
  simp only at h1 h2 ho
  have ho':decide (op<1)=true:=zMJ ho
  go_enter Tryz.func248,Tryz.ntmps248
  go_wp2_with fail
  go_ret
  exact⟨by rw[hf.out];rfl,(by repeat (first|exact zL9 _ _|assumption|refine zMb ?_|refine zMZ ?_ (by first|(simp;done)|(simp;omega)|omega) _|refine zMa ?_ (by first|(simp;done)|(simp;omega)|omega) _))⟩
 by_cases ho8:8<x.op
 ·have hf:=zL8 (zD5 x (.inr ho8))
  obtain⟨op,⟨x0,x1,x2,x3⟩,xn,xmin,xmax,xk⟩:=x
  simp only at h1 h2 ho ho8
  have ho':decide (op<1)=false:=zMK ho
  have ho8':decide (8<op)=true:=zMJ ho8
  go_enter Tryz.func248,Tryz.ntmps248
  go_wp2_with fail
  go_ret
  exact⟨by rw[hf.out];rfl,(by repeat (first|exact zL9 _ _|assumption|refine zMb ?_|refine zMZ ?_ (by first|(simp;done)|(simp;omega)|omega) _|refine zMa ?_ (by first|(simp;done)|(simp;omega)|omega) _))⟩
 have h8:x.op=1∨x.op=2∨x.op=3∨x.op=4∨x.op=5∨x.op=6∨x.op=7∨x.op=8:=by omega
 obtain⟨op,⟨x0,x1,x2,x3⟩,xn,xmin,xmax,xk⟩:=x
 simp only at h8
 clear h1 h2 ho ho8
 have hq:=zKG x0 x1 x2 x3 _ rfl
 rcases h8 with rfl|rfl|rfl|rfl|rfl|rfl|rfl|rfl
 ·
  cases hn:(xn==0)with
  |false=>
   have hn':(xn !=0)=true:=by rw[bne,hn];rfl
   have HF:Hid (zAR ⟨1,⟨x0,x1,x2,x3⟩,xn,xmin,xmax,xk⟩=false):=by simp[Hid,zAR,hn]
   clear hq
   go_enter Tryz.func248,Tryz.ntmps248
   go_wp2_with fail
   go_ret
   exact⟨by rw[HF.out];rfl,(by repeat (first|exact zL9 _ _|assumption|refine zMb ?_|refine zMZ ?_ (by first|(simp;done)|(simp;omega)|omega) _|refine zMa ?_ (by first|(simp;done)|(simp;omega)|omega) _))⟩
  |true=>
   have hn':(xn !=0)=false:=by rw[bne,hn];rfl
   have HF:Hid (zAR ⟨1,⟨x0,x1,x2,x3⟩,xn,xmin,xmax,xk⟩=(xmin==0&&xmax==0)):=by simp[Hid,zAR,hn]
   clear hq
   cases hm:(xmin==0)
   all_goals
    rw[hm]at HF
    go_enter Tryz.func248,Tryz.ntmps248
    go_wp2_with fail
    go_ret
    exact⟨by rw[HF.out];rfl,(by repeat (first|exact zL9 _ _|assumption|refine zMb ?_|refine zMZ ?_ (by first|(simp;done)|(simp;omega)|omega) _|refine zMa ?_ (by first|(simp;done)|(simp;omega)|omega) _))⟩
 ·
  cases hz:((⟨x0,x1,x2,x3⟩:Cls)==Cls.zero)with
  |false=>
   rw[hz]at hq
   have HF:Hid (zAR ⟨2,⟨x0,x1,x2,x3⟩,xn,xmin,xmax,xk⟩=false):=by simp[Hid,zAR,hz]
   clear hz
   go_enter Tryz.func248,Tryz.ntmps248
   go_wp2_with fail
   go_ret
   exact⟨by rw[HF.out];rfl,(by repeat (first|exact zL9 _ _|assumption|refine zMb ?_|refine zMZ ?_ (by first|(simp;done)|(simp;omega)|omega) _|refine zMa ?_ (by first|(simp;done)|(simp;omega)|omega) _))⟩
  |true=>
   rw[hz]at hq
   cases hn:(xn==0)with
   |false=>
    have hn':(xn !=0)=true:=by rw[bne,hn];rfl
    have HF:Hid (zAR ⟨2,⟨x0,x1,x2,x3⟩,xn,xmin,xmax,xk⟩=false):=by simp[Hid,zAR,hz,hn]
    clear hz
    go_enter Tryz.func248,Tryz.ntmps248
    go_wp2_with fail
    go_ret
    exact⟨by rw[HF.out];rfl,(by repeat (first|exact zL9 _ _|assumption|refine zMb ?_|refine zMZ ?_ (by first|(simp;done)|(simp;omega)|omega) _|refine zMa ?_ (by first|(simp;done)|(simp;omega)|omega) _))⟩
   |true=>
    have hn':(xn !=0)=false:=by rw[bne,hn];rfl
    have HF:Hid (zAR ⟨2,⟨x0,x1,x2,x3⟩,xn,xmin,xmax,xk⟩=(xmin==0&&xmax==0)):=by simp[Hid,zAR,hz,hn]
    clear hz
    cases hm:(xmin==0)
    all_goals
     rw[hm]at HF
     go_enter Tryz.func248,Tryz.ntmps248
     go_wp2_with fail
     go_ret
     exact⟨by rw[HF.out];rfl,(by repeat (first|exact zL9 _ _|assumption|refine zMb ?_|refine zMZ ?_ (by first|(simp;done)|(simp;omega)|omega) _|refine zMa ?_ (by first|(simp;done)|(simp;omega)|omega) _))⟩
 ·
  cases hz:((⟨x0,x1,x2,x3⟩:Cls)==Cls.zero)with
  |false=>
   rw[hz]at hq
   have HF:Hid (zAR ⟨3,⟨x0,x1,x2,x3⟩,xn,xmin,xmax,xk⟩=false):=by simp[Hid,zAR,hz]
   clear hz
   go_enter Tryz.func248,Tryz.ntmps248
   go_wp2_with fail
   go_ret
   exact⟨by rw[HF.out];rfl,(by repeat (first|exact zL9 _ _|assumption|refine zMb ?_|refine zMZ ?_ (by first|(simp;done)|(simp;omega)|omega) _|refine zMa ?_ (by first|(simp;done)|(simp;omega)|omega) _))⟩
  |true=>
   rw[hz]at hq
   cases hn:(xn==0)with
   |false=>
    have hn':(xn !=0)=true:=by rw[bne,hn];rfl
    have HF:Hid (zAR ⟨3,⟨x0,x1,x2,x3⟩,xn,xmin,xmax,xk⟩=false):=by simp[Hid,zAR,hz,hn]
    clear hz
    go_enter Tryz.func248,Tryz.ntmps248
    go_wp2_with fail
    go_ret
    exact⟨by rw[HF.out];rfl,(by repeat (first|exact zL9 _ _|assumption|refine zMb ?_|refine zMZ ?_ (by first|(simp;done)|(simp;omega)|omega) _|refine zMa ?_ (by first|(simp;done)|(simp;omega)|omega) _))⟩
   |true=>
    have hn':(xn !=0)=false:=by rw[bne,hn];rfl
    have HF:Hid (zAR ⟨3,⟨x0,x1,x2,x3⟩,xn,xmin,xmax,xk⟩=(xmin==0&&xmax==0)):=by simp[Hid,zAR,hz,hn]
    clear hz
    cases hm:(xmin==0)
    all_goals
     rw[hm]at HF
     go_enter Tryz.func248,Tryz.ntmps248
     go_wp2_with fail
     go_ret
     exact⟨by rw[HF.out];rfl,(by repeat (first|exact zL9 _ _|assumption|refine zMb ?_|refine zMZ ?_ (by first|(simp;done)|(simp;omega)|omega) _|refine zMa ?_ (by first|(simp;done)|(simp;omega)|omega) _))⟩
 ·
  cases hz:((⟨x0,x1,x2,x3⟩:Cls)==Cls.zero)with
  |false=>
   rw[hz]at hq
   have HF:Hid (zAR ⟨4,⟨x0,x1,x2,x3⟩,xn,xmin,xmax,xk⟩=false):=by simp[Hid,zAR,hz]
   clear hz
   go_enter Tryz.func248,Tryz.ntmps248
   go_wp2_with fail
   go_ret
   exact⟨by rw[HF.out];rfl,(by repeat (first|exact zL9 _ _|assumption|refine zMb ?_|refine zMZ ?_ (by first|(simp;done)|(simp;omega)|omega) _|refine zMa ?_ (by first|(simp;done)|(simp;omega)|omega) _))⟩
  |true=>
   rw[hz]at hq
   cases hn:(xn==0)with
   |false=>
    have hn':(xn !=0)=true:=by rw[bne,hn];rfl
    have HF:Hid (zAR ⟨4,⟨x0,x1,x2,x3⟩,xn,xmin,xmax,xk⟩=false):=by simp[Hid,zAR,hz,hn]
    clear hz
    go_enter Tryz.func248,Tryz.ntmps248
    go_wp2_with fail
    go_ret
    exact⟨by rw[HF.out];rfl,(by repeat (first|exact zL9 _ _|assumption|refine zMb ?_|refine zMZ ?_ (by first|(simp;done)|(simp;omega)|omega) _|refine zMa ?_ (by first|(simp;done)|(simp;omega)|omega) _))⟩
   |true=>
    have hn':(xn !=0)=false:=by rw[bne,hn];rfl
    have HF:Hid (zAR ⟨4,⟨x0,x1,x2,x3⟩,xn,xmin,xmax,xk⟩=(xmin==0&&xmax==0)):=by simp[Hid,zAR,hz,hn]
    clear hz
    cases hm:(xmin==0)
    all_goals
     rw[hm]at HF
     go_enter Tryz.func248,Tryz.ntmps248
     go_wp2_with fail
     go_ret
     exact⟨by rw[HF.out];rfl,(by repeat (first|exact zL9 _ _|assumption|refine zMb ?_|refine zMZ ?_ (by first|(simp;done)|(simp;omega)|omega) _|refine zMa ?_ (by first|(simp;done)|(simp;omega)|omega) _))⟩
 ·
  cases hz:((⟨x0,x1,x2,x3⟩:Cls)==Cls.zero)with
  |false=>
   rw[hz]at hq
   have HF:Hid (zAR ⟨5,⟨x0,x1,x2,x3⟩,xn,xmin,xmax,xk⟩=false):=by simp[Hid,zAR,hz]
   clear hz
   go_enter Tryz.func248,Tryz.ntmps248
   go_wp2_with fail
   go_ret
   exact⟨by rw[HF.out];rfl,(by repeat (first|exact zL9 _ _|assumption|refine zMb ?_|refine zMZ ?_ (by first|(simp;done)|(simp;omega)|omega) _|refine zMa ?_ (by first|(simp;done)|(simp;omega)|omega) _))⟩
  |true=>
   rw[hz]at hq
   cases hn:(xn==0)with
   |false=>
    have hn':(xn !=0)=true:=by rw[bne,hn];rfl
    have HF:Hid (zAR ⟨5,⟨x0,x1,x2,x3⟩,xn,xmin,xmax,xk⟩=false):=by simp[Hid,zAR,hz,hn]
    clear hz
    go_enter Tryz.func248,Tryz.ntmps248
    go_wp2_with fail
    go_ret
    exact⟨by rw[HF.out];rfl,(by repeat (first|exact zL9 _ _|assumption|refine zMb ?_|refine zMZ ?_ (by first|(simp;done)|(simp;omega)|omega) _|refine zMa ?_ (by first|(simp;done)|(simp;omega)|omega) _))⟩
   |true=>
    have hn':(xn !=0)=false:=by rw[bne,hn];rfl
    have HF:Hid (zAR ⟨5,⟨x0,x1,x2,x3⟩,xn,xmin,xmax,xk⟩=(xmin==0&&xmax==0)):=by simp[Hid,zAR,hz,hn]
    clear hz
    cases hm:(xmin==0)
    all_goals
     rw[hm]at HF
     go_enter Tryz.func248,Tryz.ntmps248
     go_wp2_with fail
     go_ret
     exact⟨by rw[HF.out];rfl,(by repeat (first|exact zL9 _ _|assumption|refine zMb ?_|refine zMZ ?_ (by first|(simp;done)|(simp;omega)|omega) _|refine zMa ?_ (by first|(simp;done)|(simp;omega)|omega) _))⟩
 ·
  cases hz:((⟨x0,x1,x2,x3⟩:Cls)==Cls.zero)with
  |false=>
   rw[hz]at hq
   have HF:Hid (zAR ⟨6,⟨x0,x1,x2,x3⟩,xn,xmin,xmax,xk⟩=false):=by simp[Hid,zAR,hz]
   clear hz
   go_enter Tryz.func248,Tryz.ntmps248
   go_wp2_with fail
   go_ret
   exact⟨by rw[HF.out];rfl,(by repeat (first|exact zL9 _ _|assumption|refine zMb ?_|refine zMZ ?_ (by first|(simp;done)|(simp;omega)|omega) _|refine zMa ?_ (by first|(simp;done)|(simp;omega)|omega) _))⟩
  |true=>
   rw[hz]at hq
   cases hn:(xn==0)with
   |false=>
    have hn':(xn !=0)=true:=by rw[bne,hn];rfl
    have HF:Hid (zAR ⟨6,⟨x0,x1,x2,x3⟩,xn,xmin,xmax,xk⟩=false):=by simp[Hid,zAR,hz,hn]
    clear hz
    go_enter Tryz.func248,Tryz.ntmps248
    go_wp2_with fail
    go_ret
    exact⟨by rw[HF.out];rfl,(by repeat (first|exact zL9 _ _|assumption|refine zMb ?_|refine zMZ ?_ (by first|(simp;done)|(simp;omega)|omega) _|refine zMa ?_ (by first|(simp;done)|(simp;omega)|omega) _))⟩
   |true=>
    have hn':(xn !=0)=false:=by rw[bne,hn];rfl
    have HF:Hid (zAR ⟨6,⟨x0,x1,x2,x3⟩,xn,xmin,xmax,xk⟩=(decide (0≤xmin)&&decide (xmin≤255)&&(xmax== -1||decide (xmin≤xmax)&&decide (xmax≤255)))):=by simp[Hid,zAR,hz,hn]
    clear hz
    cases ha:decide (0≤xmin)
    ·rw[ha]at HF
     go_enter Tryz.func248,Tryz.ntmps248
     go_wp2_with fail
     go_ret
     exact⟨by rw[HF.out];rfl,(by repeat (first|exact zL9 _ _|assumption|refine zMb ?_|refine zMZ ?_ (by first|(simp;done)|(simp;omega)|omega) _|refine zMa ?_ (by first|(simp;done)|(simp;omega)|omega) _))⟩
    ·rw[ha]at HF
     cases hc:decide (xmin≤255)
     ·rw[hc]at HF
      go_enter Tryz.func248,Tryz.ntmps248
      go_wp2_with fail
      go_ret
      exact⟨by rw[HF.out];rfl,(by repeat (first|exact zL9 _ _|assumption|refine zMb ?_|refine zMZ ?_ (by first|(simp;done)|(simp;omega)|omega) _|refine zMa ?_ (by first|(simp;done)|(simp;omega)|omega) _))⟩
     ·rw[hc]at HF
      cases hd:(xmax== -1)
      ·rw[hd]at HF
       cases he:decide (xmin≤xmax)
       all_goals
        rw[he]at HF
        go_enter Tryz.func248,Tryz.ntmps248
        go_wp2_with fail
        go_ret
        exact⟨by rw[HF.out];rfl,(by repeat (first|exact zL9 _ _|assumption|refine zMb ?_|refine zMZ ?_ (by first|(simp;done)|(simp;omega)|omega) _|refine zMa ?_ (by first|(simp;done)|(simp;omega)|omega) _))⟩
      ·rw[hd]at HF
       go_enter Tryz.func248,Tryz.ntmps248
       go_wp2_with fail
       go_ret
       exact⟨by rw[HF.out];rfl,(by repeat (first|exact zL9 _ _|assumption|refine zMb ?_|refine zMZ ?_ (by first|(simp;done)|(simp;omega)|omega) _|refine zMa ?_ (by first|(simp;done)|(simp;omega)|omega) _))⟩
 ·
  cases hz:((⟨x0,x1,x2,x3⟩:Cls)==Cls.zero)with
  |false=>
   rw[hz]at hq
   have HF:Hid (zAR ⟨7,⟨x0,x1,x2,x3⟩,xn,xmin,xmax,xk⟩=false):=by simp[Hid,zAR,hz]
   clear hz
   go_enter Tryz.func248,Tryz.ntmps248
   go_wp2_with fail
   go_ret
   exact⟨by rw[HF.out];rfl,(by repeat (first|exact zL9 _ _|assumption|refine zMb ?_|refine zMZ ?_ (by first|(simp;done)|(simp;omega)|omega) _|refine zMa ?_ (by first|(simp;done)|(simp;omega)|omega) _))⟩
  |true=>
   rw[hz]at hq
   have HF:Hid (zAR ⟨7,⟨x0,x1,x2,x3⟩,xn,xmin,xmax,xk⟩=(xmin==0&&xmax==0)):=by simp[Hid,zAR,hz]
   clear hz
   cases hm:(xmin==0)
   all_goals
    rw[hm]at HF
    go_enter Tryz.func248,Tryz.ntmps248
    go_wp2_with fail
    go_ret
    exact⟨by rw[HF.out];rfl,(by repeat (first|exact zL9 _ _|assumption|refine zMb ?_|refine zMZ ?_ (by first|(simp;done)|(simp;omega)|omega) _|refine zMa ?_ (by first|(simp;done)|(simp;omega)|omega) _))⟩
 ·
  cases hz:((⟨x0,x1,x2,x3⟩:Cls)==Cls.zero)with
  |false=>
   rw[hz]at hq
   have HF:Hid (zAR ⟨8,⟨x0,x1,x2,x3⟩,xn,xmin,xmax,xk⟩=false):=by simp[Hid,zAR,hz]
   clear hz
   go_enter Tryz.func248,Tryz.ntmps248
   go_wp2_with fail
   go_ret
   exact⟨by rw[HF.out];rfl,(by repeat (first|exact zL9 _ _|assumption|refine zMb ?_|refine zMZ ?_ (by first|(simp;done)|(simp;omega)|omega) _|refine zMa ?_ (by first|(simp;done)|(simp;omega)|omega) _))⟩
  |true=>
   rw[hz]at hq
   have HF:Hid (zAR ⟨8,⟨x0,x1,x2,x3⟩,xn,xmin,xmax,xk⟩=(xmin==0&&xmax==0)):=by simp[Hid,zAR,hz]
   clear hz
   cases hm:(xmin==0)
   all_goals
    rw[hm]at HF
    go_enter Tryz.func248,Tryz.ntmps248
    go_wp2_with fail
    go_ret
    exact⟨by rw[HF.out];rfl,(by repeat (first|exact zL9 _ _|assumption|refine zMb ?_|refine zMZ ?_ (by first|(simp;done)|(simp;omega)|omega) _|refine zMa ?_ (by first|(simp;done)|(simp;omega)|omega) _))⟩
theorem zJV (x:Nd) (w:World) (h1: -128≤x.op) (h2:x.op≤127):Calls Tryz.prog 249 #[ndV x] w fun e w'=>e= .returned (.bool (zB2 x))∧Below w.heap.size w w':=by
 obtain⟨op,⟨x0,x1,x2,x3⟩,xn,xmin,xmax,xk⟩:=x
 simp only at h1 h2
 by_cases h67:op=6∨op=7
 ·have hk:zB2 ⟨op,⟨x0,x1,x2,x3⟩,xn,xmin,xmax,xk⟩=(xk==1):=by unfold zB2;rw[if_pos h67]
  rw[hk]
  clear hk
  rcases h67 with rfl|rfl
  all_goals
   clear h1 h2
   go_enter Tryz.func249,Tryz.ntmps249
   go_wp2_with fail
   go_ret
   exact⟨rfl,(by repeat (first|exact zL9 _ _|assumption|refine zMb ?_|refine zMZ ?_ (by first|(simp;done)|(simp;omega)|omega) _|refine zMa ?_ (by first|(simp;done)|(simp;omega)|omega) _))⟩
 ·have h6:(op==6)=false:=by simp;omega
  have h7:(op==7)=false:=by simp;omega
  by_cases h5:op=5
  ·have hk:zB2 ⟨op,⟨x0,x1,x2,x3⟩,xn,xmin,xmax,xk⟩=decide (2≤xk):=by unfold zB2;rw[if_neg h67,if_pos h5]
   rw[hk]
   subst h5
   clear hk h67 h1 h2 h6 h7
   go_enter Tryz.func249,Tryz.ntmps249
   go_wp2_with fail
   go_ret
   exact⟨rfl,(by repeat (first|exact zL9 _ _|assumption|refine zMb ?_|refine zMZ ?_ (by first|(simp;done)|(simp;omega)|omega) _|refine zMa ?_ (by first|(simp;done)|(simp;omega)|omega) _))⟩
  ·by_cases h4:op=4
   ·have hk:zB2 ⟨op,⟨x0,x1,x2,x3⟩,xn,xmin,xmax,xk⟩=(xk==0||decide (2≤xk)):=by unfold zB2;rw[if_neg h67,if_neg h5,if_pos h4]
    rw[hk]
    subst h4
    clear hk h67 h1 h2 h5 h6 h7
    cases hb:(xk==0)
    all_goals
     go_enter Tryz.func249,Tryz.ntmps249
     go_wp2_with fail
     go_ret
     exact⟨rfl,(by repeat (first|exact zL9 _ _|assumption|refine zMb ?_|refine zMZ ?_ (by first|(simp;done)|(simp;omega)|omega) _|refine zMa ?_ (by first|(simp;done)|(simp;omega)|omega) _))⟩
   ·have hk:zB2 ⟨op,⟨x0,x1,x2,x3⟩,xn,xmin,xmax,xk⟩=(xk==0):=by unfold zB2;rw[if_neg h67,if_neg h5,if_neg h4]
    have h5':(op==5)=false:=by simpa using h5
    have h4':(op==4)=false:=by simpa using h4
    rw[hk]
    clear hk h67 h5 h4
    go_enter Tryz.func249,Tryz.ntmps249
    go_wp2_with fail
    go_ret
    exact⟨rfl,(by repeat (first|exact zL9 _ _|assumption|refine zMb ?_|refine zMZ ?_ (by first|(simp;done)|(simp;omega)|omega) _|refine zMa ?_ (by first|(simp;done)|(simp;omega)|omega) _))⟩
end
section
open Go.RowKit
theorem zDu {re:List Nd} {nb no cap:Nat} (hr:zDj re) (ho: ∀x∈re,-128≤x.op∧x.op≤127): ∀(f i:Nat) (r:Int × Nat) (w:World) (iv:Int),iv=i→zCm w nb no re→zAU re f i=some r→
  Calls Tryz.prog 228 #[.slice (some ⟨nb,no,none⟩) re.length cap,.int .i64 iv] w fun e w'=>e= .returned (.tuple #[.int .i64 r.1,.int .i64 (r.2:Nat)])∧Below w.heap.size w w'
 |0,_,_,_,_,_,_,h=>by simp[zAU]at h
 |f+1,i,r,w,iv,hiv,hn,h=>by
  subst hiv
  have ih:=fun(i:Nat) (r:Int × Nat) (w:World) (iv:Int) (hiv:iv=i) (h:zCm w nb no re) (hw:zAU re f i=some r)=>zDu (cap:=cap) hr ho f i r w iv hiv h hw
  have hbn:=zL8 (fun i r=>zAe hr f i r)
  have hb:=zAe hr _ _ _ h
  unfold zAU at h
  cases hx:re[i]? with
  |none=>rw[hx]at h;cases h
  |some n=>
   rw[hx]at h
   simp only at h
   have hi:i<re.length:=(zMF.1 hx).1
   have hi':(i:Int)<(re.length:Int):=by omega
   have hlen:=hn.len
   obtain⟨c0,c1,c2,c3,c4,c5,c6,c7,c8⟩:=hn.cells hx
   have nbl:=hn.lt
   have hmem:=zMc hx
   have hkm:=hn.k n hmem
   have hrn:=zL8 (hr n hmem)
   obtain⟨hop1,hop2⟩:=ho n hmem
   obtain⟨op,⟨x0,x1,x2,x3⟩,xn,xmin,xmax,xk⟩:=n
   simp only at c0 c1 c2 c3 c4 c5 c6 c7 c8 hkm hrn h hop1 hop2
   have HN:=zL8 hn
   have HIH:=zL8 ih
   have H:=zL8 h
   clear ih hn hx h
   cases hk:zA3 (zAU re f) xk.toNat 0 (i+1)with
   |none=>have:=H.out;rw[hk]at this;cases this
   |some q=>
   obtain⟨sm,nx⟩:=q
   have HQ:=H.out
   rw[hk]at HQ
   simp only[Option.some.injEq]at HQ
   have HK:=zL8 hk
   clear hk H hb
   subst HQ
   simp only
   have hx0:=xk.toNat
   go_enter Tryz.func228,Tryz.ntmps228
   go_wp2_with fail
   go_loopg [7,8,9] xk.toNat (fun g s t j wr=> ∃(sum:Int) (p d:Nat),s= .int .i64 sum∧t= .int .i64 (p:Nat)∧j= .int .i64 (d:Nat)∧g=xk.toNat - d∧d≤xk.toNat∧0≤sum∧sum≤16385∧p≤re.length∧Below w.heap.size w wr∧zC7 wr w.heap.size ⟨op,⟨x0,x1,x2,x3⟩,xn,xmin,xmax,xk⟩∧
    Hid (zA3 (zAU re f) (xk.toNat - d) sum p=some (sm,nx)))
   case atStart=>exact⟨0,i+1,0,rfl,by go_num,rfl,by omega,by omega,by omega,by omega,by omega,(zL9 _ _).alloc (zMA _) _,zML _ _,HK.out⟩
   case round=>
    obtain⟨sum,p,d,rfl,rfl,rfl,hg,hd,hs1,hs2,hp,hbe,hnd,HS⟩:=hrel
    have HG:=zL8 hg
    obtain⟨d0,d1,d2,d3,d4,d5,d6,d7,d8,g0⟩:=hnd.cells
    simp only at d0 d1 d2 d3 d4 d5 d6 d7 d8
    have hBl:=hnd.lt
    clear hg
    by_cases hlt:d<xk.toNat
    ·have hlt':(d:Int)<xk:=by omega
     have HS1:=HS.out
     rw[show xk.toNat - d=(xk.toNat - (d+1))+1 by omega,zA3]at HS1
     cases hw:zAU re f p with
     |none=>rw[hw]at HS1;cases HS1
     |some q=>
      obtain⟨w2,n2⟩:=q
      rw[hw]at HS1
      simp only at HS1
      have hb2:=hbn.out _ _ hw
      simp only at hb2
      have HSZ:=zL8 HS1
      have hih:=HIH.out p (w2,n2) wr p rfl (HN.out.below hbe) hw
      have HB:=zL8 hbe
      have HD:=zL8 hnd
      clear HS1 hw hbe hnd HS
      go_wp2_with fail
      clear d0 d1 d2 d3 d4 d5 d6 d7 d8 g0 hBl
      refine hih.mono ?_;rintro e w3 ⟨rfl,hb3⟩
      have HB3:=zL8 (HB.out.trans (hb3.mono HB.out.size))
      have HD3:=zL8 (HD.out.below hb3)
      clear hih hb3
      by_cases hm:16385<sum+w2
      ·have he:min (sum+w2) 16385=16385:=by omega
       rw[he]at HSZ
       clear he
       go_wp2_with fail
       go_roundg (xk.toNat - (d+1))
       case measure=>have:=HG.out;omega
       case rel=>exact⟨16385,n2,d+1,rfl,rfl,by go_num,rfl,by omega,by omega,by omega,hb2.2.2.2,HB3.out,HD3.out,HSZ.out⟩
      ·have he:min (sum+w2) 16385=sum+w2:=by omega
       rw[he]at HSZ
       clear he
       go_wp2_with fail
       go_roundg (xk.toNat - (d+1))
       case measure=>have:=HG.out;omega
       case rel=>exact⟨sum+w2,n2,d+1,rfl,rfl,by go_num,rfl,by omega,by omega,by omega,hb2.2.2.2,HB3.out,HD3.out,HSZ.out⟩
    ·have hlt': ¬(d:Int)<xk:=by omega
     have HS1:=HS.out
     rw[show xk.toNat - d=0 by omega,zA3]at HS1
     simp only[Option.some.injEq,Prod.mk.injEq]at HS1
     obtain⟨e1,e2⟩:=HS1
     subst e1 e2
     have HB:=zL8 hbe
     clear hnd hbe HS
     by_cases h6:op=6
     ·have hr6:=hrn.out h6
      subst h6
      by_cases hmx:xmax<0
      ·have ht:zAf ⟨6,⟨x0,x1,x2,x3⟩,xn,xmin,xmax,xk⟩=xmin+1:=by simp[zAf,hmx]
       have hmul:0≤(xmin+1)*sum∧(xmin+1)*sum≤256*16385:=⟨Int.mul_nonneg (by omega) hs1,Int.mul_le_mul (by omega) hs2 (by omega) (by omega)⟩
       have HT:=zL8 (show zAf ⟨6,⟨x0,x1,x2,x3⟩,xn,xmin,xmax,xk⟩*sum=(xmin+1)*sum from by rw[ht])
       clear ht
       by_cases hm:16385<1+(xmin+1)*sum
       ·go_wp2_with fail
        go_ret2
        exact⟨by rw[HT.out,show min ((xmin+1)*sum+1) 16385=16385 by omega];rfl,HB.out⟩
       ·go_wp2_with fail
        go_ret2
        exact⟨by rw[HT.out,show min ((xmin+1)*sum+1) 16385=1+(xmin+1)*sum by omega];rfl,HB.out⟩
      ·by_cases h1:xmax<1
       ·have ht:zAf ⟨6,⟨x0,x1,x2,x3⟩,xn,xmin,xmax,xk⟩=1:=by simp only[zAf,if_true,if_neg hmx];omega
        have HT:=zL8 (show zAf ⟨6,⟨x0,x1,x2,x3⟩,xn,xmin,xmax,xk⟩*sum=sum from by rw[ht];exact Int.one_mul _)
        clear ht
        by_cases hm:16385<1+sum
        ·go_wp2_with fail
         go_ret2
         exact⟨by rw[HT.out,show min (sum+1) 16385=16385 by omega];rfl,HB.out⟩
        ·go_wp2_with fail
         go_ret2
         exact⟨by rw[HT.out,show min (sum+1) 16385=1+sum by omega];rfl,HB.out⟩
       ·have ht:zAf ⟨6,⟨x0,x1,x2,x3⟩,xn,xmin,xmax,xk⟩=xmax:=by simp only[zAf,if_true,if_neg hmx];omega
        have hmul:0≤xmax*sum∧xmax*sum≤255*16385:=⟨Int.mul_nonneg (by omega) hs1,Int.mul_le_mul (by omega) hs2 (by omega) (by omega)⟩
        have HT:=zL8 (show zAf ⟨6,⟨x0,x1,x2,x3⟩,xn,xmin,xmax,xk⟩*sum=xmax*sum from by rw[ht])
        clear ht
        by_cases hm:16385<1+xmax*sum
        ·go_wp2_with fail
         go_ret2
         exact⟨by rw[HT.out,show min (xmax*sum+1) 16385=16385 by omega];rfl,HB.out⟩
        ·go_wp2_with fail
         go_ret2
         exact⟨by rw[HT.out,show min (xmax*sum+1) 16385=1+xmax*sum by omega];rfl,HB.out⟩
     ·have h6':(op==6)=false:=by simpa using h6
      have ht:zAf ⟨op,⟨x0,x1,x2,x3⟩,xn,xmin,xmax,xk⟩=1:=by simp[zAf,h6]
      have HT:=zL8 (show zAf ⟨op,⟨x0,x1,x2,x3⟩,xn,xmin,xmax,xk⟩*sum=sum from by rw[ht];exact Int.one_mul _)
      clear ht
      by_cases hm:16385<1+sum
      ·go_wp2_with fail
       go_ret2
       exact⟨by rw[HT.out,show min (sum+1) 16385=16385 by omega];rfl,HB.out⟩
      ·go_wp2_with fail
       go_ret2
       exact⟨by rw[HT.out,show min (sum+1) 16385=1+sum by omega];rfl,HB.out⟩
end
section
open Go.RowKit
section
variable {w w':World} {xb:Nat} {oa:Option Addr} {nb no cap:Nat} {re:List Nd} {i:Nat} {en:List Bool} {ev:Value}
def zGg (xb:Nat) (oa:Option Addr) (nb no cap:Nat) (re:List Nd) (f:Nat):Prop:= ∀(g i:Nat) (en:List Bool) (w:World) (ev:Value) (wi gi:Int),f≤260→wi=((260 - f:Nat):Int)→gi=g→g≤64→LkS w xb oa nb no cap re i en ev→
  Calls Tryz.prog 227 #[.pointer (some ⟨xb,0,none⟩),.int .i64 wi,.int .i64 gi] w (LkP w xb oa nb no cap re ev (zAX re f g i en))
theorem zG1:zGg xb oa nb no cap re 0:=fun g i en w ev wi gi hf hwi hgi hg hv=>by
  have hw:decide ((259:Int)<wi)=true:=zMJ (by omega)
  have hlen:=hv.len
  have c0:=hv.c0
  have c1:=hv.c1
  have xl:=hv.lt
  have HN:Hid (zAX re 0 g i en=none):=rfl
  clear hv hwi
  by_cases h1:re.length≤i
  ·have h1':decide (re.length≤i)=true:=zMJ (by omega)
   go_enter Tryz.func227,Tryz.ntmps227
   go_wp2_with fail
   refine zAA (X:=none) 14 [] [0,1,2,3,4,5,6,7,8,9,10,11,12,13] (by kernel_rfl) (by kernel_rfl) rfl (fun _ _ _ _ _ h=>h) ?_
   simp only[zAJ,zAC,zAD,zAB,List.getD_cons_zero,List.getD_cons_succ,List.drop_succ_cons,List.drop_nil]
   repeat (go_big_quiet_step (fail))
   refine wpQuiet_nil ?_
   go_wp2_with fail
   go_ret
   exact⟨(zBQ.refl _ _ _).drew,by rw[HN.out];rfl⟩
  ·have h1':decide (re.length≤i)=false:=zMK (by omega)
   go_enter Tryz.func227,Tryz.ntmps227
   go_wp2_with fail
   refine zAA (X:=none) 14 [] [0,1,2,3,4,5,6,7,8,9,10,11,12,13] (by kernel_rfl) (by kernel_rfl) rfl (fun _ _ _ _ _ h=>h) ?_
   simp only[zAJ,zAC,zAD,zAB,List.getD_cons_zero,List.getD_cons_succ,List.drop_succ_cons,List.drop_nil]
   repeat (go_big_quiet_step (fail))
   refine wpQuiet_nil ?_
   go_wp2_with fail
   go_ret
   exact⟨(zBQ.refl _ _ _).drew,by rw[HN.out];rfl⟩
theorem zG2 (f:Nat) (HO:Hid (∀x∈re,-128≤x.op∧x.op≤127)) (HNA:Hid (zGg xb oa nb no cap re f)):zGg xb oa nb no cap re (f+1):=fun g i en w ev wi gi hf hwi hgi hg hv=>by
  subst hgi
  have hw:decide ((259:Int)<wi)=false:=zMK (by omega)
  have hlen:=hv.len
  have c0:=hv.c0
  have c1:=hv.c1
  have xl:=hv.lt
  by_cases h1:re.length≤i
  ·have HN:Hid (zAX re (f+1) g i en=none):=by rw[Hid,zAX,zMj (by omega)]
   have h1':decide (re.length≤i)=true:=zMJ (by omega)
   clear hv hwi
   go_enter Tryz.func227,Tryz.ntmps227
   go_wp2_with fail
   refine zAA (X:=none) 14 [] [0,1,2,3,4,5,6,7,8,9,10,11,12,13] (by kernel_rfl) (by kernel_rfl) rfl (fun _ _ _ _ _ h=>h) ?_
   simp only[zAJ,zAC,zAD,zAB,List.getD_cons_zero,List.getD_cons_succ,List.drop_succ_cons,List.drop_nil]
   repeat (go_big_quiet_step (fail))
   refine wpQuiet_nil ?_
   go_wp2_with fail
   go_ret
   exact⟨(zBQ.refl _ _ _).drew,by rw[HN.out];rfl⟩
  have hi:i<re.length:=by omega
  have h1':decide (re.length≤i)=false:=zMK (by omega)
  have hi':(i:Int)<(re.length:Int):=by omega
  obtain⟨x,hx⟩: ∃x,re[i]?=some x:=⟨_,zMP hi⟩
  obtain⟨hop1,hop2⟩:=HO.out x (zMc hx)
  have hkm:=(hv.nd (by omega)).2.k x (zMc hx)
  have hoa:=(hv.nd (by omega)).1
  have HX:=zL8 hx
  have HW:=zL8 hwi
  have HGX:=zL8 (show zAX re (f+1) g i en=if !zAg x then none else if x.op==8&&(decide (x.n<1)||decide ((en.length:Int)<x.n)|| !en.getD (x.n.toNat - 1) false)then none
    else if x.op=7 then
     if x.n≠(en.length:Int)+1∨255<x.n∨64≤g then none
     else match zAu (zAX re f (g+1)) x.kids.toNat (i+1) (en++[false])with
      |none=>none
      |some (j,en')=>some (j,en'.set en.length true)
    else zAu (zAX re f g) x.kids.toNat (i+1) en by rw[zAX,hx];rfl)
  have HF1:=zL8 (fun w=>zHT x w hop1 hop2)
  have HF2:=zL8 (fun w=>zJV x w hop1 hop2)
  have HV1:=zL8 hv.drew
  have HB1:=zL8 ((zBQ.refl xb ev.ownBlock w).drew)
  rw[hoa]at c0
  clear hv hx hwi h1
  go_enter Tryz.func227,Tryz.ntmps227
  go_wp2_with fail
  refine zAA (X:=none) 14 [] [0,1,2,3,4,5,6,7,8,9,10,11,12,13] (by kernel_rfl) (by kernel_rfl) rfl (fun _ _ _ _ _ h=>h) ?_
  simp only[zAJ,zAC,zAD,zAB,List.getD_cons_zero,List.getD_cons_succ,List.drop_succ_cons,List.drop_nil]
  repeat (go_big_quiet_step (fail))
  refine wpQuiet_nil ?_
  go_upto_region 3 with fail
  clear c0 c1 xl
  revert HV1 HB1
  generalize w.drew=w1
  intro HV1 HB1
  have hnd1:=(HV1.out.nd (by omega)).2
  obtain⟨m0,m1,m2,m3,m4,m5,m6,m7,m8⟩:=hnd1.cells HX.out
  have d0:=HV1.out.c0
  have d1:=HV1.out.c1
  have y1:=HV1.out.fz 1
  have xl1:=HV1.out.lt
  have nbl1:=hnd1.lt
  rw[hoa]at d0
  clear hoa
  obtain⟨op,⟨x0,x1,x2,x3⟩,xn,xmin,xmax,xk⟩:=x
  simp only at m0 m1 m2 m3 m4 m5 m6 m7 m8 hkm hop1 hop2 HGX
  clear hnd1
  refine zAA (X:=none) 11 [([0,1,2,3,4,5,6,7,8,9],10)] [] (by kernel_rfl) (by kernel_rfl) rfl (fun _ _ _ _ _ h=>h) ?_
  simp only[zAJ,zAC,zAG,zAD,zAB,List.getD_cons_zero,List.getD_cons_succ,List.drop_succ_cons,List.drop_zero]
  repeat (go_big_quiet_step (fail))
  refine wpQuiet_nil ?_
  go_wp2_with fail
  refine⟨zBS (zA5 _ _),wpQuiet_nil ?_⟩
  have hv2:=HV1.out.setAt (j:=i+1) hi
  have hb2:=HB1.out.store 1 (.int .i64 ((i+1:Nat):Int))
  rw[Int.natCast_add,show((1:Nat):Int)=1 from rfl]at hv2 hb2
  have hsz1:(w1.setCell ⟨xb,1,none⟩ (.int .i64 ((i:Int)+1))).heap.size=w1.heap.size:=by simp
  have hv3:=(hv2.alloc (.cells (zAY ⟨op,⟨x0,x1,x2,x3⟩,xn,xmin,xmax,xk⟩) 127)).drew
  have hb3:=(hb2.alloc (.cells (zAY ⟨op,⟨x0,x1,x2,x3⟩,xn,xmin,xmax,xk⟩) 127)).drew
  have hB3:zC7 ((w1.setCell ⟨xb,1,none⟩ (.int .i64 ((i:Int)+1))).alloc (.cells (zAY ⟨op,⟨x0,x1,x2,x3⟩,xn,xmin,xmax,xk⟩) 127)).drew w1.heap.size ⟨op,⟨x0,x1,x2,x3⟩,xn,xmin,xmax,xk⟩:=by
   have h:=zML (w1.setCell ⟨xb,1,none⟩ (.int .i64 ((i:Int)+1))) (.cells (zAY ⟨op,⟨x0,x1,x2,x3⟩,xn,xmin,xmax,xk⟩) 127)
   rw[hsz1]at h
   exact h
  have hBw:=HB1.out.size
  have hel1: ∀z,ev.ownBlock=some z→z≠w1.heap.size:=fun z hz=>by have:=(HV1.out.evlt z hz).2;omega
  have HV3:=zL8 hv3
  have HB2:=zL8 hb3
  have HD3:=zL8 hB3
  have HEL:=zL8 hel1
  clear hv2 hb2 hv3 hb3 hB3 hsz1 hel1
  go_upto_region 5 with fail
  clear m0 m1 m2 m3 m4 m5 m6 m7 m8 d0 d1 y1 nbl1
  revert HV3 HB2 HD3
  simp only[zAY]
  generalize ((w1.setCell ⟨xb,1,none⟩ (.int .i64 ((i:Int)+1))).alloc (.cells #[.int .i8 op,.int .u64 x0.toNat,.int .u64 x1.toNat,.int .u64 x2.toNat,.int .u64 x3.toNat,.int .i64 xn,.int .i64 xmin,.int .i64 xmax,.int .i64 xk] 127)).drew=W3
  intro HV3 HB2 HD3
  clear HV1 HB1
  generalize w1.heap.size=B at HD3 HEL hBw xl1 ⊢
  obtain⟨b0,b1,b2,b3,b4,b5,b6,b7,b8,zB⟩:=HD3.out.cells
  simp only at b0 b1 b2 b3 b4 b5 b6 b7 b8
  have Bl:=HD3.out.lt
  have hxB: ¬xb=B:=by omega
  go_wp2_with fail
  refine(HF1.out W3).mono ?_;rintro e w4 ⟨rfl,hb4⟩
  have HV4:=zL8 (HV3.out.below hb4)
  have HB4:=zL8 (HB2.out.below hb4)
  have HD4:=zL8 (HD3.out.below hb4)
  clear hb4 HV3 HB2 HD3 b0 b1 b2 b3 b4 b5 b6 b7 b8 zB Bl
  cases hfl:zAR ⟨op,⟨x0,x1,x2,x3⟩,xn,xmin,xmax,xk⟩with
  |false=>
   have HN:Hid (zAX re (f+1) g i en=none):=by rw[Hid,HGX.out,zCV,hfl];rfl
   clear hfl HGX
   go_wp2_with fail
   go_ret
   exact⟨HB4.out,by rw[HN.out];rfl⟩
  |true=>
  obtain⟨b0,b1,b2,b3,b4,b5,b6,b7,b8,zB⟩:=HD4.out.cells
  simp only at b0 b1 b2 b3 b4 b5 b6 b7 b8
  have Bl:=HD4.out.lt
  go_wp2_with fail
  refine(HF2.out w4).mono ?_;rintro e w5 ⟨rfl,hb5⟩
  have HV5:=zL8 (HV4.out.below hb5)
  have HB5:=zL8 (HB4.out.below hb5)
  have HD5:=zL8 (HD4.out.below hb5)
  clear hb5 HV4 HB4 HD4 b0 b1 b2 b3 b4 b5 b6 b7 b8 zB Bl
  cases hkl:zB2 ⟨op,⟨x0,x1,x2,x3⟩,xn,xmin,xmax,xk⟩with
  |false=>
   have HN:Hid (zAX re (f+1) g i en=none):=by rw[Hid,HGX.out,zCV,hfl,hkl];rfl
   clear hfl hkl HGX
   go_wp2_with fail
   go_ret
   exact⟨HB5.out,by rw[HN.out];rfl⟩
  |true=>
  have HN:Hid (zAX re (f+1) g i en=if op==8&&(decide (xn<1)||decide ((en.length:Int)<xn)|| !en.getD (xn.toNat - 1) false)then none
    else if op=7 then
     if xn≠(en.length:Int)+1∨255<xn∨64≤g then none
     else match zAu (zAX re f (g+1)) xk.toNat (i+1) (en++[false])with
      |none=>none
      |some (j,en')=>some (j,en'.set en.length true)
    else zAu (zAX re f g) xk.toNat (i+1) en):=by rw[Hid,HGX.out,zCV,hfl,hkl];rfl
  clear hfl hkl HGX HF1 HF2
  obtain⟨b0,b1,b2,b3,b4,b5,b6,b7,b8,zB⟩:=HD5.out.cells
  simp only at b0 b1 b2 b3 b4 b5 b6 b7 b8
  have Bl:=HD5.out.lt
  have xl:=HV5.out.lt
  have e2:=HV5.out.c2
  have q2:=HV5.out.fz 2
  obtain⟨eo,ec,hev⟩:=HV5.out.form
  rw[hev]at e2
  have HEV:=zL8 hev
  clear hev
  go_upto_region 8 with fail
  go_cut [80] (fun v wd=>v= .bool (op==8&&(decide (xn<1)||decide ((en.length:Int)<xn)|| !en.getD (xn.toNat - 1) false))∧w5.drew=wd)
  case first=>
   clear HN
   by_cases h8:op=8
   ·subst h8
    by_cases r1:xn<1
    ·have HC:Hid (((8:Int)==8&&(decide (xn<1)||decide ((en.length:Int)<xn)|| !en.getD (xn.toNat - 1) false))=true):=by simp[Hid,r1]
     have r1':decide (xn<1)=true:=by simpa using r1
     refine zAA (X:=none) 29 [] [0,1,2,3,4,5,6,7,8,9,10,11,12,13,14,15,16,17,18,19,20,21,22,23,24,25,26,27,28] (by kernel_rfl) (by kernel_rfl) rfl (fun _ _ _ _ _ h=>h) ?_
     simp only[zAJ,zAC,zAD,zAB,List.getD_cons_zero,List.getD_cons_succ,List.drop_succ_cons,List.drop_nil]
     repeat (go_big_quiet_step (fail))
     refine wpQuiet_nil ?_
     go_wp2_with fail
     go_meet
     exact⟨by rw[HC.out],rfl⟩
    by_cases r2:(en.length:Int)<xn
    ·have HC:Hid (((8:Int)==8&&(decide (xn<1)||decide ((en.length:Int)<xn)|| !en.getD (xn.toNat - 1) false))=true):=by simp[Hid,r2]
     have r1':decide (xn<1)=false:=by simpa using r1
     have r2':decide ((en.length:Int)<xn)=true:=by simpa using r2
     refine zAA (X:=none) 29 [] [0,1,2,3,4,5,6,7,8,9,10,11,12,13,14,15,16,17,18,19,20,21,22,23,24,25,26,27,28] (by kernel_rfl) (by kernel_rfl) rfl (fun _ _ _ _ _ h=>h) ?_
     simp only[zAJ,zAC,zAD,zAB,List.getD_cons_zero,List.getD_cons_succ,List.drop_succ_cons,List.drop_nil]
     repeat (go_big_quiet_step (fail))
     refine wpQuiet_nil ?_
     go_wp2_with fail
     go_meet
     exact⟨by rw[HC.out],rfl⟩
    obtain⟨m,rfl⟩: ∃m:Nat,xn=(m:Int)+1:=⟨(xn - 1).toNat,by omega⟩
    have hmt:((m:Int)+1).toNat - 1=m:=by omega
    have HC:Hid (((8:Int)==8&&(decide ((m:Int)+1<1)||decide ((en.length:Int)<(m:Int)+1)|| !en.getD (((m:Int)+1).toNat - 1) false))= !en.getD m false):=by rw[Hid,hmt,zMK r1,zMK r2];rfl
    obtain⟨ge,ce,hev2,hge,gel⟩:=HV5.out.row (by omega)
    clear e2 hmt
    have e2:=HV5.out.c2
    rw[hev2]at e2
    have ecell:w5.cell? ⟨ge,m,none⟩=some (.bool (en.getD m false)):=by
     rw[zMX (hev2▸HV5.out.own) _ (by omega)]
     simp[List.getD_eq_getElem?_getD,show m<en.length by omega]
    have hel:=HV5.out.el
    have hm255:(m:Int)≤255:=by omega
    have hml:(m:Int)<(en.length:Int):=by omega
    have hmb:decide ((m:Int)<(en.length:Int))=true:=by simpa using hml
    have hms:(m:Int)+1 - 1=(m:Int):=by omega
    have r1':decide ((m:Int)+1<1)=false:=by simp;omega
    have r2':decide ((en.length:Int)<(m:Int)+1)=false:=by simp;omega
    clear hev2
    generalize en.getD m false=eb at ecell HC
    refine zAA (X:=none) 29 [] [0,1,2,3,4,5,6,7,8,9,10,11,12,13,14,15,16,17,18,19,20,21,22,23,24,25,26,27,28] (by kernel_rfl) (by kernel_rfl) rfl (fun _ _ _ _ _ h=>h) ?_
    simp only[zAJ,zAC,zAD,zAB,List.getD_cons_zero,List.getD_cons_succ,List.drop_succ_cons,List.drop_nil]
    repeat (go_big_quiet_step (fail))
    refine wpQuiet_nil ?_
    go_wp2_with fail
    go_meet
    exact⟨by rw[HC.out],rfl⟩
   ·have h8':(op==8)=false:=by simpa using h8
    refine zAA (X:=none) 29 [] [0,1,2,3,4,5,6,7,8,9,10,11,12,13,14,15,16,17,18,19,20,21,22,23,24,25,26,27,28] (by kernel_rfl) (by kernel_rfl) rfl (fun _ _ _ _ _ h=>h) ?_
    simp only[zAJ,zAC,zAD,zAB,List.getD_cons_zero,List.getD_cons_succ,List.drop_succ_cons,List.drop_nil]
    repeat (go_big_quiet_step (fail))
    refine wpQuiet_nil ?_
    go_wp2_with fail
    go_meet
    exact⟨by rw[h8',Bool.false_and],rfl⟩
  case rest=>
  obtain⟨rfl,rfl⟩:=hcut
  have HV6:=zL8 HV5.out.drew
  have HB6:=zL8 HB5.out.drew
  have HD6:=zL8 (HD5.out.below (zL9 _ _).drew)
  clear HV5 HB5 HD5 b0 b1 b2 b3 b4 b5 b6 b7 b8 zB Bl xl e2 q2
  revert HV6 HB6 HD6
  generalize w5.drew=w6
  intro HV6 HB6 HD6
  cases hbad:(op==8&&(decide (xn<1)||decide ((en.length:Int)<xn)|| !en.getD (xn.toNat - 1) false))with
  |true=>
   have HF:Hid (zAX re (f+1) g i en=none):=by rw[Hid,HN.out,if_pos hbad]
   clear HN hbad
   go_wp2_with fail
   go_ret
   exact⟨HB6.out,by rw[HF.out];rfl⟩
  |false=>
  have HN2:Hid (zAX re (f+1) g i en=if op=7 then
     if xn≠(en.length:Int)+1∨255<xn∨64≤g then none
     else match zAu (zAX re f (g+1)) xk.toNat (i+1) (en++[false])with
      |none=>none
      |some (j,en')=>some (j,en'.set en.length true)
    else zAu (zAX re f g) xk.toNat (i+1) en):=by rw[Hid,HN.out,hbad];rfl
  clear HN hbad
  go_upto_if 82 with fail
  go_cut [2] (fun u wd=> ∃(g1:Nat) (en1:List Bool) (ev1:Value),u= .int .i64 (g1:Nat)∧g1≤64∧LkS wd xb oa nb no cap re (i+1) en1 ev1∧zBQ xb ev.ownBlock w wd∧zBL w ev.ownBlock ev1.ownBlock∧zC7 wd B ⟨op,⟨x0,x1,x2,x3⟩,xn,xmin,xmax,xk⟩∧some B≠ev1.ownBlock∧(op=7→en1.length=en.length+1∧xn=(en.length:Int)+1)∧
   Hid (zAX re (f+1) g i en=match zAu (zAX re f g1) xk.toNat (i+1) en1 with
    |none=>none
    |some (j,e')=>some (j,if op=7 then e'.set en.length true else e')))
  case first=>
   by_cases h7:op=7
   ·subst h7
    obtain⟨b0,b1,b2,b3,b4,b5,b6,b7,b8,zB⟩:=HD6.out.cells
    simp only at b0 b1 b2 b3 b4 b5 b6 b7 b8
    have Bl:=HD6.out.lt
    have xl:=HV6.out.lt
    have hel:=HV6.out.el
    have e2:=HV6.out.c2
    have q2:=HV6.out.fz 2
    rw[HEV.out]at e2
    by_cases s1: ¬xn=(en.length:Int)+1
    ·have HF:Hid (zAX re (f+1) g i en=none):=by rw[Hid,HN2.out,if_pos rfl,if_pos (by omega)]
     have s1':(xn !=(en.length:Int)+1)=true:=by simpa using s1
     clear HN2
     go_wp2_with fail
     refine zAA (X:=none) 18 [] [0,1,2,3,4,5,6,7,8,9,10,11,12,13,14,15,16,17] (by kernel_rfl) (by kernel_rfl) rfl (fun _ _ _ _ _ h=>h) ?_
     simp only[zAJ,zAC,zAD,zAB,List.getD_cons_zero,List.getD_cons_succ,List.drop_succ_cons,List.drop_nil]
     repeat (go_big_quiet_step (fail))
     refine wpQuiet_nil ?_
     go_wp2_with fail
     go_ret
     exact⟨HB6.out.drew,by rw[HF.out];rfl⟩
    have s1:=Decidable.not_not.1 s1
    subst s1
    have s1':(((en.length:Int)+1) !=(en.length:Int)+1)=false:=by simp
    by_cases s2:255<(en.length:Int)+1
    ·have HF:Hid (zAX re (f+1) g i en=none):=by rw[Hid,HN2.out,if_pos rfl,if_pos (by omega)]
     have s2':decide (255<(en.length:Int)+1)=true:=by simpa using s2
     clear HN2
     go_wp2_with fail
     refine zAA (X:=none) 18 [] [0,1,2,3,4,5,6,7,8,9,10,11,12,13,14,15,16,17] (by kernel_rfl) (by kernel_rfl) rfl (fun _ _ _ _ _ h=>h) ?_
     simp only[zAJ,zAC,zAD,zAB,List.getD_cons_zero,List.getD_cons_succ,List.drop_succ_cons,List.drop_nil]
     repeat (go_big_quiet_step (fail))
     refine wpQuiet_nil ?_
     go_wp2_with fail
     go_ret
     exact⟨HB6.out.drew,by rw[HF.out];rfl⟩
    have s2':decide (255<(en.length:Int)+1)=false:=by simpa using s2
    by_cases s3:64≤g
    ·have HF:Hid (zAX re (f+1) g i en=none):=by rw[Hid,HN2.out,if_pos rfl,if_pos (by omega)]
     have s3':decide ((64:Int)≤(g:Int))=true:=zMJ (by omega)
     clear HN2
     go_wp2_with fail
     refine zAA (X:=none) 18 [] [0,1,2,3,4,5,6,7,8,9,10,11,12,13,14,15,16,17] (by kernel_rfl) (by kernel_rfl) rfl (fun _ _ _ _ _ h=>h) ?_
     simp only[zAJ,zAC,zAD,zAB,List.getD_cons_zero,List.getD_cons_succ,List.drop_succ_cons,List.drop_nil]
     repeat (go_big_quiet_step (fail))
     refine wpQuiet_nil ?_
     go_wp2_with fail
     go_ret
     exact⟨HB6.out.drew,by rw[HF.out];rfl⟩
    have s3':decide ((64:Int)≤(g:Int))=false:=zMK (by omega)
    go_wp2_with fail
    refine zAA (X:=none) 18 [] [0,1,2,3,4,5,6,7,8,9,10,11,12,13,14,15,16,17] (by kernel_rfl) (by kernel_rfl) rfl (fun _ _ _ _ _ h=>h) ?_
    simp only[zAJ,zAC,zAD,zAB,List.getD_cons_zero,List.getD_cons_succ,List.drop_succ_cons,List.drop_nil]
    repeat (go_big_quiet_step (fail))
    refine wpQuiet_nil ?_
    go_upto_region 13 with fail
    have HV7:=zL8 HV6.out.drew
    have HB7:=zL8 HB6.out.drew
    have HD7:=zL8 (HD6.out.below (zL9 _ _).drew)
    clear HV6 HB6 HD6 b0 b1 b2 b3 b4 b5 b6 b7 b8 zB Bl xl e2 q2
    revert HV7 HB7 HD7
    generalize w6.drew=W3
    intro HV3 HB2 HD3
    have xl:=HV3.out.lt
    have Bl:=HD3.out.lt
    have e2:=HV3.out.c2
    have q2:=HV3.out.fz 2
    rw[HEV.out]at e2
    go_wp2_with (at_builtin;refine zAN zLj rfl _ _ rfl (xb+1) rfl ((HEV.out▸HV3.out.own).alloc _) rfl (Src.new W3 [.bool false] _ _ _) rfl (by simp[Value.oneCell']) (by unfold maxLen;omega) (by omega) (by simp;omega) ?_)
    intro v1 w2 hown2 hgr2 hblk2
    rw[←HEV.out]at hgr2 hblk2
    have hvA:=HV3.out.alloc (.cells #[.bool false] 4)
    have hgb:w2.heap[xb]?=(W3.alloc (.cells #[.bool false] 4)).heap[xb]?:=hgr2.block xb hvA.lt (hvA.not_xb (zMA _))
    have hdB:zC7 w2 B ⟨7,⟨x0,x1,x2,x3⟩,(en.length:Int)+1,xmin,xmax,xk⟩:=(HD3.out.below ((zL9 _ _).alloc (zMA _) (.cells #[.bool false] 4))).block (hgr2.block B (by simp;omega) (fun e=>HEL.out B e.symm rfl))
    have E2:=(zMC (a:=⟨xb,2,none⟩) hgb).trans hvA.c2
    have Q2:=(zMD (a:=⟨xb,2,none⟩) hgb).trans (hvA.fz 2)
    obtain⟨gv,cv,hv1⟩: ∃gv cv,v1= .slice (some ⟨gv,0,none⟩) (en.length+1) cv:=by
     rcases hown2.2 with ⟨_,h⟩|⟨gv,cv,_,h,_⟩
     ·omega
     ·exact⟨gv,cv,h⟩
    subst hv1
    have hn1:zBL w ev.ownBlock (Value.slice (some ⟨gv,0,none⟩) (en.length+1) cv).ownBlock:=by
     rcases hblk2 with h|h
     ·exact .inl h
     ·exact .inr fun z hz=>by rw[h]at hz;cases hz;omega
    have hBv:some B≠(Value.slice (some ⟨gv,0,none⟩) (en.length+1) cv).ownBlock:=by
     rcases hblk2 with h|h
     ·rw[h];exact fun e=>HEL.out B e.symm rfl
     ·rw[h];intro e;cases e;omega
    have HB5:=zL8 (((HB2.out.alloc (.cells #[.bool false] 4)).grown (zBL.refl _ _) hgr2).store 2 (.slice (some ⟨gv,0,none⟩) (en.length+1) cv))
    have HP5:=zL8 (hvA.push hgr2 (ev':= .slice (some ⟨gv,0,none⟩) (en.length+1) cv) (en':=en++[false]) (by simpa using hown2) (by simp;omega))
    have HD5:=zL8 (hdB.store (b:=xb) (fun e=>hxB e.symm) 2 (.slice (some ⟨gv,0,none⟩) (en.length+1) cv))
    have HN1:=zL8 hn1
    have HBV:=zL8 hBv
    have xl2:xb<w2.heap.size:=zMB hvA.lt hgr2.size
    clear hvA hgb hdB hown2 hgr2 hblk2 hn1 hBv xl e2 q2 Bl
    go_wp2_with fail
    go_meet
    refine⟨g+1,en++[false],_,by go_num,by omega,HP5.out,HB5.out,HN1.out,HD5.out,HBV.out,fun _=>⟨by simp,by first|rfl|trivial⟩,?_⟩
    rw[Hid,HN2.out,if_pos trivial,if_neg (by omega)]
    cases zAu (zAX re f (g+1)) xk.toNat (i+1) (en++[false])with
    |none=>rfl
    |some q=>rfl
   ·have h7':(op==7)=false:=by simpa using h7
    go_wp2_with fail
    go_meet
    exact⟨g,en,ev,rfl,hg,HV6.out,HB6.out,zBL.refl _ _,HD6.out,fun e=>HEL.out B e.symm rfl,fun h=>absurd h h7,by
     rw[Hid,HN2.out,if_neg h7]
     cases zAu (zAX re f g) xk.toNat (i+1) en with
     |none=>rfl
     |some q=>simp only[if_neg h7]⟩
  case rest=>
   obtain⟨g1,en1,ev1,rfl,hg1,hvc,hbc,hnw,hdB,hBe,h7c,HK⟩:=hcut
   clear HV6 HB6 HD6 HN2
   have HVC:=zL8 hvc
   have HBC:=zL8 hbc
   have HNW:=zL8 hnw
   have HDB:=zL8 hdB
   have HBE:=zL8 hBe
   have H7:=zL8 h7c
   have IH:=zL8 (fun(j:Nat) (en2:List Bool) (w2:World) (ev2:Value) (wi2:Int) (hw2:wi2=((260 - f:Nat):Int)) (h:LkS w2 xb oa nb no cap re j en2 ev2)=>HNA.out g1 j en2 w2 ev2 wi2 (g1:Int) (by omega) hw2 rfl hg1 h)
   have hwl:0≤wi∧wi≤259:=by have:=HW.out;omega
   have hwl1:=hwl.1
   have hwl2:=hwl.2
   clear hwl hvc hbc hnw hdB hBe h7c
   go_wp2_with fail
   go_loopg [9] xk.toNat (fun n cv wr=> ∃(d p:Nat) (en2:List Bool) (ev2:Value),cv= .int .i64 (d:Nat)∧n=xk.toNat - d∧d≤xk.toNat∧LkS wr xb oa nb no cap re p en2 ev2∧zBQ xb ev.ownBlock w wr∧zBL w ev.ownBlock ev2.ownBlock∧zC7 wr B ⟨op,⟨x0,x1,x2,x3⟩,xn,xmin,xmax,xk⟩∧some B≠ev2.ownBlock∧en1.length≤en2.length∧Hid (zAu (zAX re f g1) xk.toNat (i+1) en1=zAu (zAX re f g1) (xk.toNat - d) p en2))
   case atStart=>exact⟨0,i+1,en1,ev1,rfl,by omega,by omega,HVC.out,HBC.out,HNW.out,HDB.out,HBE.out,zMA _,rfl⟩
   case round=>
    obtain⟨d,p,en2,ev2,rfl,hg,hd,hvr,hbr,hnr,hdr,hBr,hlr,HS⟩:=hrel
    have HG:=zL8 hg
    obtain⟨b0,b1,b2,b3,b4,b5,b6,b7,b8,zB⟩:=hdr.cells
    simp only at b0 b1 b2 b3 b4 b5 b6 b7 b8
    have Bl:=hdr.lt
    clear hg
    by_cases hlt:d<xk.toNat
    ·have hlt':(d:Int)<xk:=by omega
     have hwi2:wi+1=((260 - f:Nat):Int):=by have:=HW.out;omega
     have HP:=zL8 (IH.out p en2 wr ev2 (wi+1) hwi2 hvr)
     have HS1:=HS.out
     rw[show xk.toNat - d=(xk.toNat - (d+1))+1 by omega,zAu]at HS1
     have HLR:=zL8 hlr
     have HBR:=zL8 hbr
     have HDR:=zL8 hdr
     have HNR:=zL8 hnr
     have HBn:=zL8 hBr
     clear hwi2 hlr hbr hdr hnr hBr hvr HS
     cases hq:zAX re f g1 p en2 with
     |none=>
      rw[hq]at HS1
      have HF:Hid (zAX re (f+1) g i en=none):=by rw[Hid,HK.out,HS1]
      have hp:=HP.out
      rw[hq]at hp
      clear HS1 HP
      go_wp2_with fail
      refine hp.mono ?_;rintro e w7 ⟨hb3,rfl⟩
      clear hp b0 b1 b2 b3 b4 b5 b6 b7 b8 zB Bl
      have HB4:=zL8 (HBR.out.trans HNR.out hb3)
      clear hb3
      go_wp2_with fail
      go_ret
      exact⟨HB4.out,by rw[HF.out];rfl⟩
     |some q=>
      obtain⟨p3,en3⟩:=q
      rw[hq]at HS1
      simp only at HS1
      have hp:=HP.out
      rw[hq]at hp
      have HS3:=zL8 HS1
      have hln:=zCh _ _ _ _ _ _ hq
      simp only at hln
      clear HS1 HP
      go_wp2_with fail
      refine hp.mono ?_;rintro e w7 ⟨hb3,ev3,rfl,hv3,hn3⟩
      clear hp b0 b1 b2 b3 b4 b5 b6 b7 b8 zB Bl
      have HB4:=zL8 (HBR.out.trans HNR.out hb3)
      have HD4:=zL8 (HDR.out.block (hb3.block B HDR.out.lt (fun e=>hxB e.symm) HBn.out))
      have HE4:=zL8 (hn3.ne HDR.out.lt HBn.out)
      have HN4:=zL8 (HNR.out.trans HBR.out.size hn3)
      have HV4:=zL8 hv3
      clear hb3 hn3 hv3
      go_wp2_with fail
      go_roundg (xk.toNat - (d+1))
      case measure=>have:=HG.out;omega
      case rel=>exact⟨d+1,p3,en3,ev3,by go_num,rfl,by omega,HV4.out,HB4.out,HN4.out,HD4.out,HE4.out,zMV HLR.out hln,HS3.out⟩
    ·have hlt': ¬(d:Int)<xk:=by omega
     have HS1:=HS.out
     rw[show xk.toNat - d=0 by omega,zAu]at HS1
     have HF:Hid (zAX re (f+1) g i en=some (p,if op=7 then en2.set en.length true else en2)):=by rw[Hid,HK.out,HS1]
     clear HS HS1 HK
     have HVR:=zL8 hvr
     have HBR:=zL8 hbr
     have HNR:=zL8 hnr
     have HBn:=zL8 hBr
     by_cases h7:op=7
     ·subst h7
      obtain⟨hl1,hxn⟩:=H7.out rfl
      subst hxn
      obtain⟨ge,ce,hev2,hge,gel⟩:=hvr.row (by omega)
      have e2:=hvr.c2
      rw[hev2]at e2
      have xlr:=hvr.lt
      have hel:=hvr.el
      have c1:=hvr.c1
      have hel2:(en.length:Int)<(en2.length:Int):=by omega
      have hel3:(en2.length:Int)≤255:=by omega
      have ecell:wr.cell? ⟨ge,en.length,none⟩=some (.bool (en2.getD en.length false)):=by
       rw[zMX (hev2▸hvr.own) _ (by omega)]
       simp[List.getD_eq_getElem?_getD,show en.length<en2.length by omega]
      have fg:wr.frozen? ⟨ge,en.length,none⟩=false:=zMY (hev2▸hvr.own) _
      have hms:(en.length:Int)+1 - 1=(en.length:Int):=by omega
      have HEV2:=zL8 hev2
      clear hvr hbr hnr hBr hdr hev2 hlr hl1
      go_wp2_with fail
      refine zAA (X:=none) 8 [] [0,1,2,3,4,5,6,7] (by kernel_rfl) (by kernel_rfl) rfl (fun _ _ _ _ _ h=>h) ?_
      simp only[zAJ,zAC,zAD,zAB,List.getD_cons_zero,List.getD_cons_succ,List.drop_succ_cons,List.drop_zero]
      repeat (go_big_quiet_step (fail))
      refine wpQuiet_nil ?_
      go_wp2_with fail
      go_ret
      refine⟨(HBR.out.note HNR.out (g:=ge) (by rw[HEV2.out];rfl) en.length (.bool true)).drew,?_⟩
      rw[HF.out,if_pos trivial]
      exact⟨ev2,rfl,(HVR.out.note HEV2.out en.length).drew,HNR.out⟩
     ·have h7':(op==7)=false:=by simpa using h7
      clear hvr hbr hnr hBr hdr
      go_wp2_with fail
      go_ret
      refine⟨HBR.out,?_⟩
      rw[HF.out,if_neg h7]
      exact⟨ev2,rfl,HVR.out,HNR.out⟩
theorem zEp (HO:Hid (∀x∈re,-128≤x.op∧x.op≤127)): ∀(f:Nat),zGg xb oa nb no cap re f
 |0=>zG1
 |f+1=>zG2 f HO (zEp HO f)
end
end
end Go.Proofs.YtfcemodgopdkkaaGreatDoor
