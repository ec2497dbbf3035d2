/- Parts: Sx Sy. -/
import Derived.Test.YtfcemodgopdkkaaGreatDoorQ2
import Derived.Test.YtfcemodgopdkkaaGreatDoorQ18
import Derived.Test.YtfcemodgopdkkaaGreatDoorQ35
import Derived.Deep.WholeRow
import Derived.Deep.LoopGhost
import Derived.WalkMore
set_option maxHeartbeats 6400000
set_option maxRecDepth 100000
namespace Go.Proofs.YtfcemodgopdkkaaGreatDoor
section
open Go.RowKit Go.Shelf
structure CmC (l:List Value):Prop where
 cl:zBc l
 ka:l[0]?=some (.int .i8 0)
 nt:l[6]?=some (.bool false)
 nm:l[7]?=some (.int .u8 112)
 r: ∀i,i=2∨i=5∨i=10→l[i]?=some (.slice none 0 0)
theorem CmC.set {l:List Value} (h:CmC l) {i:Nat} (hi:i≠0∧i≠6∧i≠7) {v:Value} (hv:v.oneCell'=true) (hr:(i=2∨i=5∨i=10)→v= .slice none 0 0):CmC (l.set i v):=
 ⟨h.cl.set i hv,by rw[List.getElem?_set_ne hi.1];exact h.ka,by rw[List.getElem?_set_ne hi.2.1];exact h.nt,by rw[List.getElem?_set_ne hi.2.2];exact h.nm,fun j hj=>by
  by_cases e:i=j
  ·subst e
   rw[List.getElem?_set_self (by have:=(zMF.1 (h.r i hj)).1;exact this),hr hj]
  ·rw[List.getElem?_set_ne e];exact h.r j hj⟩
section
variable {w w':World} {b:Nat} {l:List Value}
theorem zAp {c:Nat} (h:CmB w b l) (hc:b≠c) (o:Nat) (v:Value):CmB (w.setCell ⟨c,o,none⟩ v) b l:=h.block (zMI _ _ _ _ hc)
theorem zA2 (h:zBc l):(Tryz.prog.info? 71).map (·.size)=some l.toArray.size:=by rw[zAd,List.size_toArray,h.len]
theorem zAv {k g:Nat} {W:World} (h:Below k w W) (hk:k≤g) (cs:Array Value):Below k w (W.setRow g cs):=
 ⟨h.os,h.tape,h.output,by simpa [World.setRow]using h.size,fun j hj=>by
  have e:(W.setRow g cs).heap[j]?=W.heap[j]?:=by simp[World.setRow,Array.getElem?_modify,show g≠j by omega]
  rw[e];exact h.block j hj⟩
theorem zDw {fn:Func} {p:Tmp} (hf:fn.results= #[.cell p 71]) {Q:Ending→World→Prop} {a:Act} {w:World} (hp:a.tmps.getD p undef= .pointer (some ⟨b,0,none⟩)) (hd:a.defers=[])
  (h:CmB w b l) (hQ:Q (.returned (.agg l.toArray)) w):bodyPost Tryz.prog fn Q .ret a w:=by
 refine zMi (v:= .agg l.toArray) ?_ hd hQ
 rw[zBC hf,hp]
 simp only[asAddr,Sem.run_pure,Result.andThen]
 exact run_loadVar_row w b _ _ _ (0,0) _ h.heap Tryz.underlying71 rfl (zA2 h.cl)
theorem zIm:Calls Tryz.prog 94 #[.slice none 0 0] w fun e w'=>e= .returned (.slice none 0 0)∧w=w':=
 (Any.bytes_Clone_nil zIt 0 0 w).mono fun _ _ ⟨h1,h2⟩=>⟨h1,h2.symm⟩
theorem zD7:Calls Tryz.prog 65 #[.slice none 0 0] w fun e w'=>e= .returned (.slice none 0 0)∧w=w':=by
 go_enter Tryz.func65,Tryz.ntmps65
 have hq: ∀w,(binOp .eql 64 (.slice none 0 0) (.slice none 0 0)).run Tryz.prog w= .ok (.bool true) w:=fun _=>by kernel_rfl
 go_wp2_with fail
 go_ret
 exact⟨rfl,rfl⟩
theorem zKQ (h:PcV l):Calls Tryz.prog 62 #[.agg l.toArray] w fun e w'=>(∃l',e= .returned (.agg l'.toArray)∧CmC l')∧Below w.heap.size w w':=by
 have HP:=zL8 h
 have hb0:=CmB.new h.cl w
 have hz0:=CmB.new zBc.zero (w.alloc (.cells l.toArray 71))
 have e1:(w.alloc (.cells l.toArray 71)).heap.size=w.heap.size+1:=by simp
 have hb1:=hb0.block (w':=(w.alloc (.cells l.toArray 71)).alloc (.cells Tryz.zeroCells71.toList.toArray 71)) (zMM _ _ hb0.lt)
 rw[e1]at hz0
 have HB:=zL8 (((zL9 w.heap.size w).alloc (zMA _) (.cells l.toArray 71)).alloc (by simp) (.cells Tryz.zeroCells71.toList.toArray 71))
 have H0:=zL8 hb1
 have HZ:=zL8 hz0
 clear h hb0 hz0 hb1 e1
 go_enter Tryz.func62,Tryz.ntmps62
 go_upto_region 1 with fail
 obtain⟨W,hW⟩: ∃W,(w.alloc (.cells l.toArray 71)).alloc (.cells Tryz.zeroCells71.toList.toArray 71)=W:=⟨_,rfl⟩
 have hW':(w.alloc (.cells l.toArray 71)).alloc (.cells Tryz.zeroCells71 71)=W:=hW
 rw[hW]at HB H0 HZ
 rw[hW']
 clear hW hW'
 obtain⟨b,hbz⟩: ∃b,w.heap.size=b:=⟨_,rfl⟩
 rw[hbz]at H0 HZ HB ⊢
 have HBZ:=zL8 hbz
 clear hbz
 have HC0:=zL8 (show CmC l from⟨HP.out.cl,HP.out.a0,HP.out.nt,HP.out.nm,fun i hi=>by rcases hi with rfl|rfl|rfl<;>first|exact HP.out.a2|exact HP.out.b2|exact HP.out.re⟩)
 have k9:W.cell? ⟨b,9,none⟩=some (.slice none 0 0):=(H0.out.cell 9).trans HP.out.tx
 have z9:=H0.out.fz 9
 have hl:=H0.out.lt
 have HCN: ∀W:World,Hid _:=fun W=>zL8 (zIm (w:=W))
 have HNN: ∀W:World,Hid _:=fun W=>zL8 (zD7 (w:=W))
 go_wp2_with fail
 refine(HCN _).out.mono ?_;rintro e wq ⟨rfl,rfl⟩
 have H1:=zL8 (H0.out.set 9 (v:= .slice none 0 0) rfl)
 have HZ1:=zL8 (zAp HZ.out (show b+1≠b by omega) 9 (.slice none 0 0))
 have HB1:=zL8 (HB.out.setCell (p:=⟨b,9,none⟩) (zMA _) (.slice none 0 0))
 have HC1:=zL8 (HC0.out.set (i:=9) (by decide) (v:= .slice none 0 0) rfl fun _=>rfl)
 go_upto_region 2 with fail
 obtain⟨W1,hW⟩: ∃V,W.setCell ⟨b,9,none⟩ (.slice none 0 0)=V:=⟨_,rfl⟩
 rw[hW]at H1 HZ1 HB1 ⊢
 clear hW k9 z9 hl H0 HZ HB HC0
 have g2:(l.set 9 (.slice none 0 0))[2]?=some (.slice none 0 0):=by rw[List.getElem?_set_ne (by decide)];exact HP.out.a2
 have g5:(l.set 9 (.slice none 0 0))[5]?=some (.slice none 0 0):=by rw[List.getElem?_set_ne (by decide)];exact HP.out.b2
 have g10:(l.set 9 (.slice none 0 0))[10]?=some (.slice none 0 0):=by rw[List.getElem?_set_ne (by decide)];exact HP.out.re
 have g11:(l.set 9 (.slice none 0 0))[11]?=some (.slice none 0 0):=by rw[List.getElem?_set_ne (by decide)];exact HP.out.fi
 obtain⟨l1,hl1⟩: ∃x,l.set 9 (.slice none 0 0)=x:=⟨_,rfl⟩
 rw[hl1]at H1 HC1 g2 g5 g10 g11
 clear hl1
 have k2:W1.cell? ⟨b,2,none⟩=some (.slice none 0 0):=(H1.out.cell 2).trans g2
 have k5:W1.cell? ⟨b,5,none⟩=some (.slice none 0 0):=(H1.out.cell 5).trans g5
 have k10:W1.cell? ⟨b,10,none⟩=some (.slice none 0 0):=(H1.out.cell 10).trans g10
 have hl:=H1.out.lt
 have fz:=H1.out.fz
 have G11:=zL8 g11
 clear g2 g5 g10 g11
 refine zAA (X:=none) 12 [([0,1,3,4,5,7,8,9],2),([11],6),([],10)] [] (by kernel_rfl) (by kernel_rfl) rfl (fun _ _ _ _ _ h=>h) ?_
 simp only[zAJ,zAC,zAG,zAD,zAB,List.getD_cons_zero,List.getD_cons_succ,List.drop_succ_cons,List.drop_zero]
 repeat (go_big_quiet_step (fail))
 refine wpQuiet_nil ?_
 go_wp2_with fail
 refine(HNN _).out.mono ?_;rintro e wq ⟨rfl,rfl⟩
 dsimp only
 go_wp2_with fail
 refine⟨zAP.refl _,?_⟩
 repeat (go_big_quiet_step (fail))
 refine wpQuiet_nil ?_
 go_wp2_with fail
 refine(HNN _).out.mono ?_;rintro e wq ⟨rfl,rfl⟩
 dsimp only
 go_wp2_with fail
 refine⟨zAP.refl _,?_⟩
 repeat (go_big_quiet_step (fail))
 refine wpQuiet_nil ?_
 go_wp2_with fail
 refine(HNN _).out.mono ?_;rintro e wq ⟨rfl,rfl⟩
 dsimp only
 go_wp2_with fail
 refine⟨zAP.refl _,?_⟩
 repeat (go_big_quiet_step (fail))
 refine wpQuiet_nil ?_
 go_upto_region 3 with fail
 have H2:=zL8 (((H1.out.set 10 (v:= .slice none 0 0) rfl).set 2 (v:= .slice none 0 0) rfl).set 5 (v:= .slice none 0 0) rfl)
 have HZ2:=zL8 (zAp (zAp (zAp HZ1.out (show b+1≠b by omega) 10 (.slice none 0 0)) (show b+1≠b by omega) 2 (.slice none 0 0)) (show b+1≠b by omega) 5 (.slice none 0 0))
 have HB2:=zL8 ((((HB1.out.setCell (p:=⟨b,10,none⟩) (zMA _) (.slice none 0 0)).setCell (p:=⟨b,2,none⟩) (zMA _) (.slice none 0 0)).setCell (p:=⟨b,5,none⟩) (zMA _) (.slice none 0 0)).drew)
 have HC2:=zL8 (((HC1.out.set (i:=10) (by decide) (v:= .slice none 0 0) rfl fun _=>rfl).set (i:=2) (by decide) (v:= .slice none 0 0) rfl fun _=>rfl).set (i:=5) (by decide) (v:= .slice none 0 0) rfl fun _=>rfl)
 have g11:(((l1.set 10 (.slice none 0 0)).set 2 (.slice none 0 0)).set 5 (.slice none 0 0))[11]?=some (.slice none 0 0):=by
  rw[List.getElem?_set_ne (by decide),List.getElem?_set_ne (by decide),List.getElem?_set_ne (by decide)];exact G11.out
 obtain⟨W2,hW⟩: ∃V,(((W1.setCell ⟨b,10,none⟩ (.slice none 0 0)).setCell ⟨b,2,none⟩ (.slice none 0 0)).setCell ⟨b,5,none⟩ (.slice none 0 0)).drew=V:=⟨_,rfl⟩
 have H2:Hid (CmB W2 b _):=zL8 (by rw[←hW];exact H2.out.block rfl)
 have HZ2:Hid (CmB W2 (b+1) _):=zL8 (by rw[←hW];exact HZ2.out.block rfl)
 rw[hW]at HB2 ⊢
 obtain⟨l2,hl2⟩: ∃x,((l1.set 10 (.slice none 0 0)).set 2 (.slice none 0 0)).set 5 (.slice none 0 0)=x:=⟨_,rfl⟩
 rw[hl2]at H2 HC2 g11
 clear hW hl2 k2 k5 k10 hl fz G11 HB1 HZ1 HC1 H1 HNN HCN
 have k11:W2.cell? ⟨b,11,none⟩=some (.slice none 0 0):=(H2.out.cell 11).trans g11
 have hl:=H2.out.lt
 obtain⟨i0,hi,hz0,hz1,hz2⟩:=info_parts (zLV).hi
 go_wp2_with (at_make;refine wpList_make_own _ rfl _ _ 67 rfl b 73 i0 _ 2 Tryz.underlying67 hi hz0 hz1 .i64 .i64 0 0 rfl rfl (by omega) (by rw[hz2];omega) (by unfold maxLen;omega) (by omega) ?_)
 intro w3 hown hgr
 obtain⟨q,hq⟩: ∃q,W2.heap.size=q:=⟨_,rfl⟩
 rw[hq]at hown ⊢
 have hb3:Below W2.heap.size W2 w3:=(zL9 _ _).grown hgr (zMA _) (fun k hk=>by cases hk)
 have H3:=zL8 (H2.out.below hb3)
 have HZ3:=zL8 (HZ2.out.below hb3)
 have HB3:=zL8 (HB2.out.trans (hb3.mono (by have:=H2.out.lt;omega)))
 clear hown hgr hb3 hq hi hz0 hz1 hz2 H2 HZ2 HB2
 have k11:w3.cell? ⟨b,11,none⟩=some (.slice none 0 0):=(H3.out.cell 11).trans g11
 have hl:=H3.out.lt
 go_wp2_with fail
 go_loopg [3,33] 1 (fun gk fv kv wr=>fv= .slice (some ⟨q,0,none⟩) 0 0∧kv= .int .i64 0∧wr=w3)
 case atStart=>exact⟨rfl,rfl,rfl⟩
 case round=>
 obtain⟨rfl,rfl,rfl⟩:=hrel
 have fz:=H3.out.fz
 have H4:=zL8 (H3.out.set 11 (v:= .slice (some ⟨q,0,none⟩) 0 0) rfl)
 have HZ4:=zL8 (zAp HZ3.out (show b+1≠b by omega) 11 (.slice (some ⟨q,0,none⟩) 0 0))
 have HB4:=zL8 (HB3.out.setCell (p:=⟨b,11,none⟩) (zMA _) (.slice (some ⟨q,0,none⟩) 0 0))
 have HC4:=zL8 (HC2.out.set (i:=11) (by decide) (v:= .slice (some ⟨q,0,none⟩) 0 0) rfl fun e=>by omega)
 go_upto_region 10 with fail
 obtain⟨W4,hW⟩: ∃V,wr.setCell ⟨b,11,none⟩ (.slice (some ⟨q,0,none⟩) 0 0)=V:=⟨_,rfl⟩
 rw[hW]at H4 HZ4 HB4 ⊢
 clear hW k11 hl fz g11 H3 HZ3 HB3 HC2
 obtain⟨l4,hl4⟩: ∃x,l2.set 11 (.slice (some ⟨q,0,none⟩) 0 0)=x:=⟨_,rfl⟩
 rw[hl4]at H4 HC4
 clear hl4
 have HSZ:=zL8 (zA2 H4.out.cl)
 have HSO:Hid (Tryz.zeroCells71.toList.toArray.size=l4.toArray.size):=zL8 (by rw[List.size_toArray,List.size_toArray,zAo,H4.out.cl.len])
 have HON:Hid (l4.toArray.all (·.oneCell')=true):=zL8 (by rw[←Array.all_toList,List.all_eq_true];simpa using H4.out.cl.one)
 go_wp2_with (first|refine wpList_load_row rfl 71 _ rfl b rfl _ _ (0,0) _ H4.out.heap Tryz.underlying71 rfl HSZ.out ?_|refine wpList_store_row rfl 71 _ _ rfl (b+1) _ rfl rfl _ _ HZ4.out.heap HSZ.out HSO.out HON.out ?_)
 have HR:CmB (W4.setRow (b+1) l4.toArray) (b+1) l4:=⟨setRow_heap _ _ _ _ _ _ HZ4.out.heap,H4.out.cl⟩
 refine zDw (p:=2) rfl rfl rfl HR ⟨⟨l4,rfl,HC4.out⟩,?_⟩
 rw[HBZ.out]
 exact zAv HB4.out (by omega) _
end
end
section
open Go.RowKit
theorem zLW:ElT Tryz.prog 23 3 1 8 (.int .i64 0):=⟨Tryz.underlying23,by kernel_rfl,rfl,by decide⟩
section
variable {w w':World} {b:Nat}
theorem zBi {ops:Array Oper} {rest:List Oper} {op:Oper} {a:Act} {w:World} {Q:Exit→Act→World→Prop} (hgd:op.guard=none) (ty:TypeId) (hop:op.op= .makeMap ty none)
  (hc:wpList Tryz.prog ops Q rest (a.put op.dst (.map (some w.heap.size))) (w.alloc (.map #[] 0))):wpList Tryz.prog ops Q (op::rest) a w:=
 wpList_plain hgd fun _ hK=>by
  unfold Oper.wp execOp
  simp only[hop,Option.map_none,Instr.makeMap,Sem.run_bind,Result.andThen_ok,newObj,Sem.run]
  exact hK _ _ hc
structure PrB (w:World) (b:Nat) (v0 v1 v2:Value) (q:Bool):Prop where
 lt:b<w.heap.size
 c0:w.cell? ⟨b,0,none⟩=some v0
 c1:w.cell? ⟨b,1,none⟩=some v1
 c2:w.cell? ⟨b,2,none⟩=some v2
 c3:w.cell? ⟨b,3,none⟩=some (.bool q)
 fz: ∀o,w.frozen? ⟨b,o,none⟩=false
theorem PrB.same {v0 v1 v2:Value} {q:Bool} (h:PrB w b v0 v1 v2 q) (hb:w'.heap[b]?=w.heap[b]?) (hs:w.heap.size≤w'.heap.size):PrB w' b v0 v1 v2 q:=
 ⟨zMB h.lt hs,(zMC (a:=⟨b,0,none⟩) hb).trans h.c0,(zMC (a:=⟨b,1,none⟩) hb).trans h.c1,(zMC (a:=⟨b,2,none⟩) hb).trans h.c2,(zMC (a:=⟨b,3,none⟩) hb).trans h.c3,fun o=>(zMD (w:=w) (a:=⟨b,o,none⟩) hb).trans (h.fz o)⟩
theorem PrB.below {v0 v1 v2:Value} {q:Bool} (h:PrB w b v0 v1 v2 q) (hb:Below w.heap.size w w'):PrB w' b v0 v1 v2 q:=h.same (hb.block b h.lt) hb.size
theorem PrB.new (w:World) (v0 v1 v2:Value) (q:Bool):PrB (w.alloc (.cells #[v0,v1,v2,.bool q] 26)) w.heap.size v0 v1 v2 q:=
 ⟨zAl _ _,zAL _ _ _ 0,zAL _ _ _ 1,zAL _ _ _ 2,zAL _ _ _ 3,zC1 _ _ _⟩
theorem PrB.set0 {v0 v1 v2:Value} {q:Bool} (h:PrB w b v0 v1 v2 q) (v:Value):PrB (w.setCell ⟨b,0,none⟩ v) b v v1 v2 q:=
 ⟨by simpa [World.setCell]using h.lt,zMR _ _ _ h.c0,(zMQ _ _ _ _ (by intro e;cases e)).trans h.c1,(zMQ _ _ _ _ (by intro e;cases e)).trans h.c2,(zMQ _ _ _ _ (by intro e;cases e)).trans h.c3,fun o=>(World.frozen?_setCell _ _ _ _).trans (h.fz o)⟩
theorem PrB.put {v0 v1 v2:Value} {q:Bool} (h:PrB w b v0 v1 v2 q) (u0 u1 u2:Value) (q':Bool):PrB ((((w.setCell ⟨b,0,none⟩ u0).setCell ⟨b,1,none⟩ u1).setCell ⟨b,2,none⟩ u2).setCell ⟨b,3,none⟩ (.bool q')) b u0 u1 u2 q':=by
 have o: ∀(w:World) (i j:Nat) (v:Value),i≠j→(w.setCell ⟨b,j,none⟩ v).cell? ⟨b,i,none⟩=w.cell? ⟨b,i,none⟩:=fun w i j v hij=>zMQ _ _ _ _ (by intro e;cases e;exact hij rfl)
 have s: ∀(w:World) (i:Nat) (v u:Value),w.cell? ⟨b,i,none⟩=some u→(w.setCell ⟨b,i,none⟩ v).cell? ⟨b,i,none⟩=some v:=fun w i v u hu=>zMR _ _ _ hu
 refine⟨by simpa [World.setCell]using h.lt,?_,?_,?_,?_,fun o=>?_⟩
 ·rw[o _ 0 3 _ (by decide),o _ 0 2 _ (by decide),o _ 0 1 _ (by decide)];exact s _ _ _ _ h.c0
 ·rw[o _ 1 3 _ (by decide),o _ 1 2 _ (by decide)];exact s _ _ _ _ ((o _ 1 0 _ (by decide)).trans h.c1)
 ·rw[o _ 2 3 _ (by decide)];exact s _ _ _ _ ((o _ 2 1 _ (by decide)).trans ((o _ 2 0 _ (by decide)).trans h.c2))
 ·exact s _ _ _ _ ((o _ 3 2 _ (by decide)).trans ((o _ 3 1 _ (by decide)).trans ((o _ 3 0 _ (by decide)).trans h.c3)))
 ·rw[World.frozen?_setCell,World.frozen?_setCell,World.frozen?_setCell,World.frozen?_setCell];exact h.fz o
theorem zH4 {Q:Ending→World→Prop} {a:Act} {oc ot of_:Option Addr} {nc cc nt ct nf cf:Nat} {q:Bool} (h4:a.tmps.getD 4 undef= .pointer (some ⟨b,0,none⟩)) (h5:a.tmps.getD 5 undef= .int .i64 0) (h6:a.tmps.getD 6 undef= .int .i64 0) (hd:a.defers=[])
  (c0:w.cell? ⟨b,0,none⟩=some (.slice oc nc cc)) (c1:w.cell? ⟨b,1,none⟩=some (.slice ot nt ct)) (c2:w.cell? ⟨b,2,none⟩=some (.slice of_ nf cf)) (c3:w.cell? ⟨b,3,none⟩=some (.bool q))
  (hQ:Q (.returned (.tuple #[.agg #[.slice oc nc cc,.slice ot nt ct,.slice of_ nf cf,.bool q],.int .i64 0,.int .i64 0])) w):
  bodyPost Tryz.prog Tryz.f26 Q .ret a w:=by
 refine zMi (v:= .tuple #[.agg #[.slice oc nc cc,.slice ot nt ct,.slice of_ nf cf,.bool q],.int .i64 0,.int .i64 0]) ?_ hd hQ
 simp only[Array.getD_eq_getD_getElem?]at h4 h5 h6
 simp[results,Tryz.results26,go_sem,h4,h5,h6,c0,c1,c2,c3]
theorem zH6 (q:Bool):Calls Tryz.prog 26 #[.slice none 0 0,.bool q] w fun e w'=>(∃ot ct,e= .returned (.tuple #[.agg #[.slice none 0 0,.slice ot 0 ct,.slice none 0 0,.bool q],.int .i64 0,.int .i64 0]))∧Below w.heap.size w w':=by
 have hmf: ∀(fn:Fn) (first cap:Array Value) (w:World),(Instr.makeFunc fn first cap).run Tryz.prog w= .ok (.func fn first cap) w:=fun _ _ _ _=>rfl
 have hb0:(w.alloc (.cells #[.slice none 0 0] 22)).cell? ⟨w.heap.size,0,none⟩=some (.slice none 0 0):=zAL _ _ _ 0
 have e1:(w.alloc (.cells #[.slice none 0 0] 22)).heap.size=w.heap.size+1:=by simp
 have hp:=PrB.new (w.alloc (.cells #[.slice none 0 0] 22)) (.slice none 0 0) (.slice none 0 0) (.slice none 0 0) false
 rw[e1]at hp
 have hba:Below w.heap.size w ((w.alloc (.cells #[.slice none 0 0] 22)).alloc (.cells #[.slice none 0 0,.slice none 0 0,.slice none 0 0,.bool false] 26)):=((zL9 _ _).alloc (zMA _) _).alloc (by simp) _
 have hb0:=(zMC (w:=w.alloc (.cells #[.slice none 0 0] 22)) (w':=(w.alloc (.cells #[.slice none 0 0] 22)).alloc (.cells #[.slice none 0 0,.slice none 0 0,.slice none 0 0,.bool false] 26)) (a:=⟨w.heap.size,0,none⟩) (zMM _ _ (zAl _ _))).trans hb0
 have HB:=zL8 hba
 have H0:=zL8 hb0
 have HP:=zL8 hp
 clear hb0 e1 hp hba
 go_enter Tryz.func26,Tryz.ntmps26
 go_upto_region 1 with fail
 obtain⟨W,hW⟩: ∃W,(w.alloc (.cells #[.slice none 0 0] 22)).alloc (.cells #[.slice none 0 0,.slice none 0 0,.slice none 0 0,.bool false] 26)=W:=⟨_,rfl⟩
 rw[hW]at HB H0 HP ⊢
 clear hW
 obtain⟨c,hcz⟩: ∃c,w.heap.size=c:=⟨_,rfl⟩
 rw[hcz]at HB H0 HP ⊢
 have HCZ:=zL8 hcz
 clear hcz
 have b0:=H0.out
 have hl:c<W.heap.size:=zMf _ _ b0
 have hl1:=HP.out.lt
 obtain⟨i0,hi,hz0,hz1,hz2⟩:=info_parts (zLW).hi
 go_step3
 go_wp2_with (at_make;refine wpList_make_full _ rfl _ _ 23 rfl c 3 i0 _ 1 Tryz.underlying23 hi hz0 hz1 .i64 .i64 0 0 0 rfl rfl (by omega) (by omega) (by rw[hz2];omega) (by unfold maxLen;omega) (by omega) ?_)
 intro w1 _ hgr
 have hb1:Below W.heap.size W w1:=(zL9 _ _).grown hgr (zMA _) (fun k hk=>by cases hk)
 obtain⟨g,hg⟩: ∃g,W.heap.size=g:=⟨_,rfl⟩
 rw[hg]at hb1 ⊢
 have HB1:=zL8 (HB.out.trans (hb1.mono (by omega)))
 have H1:=zL8 ((hb1.cell (p:=⟨c,0,none⟩) (by show c<g;omega)).trans H0.out)
 have HP1:=zL8 (HP.out.same (hb1.block _ (by omega)) (by have:=hb1.size;omega))
 clear hgr hb1 hi hz0 hz1 hz2 b0 hl hl1 hg HB H0 HP
 have b0:=H1.out
 have hl:c<w1.heap.size:=zMf _ _ b0
 have hl1:=HP1.out.lt
 have HQ:=zL8 (PrB.new w1 (.slice none 0 0) (.slice (some ⟨g,0,none⟩) 0 0) (.slice none 0 0) q)
 have hba:Below w1.heap.size w1 ((w1.alloc (.cells #[.slice none 0 0,.slice (some ⟨g,0,none⟩) 0 0,.slice none 0 0,.bool q] 26))):=(zL9 _ _).alloc (zMA _) _
 go_upto_region 2 with fail
 obtain⟨V,hV⟩: ∃V,w1.alloc (.cells #[.slice none 0 0,.slice (some ⟨g,0,none⟩) 0 0,.slice none 0 0,.bool q] 26)=V:=⟨_,rfl⟩
 rw[hV]at hba HQ ⊢
 have HB2:=zL8 (HB1.out.trans (hba.mono (by omega)))
 have H2:=zL8 ((hba.cell (p:=⟨c,0,none⟩) hl).trans H1.out)
 have HP2:=zL8 (HP1.out.below hba)
 clear hV hba b0 HB1 H1 HP1
 obtain⟨d,hd⟩: ∃d,w1.heap.size=d:=⟨_,rfl⟩
 rw[hd]at HQ hl hl1 ⊢
 clear hd
 go_wp2_with (refine zBi rfl _ rfl ?_)
 go_step3
 have hbm:Below V.heap.size V (V.alloc (.map #[] 0)):=(zL9 _ _).alloc (zMA _) _
 have hcV:c<V.heap.size:=zMf _ _ H2.out
 have HB3:=zL8 (HB2.out.trans (hbm.mono (by omega)))
 have H3:=zL8 ((hbm.cell (p:=⟨c,0,none⟩) hcV).trans H2.out)
 have HP3:=zL8 (HP2.out.below hbm)
 have HQ3:=zL8 (HQ.out.below hbm)
 obtain⟨U,hU⟩: ∃U,V.alloc (.map #[] 0)=U:=⟨_,rfl⟩
 rw[hU]at HB3 H3 HP3 HQ3 ⊢
 clear hU hbm hcV HB2 H2 HP2 HQ
 have b0:=H3.out
 have hl:c<U.heap.size:=zMf _ _ b0
 go_wp2_with fail
 go_loopg [5,6,10,28] 1 (fun gk ev av ov kv wr=>ev= .int .i64 0∧av= .int .i64 0∧ov= .slice none 0 0∧kv= .int .i64 0∧wr=U)
 case atStart=>exact⟨rfl,rfl,rfl,rfl,rfl⟩
 case round=>
 obtain⟨rfl,rfl,rfl,rfl,hwr⟩:=hrel
 subst hwr
 go_wp2_with fail
 rename World=>X
 go_loopg [5,6,183] 1 (fun gk ev av kv wr=>ev= .int .i64 0∧av= .int .i64 0∧kv= .int .i64 0∧wr=X)
 case atStart=>exact⟨rfl,rfl,rfl,rfl⟩
 case round=>
 obtain⟨rfl,rfl,rfl,hwr⟩:=hrel
 subst hwr
 have d0:=HQ3.out.c0
 have d1:=HQ3.out.c1
 have d2:=HQ3.out.c2
 have d3:=HQ3.out.c3
 have hdl:=HQ3.out.lt
 have p0:=HP3.out.c0
 have p1:=HP3.out.c1
 have p2:=HP3.out.c2
 have p3:=HP3.out.c3
 have hpl:=HP3.out.lt
 have fz:=HP3.out.fz
 go_wp2_with fail
 rw[Exit.noGoto_ret]
 have hf:=HP3.out.put (.slice none 0 0) (.slice (some ⟨g,0,none⟩) 0 0) (.slice none 0 0) q
 have hbf:=(((HB3.out.setCell (p:=⟨c+1,0,none⟩) (by show c≤c+1;omega) (.slice none 0 0)).setCell (p:=⟨c+1,1,none⟩) (by show c≤c+1;omega) (.slice (some ⟨g,0,none⟩) 0 0)).setCell (p:=⟨c+1,2,none⟩) (by show c≤c+1;omega) (.slice none 0 0)).setCell (p:=⟨c+1,3,none⟩) (by show c≤c+1;omega) (.bool q)
 refine zH4 rfl rfl rfl rfl hf.c0 hf.c1 hf.c2 hf.c3 ⟨⟨_,_,rfl⟩,?_⟩
 rw[HCZ.out]
 exact hbf
end
end
end Go.Proofs.YtfcemodgopdkkaaGreatDoor
