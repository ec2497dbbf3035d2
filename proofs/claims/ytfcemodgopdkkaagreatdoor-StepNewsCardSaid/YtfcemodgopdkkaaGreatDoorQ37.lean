/- Parts: Sz Xc Xd Xe Sya Syb Syc Syd Xma Xmb Xmc Xmd. -/
import Derived.Test.YtfcemodgopdkkaaGreatDoorQ36
import Derived.Test.YtfcemodgopdkkaaGreatDoorQ35
import Derived.Test.YtfcemodgopdkkaaGreatDoorQ30
import Derived.Test.YtfcemodgopdkkaaGreatDoorQ3
import Derived.Test.YtfcemodgopdkkaaGreatDoorQ7
import Derived.Test.YtfcemodgopdkkaaGreatDoorQ6
import Derived.Great.BuildSlice
import Derived.Deep.LoopGhost
set_option maxHeartbeats 12800000
set_option maxRecDepth 100000
namespace Go.Proofs.YtfcemodgopdkkaaGreatDoor
section
open Go.RowKit
theorem zK8:ElT Tryz.prog 22 71 272 440 (.agg Tryz.zeroCells71):=⟨Tryz.underlying22,by kernel_rfl,by kernel_rfl,by decide⟩
theorem zB7 {ops:Array Oper} {rest:List Oper} {op:Oper} {a:Act} {w:World} {Q:Exit→Act→World→Prop} (hgd:op.guard=none) (x:Operand) (hop:op.op= .buildSlice 22 1 #[(0,x)]) {l:List Value} (hx:a.eval x= .agg l.toArray) (hl:zBc l)
  (h:wpList Tryz.prog ops Q rest (a.put op.dst (.slice (some ⟨w.heap.size,0,none⟩) 1 1)) (w.alloc (.cells l.toArray 71))):wpList Tryz.prog ops Q (op::rest) a w:=by
 obtain⟨i,hi,hz0,hz1,_⟩:=info_parts zK8.hi
 refine wpList_buildSlice hgd 22 71 1 #[(0,x)] hop l.toArray i _ Tryz.underlying22 hi hz0 (by rw[hz1];decide) (by rw[hz1];decide) ?_ h
 rw[hz1]
 have hs:(Value.agg l.toArray).cells.size=272:=by
  show l.toArray.size=272
  rw[List.size_toArray,hl.len]
 have hfw:=Go.Great.fill_whole (s:=272) (by decide) [Value.agg l.toArray] ((Array.range (1*272)).map ((Value.agg Tryz.zeroCells71).cells[· % (Value.agg Tryz.zeroCells71).cells.size]!)) (by simpa using hs) (by simp)
 have e:(Array.map (fun p:Nat × Operand=>(p.1,a.eval p.2)) #[(0,x)]).toList=([Value.agg l.toArray].zipIdx 0).map fun x=>(x.2,x.1):=by simp[hx]
 have e2:(([Value.agg l.toArray]:List Value).flatMap fun v=>v.cells.toList).toArray=l.toArray:=by simp[Value.cells]
 rw[e2]at hfw
 exact(congrArg _ e).trans hfw
theorem zJP:(madeCells #[Value.int .i64 0] 1).toList[0]?=some (.int .i64 0):=by
 simp only[madeCells,Array.toList_map,Array.toList_range,List.getElem?_map]
 rw[List.getElem?_range (by decide)]
 rfl
structure ReS (w:World) (nb no cap:Nat) (l:List Value) (c g d:Nat) (v0:Value) (q:Bool):Prop where
 b0:w.cell? ⟨c,0,none⟩=some (.slice (some ⟨nb,no,none⟩) 1 cap)
 pr:PrB w (c+1) (.slice none 0 0) (.slice none 0 0) (.slice none 0 0) false
 qr:PrB w d v0 (.slice (some ⟨g,0,none⟩) 1 1) (.slice none 0 0) q
 g0: ∃i:Int,w.cell? ⟨g,0,none⟩=some (.int .i64 i)
 gz:w.frozen? ⟨g,0,none⟩=false
 rg:w.rangeAt nb no l
 o1:nb<c
 o2:c+1<g
 o3:g<d
section
variable {w w':World} {nb no cap c g d:Nat} {l:List Value} {v0:Value} {q:Bool}
theorem ReS.lt (h:ReS w nb no cap l c g d v0 q):d<w.heap.size:=h.qr.lt
theorem ReS.kept (h:ReS w nb no cap l c g d v0 q) (hb: ∀k,k<w.heap.size→w'.heap[k]?=w.heap[k]?) (hs:w.heap.size≤w'.heap.size):ReS w' nb no cap l c g d v0 q:=by
 have:=h.lt
 have:=h.o1
 have:=h.o2
 have:=h.o3
 refine⟨(zMC (a:=⟨c,0,none⟩) (hb c (by omega))).trans h.b0,h.pr.same (hb _ (by omega)) hs,h.qr.same (hb _ (by omega)) hs,?_,(zMD (w:=w) (a:=⟨g,0,none⟩) (hb g (by omega))).trans h.gz,fun j v hv=>(zMC (a:=⟨nb,no+j,none⟩) (hb nb (by omega))).trans (h.rg j v hv),h.o1,h.o2,h.o3⟩
 obtain⟨i,e⟩:=h.g0
 exact⟨i,(zMC (a:=⟨g,0,none⟩) (hb g (by omega))).trans e⟩
theorem ReS.below (h:ReS w nb no cap l c g d v0 q) (hb:Below w.heap.size w w'):ReS w' nb no cap l c g d v0 q:=h.kept (fun k hk=>hb.block k hk) hb.size
theorem ReS.setG (h:ReS w nb no cap l c g d v0 q) (i:Int):ReS (w.setCell ⟨g,0,none⟩ (.int .i64 i)) nb no cap l c g d v0 q:=by
 have:=h.lt
 have:=h.o1
 have:=h.o2
 have:=h.o3
 have hb: ∀k,k≠g→(w.setCell ⟨g,0,none⟩ (.int .i64 i)).heap[k]?=w.heap[k]?:=fun k hk=>zMI _ _ _ _ hk
 have hs:w.heap.size≤(w.setCell ⟨g,0,none⟩ (.int .i64 i)).heap.size:=by simp[World.setCell]
 obtain⟨j,e⟩:=h.g0
 exact⟨(zMC (a:=⟨c,0,none⟩) (hb c (by omega))).trans h.b0,h.pr.same (hb _ (by omega)) hs,h.qr.same (hb _ (by omega)) hs,⟨i,zMR _ _ _ e⟩,(World.frozen?_setCell _ _ _ _).trans h.gz,fun j v hv=>(zMC (a:=⟨nb,no+j,none⟩) (hb nb (by omega))).trans (h.rg j v hv),h.o1,h.o2,h.o3⟩
theorem ReS.setD (h:ReS w nb no cap l c g d v0 q) (v:Value):ReS (w.setCell ⟨d,0,none⟩ v) nb no cap l c g d v q:=by
 have:=h.lt
 have:=h.o1
 have:=h.o2
 have:=h.o3
 have hb: ∀k,k≠d→(w.setCell ⟨d,0,none⟩ v).heap[k]?=w.heap[k]?:=fun k hk=>zMI _ _ _ _ hk
 have hs:w.heap.size≤(w.setCell ⟨d,0,none⟩ v).heap.size:=by simp[World.setCell]
 obtain⟨j,e⟩:=h.g0
 exact⟨(zMC (a:=⟨c,0,none⟩) (hb c (by omega))).trans h.b0,h.pr.same (hb _ (by omega)) hs,h.qr.set0 v,⟨j,(zMC (a:=⟨g,0,none⟩) (hb g (by omega))).trans e⟩,(World.frozen?_setCell _ _ _ _).trans h.gz,fun j v hv=>(zMC (a:=⟨nb,no+j,none⟩) (hb nb (by omega))).trans (h.rg j v hv),h.o1,h.o2,h.o3⟩
theorem zH5 (hp:PcV l) (hr:w.rangeAt nb no l) (hn:nb<w.heap.size) (q:Bool):Calls Tryz.prog 26 #[.slice (some ⟨nb,no,none⟩) 1 cap,.bool q] w fun e w'=>
  (∃pb cc g l',e= .returned (.tuple #[.agg #[.slice (some ⟨pb,0,none⟩) 1 cc,.slice (some ⟨g,0,none⟩) 1 1,.slice none 0 0,.bool q],.int .i64 0,.int .i64 0])∧CmP w' pb l'∧w.heap.size≤pb∧w'.cell? ⟨g,0,none⟩=some (.int .i64 (-1)))∧Below w.heap.size w w':=by
 have hmf: ∀(fn:Fn) (first cap:Array Value) (w:World),(Instr.makeFunc fn first cap).run Tryz.prog w= .ok (.func fn first cap) w:=fun _ _ _ _=>rfl
 have HPC:=zL8 hp
 have hb0:(w.alloc (.cells #[.slice (some ⟨nb,no,none⟩) 1 cap] 22)).cell? ⟨w.heap.size,0,none⟩=some (.slice (some ⟨nb,no,none⟩) 1 cap):=zAL _ _ _ 0
 have e1:(w.alloc (.cells #[.slice (some ⟨nb,no,none⟩) 1 cap] 22)).heap.size=w.heap.size+1:=by simp
 have hp:=PrB.new (w.alloc (.cells #[.slice (some ⟨nb,no,none⟩) 1 cap] 22)) (.slice none 0 0) (.slice none 0 0) (.slice none 0 0) false
 rw[e1]at hp
 have hba:Below w.heap.size w ((w.alloc (.cells #[.slice (some ⟨nb,no,none⟩) 1 cap] 22)).alloc (.cells #[.slice none 0 0,.slice none 0 0,.slice none 0 0,.bool false] 26)):=((zL9 _ _).alloc (zMA _) _).alloc (by simp) _
 have hb1:=(zMC (w:=w.alloc (.cells #[.slice (some ⟨nb,no,none⟩) 1 cap] 22)) (w':=(w.alloc (.cells #[.slice (some ⟨nb,no,none⟩) 1 cap] 22)).alloc (.cells #[.slice none 0 0,.slice none 0 0,.slice none 0 0,.bool false] 26)) (a:=⟨w.heap.size,0,none⟩) (zMM _ _ (zAl _ _))).trans hb0
 have HB:=zL8 hba
 have H0:=zL8 hb1
 have HP:=zL8 hp
 have HR:Hid (World.rangeAt ((w.alloc (.cells #[.slice (some ⟨nb,no,none⟩) 1 cap] 22)).alloc (.cells #[.slice none 0 0,.slice none 0 0,.slice none 0 0,.bool false] 26)) nb no l):=zL8 fun j v hv=>(hba.cell (p:=⟨nb,no+j,none⟩) hn).trans (hr j v hv)
 have HN:=zL8 hn
 clear hb0 hb1 e1 hp hba hr hn
 go_enter Tryz.func26,Tryz.ntmps26
 go_upto_region 1 with fail
 obtain⟨W,hW⟩: ∃W,(w.alloc (.cells #[.slice (some ⟨nb,no,none⟩) 1 cap] 22)).alloc (.cells #[.slice none 0 0,.slice none 0 0,.slice none 0 0,.bool false] 26)=W:=⟨_,rfl⟩
 rw[hW]at HB H0 HP HR ⊢
 clear hW
 obtain⟨c,hcz⟩: ∃c,w.heap.size=c:=⟨_,rfl⟩
 rw[hcz]at HB H0 HP HN ⊢
 have HCZ:=zL8 hcz
 clear hcz
 have b0:=H0.out
 have hl:c<W.heap.size:=zMf _ _ b0
 have hl1:=HP.out.lt
 obtain⟨i0,hi,hz0,hz1,hz2⟩:=info_parts (zLW).hi
 go_step3
 go_wp2_with (at_make;refine wpList_make_full _ rfl _ _ 23 rfl c 3 i0 _ 1 Tryz.underlying23 hi hz0 hz1 .i64 .i64 1 1 1 rfl rfl (by omega) (by omega) (by rw[hz2];omega) (by unfold maxLen;omega) (by omega) ?_)
 intro w1 hown hgr
 have hb1:Below W.heap.size W w1:=(zL9 _ _).grown hgr (zMA _) (fun k hk=>by cases hk)
 obtain⟨g,hg⟩: ∃g,W.heap.size=g:=⟨_,rfl⟩
 rw[hg]at hb1 hown ⊢
 have hg0:w1.cell? ⟨g,0,none⟩=some (.int .i64 0):=(zMX hown 0 (by decide)).trans zJP
 have hgz:w1.frozen? ⟨g,0,none⟩=false:=zMY hown 0
 have HG0:=zL8 hg0
 have HGZ:=zL8 hgz
 have HB1:=zL8 (HB.out.trans (hb1.mono (by omega)))
 have H1:=zL8 ((hb1.cell (p:=⟨c,0,none⟩) (by show c<g;omega)).trans H0.out)
 have HP1:=zL8 (HP.out.same (hb1.block _ (by omega)) (by have:=hb1.size;omega))
 have HR1:Hid (w1.rangeAt nb no l):=zL8 fun j v hv=>(hb1.cell (p:=⟨nb,no+j,none⟩) (by show nb<g;have:=HN.out;omega)).trans (HR.out j v hv)
 have HO2:Hid (c+1<g):=zL8 (by omega)
 have HGL:Hid (g<w1.heap.size):=zL8 (zMf _ _ hg0)
 clear hgr hb1 hi hz0 hz1 hz2 b0 hl hl1 hg HB H0 HP HR hown hg0 hgz
 have b0:=H1.out
 have hl:c<w1.heap.size:=zMf _ _ b0
 have HQ:=zL8 (PrB.new w1 (.slice none 0 0) (.slice (some ⟨g,0,none⟩) 1 1) (.slice none 0 0) q)
 have hba:Below w1.heap.size w1 ((w1.alloc (.cells #[.slice none 0 0,.slice (some ⟨g,0,none⟩) 1 1,.slice none 0 0,.bool q] 26))):=(zL9 _ _).alloc (zMA _) _
 have HS:Hid (ReS (w1.alloc (.cells #[.slice none 0 0,.slice (some ⟨g,0,none⟩) 1 1,.slice none 0 0,.bool q] 26)) nb no cap l c g w1.heap.size (.slice none 0 0) q):=zL8 ⟨(hba.cell (p:=⟨c,0,none⟩) hl).trans b0,HP1.out.below hba,HQ.out,⟨0,(hba.cell (p:=⟨g,0,none⟩) HGL.out).trans HG0.out⟩,(zMD (w:=w1) (a:=⟨g,0,none⟩) (hba.block g HGL.out)).trans HGZ.out,fun j v hv=>(hba.cell (p:=⟨nb,no+j,none⟩) (by show nb<_;have:=HN.out;omega)).trans (HR1.out j v hv),HN.out,HO2.out,HGL.out⟩
 have HB2:=zL8 (HB1.out.trans (hba.mono (by omega)))
 go_upto_region 2 with fail
 obtain⟨V,hV⟩: ∃V,w1.alloc (.cells #[.slice none 0 0,.slice (some ⟨g,0,none⟩) 1 1,.slice none 0 0,.bool q] 26)=V:=⟨_,rfl⟩
 rw[hV]at HB2 HS ⊢
 clear hV hba b0 HB1 H1 HP1 HQ HR1 HG0 HGZ HGL HO2 hl
 obtain⟨d,hd⟩: ∃d,w1.heap.size=d:=⟨_,rfl⟩
 rw[hd]at HS ⊢
 clear hd
 go_wp2_with (refine zBi rfl _ rfl ?_)
 go_step3
 have hbm:Below V.heap.size V (V.alloc (.map #[] 0)):=(zL9 _ _).alloc (zMA _) _
 have HS3:=zL8 (HS.out.below hbm)
 have HB3:=zL8 (HB2.out.trans (hbm.mono (by have:=HS.out.lt;have:=HS.out.o2;have:=HS.out.o3;omega)))
 obtain⟨U,hU⟩: ∃U,V.alloc (.map #[] 0)=U:=⟨_,rfl⟩
 obtain⟨mp,hmp⟩: ∃mp,V.heap.size=mp:=⟨_,rfl⟩
 rw[hU]at HB3 HS3 ⊢
 rw[hmp]
 clear hU hbm HB2 HS hmp
 have b0:=HS3.out.b0
 have hl:c<U.heap.size:=zMf _ _ b0
 go_wp2_with fail
 go_loopg [5,6,10,28] 2 (fun gk ev av ov kv wr=>ev= .int .i64 0∧av= .int .i64 0∧ov= .slice none 0 0∧ ∃i:Nat,kv= .int .i64 (i:Nat)∧gk=2 - i∧Below c w wr∧((i=0∧ReS wr nb no cap l c g d (.slice none 0 0) q)∨(i=1∧ ∃pb cc l',ReS wr nb no cap l c g d (.slice (some ⟨pb,0,none⟩) 1 cc) q∧CmP wr pb l'∧c≤pb∧pb≠c+1∧wr.cell? ⟨g,0,none⟩=some (.int .i64 (-1)))))
 case atStart=>exact⟨rfl,rfl,rfl,0,rfl,rfl,HB3.out,.inl ⟨rfl,HS3.out⟩⟩
 case round=>
 obtain⟨rfl,rfl,rfl,i,rfl,hgk,hbw,hcs⟩:=hrel
 have HGK:=zL8 hgk
 have HBW:=zL8 hbw
 clear hgk hbw HB3 HS3 b0 hl
 rcases hcs with ⟨rfl,hs⟩|⟨rfl,pb,cc,l2,hs,hcm,hpb,hpc,hg1⟩
 ·have HS:=zL8 hs
  clear hs
  have HCI:Hid ((Tryz.prog.info? 71).map (·.size)=some l.length):=zL8 (by rw[HPC.out.cl.len];exact zAd)
  have HSZ:=zL8 (zA2 HPC.out.cl)
  have HSO:Hid (Tryz.zeroCells71.size=l.toArray.size):=zL8 (by rw[←Array.length_toList,List.size_toArray,zAo,HPC.out.cl.len])
  have HON:Hid (l.toArray.all (·.oneCell')=true):=zL8 (by rw[←Array.all_toList,List.all_eq_true];simpa using HPC.out.cl.one)
  have HHN:=zL8 (zML wr (.cells Tryz.zeroCells71 71))
  have HRG:=zL8 HS.out.rg
  have b0:=HS.out.b0
  have hbe:Below wr.heap.size wr ((wr.alloc (.cells Tryz.zeroCells71 71)).setRow wr.heap.size l.toArray):=zAv ((zL9 _ _).alloc (zMA _) _) (zMA _) _
  have HE:Hid (CmB ((wr.alloc (.cells Tryz.zeroCells71 71)).setRow wr.heap.size l.toArray) wr.heap.size l):=zL8 ⟨setRow_heap _ _ _ _ _ _ HHN.out,HPC.out.cl⟩
  have HS1:=zL8 (HS.out.below hbe)
  have HB1:=zL8 (HBW.out.trans (hbe.mono (by have:=HS.out.lt;have:=HS.out.o2;have:=HS.out.o3;omega)))
  have hcw:c<wr.heap.size:=zMf _ _ b0
  go_upto_region 8 with (first|refine wpList_load_mid rfl 71 _ rfl nb no rfl l _ HRG.out Tryz.underlying71 rfl HCI.out ?_|refine wpList_store_row rfl 71 _ _ rfl wr.heap.size l.toArray rfl rfl _ _ HHN.out HSZ.out HSO.out HON.out ?_)
  obtain⟨X1,hX⟩: ∃X,(wr.alloc (.cells Tryz.zeroCells71 71)).setRow wr.heap.size l.toArray=X:=⟨_,rfl⟩
  rw[hX]at HE HS1 HB1 ⊢
  obtain⟨e,he⟩: ∃e,wr.heap.size=e:=⟨_,rfl⟩
  rw[he]at HE ⊢
  have HED:Hid (d<e):=zL8 (by rw[←he];exact HS.out.lt)
  clear hX hbe hcw b0 HRG HHN HSO HON he HS HBW
  have d1:=HS1.out.qr.c1
  have hdl:=HS1.out.lt
  obtain⟨gi,g0⟩:=HS1.out.g0
  have gz:=HS1.out.gz
  have hgl:g<X1.heap.size:=zMf _ _ g0
  have HS2:=zL8 (HS1.out.setG (-1))
  have HE2:=zL8 (zAp HE.out (show e≠g by have:=HS1.out.o3;have:=HED.out;omega) 0 (.int .i64 (-1)))
  have HB2:=zL8 (HB1.out.setCell (p:=⟨g,0,none⟩) (by show c≤g;have:=HS1.out.o2;omega) (.int .i64 (-1)))
  have HG2:Hid ((X1.setCell ⟨g,0,none⟩ (.int .i64 (-1))).cell? ⟨g,0,none⟩=some (.int .i64 (-1))):=zL8 (zMR _ _ _ g0)
  go_upto_region 9 with fail
  obtain⟨X2,hX⟩: ∃X,X1.setCell ⟨g,0,none⟩ (.int .i64 (-1))=X:=⟨_,rfl⟩
  rw[hX]at HS2 HE2 HB2 HG2 ⊢
  clear hX d1 hdl g0 gz hgl HS1 HE HB1
  have HSH:=zL8 (zI7 (w:=X2) HPC.out)
  go_wp2_with (refine wpList_load_row rfl 71 _ rfl e rfl 71 l.toArray (0,0) _ HE2.out.heap Tryz.underlying71 rfl HSZ.out ?_)
  refine HSH.out.mono ?_;rintro e3 X3 ⟨rfl,hb3⟩
  have HS3:=zL8 (HS2.out.below hb3)
  have HE3:=zL8 (HE2.out.below hb3)
  have HB3:=zL8 (HB2.out.trans (hb3.mono (by have:=HS2.out.lt;have:=HS2.out.o2;have:=HS2.out.o3;omega)))
  have HG3:=zL8 ((hb3.cell (p:=⟨g,0,none⟩) (by have:=HS2.out.lt;have:=HS2.out.o3;show g<_;omega)).trans HG2.out)
  clear hb3 HS2 HE2 HB2 HG2 HSH
  have HWR:=zL8 (zGC (w:=X3) HPC.out.nm HPC.out.cl)
  have k7:X3.cell? ⟨e,7,none⟩=some (.int .u8 112):=(HE3.out.cell 7).trans HPC.out.nm
  have hel:=HE3.out.lt
  go_wp2_with (refine zAT rfl 71 _ rfl e rfl 71 l.toArray (0,0) _ HE3.out.heap Tryz.underlying71 rfl HSZ.out ?_)
  refine HWR.out.mono ?_;rintro e4 X4 ⟨rfl,hb4⟩
  have HS4:=zL8 (HS3.out.below hb4)
  have HE4:=zL8 (HE3.out.below hb4)
  have HB4:=zL8 (HB3.out.trans (hb4.mono (by have:=HS3.out.lt;have:=HS3.out.o2;have:=HS3.out.o3;omega)))
  have HG4:=zL8 ((hb4.cell (p:=⟨g,0,none⟩) (by have:=HS3.out.lt;have:=HS3.out.o3;show g<_;omega)).trans HG3.out)
  clear hb4 HS3 HE3 HB3 HG3 HWR k7 hel
  go_upto_region 15 with fail
  have d0:=HS4.out.qr.c0
  have hdl:=HS4.out.lt
  have hel:=HE4.out.lt
  have HRE:=zL8 HE4.out.row2
  have HCL:=zL8 (zKQ (w:=X4.drew) HPC.out)
  refine zAA (X:=none) 5 [([0,1,2],3),([],4)] [] (by kernel_rfl) (by kernel_rfl) rfl (fun _ _ _ _ _ h=>h) ?_
  simp only[zAJ,zAC,zAG,zAD,zAB,List.getD_cons_zero,List.getD_cons_succ,List.drop_succ_cons,List.drop_zero]
  go_big_quiet_step (fail)
  go_big_quiet_step (fail)
  go_big_quiet_want
  refine zB0 71 _ rfl e 0 rfl l _ HRE.out hel Tryz.underlying71 rfl HCI.out ?_
  go_big_quiet_on
  simp only[Act.put,List.setIfInBounds_toArray,List.set_cons_succ,List.set_cons_zero]
  refine wpQuiet_nil ?_
  have hbd:Below X4.heap.size X4 X4.drew:=(zL9 _ _).drew
  have HSD:=zL8 (HS4.out.below hbd)
  have HED4:=zL8 (HE4.out.below hbd)
  have HBD:=zL8 (HB4.out.drew)
  have HGD:Hid (X4.drew.cell? ⟨g,0,none⟩=some (.int .i64 (-1))):=HG4
  clear hbd d0 hdl hel HRE HS4 HE4 HB4 HG4
  go_wp2_with fail
  refine HCL.out.mono ?_;rintro e5 X5 ⟨⟨l5,rfl,hc5⟩,hb5⟩
  have HC5:=zL8 hc5
  have HB5:=zL8 hb5
  have HS5:=zL8 (HSD.out.below hb5)
  have HE5:=zL8 (HED4.out.below hb5)
  have HBB5:=zL8 (HBD.out.trans (hb5.mono (by have:=HSD.out.lt;have:=HSD.out.o2;have:=HSD.out.o3;omega)))
  have HG5:=zL8 ((hb5.cell (p:=⟨g,0,none⟩) (by have:=HSD.out.lt;have:=HSD.out.o3;show g<_;omega)).trans HGD.out)
  clear hc5 hb5 HSD HED4 HBD HGD HCL
  dsimp only
  go_wp2_with fail
  refine⟨zAP.of_below HB5.out,?_⟩
  repeat (go_big_quiet_step (fail))
  refine wpQuiet_nil ?_
  go_wp2_with (refine zB7 rfl _ rfl rfl HC5.out.cl ?_)
  refine⟨zA5 _ _,?_⟩
  repeat (go_big_quiet_step (fail))
  refine wpQuiet_nil ?_
  have hba:Below X5.heap.size X5 (X5.alloc (.cells l5.toArray 71)):=(zL9 _ _).alloc (zMA _) _
  have HS6:=zL8 (HS5.out.below hba)
  have HE6:=zL8 (HE5.out.below hba)
  have HB6:=zL8 (HBB5.out.trans (hba.mono (by have:=HS5.out.lt;have:=HS5.out.o2;have:=HS5.out.o3;omega)))
  have HG6:=zL8 ((hba.cell (p:=⟨g,0,none⟩) (by have:=HS5.out.lt;have:=HS5.out.o3;show g<_;omega)).trans HG5.out)
  have HC2:Hid (c+2≤X5.heap.size):=zL8 (by have:=HS5.out.lt;have:=HS5.out.o2;have:=HS5.out.o3;omega)
  clear hba HS5 HE5 HBB5 HG5
  go_wp2_with (at_builtin;refine zAN zK8 rfl _ _ rfl (c+2) (n:=0) (m:=1) (xs:=[]) (news:=l5) rfl (zMO _ _ _ _) rfl (Src.new X5 l5 _ _ _) (by rw[HC5.out.cl.len]) HC5.out.cl.one (by unfold maxLen;omega) (by omega) (by have:=HC2.out;simp;omega) ?_)
  intro v7 X7 ho7 hg7 hr7
  obtain⟨o7,k7,rfl⟩:=zAI ho7
  obtain⟨_,pb,rfl,hpb,hcell,_⟩:=zAZ ho7 (by decide)
  have hpge:=(ho7.lt pb rfl).1
  have hb7:Below (X5.alloc (.cells l5.toArray 71)).heap.size (X5.alloc (.cells l5.toArray 71)) X7:=(zL9 _ _).grown hg7 (zMA _) (fun k hk=>by cases hk)
  have HS7:=zL8 (HS6.out.below hb7)
  have HE7:=zL8 (HE6.out.below hb7)
  have HB7:=zL8 (HB6.out.trans (hb7.mono (by have:=HC2.out;simp;omega)))
  have HG7:=zL8 ((hb7.cell (p:=⟨g,0,none⟩) (by have:=HS6.out.lt;have:=HS6.out.o3;show g<_;omega)).trans HG6.out)
  have HP7:Hid (CmP X7 pb l5):=zL8 ⟨hpb,HC5.out.cl,fun j v hv=>by
   have hj:j<272:=by have:=(zMF.1 hv).1;rw[HC5.out.cl.len]at this;exact this
   obtain⟨u,e1,e2⟩:=hcell j (by omega)
   rw[hv]at e1
   cases e1
   rw[Nat.zero_add];exact e2,HC5.out.ka,HC5.out.nt,HC5.out.nm,HC5.out.r⟩
  have HPG:=zL8 hpge
  have HPD:Hid (pb≠d):=zL8 (by
   rcases hr7 with q1|q1
   ·cases q1
   ·have q2:pb=X5.heap.size+1:=zMe q1
    have:=HS6.out.lt
    have q3:(X5.alloc (.cells l5.toArray 71)).heap.size=X5.heap.size+1:=by simp
    omega)
  have d0:=HS7.out.qr.c0
  have dz:=HS7.out.qr.fz 0
  have hdl:=HS7.out.lt
  have HS8:=zL8 (HS7.out.setD (.slice (some ⟨pb,0,none⟩) 1 k7))
  have hbk: ∀k,k≠d→(X7.setCell ⟨d,0,none⟩ (.slice (some ⟨pb,0,none⟩) 1 k7)).heap[k]?=X7.heap[k]?:=fun k hk=>zMI _ _ _ _ hk
  have hsz:X7.heap.size≤(X7.setCell ⟨d,0,none⟩ (.slice (some ⟨pb,0,none⟩) 1 k7)).heap.size:=by simp[World.setCell]
  have HE8:=zL8 (HE7.out.block (hbk e (by have:=HED.out;omega)))
  have HP8:=zL8 (HP7.out.same (hbk pb HPD.out) hsz)
  have HB8:=zL8 (HB7.out.setCell (p:=⟨d,0,none⟩) (by show c≤d;have:=HS7.out.o2;have:=HS7.out.o3;omega) (.slice (some ⟨pb,0,none⟩) 1 k7))
  have HG8:=zL8 ((zMC (a:=⟨g,0,none⟩) (hbk g (by have:=HS7.out.o3;omega))).trans HG7.out)
  clear hb7 ho7 hg7 hr7 hpb hcell hpge hbk hsz HS6 HE6 HB6 HG6
  go_upto_region 16 with fail
  obtain⟨X8,hX⟩: ∃X,X7.setCell ⟨d,0,none⟩ (.slice (some ⟨pb,0,none⟩) 1 k7)=X:=⟨_,rfl⟩
  rw[hX]at HS8 HE8 HP8 HB8 HG8 ⊢
  clear hX d0 dz hdl HS7 HE7 HP7 HB7 HG7
  have k7':X8.cell? ⟨e,7,none⟩=some (.int .u8 112):=(HE8.out.cell 7).trans HPC.out.nm
  have hel:=HE8.out.lt
  have HWR:=zL8 (zGC (w:=X8) HPC.out.nm HPC.out.cl)
  go_upto_region 31 with fail
  go_wp2_with (refine wpList_load_row rfl 71 _ rfl e rfl 71 l.toArray (0,0) _ HE8.out.heap Tryz.underlying71 rfl HSZ.out ?_)
  refine HWR.out.mono ?_;rintro e9 X9 ⟨rfl,hb9⟩
  have HS9:=zL8 (HS8.out.below hb9)
  have HP9:=zL8 (HP8.out.same (hb9.block pb HP8.out.lt) hb9.size)
  have HB9:=zL8 (HB8.out.trans (hb9.mono (by have:=HS8.out.lt;have:=HS8.out.o2;have:=HS8.out.o3;omega)))
  have HG9:=zL8 ((hb9.cell (p:=⟨g,0,none⟩) (by have:=HS8.out.lt;have:=HS8.out.o3;show g<_;omega)).trans HG8.out)
  clear hb9 HS8 HE8 HP8 HB8 HG8 HWR k7' hel
  go_wp2_with fail
  go_roundg 1
  case measure=>have:=HGK.out;omega
  case rel=>exact⟨rfl,rfl,rfl,1,rfl,rfl,HB9.out,.inr ⟨rfl,pb,k7,l5,HS9.out,HP9.out,by have:=HPG.out;omega,by have:=HPG.out;omega,HG9.out⟩⟩
 ·have HS:=zL8 hs
  have HP:=zL8 hcm
  have HPB:=zL8 (And.intro hpb hpc)
  have HG:=zL8 hg1
  have b0:=hs.b0
  have hcl:c<wr.heap.size:=zMf _ _ b0
  clear hs hcm hpb hpc hg1
  go_wp2_with fail
  rename World=>X
  go_loopg [5,6,183] 2 (fun gk ev av kv wr=>ev= .int .i64 0∧av= .int .i64 0∧ ∃j:Nat,kv= .int .i64 (j:Nat)∧gk=2 - j∧j≤1∧Below X.heap.size X wr)
  case atStart=>exact⟨rfl,rfl,0,rfl,rfl,by decide,zL9 _ _⟩
  case round=>
  obtain⟨rfl,rfl,j,rfl,hgk,hj1,hbw⟩:=hrel
  have HS2:=zL8 (HS.out.below hbw)
  have HP2:=zL8 (HP.out.same (hbw.block pb HP.out.lt) hbw.size)
  have HB2:=zL8 (HBW.out.trans (hbw.mono (by have:=HS.out.lt;have:=HS.out.o2;have:=HS.out.o3;omega)))
  have HG2:=zL8 ((hbw.cell (p:=⟨g,0,none⟩) (by have:=HS.out.lt;have:=HS.out.o3;show g<_;omega)).trans HG.out)
  have HBW2:=zL8 hbw
  have HGK2:=zL8 hgk
  clear hbw hgk b0 hcl HGK
  by_cases hj:j=0
  ·subst hj
   have HCI:Hid ((Tryz.prog.info? 71).map (·.size)=some l.length):=zL8 (by rw[HPC.out.cl.len];exact zAd)
   have HSZ:=zL8 (zA2 HPC.out.cl)
   have HSO:Hid (Tryz.zeroCells71.size=l.toArray.size):=zL8 (by rw[←Array.length_toList,List.size_toArray,zAo,HPC.out.cl.len])
   have HON:Hid (l.toArray.all (·.oneCell')=true):=zL8 (by rw[←Array.all_toList,List.all_eq_true];simpa using HPC.out.cl.one)
   have HHN:=zL8 (zML wr (.cells Tryz.zeroCells71 71))
   have HRG:=zL8 HS2.out.rg
   have hbe:Below wr.heap.size wr ((wr.alloc (.cells Tryz.zeroCells71 71)).setRow wr.heap.size l.toArray):=zAv ((zL9 _ _).alloc (zMA _) _) (zMA _) _
   have HE:Hid (CmB ((wr.alloc (.cells Tryz.zeroCells71 71)).setRow wr.heap.size l.toArray) wr.heap.size l):=zL8 ⟨setRow_heap _ _ _ _ _ _ HHN.out,HPC.out.cl⟩
   have HBE:=zL8 hbe
   clear hbe
   go_upto_region 40 with (first|refine wpList_load_mid rfl 71 _ rfl nb no rfl l _ HRG.out Tryz.underlying71 rfl HCI.out ?_|refine wpList_store_row rfl 71 _ _ rfl wr.heap.size l.toArray rfl rfl _ _ HHN.out HSZ.out HSO.out HON.out ?_)
   obtain⟨X1,hX⟩: ∃X,(wr.alloc (.cells Tryz.zeroCells71 71)).setRow wr.heap.size l.toArray=X:=⟨_,rfl⟩
   rw[hX]at HE HBE ⊢
   obtain⟨e,he⟩: ∃e,wr.heap.size=e:=⟨_,rfl⟩
   have HBF:Hid (Below X.heap.size X X1):=zL8 (HBW2.out.trans (HBE.out.mono HBW2.out.size))
   rw[he]at HE ⊢
   clear hX he HRG HHN HSO HON HBE
   have k7:X1.cell? ⟨e,7,none⟩=some (.int .u8 112):=(HE.out.cell 7).trans HPC.out.nm
   have hel:=HE.out.lt
   go_wp2_with fail
   go_roundg 1
   case measure=>have:=HGK2.out;omega
   case rel=>exact⟨rfl,rfl,1,rfl,rfl,by decide,HBF.out⟩
  obtain rfl:j=1:=by omega
  clear hj hj1
  have d0:=HS2.out.qr.c0
  have d1:=HS2.out.qr.c1
  have d2:=HS2.out.qr.c2
  have d3:=HS2.out.qr.c3
  have hdl:=HS2.out.qr.lt
  have p0:=HS2.out.pr.c0
  have p1:=HS2.out.pr.c1
  have p2:=HS2.out.pr.c2
  have p3:=HS2.out.pr.c3
  have hpl:=HS2.out.pr.lt
  have fz:=HS2.out.pr.fz
  go_wp2_with fail
  rw[Exit.noGoto_ret]
  have hf:=HS2.out.pr.put (.slice (some ⟨pb,0,none⟩) 1 cc) (.slice (some ⟨g,0,none⟩) 1 1) (.slice none 0 0) q
  have hbf:=(((HB2.out.setCell (p:=⟨c+1,0,none⟩) (by show c≤c+1;omega) (.slice (some ⟨pb,0,none⟩) 1 cc)).setCell (p:=⟨c+1,1,none⟩) (by show c≤c+1;omega) (.slice (some ⟨g,0,none⟩) 1 1)).setCell (p:=⟨c+1,2,none⟩) (by show c≤c+1;omega) (.slice none 0 0)).setCell (p:=⟨c+1,3,none⟩) (by show c≤c+1;omega) (.bool q)
  have hk: ∀k,k≠c+1→((((wr.setCell ⟨c+1,0,none⟩ (.slice (some ⟨pb,0,none⟩) 1 cc)).setCell ⟨c+1,1,none⟩ (.slice (some ⟨g,0,none⟩) 1 1)).setCell ⟨c+1,2,none⟩ (.slice none 0 0)).setCell ⟨c+1,3,none⟩ (.bool q)).heap[k]?=wr.heap[k]?:=fun k hk=>by
   rw[zMI _ _ _ _ hk,zMI _ _ _ _ hk,zMI _ _ _ _ hk,zMI _ _ _ _ hk]
  refine zH4 rfl rfl rfl rfl hf.c0 hf.c1 hf.c2 hf.c3 ⟨⟨pb,cc,g,l2,rfl,HP2.out.same (hk pb HPB.out.2) (by simp[World.setCell]),by rw[HCZ.out];exact HPB.out.1,(zMC (a:=⟨g,0,none⟩) (hk g (by have:=HS2.out.o2;omega))).trans HG2.out⟩,?_⟩
  rw[HCZ.out]
  exact hbf
end
end
section
open Go.RowKit
theorem zAn {fn:Func} {p q r:Tmp} (hf:fn.results= #[.cell p 26,.tmp q,.tmp r]) {Q:Ending→World→Prop} {a:Act} {w:World} {b:Nat} {v0 v1 v2:Value} {qu:Bool} {x y:Value} (hp:a.tmps.getD p undef= .pointer (some ⟨b,0,none⟩)) (hq:a.tmps.getD q undef=x) (hr:a.tmps.getD r undef=y) (hd:a.defers=[])
  (h:PrB w b v0 v1 v2 qu) (hQ:Q (.returned (.tuple #[.agg #[v0,v1,v2,.bool qu],x,y])) w):bodyPost Tryz.prog fn Q .ret a w:=by
 refine zMi (v:= .tuple #[.agg #[v0,v1,v2,.bool qu],x,y]) ?_ hd hQ
 have c0:=h.c0
 have c1:=h.c1
 have c2:=h.c2
 have c3:=h.c3
 simp only[Array.getD_eq_getD_getElem?]at hp hq hr
 simp only[results,hf]
 simp[hp,hq,hr,asAddr,go_sem,c0,c1,c2,c3,Result.andThen]
section
variable {w:World} {sb g o n cp i:Nat} {e at_:Int}
theorem zCS (hs:w.cell? ⟨sb,0,none⟩=some (.slice (some ⟨g,o,none⟩) n cp)) (hi:i<n) (hat:w.cell? ⟨g,o+i*272+8,none⟩=some (.int .i64 at_)):
  Calls Tryz.prog 58 #[.int .i64 e,.int .i64 (i:Nat),.pointer (some ⟨sb,0,none⟩)] w fun en w'=>en= .returned (.tuple #[.agg #[.slice none 0 0,.slice none 0 0,.slice none 0 0,.bool false],.int .i64 e,.int .i64 at_])∧Below w.heap.size w w':=by
 have hba:=(zL9 w.heap.size w).alloc (zMA _) (.cells #[.slice none 0 0,.slice none 0 0,.slice none 0 0,.bool false] 26)
 have HP:=zL8 (PrB.new w (.slice none 0 0) (.slice none 0 0) (.slice none 0 0) false)
 have c0:=(hba.cell (p:=⟨sb,0,none⟩) (zMf _ _ hs)).trans hs
 have c1:=(hba.cell (p:=⟨g,o+i*272+8,none⟩) (zMf _ _ hat)).trans hat
 have HB:=zL8 hba
 have hs1:=zMf _ _ hs
 have hg1:=zMf _ _ hat
 simp only at hs1 hg1
 clear hba hs hat
 go_enter Tryz.func58,Tryz.ntmps58
 go_upto_region 1 with fail
 obtain⟨W,hW⟩: ∃W,w.alloc (.cells #[.slice none 0 0,.slice none 0 0,.slice none 0 0,.bool false] 26)=W:=⟨_,rfl⟩
 rw[hW]at HB HP c0 c1 ⊢
 clear hW
 obtain⟨b,hbz⟩: ∃b,w.heap.size=b:=⟨_,rfl⟩
 rw[hbz]at HP hs1 hg1 ⊢
 have HZ:=zL8 hbz
 clear hbz
 have hl:=zMf _ _ c0
 have hl1:=zMf _ _ c1
 have hn1: ¬b=sb:=by omega
 have hn2: ¬b=g:=by omega
 simp only at hl hl1
 have hpl:=HP.out.lt
 have fz:=HP.out.fz
 have p0:=HP.out.c0
 have p1:=HP.out.c1
 have p2:=HP.out.c2
 have p3:=HP.out.c3
 refine zAA (X:=some b) 10 [([0,1,2,3,4,5,6],7)] [8,9] (by kernel_rfl) (by kernel_rfl) rfl (fun _ _ _ _ _ h=>h) ?_
 simp only[zAJ,zAC,zAG,zAD,zAB,List.getD_cons_zero,List.getD_cons_succ,List.drop_succ_cons,List.drop_nil]
 go_big_quiet_step (fail)
 go_big_quiet_step (fail)
 go_big_quiet_step (fail)
 go_big_quiet_step (fail)
 go_big_quiet_step (fail)
 go_big_quiet_step (fail)
 go_big_quiet_step (fail)
 refine wpQuiet_nil ?_
 go_wp2_with fail
 refine⟨zBS ((((zAP.of_setCell _).trans (zAP.of_setCell _)).trans (zAP.of_setCell _)).trans (zAP.of_setCell _)),?_⟩
 repeat (go_big_quiet_step (fail))
 refine wpQuiet_nil ?_
 have HQ:=zL8 (HP.out.put (.slice none 0 0) (.slice none 0 0) (.slice none 0 0) false)
 have HB2:=zL8 (((((HB.out.setCell (p:=⟨b,0,none⟩) (by rw[←HZ.out];exact zMA _) (.slice none 0 0)).setCell (p:=⟨b,1,none⟩) (by rw[←HZ.out];exact zMA _) (.slice none 0 0)).setCell (p:=⟨b,2,none⟩) (by rw[←HZ.out];exact zMA _) (.slice none 0 0)).setCell (p:=⟨b,3,none⟩) (by rw[←HZ.out];exact zMA _) (.bool false)).drew)
 go_wp2_with fail
 refine zAn (p:=5) (q:=6) (r:=7) rfl rfl rfl rfl rfl (HQ.out.same rfl (zMA _)) ⟨rfl,HB2.out⟩
end
end
section
open Go.RowKit
theorem zLz:ElT Tryz.prog 64 127 9 72 (.agg #[.int .i8 0,.int .u64 0,.int .u64 0,.int .u64 0,.int .u64 0,.int .i64 0,.int .i64 0,.int .i64 0,.int .i64 0]):=⟨Tryz.underlying64,by kernel_rfl,rfl,by decide⟩
section
variable {w:World} {oa:Option Addr} {n cap:Nat} {cs:List Value}
theorem zGA {a:Addr} (hs:Src w (.slice (some a) n cap) n cs) (hl:cs.length=n*9) (h1: ∀u∈cs,u.oneCell'=true) (hn:n≤4294967296):
  Calls Tryz.prog 65 #[.slice (some a) n cap] w fun e w'=> ∃v,e= .returned v∧w'.ownsRow w.heap.size 127 9 v n cs∧Below w.heap.size w w':=by
 have HS:=zL8 hs
 clear hs
 go_enter Tryz.func65,Tryz.ntmps65
 have hq: ∀w,(binOp .eql 64 (.slice (some a) n cap) (.slice none 0 0)).run Tryz.prog w= .ok (.bool false) w:=fun _=>by kernel_rfl
 go_wp2_with (at_builtin;refine zAN zLz rfl _ _ rfl w.heap.size (n:=0) (m:=n) (xs:=[]) (news:=cs) rfl ?_ rfl ?_ hl h1 ?_ ?_ ?_ ?_)
 ·exact⟨by simp,.inr ⟨w.heap.size,0,#[],rfl,zMA _,zML w _,zMA _,by unfold maxLen;omega,by simp,by simp⟩⟩
 ·rcases HS.out with ⟨h,_⟩|⟨a',c',h,hc⟩
  ·cases h
  ·cases h
   exact .inr ⟨a,cap,rfl,fun j u hu=>by
    have:=hc j u hu
    exact(((zL9 w.heap.size w).alloc (zMA _) _).cell (zMf _ _ this)).trans this⟩
 ·unfold maxLen;omega
 ·omega
 ·simp
 intro v' w' ho hg hr
 obtain⟨o7,k7,rfl⟩:=zAI ho
 have hb:Below w.heap.size w w':=((zL9 w.heap.size w).alloc (zMA _) (.cells #[] 127)).grown hg (by simp) (fun k hk=>by cases hk;exact zMA _)
 have ho':w'.ownsRow w.heap.size 127 9 (.slice o7 n k7) n cs:=by simpa using ho
 clear ho
 have HB:=zL8 hb
 have HO:=zL8 ho'
 clear hb ho' hg hr
 go_wp2_with fail
 go_ret
 exact⟨_,rfl,HO.out,HB.out⟩
end
structure NoV (w:World) (v:Value) (n:Nat) (cs:List Value):Prop where
 src:Src w v n cs
 len:cs.length=n*9
 one: ∀u∈cs,u.oneCell'=true
 le:n≤4294967296
 form: ∃o c,v= .slice o n c
section
variable {w w':World} {v:Value} {n k:Nat} {cs:List Value}
theorem zEY (h:Src w v n cs) (hb:Below w.heap.size w w'):Src w' v n cs:=by
 rcases h with h|⟨a,c,rfl,h⟩
 ·exact .inl h
 ·exact .inr ⟨a,c,rfl,fun j u hu=>(hb.cell (zMf _ _ (h j u hu))).trans (h j u hu)⟩
theorem NoV.below (h:NoV w v n cs) (hb:Below w.heap.size w w'):NoV w' v n cs:=⟨zEY h.src hb,h.len,h.one,h.le,h.form⟩
theorem NoV.clone (h:NoV w v n cs):Calls Tryz.prog 65 #[v] w fun e w'=> ∃o c,e= .returned (.slice o n c)∧w'.ownsRow w.heap.size 127 9 (.slice o n c) n cs∧Below w.heap.size w w':=by
 have hl:=h.len
 have h1:=h.one
 have hn:=h.le
 rcases h.src with ⟨rfl,rfl,rfl⟩|⟨a,c,rfl,hs⟩
 ·refine(zD7 (w:=w)).mono ?_
  rintro e w' ⟨rfl,rfl⟩
  exact⟨none,0,rfl,zMO _ _ _ _,zL9 _ _⟩
 ·refine(zGA (.inr ⟨a,c,rfl,hs⟩) hl h1 hn).mono ?_
  rintro e w' ⟨v,rfl,ho,hb⟩
  obtain⟨o,c,rfl⟩:=zAI ho
  exact⟨o,c,rfl,ho,hb⟩
end
end
section
open Go.RowKit Go.Shelf
def PcT (w:World) (of_:Option Addr) (n:Nat):Prop:= ∀i,i<n→ ∃fb fo,of_=some ⟨fb,fo,none⟩∧fb<w.heap.size∧ ∃(g:Int) (oa:Option Addr) (T:List Nat) (cap:Nat),
 w.cell? ⟨fb,fo+i*2,none⟩=some (.int .i64 g)∧w.cell? ⟨fb,fo+i*2+1,none⟩=some (.slice oa T.length cap)∧zBU w oa T∧T.length≤4294967296∧(∀g o s,oa≠some ⟨g,o,some s⟩)
structure zLF (w:World) (l:List Value) (v2 v5 v10:Value) (n2 n5 n10:Nat) (s2 s5 s10:List Value):Prop where
 cl:zBc l
 g2:l[2]?=some v2
 g5:l[5]?=some v5
 g10:l[10]?=some v10
 n2:NoV w v2 n2 s2
 n5:NoV w v5 n5 s5
 n10:NoV w v10 n10 s10
 tx: ∃(oa:Option Addr) (T:List Nat) (cap:Nat),l[9]?=some (.slice oa T.length cap)∧zBU w oa T∧T.length≤4294967296∧(∀g o s,oa≠some ⟨g,o,some s⟩)
 fi: ∃(of_:Option Addr) (n cap:Nat),l[11]?=some (.slice of_ n cap)∧n≤4294967296∧PcT w of_ n
section
variable {w w':World} {l:List Value} {v2 v5 v10:Value} {n2 n5 n10:Nat} {s2 s5 s10:List Value}
theorem zBO {oa:Option Addr} {T:List Nat} (h:zBU w oa T) (hb:Below w.heap.size w w'):zBU w' oa T:=fun hp=>by
 obtain⟨g,o,h1,h2⟩:=h hp
 exact⟨g,o,h1,fun j hj=>(hb.cell (zMf _ _ (h2 j hj))).trans (h2 j hj)⟩
theorem PcT.below {of_:Option Addr} {n:Nat} (h:PcT w of_ n) (hb:Below w.heap.size w w'):PcT w' of_ n:=fun i hi=>by
 obtain⟨fb,fo,h1,h2,g,oa,T,cap,h3,h4,h5,h6,h7⟩:=h i hi
 exact⟨fb,fo,h1,zMB h2 hb.size,g,oa,T,cap,(hb.cell (p:=⟨fb,fo+i*2,none⟩) h2).trans h3,(hb.cell (p:=⟨fb,fo+i*2+1,none⟩) h2).trans h4,zBO h5 hb,h6,h7⟩
theorem zJJ {q e size i:Nat} {v:Value} {xs:List Value} (h:w.ownsRow q e size v i xs) (hb:Below w.heap.size w w'):w'.ownsRow q e size v i xs:=by
 rcases h with ⟨h1,h2|⟨g,cp,cur,h2,h3,h4,h5⟩⟩
 ·exact⟨h1,.inl h2⟩
 ·exact⟨h1,.inr ⟨g,cp,cur,h2,h3,(hb.block g (zMG.1 h4).1).trans h4,h5⟩⟩
theorem zIn (h:zLF w l v2 v5 v10 n2 n5 n10 s2 s5 s10):Calls Tryz.prog 62 #[.agg l.toArray] w fun e w'=>(∃l' u2 u5 u10,e= .returned (.agg l'.toArray)∧zBc l'∧l'[2]?=some u2∧l'[5]?=some u5∧l'[10]?=some u10∧w'.ownsRow w.heap.size 127 9 u2 n2 s2∧w'.ownsRow w.heap.size 127 9 u5 n5 s5∧w'.ownsRow w.heap.size 127 9 u10 n10 s10)∧Below w.heap.size w w':=by
 obtain⟨oa,T,cap,h9,ht,hT,hsp⟩:=h.tx
 have hb0:=CmB.new h.cl w
 have hz0:=CmB.new zBc.zero (w.alloc (.cells l.toArray 71))
 have e1:(w.alloc (.cells l.toArray 71)).heap.size=w.heap.size+1:=by simp
 have hb1:=hb0.block (w':=(w.alloc (.cells l.toArray 71)).alloc (.cells Tryz.zeroCells71.toList.toArray 71)) (zMM _ _ hb0.lt)
 rw[e1]at hz0
 have hbb:=((zL9 w.heap.size w).alloc (zMA _) (.cells l.toArray 71)).alloc (by simp) (.cells Tryz.zeroCells71.toList.toArray 71)
 have HT:=zL8 (zBO ht hbb)
 have HB:=zL8 hbb
 have H0:=zL8 hb1
 have HZ:=zL8 hz0
 have H:=zL8 h
 clear hb0 hz0 hb1 e1 hbb ht h
 go_enter Tryz.func62,Tryz.ntmps62
 go_upto_region 1 with fail
 obtain⟨W,hW⟩: ∃W,(w.alloc (.cells l.toArray 71)).alloc (.cells Tryz.zeroCells71.toList.toArray 71)=W:=⟨_,rfl⟩
 have hW':(w.alloc (.cells l.toArray 71)).alloc (.cells Tryz.zeroCells71 71)=W:=hW
 rw[hW]at HB H0 HZ HT
 rw[hW']
 clear hW hW'
 have HM2:=zL8 (H.out.n2.below HB.out)
 have HM5:=zL8 (H.out.n5.below HB.out)
 have HM10:=zL8 (H.out.n10.below HB.out)
 obtain⟨b,hbz⟩: ∃b,w.heap.size=b:=⟨_,rfl⟩
 rw[hbz]at H0 HZ HB ⊢
 have HBZ:=zL8 hbz
 clear hbz
 have k9:W.cell? ⟨b,9,none⟩=some (.slice oa T.length cap):=(H0.out.cell 9).trans h9
 have z9:=H0.out.fz 9
 have hl:=H0.out.lt
 have HCN:=zL8 (zBT (cap:=cap) HT.out hT hsp)
 go_wp2_with fail
 refine HCN.out.mono ?_;rintro e wq ⟨v9,rfl,ho9,hbq⟩
 obtain⟨o9,c9,rfl⟩:=zAI ho9
 have H1:=zL8 (H0.out.below hbq)
 have HZ1:=zL8 (HZ.out.below hbq)
 have HB1:=zL8 (HB.out.trans (hbq.mono (by have:=H0.out.lt;omega)))
 have HN2:=zL8 (HM2.out.below hbq)
 have HN5:=zL8 (HM5.out.below hbq)
 have HN10:=zL8 (HM10.out.below hbq)
 clear hbq ho9 k9 z9 hl HT H0 HZ HB HM2 HM5 HM10 HCN
 have z9:=H1.out.fz 9
 have k9:wq.cell? ⟨b,9,none⟩=some (.slice oa T.length cap):=(H1.out.cell 9).trans h9
 have hl:=H1.out.lt
 go_upto_region 2 with fail
 have H2:=zL8 (H1.out.set 9 (v:= .slice o9 T.length c9) rfl)
 have HZ2:=zL8 (zAp HZ1.out (show b+1≠b by omega) 9 (.slice o9 T.length c9))
 have HB2:=zL8 (HB1.out.setCell (p:=⟨b,9,none⟩) (zMA _) (.slice o9 T.length c9))
 have HWB:Hid (Below w.heap.size w wq):=zL8 (by rw[HBZ.out];exact HB1.out)
 have hbl:w.heap.size≤b:=by rw[HBZ.out];exact zMA _
 have HHB:=zL8 (zMa HWB.out (p:=⟨b,9,none⟩) hbl (.slice o9 T.length c9))
 have HN2:=zL8 (H.out.n2.below HHB.out)
 have HN5:=zL8 (H.out.n5.below HHB.out)
 have HN10:=zL8 (H.out.n10.below HHB.out)
 have g2:(l.set 9 (.slice o9 T.length c9))[2]?=some v2:=by rw[List.getElem?_set_ne (by decide)];exact H.out.g2
 have g5:(l.set 9 (.slice o9 T.length c9))[5]?=some v5:=by rw[List.getElem?_set_ne (by decide)];exact H.out.g5
 have g10:(l.set 9 (.slice o9 T.length c9))[10]?=some v10:=by rw[List.getElem?_set_ne (by decide)];exact H.out.g10
 obtain⟨of_,nf,cf,h11,hnf,hpf⟩:=H.out.fi
 have g11:(l.set 9 (.slice o9 T.length c9))[11]?=some (.slice of_ nf cf):=by rw[List.getElem?_set_ne (by decide)];exact h11
 have HP0:=zL8 hpf
 obtain⟨W1,hW⟩: ∃V,wq.setCell ⟨b,9,none⟩ (.slice o9 T.length c9)=V:=⟨_,rfl⟩
 rw[hW]at H2 HZ2 HB2 HN2 HN5 HN10 ⊢
 obtain⟨l1,hl1⟩: ∃x,l.set 9 (.slice o9 T.length c9)=x:=⟨_,rfl⟩
 rw[hl1]at H2 g2 g5 g10 g11
 clear hW hl1 HHB HWB hbl z9 k9 hl H1 HZ1 HB1 h9 h11 hpf hsp hT
 have k2:W1.cell? ⟨b,2,none⟩=some v2:=(H2.out.cell 2).trans g2
 have k5:W1.cell? ⟨b,5,none⟩=some v5:=(H2.out.cell 5).trans g5
 have k10:W1.cell? ⟨b,10,none⟩=some v10:=(H2.out.cell 10).trans g10
 have hl:=H2.out.lt
 have G11:=zL8 g11
 have HD0:Hid (Below W1.heap.size W1 W1.drew):=zL8 (zL9 _ _).drew
 have HK10:=zL8 (HN10.out.below HD0.out).clone
 clear g2 g5 g10 g11
 refine zAA (X:=none) 12 [([0,1,3,4,5,7,8,9],2),([11],6),([],10)] [] (by kernel_rfl) (by kernel_rfl) rfl (fun _ _ _ _ _ h=>h) ?_
 simp only[zAJ,zAC,zAG,zAD,zAB,List.getD_cons_zero,List.getD_cons_succ,List.drop_succ_cons,List.drop_zero]
 repeat (go_big_quiet_step (fail))
 refine wpQuiet_nil ?_
 go_wp2_with fail
 refine HK10.out.mono ?_;rintro e wa ⟨oA,cA,rfl,hnA,hba⟩
 have HA:=zL8 (zAH hnA (show b+2≤W1.drew.heap.size by have:=HZ2.out.lt;show _≤W1.heap.size;omega))
 have HBA:=zL8 hba
 have HK2:=zL8 ((HN2.out.below HD0.out).below hba).clone
 clear hnA hba HK10
 dsimp only
 go_wp2_with fail
 refine⟨zAP.of_below HBA.out,?_⟩
 repeat (go_big_quiet_step (fail))
 refine wpQuiet_nil ?_
 go_wp2_with fail
 refine HK2.out.mono ?_;rintro e wb ⟨oB,cB,rfl,hnB,hbb⟩
 have HBq:=zL8 (zAH hnB (show b+2≤wa.heap.size by have:=HZ2.out.lt;have:=HBA.out.size;have h2:W1.drew.heap.size=W1.heap.size:=rfl;omega))
 have HBB:=zL8 hbb
 have HK5:=zL8 (((HN5.out.below HD0.out).below HBA.out).below hbb).clone
 clear hnB hbb HK2
 dsimp only
 go_wp2_with fail
 refine⟨zAP.of_below HBB.out,?_⟩
 repeat (go_big_quiet_step (fail))
 refine wpQuiet_nil ?_
 go_wp2_with fail
 refine HK5.out.mono ?_;rintro e wd ⟨oD,cD,rfl,hnD,hbd⟩
 have HDq:=zL8 (zAH hnD (show b+2≤wb.heap.size by have:=HZ2.out.lt;have:=HBA.out.size;have:=HBB.out.size;have h2:W1.drew.heap.size=W1.heap.size:=rfl;omega))
 have HBD:=zL8 hbd
 clear hnD hbd HK5
 dsimp only
 go_wp2_with fail
 refine⟨zAP.of_below HBD.out,?_⟩
 repeat (go_big_quiet_step (fail))
 refine wpQuiet_nil ?_
 have HDW:Hid (Below W1.heap.size W1 wd):=zL8 (((HD0.out.trans (HBA.out.mono (zMA _))).trans (HBB.out.mono HBA.out.size)).trans (HBD.out.mono (zMV HBA.out.size HBB.out.size)))
 have H3:=zL8 (H2.out.below HDW.out)
 have HZ3:=zL8 (HZ2.out.below HDW.out)
 have HB3:=zL8 (HB2.out.trans (HDW.out.mono (Nat.le_of_lt H2.out.lt)))
 have fz:=H3.out.fz
 have hl3:=H3.out.lt
 have k2':=(H3.out.cell 2).trans ((H2.out.cell 2).symm.trans k2)
 have k5':=(H3.out.cell 5).trans ((H2.out.cell 5).symm.trans k5)
 have k10':=(H3.out.cell 10).trans ((H2.out.cell 10).symm.trans k10)
 clear k2 k5 k10 hl
 have HA3:=zL8 (zAQ (zAQ HA.out (.below HBB.out)) (.below HBD.out))
 have HB3':=zL8 (zAQ HBq.out (.below HBD.out))
 go_upto_region 3 with fail
 have H4:=zL8 (((H3.out.set 10 (v:= .slice oA n10 cA) rfl).set 2 (v:= .slice oB n2 cB) rfl).set 5 (v:= .slice oD n5 cD) rfl)
 have HZ4:=zL8 (zAp (zAp (zAp HZ3.out (show b+1≠b by omega) 10 (.slice oA n10 cA)) (show b+1≠b by omega) 2 (.slice oB n2 cB)) (show b+1≠b by omega) 5 (.slice oD n5 cD))
 have HB4:=zL8 (((HB3.out.setCell (p:=⟨b,10,none⟩) (zMA _) (.slice oA n10 cA)).setCell (p:=⟨b,2,none⟩) (zMA _) (.slice oB n2 cB)).setCell (p:=⟨b,5,none⟩) (zMA _) (.slice oD n5 cD))
 have HKB:Hid (Kb (b+2) wd (((wd.setCell ⟨b,10,none⟩ (.slice oA n10 cA)).setCell ⟨b,2,none⟩ (.slice oB n2 cB)).setCell ⟨b,5,none⟩ (.slice oD n5 cD))):=zL8 (((Kb.set (by omega) 10 (.slice oA n10 cA)).trans (Kb.set (by omega) 2 (.slice oB n2 cB))).trans (Kb.set (by omega) 5 (.slice oD n5 cD)))
 have HA4:=zL8 (zAQ HA3.out HKB.out)
 have HBN4:=zL8 (zAQ HB3'.out HKB.out)
 have HD4:=zL8 (zAQ HDq.out HKB.out)
 have hlen:l1.length=272:=H2.out.cl.len
 have G:=zL8 (show(((l1.set 10 (.slice oA n10 cA)).set 2 (.slice oB n2 cB)).set 5 (.slice oD n5 cD))[11]?=some (.slice of_ nf cf)∧(((l1.set 10 (.slice oA n10 cA)).set 2 (.slice oB n2 cB)).set 5 (.slice oD n5 cD))[2]?=some (.slice oB n2 cB)∧(((l1.set 10 (.slice oA n10 cA)).set 2 (.slice oB n2 cB)).set 5 (.slice oD n5 cD))[5]?=some (.slice oD n5 cD)∧(((l1.set 10 (.slice oA n10 cA)).set 2 (.slice oB n2 cB)).set 5 (.slice oD n5 cD))[10]?=some (.slice oA n10 cA)from
  ⟨by rw[List.getElem?_set_ne (by decide),List.getElem?_set_ne (by decide),List.getElem?_set_ne (by decide)];exact G11.out,
   by rw[List.getElem?_set_ne (by decide),List.getElem?_set_self (by simp[hlen])],
   by rw[List.getElem?_set_self (by simp[hlen])],
   by rw[List.getElem?_set_ne (by decide),List.getElem?_set_ne (by decide),List.getElem?_set_self (by simp[hlen])]⟩)
 obtain⟨W2,hW⟩: ∃V,((wd.setCell ⟨b,10,none⟩ (.slice oA n10 cA)).setCell ⟨b,2,none⟩ (.slice oB n2 cB)).setCell ⟨b,5,none⟩ (.slice oD n5 cD)=V:=⟨_,rfl⟩
 rw[hW]at H4 HZ4 HB4 HA4 HBN4 HD4 ⊢
 obtain⟨l2,hl2⟩: ∃x,((l1.set 10 (.slice oA n10 cA)).set 2 (.slice oB n2 cB)).set 5 (.slice oD n5 cD)=x:=⟨_,rfl⟩
 rw[hl2]at H4 G
 clear hW hl2 hlen HKB fz hl3 k2' k5' k10' HA3 HB3' H3 HZ3 HB3 HDW HBD HDq HBB HBq HBA HA HD0 G11 H2 HZ2 HB2 HN2 HN5 HN10
 have k11:W2.cell? ⟨b,11,none⟩=some (.slice of_ nf cf):=(H4.out.cell 11).trans G.out.1
 have hl:=H4.out.lt
 obtain⟨i0,hi,hz0,hz1,hz2⟩:=info_parts (zLV).hi
 go_wp2_with (at_make;refine wpList_make_own _ rfl _ _ 67 rfl W2.heap.size 73 i0 _ 2 Tryz.underlying67 hi hz0 hz1 .i64 .i64 ((nf:Nat):Int) nf rfl rfl rfl (by rw[hz2];omega) (by unfold maxLen;omega) (by omega) ?_)
 intro w3 hown hgr
 obtain⟨q,hq⟩: ∃q,W2.heap.size=q:=⟨_,rfl⟩
 have hb3:Below W2.heap.size W2 w3:=(zL9 _ _).grown hgr (zMA _) (fun k hk=>by cases hk)
 rw[hq]at hown hb3 hl ⊢
 have H5:=zL8 (H4.out.block (hb3.block b hl))
 have HB5:=zL8 (HB4.out.trans (hb3.mono (Nat.le_of_lt hl)))
 have HB3:=zL8 hb3
 have HOW:=zL8 hown
 have HQL:=zL8 hl
 clear hown hgr hb3 hi hz0 hz1 hz2 k11 hl
 have k11:w3.cell? ⟨b,11,none⟩=some (.slice of_ nf cf):=(H5.out.cell 11).trans G.out.1
 have hl:=H5.out.lt
 go_wp2_with fail
 go_loopg [3,33] nf (fun gk fv kv wr=> ∃i:Nat,i≤nf∧gk=nf - i∧kv= .int .i64 (i:Nat)∧(∃xs,wr.ownsRow q 73 2 fv i xs)∧Below q W2 wr)
 case atStart=>exact⟨0,Nat.zero_le _,rfl,rfl,⟨[],HOW.out⟩,HB3.out⟩
 case round=>
 obtain⟨i,hin,hgk,rfl,⟨xs,hox⟩,hbw⟩:=hrel
 have HOX:=zL8 hox
 have HBW:=zL8 hbw
 have HGK:=zL8 hgk
 clear hox hbw hgk k11 hl
 by_cases hi:i<nf
 ·obtain⟨fb,fo,hfo,hfl,g,oa2,T2,cap2,p0,p1,hx,hxT,hxs⟩:=HP0.out i hi
  subst hfo
  have hbw:Below w.heap.size w wr:=by rw[HBZ.out];exact HB4.out.trans (HBW.out.mono (Nat.le_of_lt HQL.out))
  have c0:=(hbw.cell (p:=⟨fb,fo+i*2,none⟩) hfl).trans p0
  have c1:=(hbw.cell (p:=⟨fb,fo+i*2+1,none⟩) hfl).trans p1
  have HX:=zL8 (zBO hx hbw)
  have hfw:=zMB hfl hbw.size
  clear hx p0 p1 hbw
  have HPA:Hid ((wr.alloc (.cells #[.int .i64 g,.slice oa2 T2.length cap2] 73)).cell? ⟨wr.heap.size,0,none⟩=some (.int .i64 g)∧(wr.alloc (.cells #[.int .i64 g,.slice oa2 T2.length cap2] 73)).cell? ⟨wr.heap.size,1,none⟩=some (.slice oa2 T2.length cap2)∧wr.heap.size<(wr.alloc (.cells #[.int .i64 g,.slice oa2 T2.length cap2] 73)).heap.size):=zL8 ⟨zAL _ _ _ 0,zAL _ _ _ 1,zAl _ _⟩
  have HBV:Hid (Below wr.heap.size wr (wr.alloc (.cells #[.int .i64 g,.slice oa2 T2.length cap2] 73))):=zL8 ((zL9 _ _).alloc (zMA _) _)
  go_upto_region 7 with fail
  obtain⟨V,hV⟩: ∃V,wr.alloc (.cells #[.int .i64 g,.slice oa2 T2.length cap2] 73)=V:=⟨_,rfl⟩
  rw[hV]at HPA HBV ⊢
  clear hV c0 c1 hfw
  obtain⟨p0,p1,hpl⟩:=HPA.out
  obtain⟨pb,hpb⟩: ∃k,wr.heap.size=k:=⟨_,rfl⟩
  rw[hpb]at p0 p1 hpl ⊢
  have HPB:=zL8 hpb
  clear hpb HPA
  have HBD:Hid (Below wr.heap.size wr V.drew):=zL8 HBV.out.drew
  have HKC:=zL8 (zBT (cap:=cap2) (zBO HX.out HBD.out) hxT hxs)
  refine zAA (X:=none) 7 [([0,1,2,3,4],5)] [6] (by kernel_rfl) (by kernel_rfl) rfl (fun _ _ _ _ _ h=>h) ?_
  simp only[zAJ,zAC,zAG,zAD,zAB,List.getD_cons_zero,List.getD_cons_succ,List.drop_succ_cons,List.drop_zero]
  repeat (go_big_quiet_step (fail))
  refine wpQuiet_nil ?_
  go_wp2_with fail
  refine HKC.out.mono ?_;rintro e wx ⟨vx,rfl,hox,hbx⟩
  obtain⟨ox,cx,rfl⟩:=zAI hox
  have HBX:=zL8 hbx
  clear hox hbx HKC
  dsimp only
  go_wp2_with fail
  refine⟨zAP.of_below HBX.out,?_⟩
  repeat (go_big_quiet_step (fail))
  refine wpQuiet_nil ?_
  have hbx:Below wr.heap.size wr (wx.alloc (.cells #[.int .i64 g,.slice ox T2.length cx] 73)):=(HBD.out.trans (HBX.out.mono HBD.out.size)).alloc (by have:=HBD.out.size;have:=HBX.out.size;omega) _
  have HOW2:=zL8 (zJJ HOX.out hbx)
  have HBX2:=zL8 hbx
  have HQR:Hid (q≤wr.heap.size):=zL8 (by have:=HBW.out.size;omega)
  have HQW:Hid (q≤wx.heap.size):=zL8 (by have:=HBD.out.size;have:=HBX.out.size;have:=HBW.out.size;omega)
  clear hbx
  go_wp2_with (at_builtin;refine zAN zLV rfl _ _ rfl q (n:=i) (m:=1) (xs:=xs) (news:=[.int .i64 g,.slice ox T2.length cx]) rfl ?_ rfl (Src.new wx [.int .i64 g,.slice ox T2.length cx] _ _ _) rfl ?_ ?_ ?_ ?_ ?_)
  ·exact HOW2.out
  ·intro u hu
   simp at hu
   rcases hu with rfl|rfl<;>rfl
  ·unfold maxLen;omega
  ·omega
  ·have:=HQW.out;simp;omega
  intro v7 X7 ho7 hg7 hr7
  have hbn:Below q W2 X7:=(HBW.out.trans (HBX2.out.mono HQR.out)).grown hg7 (by have:=HQW.out;simp;omega) (fun k hk=>(HOX.out.lt k hk).1)
  have HO7:=zL8 ho7
  have HBN:=zL8 hbn
  clear ho7 hg7 hr7 hbn p0 p1 hpl
  go_wp2_with fail
  go_roundg (nf - (i+1))
  case measure=>have:=HGK.out;omega
  case rel=>exact⟨i+1,by omega,rfl,by simp,⟨_,HO7.out⟩,HBN.out⟩
 ·have hie:i=nf:=by omega
  subst hie
  have H6:=zL8 (H4.out.block (HBW.out.block b HQL.out))
  have HZ6:=zL8 (HZ4.out.below (HBW.out.mono (by rw[hq];exact zMA _)))
  have HB6:=zL8 (HB4.out.trans (HBW.out.mono (Nat.le_of_lt HQL.out)))
  have HA6:=zL8 (zAQ HA4.out (.below (by rw[hq];exact HBW.out)))
  have HBN6:=zL8 (zAQ HBN4.out (.below (by rw[hq];exact HBW.out)))
  have HD6:=zL8 (zAQ HD4.out (.below (by rw[hq];exact HBW.out)))
  have hof: ∃o c,u3= .slice o i c:=by
   rcases HOX.out.2 with ⟨h1,h2⟩|⟨g,cp,cur,h1,_⟩
   ·exact⟨none,0,by rw[h1,h2]⟩
   ·exact⟨_,cp,h1⟩
  obtain⟨of2,cf2,rfl⟩:=hof
  have fz:=H6.out.fz
  have hl:=H6.out.lt
  have k11:wr.cell? ⟨b,11,none⟩=some (.slice of_ i cf):=(H6.out.cell 11).trans G.out.1
  have H7:=zL8 (H6.out.set 11 (v:= .slice of2 i cf2) rfl)
  have HZ7:=zL8 (zAp HZ6.out (show b+1≠b by omega) 11 (.slice of2 i cf2))
  have HB7:=zL8 (HB6.out.setCell (p:=⟨b,11,none⟩) (zMA _) (.slice of2 i cf2))
  have HA7:=zL8 (zAQ HA6.out (Kb.set (show b<b+2 by omega) 11 (.slice of2 i cf2)))
  have HBN7:=zL8 (zAQ HBN6.out (Kb.set (show b<b+2 by omega) 11 (.slice of2 i cf2)))
  have HD7:=zL8 (zAQ HD6.out (Kb.set (show b<b+2 by omega) 11 (.slice of2 i cf2)))
  have G7:=zL8 (show(l2.set 11 (.slice of2 i cf2))[2]?=some (.slice oB n2 cB)∧(l2.set 11 (.slice of2 i cf2))[5]?=some (.slice oD n5 cD)∧(l2.set 11 (.slice of2 i cf2))[10]?=some (.slice oA n10 cA)from
   ⟨by rw[List.getElem?_set_ne (by decide)];exact G.out.2.1,by rw[List.getElem?_set_ne (by decide)];exact G.out.2.2.1,by rw[List.getElem?_set_ne (by decide)];exact G.out.2.2.2⟩)
  go_upto_region 10 with fail
  obtain⟨W4,hW⟩: ∃V,wr.setCell ⟨b,11,none⟩ (.slice of2 i cf2)=V:=⟨_,rfl⟩
  rw[hW]at H7 HZ7 HB7 HA7 HBN7 HD7 ⊢
  clear hW k11 hl fz
  obtain⟨l4,hl4⟩: ∃x,l2.set 11 (.slice of2 i cf2)=x:=⟨_,rfl⟩
  rw[hl4]at H7 G7
  clear hl4
  have HSZ:=zL8 (zA2 H7.out.cl)
  have HSO:Hid (Tryz.zeroCells71.toList.toArray.size=l4.toArray.size):=zL8 (by rw[List.size_toArray,List.size_toArray,zAo,H7.out.cl.len])
  have HON:Hid (l4.toArray.all (·.oneCell')=true):=zL8 (by rw[←Array.all_toList,List.all_eq_true];simpa using H7.out.cl.one)
  go_wp2_with (first|refine wpList_load_row rfl 71 _ rfl b rfl _ _ (0,0) _ H7.out.heap Tryz.underlying71 rfl HSZ.out ?_|refine wpList_store_row rfl 71 _ _ rfl (b+1) _ rfl rfl _ _ HZ7.out.heap HSZ.out HSO.out HON.out ?_)
  have HR:CmB (W4.setRow (b+1) l4.toArray) (b+1) l4:=⟨setRow_heap _ _ _ _ _ _ HZ7.out.heap,H7.out.cl⟩
  refine zDw (p:=2) rfl rfl rfl HR ⟨⟨l4,_,_,_,rfl,H7.out.cl,G7.out.1,G7.out.2.1,G7.out.2.2,?_,?_,?_⟩,?_⟩
  ·exact zAH (zAQ HBN7.out (Kb.row (show b+1<b+2 by omega) _)) (by rw[HBZ.out];omega)
  ·exact zAH (zAQ HD7.out (Kb.row (show b+1<b+2 by omega) _)) (by rw[HBZ.out];omega)
  ·exact zAH (zAQ HA7.out (Kb.row (show b+1<b+2 by omega) _)) (by rw[HBZ.out];omega)
  rw[HBZ.out]
  exact zAv HB7.out (by omega) _
end
end
section
open Go.RowKit
section
variable {w w':World} {nb no cap:Nat} {l:List Value} {q:Bool}
theorem zLS (o1 o2:Option Addr) (c1 c2:Nat):Calls Tryz.prog 56 #[.slice o1 0 c1,.slice o2 0 c2] w fun e w'=>e= .returned (.bool true)∧Below w.heap.size w w':=by
 go_enter Tryz.func56,Tryz.ntmps56
 go_wp2_with fail
 go_loopg [13] 1 (fun gk kv wr=>kv= .int .i64 0∧wr=w)
 case atStart=>exact⟨rfl,rfl⟩
 case round=>
 obtain⟨rfl,rfl⟩:=hrel
 go_wp2_with fail
 go_ret
 exact⟨rfl,zL9 _ _⟩
theorem zLQ (o1 o2:Option Addr) (c1 c2:Nat):Calls Tryz.prog 57 #[.slice o1 0 c1,.slice o2 0 c2] w fun e w'=>e= .returned (.bool true)∧Below w.heap.size w w':=by
 go_enter Tryz.func57,Tryz.ntmps57
 go_wp2_with fail
 go_loopg [13] 1 (fun gk kv wr=>kv= .int .i64 0∧wr=w)
 case atStart=>exact⟨rfl,rfl⟩
 case round=>
 obtain⟨rfl,rfl⟩:=hrel
 go_wp2_with fail
 go_ret
 exact⟨rfl,zL9 _ _⟩
theorem zLR {b1 n1 b2 n2:Nat} {x:Int} (h1:w.cell? ⟨b1,n1,none⟩=some (.int .i64 x)) (h2:w.cell? ⟨b2,n2,none⟩=some (.int .i64 x)) (c1 c2:Nat):Calls Tryz.prog 56 #[.slice (some ⟨b1,n1,none⟩) 1 c1,.slice (some ⟨b2,n2,none⟩) 1 c2] w fun e w'=>e= .returned (.bool true)∧Below w.heap.size w w':=by
 have H1:=zL8 h1
 have H2:=zL8 h2
 clear h1 h2
 go_enter Tryz.func56,Tryz.ntmps56
 go_wp2_with fail
 go_loopg [13] 2 (fun gk kv wr=> ∃j:Nat,kv= .int .i64 (j:Nat)∧gk=2 - j∧j≤1∧Below w.heap.size w wr)
 case atStart=>exact⟨0,rfl,rfl,by decide,zL9 _ _⟩
 case round=>
 obtain⟨j,rfl,hgk,hj,hb⟩:=hrel
 have HB:=zL8 hb
 have HG:=zL8 hgk
 by_cases h0:j=0
 ·subst h0
  have k1:=(hb.cell (p:=⟨b1,n1,none⟩) (zMf _ _ H1.out)).trans H1.out
  have k2:=(hb.cell (p:=⟨b2,n2,none⟩) (zMf _ _ H2.out)).trans H2.out
  have l1:b1<wr.heap.size:=zMf _ _ k1
  have l2:b2<wr.heap.size:=zMf _ _ k2
  have e1:(x !=x)=false:=by simp
  clear hb hgk
  go_upto_region 6 with fail
  refine zAA (X:=none) 9 [] [0,1,2,3,4,5,6,7,8] (by kernel_rfl) (by kernel_rfl) rfl (fun _ _ _ _ _ h=>h) ?_
  simp only[zAJ,zAC,zAD,zAB,List.getD_cons_zero,List.getD_cons_succ,List.drop_succ_cons,List.drop_nil]
  repeat (go_big_quiet_step (fail))
  refine wpQuiet_nil ?_
  go_wp2_with fail
  go_roundg 1
  case measure=>have:=HG.out;omega
  case rel=>exact⟨1,rfl,rfl,by decide,HB.out.drew⟩
 obtain rfl:j=1:=by omega
 clear hb hgk
 go_wp2_with fail
 go_ret
 exact⟨rfl,HB.out⟩
def PgM (w:World) (nc:Nat) (oc ot:Option Addr) (l:List Value):Prop:=
 (nc=0∧oc=none∧ot=none)∨(nc=1∧PcV l∧ ∃nb no tb tn,oc=some ⟨nb,no,none⟩∧ot=some ⟨tb,tn,none⟩∧w.rangeAt nb no l∧nb<w.heap.size∧w.cell? ⟨tb,tn,none⟩=some (.int .i64 (-1)))
theorem PgM.below {nc:Nat} {oc ot:Option Addr} (h:PgM w nc oc ot l) (hb:Below w.heap.size w w'):PgM w' nc oc ot l:=by
 rcases h with h|⟨h1,h2,nb,no,tb,tn,h3,h4,h5,h6,h7⟩
 ·exact .inl h
 ·exact .inr ⟨h1,h2,nb,no,tb,tn,h3,h4,fun j v hv=>(hb.cell (p:=⟨nb,no+j,none⟩) h6).trans (h5 j v hv),zMB h6 hb.size,(hb.cell (p:=⟨tb,tn,none⟩) (zMf _ _ h7)).trans h7⟩
def ReR (nc:Nat) (q:Bool) (base:Nat) (e:Ending) (w':World):Prop:=
 ∃oc cc ot ct,e= .returned (.tuple #[.agg #[.slice oc nc cc,.slice ot nc ct,.slice none 0 0,.bool q],.int .i64 0,.int .i64 0])∧(nc=0∧oc=none∧cc=0∨nc=1∧ ∃pb l' g,oc=some ⟨pb,0,none⟩∧CmP w' pb l'∧base≤pb∧ot=some ⟨g,0,none⟩∧w'.cell? ⟨g,0,none⟩=some (.int .i64 (-1)))
theorem zCz {nc:Nat} {oc ot:Option Addr} {cc:Nat} (h:PgM w nc oc ot l) (hc:oc=none→cc=0) (q:Bool):Calls Tryz.prog 26 #[.slice oc nc cc,.bool q] w fun e w'=>ReR nc q w.heap.size e w'∧Below w.heap.size w w':=by
 rcases h with ⟨rfl,rfl,rfl⟩|⟨rfl,h2,nb,no,tb,tn,rfl,rfl,h5,h6,h7⟩
 ·obtain rfl:=hc rfl
  refine(zH6 q).mono ?_
  rintro e w' ⟨⟨ot,ct,rfl⟩,hb⟩
  exact⟨⟨none,0,ot,ct,rfl,.inl ⟨rfl,rfl,rfl⟩⟩,hb⟩
 ·refine(zH5 (cap:=cc) h2 h5 h6 q).mono ?_
  rintro e w' ⟨⟨pb,c2,g,l',rfl,h1,h3,h4⟩,hb⟩
  exact⟨⟨_,c2,_,1,rfl,.inr ⟨rfl,pb,l',g,rfl,h1,h3,rfl,h4⟩⟩,hb⟩
end
end
section
open Go.RowKit
section
variable {w w':World} {l:List Value} {q:Bool}
theorem zIe {nc:Nat} {oc ot:Option Addr} {cc ct:Nat} (h:PgM w nc oc ot l) (hc:oc=none→cc=0) (q:Bool):Calls Tryz.prog 24 #[.agg #[.slice oc nc cc,.slice ot nc ct,.slice none 0 0,.bool q]] w fun e w'=>e= .returned (.bool true)∧Below w.heap.size w w':=by
 have hba:Below w.heap.size w (w.alloc (.cells #[.slice oc nc cc,.slice ot nc ct,.slice none 0 0,.bool q] 26)):=(zL9 _ _).alloc (zMA _) _
 have HR:=zL8 (zCz (h.below hba) hc q)
 have HM:=zL8 (h.below hba)
 have HP:=zL8 (PrB.new w (.slice oc nc cc) (.slice ot nc ct) (.slice none 0 0) q)
 have HB:=zL8 hba
 clear h hc hba
 go_enter Tryz.func24,Tryz.ntmps24
 go_upto_region 1 with fail
 obtain⟨W,hW⟩: ∃W,w.alloc (.cells #[.slice oc nc cc,.slice ot nc ct,.slice none 0 0,.bool q] 26)=W:=⟨_,rfl⟩
 rw[hW]at HR HM HP HB ⊢
 obtain⟨c,hcz⟩: ∃c,w.heap.size=c:=⟨_,rfl⟩
 rw[hcz]at HP ⊢
 have HCZ:=zL8 hcz
 clear hW hcz
 have c0:=HP.out.c0
 have c3:=HP.out.c3
 have hl:=HP.out.lt
 go_wp2_with fail
 refine HR.out.mono ?_;rintro e w1 ⟨⟨oc2,cc2,ot2,ct2,rfl,hcs⟩,hb⟩
 have HB1:=zL8 hb
 have HP1:=zL8 (HP.out.below hb)
 have HM1:=zL8 (HM.out.below hb)
 have HC:=zL8 hcs
 clear hcs hb c0 c3 hl HR
 have hba:Below w1.heap.size w1 (w1.alloc (.cells #[.slice oc2 nc cc2,.slice ot2 nc ct2,.slice none 0 0,.bool q] 26)):=(zL9 _ _).alloc (zMA _) _
 have HPN:=zL8 (PrB.new w1 (.slice oc2 nc cc2) (.slice ot2 nc ct2) (.slice none 0 0) q)
 have HP2:=zL8 (HP1.out.below hba)
 have HM2:=zL8 (HM1.out.below hba)
 have HB2:=zL8 (HB1.out.trans (hba.mono HB1.out.size))
 have HC2:Hid (nc=0∨nc=1∧ ∃g,ot2=some ⟨g,0,none⟩∧(w1.alloc (.cells #[.slice oc2 nc cc2,.slice ot2 nc ct2,.slice none 0 0,.bool q] 26)).cell? ⟨g,0,none⟩=some (.int .i64 (-1))):=zL8 (by
  rcases HC.out with ⟨h,_⟩|⟨h,pb,l',g,_,_,_,h2,h3⟩
  ·exact .inl h
  ·exact .inr ⟨h,g,h2,(hba.cell (p:=⟨g,0,none⟩) (zMf _ _ h3)).trans h3⟩)
 go_upto_region 2 with fail
 obtain⟨V,hV⟩: ∃V,w1.alloc (.cells #[.slice oc2 nc cc2,.slice ot2 nc ct2,.slice none 0 0,.bool q] 26)=V:=⟨_,rfl⟩
 rw[hV]at HPN HP2 HM2 HB2 HC2 ⊢
 obtain⟨d,hd⟩: ∃d,w1.heap.size=d:=⟨_,rfl⟩
 rw[hd]at HPN ⊢
 clear hV hd hba HC HB1 HP1 HM1 HM HP
 have c1:=HP2.out.c1
 have c2:=HP2.out.c2
 have hl:=HP2.out.lt
 have d1:=HPN.out.c1
 have d2:=HPN.out.c2
 have hdl:=HPN.out.lt
 have HEI:Hid (Calls Tryz.prog 56 #[.slice ot nc ct,.slice ot2 nc ct2] V fun e w'=>e= .returned (.bool true)∧Below V.heap.size V w'):=zL8 (by
  rcases HC2.out with h0|⟨h1,g,rfl,hg⟩
  ·subst h0;exact zLS _ _ _ _
  ·subst h1
   rcases HM2.out with ⟨h,_⟩|⟨_,_,nb,no,tb,tn,_,rfl,_,_,h7⟩
   ·omega
   ·exact zLR h7 hg _ _)
 go_wp2_with fail
 refine HEI.out.mono ?_;rintro e w3 ⟨rfl,hb3⟩
 have e2:=(HP2.out.below hb3).c2
 have f2:=(HPN.out.below hb3).c2
 have el:=(HP2.out.below hb3).lt
 have fl:=(HPN.out.below hb3).lt
 have HB3:=zL8 (HB2.out.trans (hb3.mono HB2.out.size))
 have HES:=zL8 (zLQ (w:=w3) none none 0 0)
 clear c1 c2 hl d1 d2 hdl HEI hb3
 go_wp2_with fail
 refine HES.out.mono ?_;rintro e w4 ⟨rfl,hb4⟩
 clear e2 f2 el fl
 go_wp2_with fail
 go_ret
 exact⟨rfl,(HB.out.trans (HB3.out.mono HB.out.size)).trans (hb4.mono (zMV HB.out.size HB3.out.size))⟩
end
end
section
open Go.RowKit
theorem zJ9:Tryz.zeroCells71.setIfInBounds 7 (.int .u8 112)=pcs.toArray:=by
 apply Array.ext'
 rw[Array.toList_setIfInBounds]
 rfl
section
variable {w w':World} {l:List Value} {q:Bool}
theorem zEE {fn:Func} {p:Tmp} {b:Nat} (hf:fn.results= #[.cell p 26]) {Q:Ending→World→Prop} {a:Act} {oc ot of_:Option Addr} {nc cc nt ct nf cf:Nat} (hp:a.tmps.getD p undef= .pointer (some ⟨b,0,none⟩)) (hd:a.defers=[])
  (h:PrB w b (.slice oc nc cc) (.slice ot nt ct) (.slice of_ nf cf) q) (hQ:Q (.returned (.agg #[.slice oc nc cc,.slice ot nt ct,.slice of_ nf cf,.bool q])) w):bodyPost Tryz.prog fn Q .ret a w:=by
 refine zMi (v:= .agg #[.slice oc nc cc,.slice ot nt ct,.slice of_ nf cf,.bool q]) ?_ hd hQ
 have c0:=h.c0
 have c1:=h.c1
 have c2:=h.c2
 have c3:=h.c3
 rw[zBC hf,hp]
 simp[asAddr,go_sem,c0,c1,c2,c3,Result.andThen]
theorem zFr:Calls Tryz.prog 51 #[] w fun e w'=>(∃nb g,e= .returned (.agg #[.slice (some ⟨nb,0,none⟩) 1 1,.slice (some ⟨g,0,none⟩) 1 1,.slice none 0 0,.bool false])∧w'.rangeAt nb 0 pcs∧nb<w'.heap.size∧w'.cell? ⟨g,0,none⟩=some (.int .i64 (-1)))∧Below w.heap.size w w':=by
 go_enter Tryz.func51,Tryz.ntmps51
 go_upto_region 1 with fail
 go_wp2_with (refine zB7 rfl _ rfl (congrArg Value.agg zJ9) PcV.mine.cl ?_)
 have hb1:Below (w.heap.size+1) (w.alloc (.cells #[.slice (some ⟨w.heap.size+1,0,none⟩) 1 1,.slice (some ⟨w.heap.size+1+1,0,none⟩) 1 1,.slice none 0 0,.bool false] 26)) (((w.alloc (.cells #[.slice (some ⟨w.heap.size+1,0,none⟩) 1 1,.slice (some ⟨w.heap.size+1+1,0,none⟩) 1 1,.slice none 0 0,.bool false] 26)).alloc (.cells pcs.toArray 71)).alloc (.cells #[.int .i64 (-1)] 3)):=((zL9 _ _).alloc (by simp) _).alloc (by simp) _
 have hp:=(PrB.new w (.slice (some ⟨w.heap.size+1,0,none⟩) 1 1) (.slice (some ⟨w.heap.size+1+1,0,none⟩) 1 1) (.slice none 0 0) false).same (hb1.block _ (by omega)) (by simp)
 have e1:(w.alloc (.cells #[.slice (some ⟨w.heap.size+1,0,none⟩) 1 1,.slice (some ⟨w.heap.size+1+1,0,none⟩) 1 1,.slice none 0 0,.bool false] 26)).heap.size=w.heap.size+1:=by simp
 have hB:Below w.heap.size w (((w.alloc (.cells #[.slice (some ⟨w.heap.size+1,0,none⟩) 1 1,.slice (some ⟨w.heap.size+1+1,0,none⟩) 1 1,.slice none 0 0,.bool false] 26)).alloc (.cells pcs.toArray 71)).alloc (.cells #[.int .i64 (-1)] 3)):=(((zL9 _ _).alloc (zMA _) _).alloc (by simp) _).alloc (by simp;omega) _
 obtain⟨W0,hW0⟩: ∃V,w.alloc (.cells #[.slice (some ⟨w.heap.size+1,0,none⟩) 1 1,.slice (some ⟨w.heap.size+1+1,0,none⟩) 1 1,.slice none 0 0,.bool false] 26)=V:=⟨_,rfl⟩
 rw[hW0]at hp e1 hB ⊢
 have h1:=zML W0 (.cells pcs.toArray 71)
 have h1':=(zMM (W0.alloc (.cells pcs.toArray 71)) (.cells #[.int .i64 (-1)] 3) (r:=W0.heap.size) (by simp)).trans h1
 have h2:=zAL (W0.alloc (.cells pcs.toArray 71)) #[.int .i64 (-1)] 3 0
 have e2:(W0.alloc (.cells pcs.toArray 71)).heap.size=w.heap.size+1+1:=by simp[e1]
 rw[e1]at h1'
 rw[e2]at h2
 refine zEE (p:=0) rfl rfl rfl hp ⟨⟨_,_,rfl,fun j v hv=>?_,by simp[e1],h2⟩,hB⟩
 rw[zMN _ _ (0+j) _ _ (0,0) h1',Nat.zero_add,List.getElem?_toArray,hv]
end
end
section
open Go.RowKit
def zE0 (wb qb:Nat):List (Nat × Value):=[(0,.pointer none),(1,.slice none 0 0),(2,.slice none 0 0),(3,.slice none 0 0),(4,.bool false),(5,.iface 33 (.pointer (some ⟨wb,0,none⟩))),(8,.pointer (some ⟨qb,0,none⟩)),(9,.pointer none),(122,.nilFunc),
 (266,.bool false),(267,.int .i64 (-1)),(268,.int .i64 0),(269,.int .i64 0),(270,.int .i64 0),(271,.bool false),(272,.bool false),(273,.bool false)]
theorem zGQ (wb qb:Nat):(zE0 wb qb).map (·.1)=[0,1,2,3,4,5,8,9,122,266,267,268,269,270,271,272,273]:=rfl
theorem zFD: ∀p∈zE0 0 0,p.1≠5→p.1≠8→p.1≠267→Tryz.zeroCells90[p.1]?=some p.2:=by
 intro p hp
 simp only[zE0,List.mem_cons,List.not_mem_nil,or_false]at hp
 rcases hp with rfl|rfl|rfl|rfl|rfl|rfl|rfl|rfl|rfl|rfl|rfl|rfl|rfl|rfl|rfl|rfl|rfl<;>intro h1 h2 h3<;>first|exact absurd rfl h1|exact absurd rfl h2|exact absurd rfl h3|kernel_rfl
theorem zFE:Tryz.zeroCells90.size=274:=by kernel_rfl
theorem zGP {wb qb mp:Nat} {Z:Array Value} (hz: ∀p∈zE0 0 0,p.1≠5→p.1≠8→p.1≠267→Z[p.1]?=some p.2) (hs:Z.size=274):
  ∀p∈zE0 wb qb,((((Z.setIfInBounds 5 (.iface 33 (.pointer (some ⟨wb,0,none⟩)))).setIfInBounds 6 (.map (some mp))).setIfInBounds 8 (.pointer (some ⟨qb,0,none⟩))).setIfInBounds 267 (.int .i64 (-1)))[p.1]?=some p.2:=by
 intro p hp
 by_cases h5:p.1=5
 ·have:p=(5,.iface 33 (.pointer (some ⟨wb,0,none⟩))):=by
   simp only[zE0,List.mem_cons,List.not_mem_nil,or_false]at hp
   rcases hp with rfl|rfl|rfl|rfl|rfl|rfl|rfl|rfl|rfl|rfl|rfl|rfl|rfl|rfl|rfl|rfl|rfl<;>first|rfl|(simp only at h5;omega)
  subst this
  simp[hs]
 by_cases h8:p.1=8
 ·have:p=(8,.pointer (some ⟨qb,0,none⟩)):=by
   simp only[zE0,List.mem_cons,List.not_mem_nil,or_false]at hp
   rcases hp with rfl|rfl|rfl|rfl|rfl|rfl|rfl|rfl|rfl|rfl|rfl|rfl|rfl|rfl|rfl|rfl|rfl<;>first|rfl|(simp only at h8;omega)
  subst this
  simp[hs]
 by_cases h7:p.1=267
 ·have:p=(267,.int .i64 (-1)):=by
   simp only[zE0,List.mem_cons,List.not_mem_nil,or_false]at hp
   rcases hp with rfl|rfl|rfl|rfl|rfl|rfl|rfl|rfl|rfl|rfl|rfl|rfl|rfl|rfl|rfl|rfl|rfl<;>first|rfl|(simp only at h7;omega)
  subst this
  simp[hs]
 have h6:p.1≠6:=by
  simp only[zE0,List.mem_cons,List.not_mem_nil,or_false]at hp
  rcases hp with rfl|rfl|rfl|rfl|rfl|rfl|rfl|rfl|rfl|rfl|rfl|rfl|rfl|rfl|rfl|rfl|rfl<;>(simp only;decide)
 rw[Array.getElem?_setIfInBounds_ne (Ne.symm h7),Array.getElem?_setIfInBounds_ne (Ne.symm h8),Array.getElem?_setIfInBounds_ne (Ne.symm h6),Array.getElem?_setIfInBounds_ne (Ne.symm h5)]
 refine hz p ?_ h5 h8 h7
 simp only[zE0,List.mem_cons,List.not_mem_nil,or_false]at hp ⊢
 rcases hp with h|h|h|h|h|h|h|h|h|h|h|h|h|h|h|h|h
 ·simp[h]
 ·simp[h]
 ·simp[h]
 ·simp[h]
 ·simp[h]
 ·rw[h]at h5;exact absurd rfl h5
 ·rw[h]at h8;exact absurd rfl h8
 ·simp[h]
 ·simp[h]
 ·simp[h]
 ·rw[h]at h7;exact absurd rfl h7
 ·simp[h]
 ·simp[h]
 ·simp[h]
 ·simp[h]
 ·simp[h]
 ·simp[h]
section
variable {w w':World} {l:List Value} {q:Bool}
theorem TbP.putK {cb:Nat} {L:List (Nat × Value)} {K:List Nat} (h:TbP w cb L) (hL:L.map (·.1)=K) (hK:K.Nodup) (j:Nat) {o:Nat} {u:Value} (e:L[j]?=some (o,u)) (v:Value):TbP (w.setCell ⟨cb,o,none⟩ v) cb (L.set j (o,v))∧(L.set j (o,v)).map (·.1)=K:=by
 refine⟨h.put (hL▸hK) j e v,?_⟩
 rw[List.map_set,←hL]
 apply List.ext_getElem?
 intro i
 by_cases hi:j=i
 ·subst hi
  rw[List.getElem?_set_self (by rw[List.length_map];exact(zMF.1 e).1),List.getElem?_map,e]
  rfl
 ·rw[List.getElem?_set_ne hi]
structure NeS (w:World) (cb sb qb gb nc:Nat) (oc:Option Addr) (pb:Nat) (L:List (Nat × Value)):Prop where
 tb:TbP w cb L
 sp:zFK w sb [] none
 qu:QuE w qb
 gl:gb<w.heap.size
 ga: ∃og cg,w.cell? ⟨gb,0,none⟩=some (.slice og nc cg)
 cm:nc=0∨nc=1∧oc=some ⟨pb,0,none⟩∧cb<pb∧pb<sb∧ ∃l,CmP w pb l
 o1:qb<cb
 o2:cb<sb
 o3:sb<gb
theorem NeS.tbl {cb sb qb gb nc:Nat} {oc:Option Addr} {pb:Nat} {L L':List (Nat × Value)} (h:NeS w cb sb qb gb nc oc pb L) (hb: ∀k,k<w.heap.size→k≠cb→w'.heap[k]?=w.heap[k]?) (hs:w.heap.size≤w'.heap.size) (hk:zAb w w' (fun x=>x=cb)) (ht:TbP w' cb L'):NeS w' cb sb qb gb nc oc pb L':=by
 have h1:=h.o1
 have h2:=h.o2
 have h3:=h.o3
 have h4:=h.gl
 refine⟨ht,h.sp.keep hk (by omega) (fun x hx=>by cases hx),⟨by omega,(zMC (a:=⟨qb,0,none⟩) (hb qb (by omega) (by omega))).trans h.qu.c0,(zMC (a:=⟨qb,1,none⟩) (hb qb (by omega) (by omega))).trans h.qu.c1,fun o=>(zMD (w:=w) (a:=⟨qb,o,none⟩) (hb qb (by omega) (by omega))).trans (h.qu.fz o)⟩,by omega,?_,?_,h1,h2,h3⟩
 ·obtain⟨og,cg,e⟩:=h.ga
  exact⟨og,cg,(zMC (a:=⟨gb,0,none⟩) (hb gb (by omega) (by omega))).trans e⟩
 ·rcases h.cm with e|⟨e1,e2,e3,e4,l,e5⟩
  ·exact .inl e
  ·exact .inr ⟨e1,e2,e3,e4,l,e5.same (hb pb (by omega) (by omega)) hs⟩
theorem NeS.below {cb sb qb gb nc:Nat} {oc:Option Addr} {pb:Nat} {L:List (Nat × Value)} (h:NeS w cb sb qb gb nc oc pb L) (hb:Below w.heap.size w w'):NeS w' cb sb qb gb nc oc pb L:=
 h.tbl (fun k hk _=>hb.block k hk) hb.size (zAb.of_below hb _ fun j hj hj2=>absurd hj2 (by omega)) (h.tb.same (hb.block cb h.tb.bk.lt) hb.size)
theorem zHu {nc:Nat} {oc ot:Option Addr} {cc ct:Nat} (h:PgM w nc oc ot l) (hc:oc=none→cc=0) (q:Bool) (wb:Nat):Calls Tryz.prog 7 #[.agg #[.slice oc nc cc,.slice ot nc ct,.slice none 0 0,.bool q],.iface 33 (.pointer (some ⟨wb,0,none⟩))] w fun e w'=>
  (∃k,e= .returned (.tuple #[.pointer (some ⟨k.mb,0,none⟩),.int .i64 0])∧MaS w' k ⟨false,-1,0,0,0,false⟩ [] none∧k.wb=wb∧k.nc=nc∧k.q=q∧w.heap.size≤k.qb)∧Below w.heap.size w w':=by
 have hba:Below w.heap.size w (w.alloc (.cells #[.slice oc nc cc,.slice ot nc ct,.slice none 0 0,.bool q] 26)):=(zL9 _ _).alloc (zMA _) _
 have HR:=zL8 (zIe (ct:=ct) (h.below hba) hc q)
 have HM:=zL8 (h.below hba)
 have HCN:=zL8 hc
 have HP:=zL8 (PrB.new w (.slice oc nc cc) (.slice ot nc ct) (.slice none 0 0) q)
 have HB:=zL8 hba
 clear h hc hba
 go_enter Tryz.func7,Tryz.ntmps7
 go_upto_region 1 with fail
 obtain⟨W,hW⟩: ∃W,w.alloc (.cells #[.slice oc nc cc,.slice ot nc ct,.slice none 0 0,.bool q] 26)=W:=⟨_,rfl⟩
 rw[hW]at HR HM HP HB ⊢
 obtain⟨c,hcz⟩: ∃c,w.heap.size=c:=⟨_,rfl⟩
 rw[hcz]at HP HB ⊢
 have HCZ:=zL8 hcz
 clear hW hcz
 have c0:=HP.out.c0
 have c1:=HP.out.c1
 have c2:=HP.out.c2
 have c3:=HP.out.c3
 have hl:=HP.out.lt
 go_wp2_with fail
 refine HR.out.mono ?_;rintro e w1 ⟨rfl,hb⟩
 have HB1:=zL8 (HB.out.trans (hb.mono (by omega)))
 have HP1:=zL8 (HP.out.below hb)
 have HM1:=zL8 (HM.out.below hb)
 clear hb c0 c1 c2 c3 hl HR HB HP HM
 have HQN: ∀W:World,Hid _:=fun W=>zL8 (zEw W)
 go_wp2_with (refine zBi rfl _ rfl ?_)
 refine(HQN _).out.mono ?_;rintro e w2 ⟨rfl,hq2,hb2⟩
 have hbm:Below w1.heap.size w1 (w1.alloc (.map #[] 0)):=(zL9 _ _).alloc (zMA _) _
 have em:(w1.alloc (.map #[] 0)).heap.size=w1.heap.size+1:=by simp
 have HB2:=zL8 ((HB1.out.trans (hbm.mono (by have:=HP1.out.lt;omega))).trans (hb2.mono (by have:=HP1.out.lt;omega)))
 have HP2:=zL8 ((HP1.out.below hbm).below hb2)
 have HM2:=zL8 ((HM1.out.below hbm).below hb2)
 rw[em]at hq2 ⊢
 have HQ2:=zL8 hq2
 have HCL:Hid (c<w1.heap.size+1):=zL8 (by have:=HP1.out.lt;omega)
 clear hbm em hq2 hb2 HB1 HP1 HM1 HQN
 obtain⟨mp,hmp⟩: ∃mp,w1.heap.size=mp:=⟨_,rfl⟩
 rw[hmp]at HQ2 HCL ⊢
 obtain⟨qb,hqb⟩: ∃qb,mp+1=qb:=⟨_,rfl⟩
 rw[hqb]at HQ2 HCL ⊢
 clear hmp hqb
 go_upto_region 4 with fail
 have hsz:=zFE
 have hzz:=zFD
 obtain⟨Z,hZ⟩: ∃Z,Tryz.zeroCells90=Z:=⟨_,rfl⟩
 rw[hZ]at hsz hzz ⊢
 clear hZ
 have hC:=zGP (wb:=wb) (qb:=qb) (mp:=mp) hzz hsz
 have hS:((((Z.setIfInBounds 5 (.iface 33 (.pointer (some ⟨wb,0,none⟩)))).setIfInBounds 6 (.map (some mp))).setIfInBounds 8 (.pointer (some ⟨qb,0,none⟩))).setIfInBounds 267 (.int .i64 (-1))).size=274:=by simp[hsz]
 obtain⟨C,hCC⟩: ∃C,(((Z.setIfInBounds 5 (.iface 33 (.pointer (some ⟨wb,0,none⟩)))).setIfInBounds 6 (.map (some mp))).setIfInBounds 8 (.pointer (some ⟨qb,0,none⟩))).setIfInBounds 267 (.int .i64 (-1))=C:=⟨_,rfl⟩
 rw[hCC]at hC hS ⊢
 clear hCC hzz hsz
 have hba:Below w2.heap.size w2 (w2.alloc (.cells C 90)):=(zL9 _ _).alloc (zMA _) _
 have HT:Hid (TbP (w2.alloc (.cells C 90)) w2.heap.size (zE0 wb qb)):=zL8 ⟨⟨zAl _ _,fun p hp=>(zAL _ _ _ _).trans (hC p hp),zC1 _ _ _⟩,fun o _ h2=>⟨C[o]'(by omega),(zAL _ _ _ _).trans (Array.getElem?_eq_getElem (by omega))⟩⟩
 have HB3:=zL8 (HB2.out.trans (hba.mono (by have:=HP2.out.lt;omega)))
 have HP3:=zL8 (HP2.out.below hba)
 have HM3:=zL8 (HM2.out.below hba)
 have HQ3:=zL8 (HQ2.out.below hba)
 have HQC:Hid (qb<w2.heap.size):=zL8 HQ2.out.lt
 obtain⟨X,hX⟩: ∃X,w2.alloc (.cells C 90)=X:=⟨_,rfl⟩
 obtain⟨cb,hcb⟩: ∃cb,w2.heap.size=cb:=⟨_,rfl⟩
 rw[hX]at HT HB3 HP3 HM3 HQ3 ⊢
 rw[hcb]at HT HQC ⊢
 clear hX hcb hba hC hS HB2 HP2 HM2 HQ2
 have HRS:=zL8 (zCz HM3.out HCN.out q)
 have c0:=HP3.out.c0
 have c3:=HP3.out.c3
 have hl:=HP3.out.lt
 go_wp2_with fail
 refine HRS.out.mono ?_;rintro e w3 ⟨⟨oc2,cc2,ot2,ct2,rfl,hcs⟩,hb3⟩
 have HT3:=zL8 (HT.out.same (hb3.block cb HT.out.bk.lt) hb3.size)
 have HB4:=zL8 (HB3.out.trans (hb3.mono (by omega)))
 have HQ4:=zL8 (HQ3.out.below hb3)
 have HCB:Hid (cb<X.heap.size):=zL8 HT.out.bk.lt
 have HCS:=zL8 hcs
 clear hcs hb3 c0 c3 hl HRS HT HB3 HQ3 HM3 HP3 HCN
 have f1:=HT3.out.bk.get 1 rfl
 have f2:=HT3.out.bk.get 2 rfl
 have f3:=HT3.out.bk.get 3 rfl
 have f4:=HT3.out.bk.get 4 rfl
 have fz:=HT3.out.bk.fz
 have hcl:=HT3.out.bk.lt
 have hK:[0,1,2,3,4,5,8,9,122,266,267,268,269,270,271,272,273].Nodup:=by decide
 obtain⟨t1,e1⟩:=HT3.out.putK (zGQ wb qb) hK 1 (o:=1) (u:= .slice none 0 0) rfl (.slice oc2 nc cc2)
 obtain⟨t2,e2⟩:=t1.putK e1 hK 2 (o:=2) (u:= .slice none 0 0) rfl (.slice ot2 nc ct2)
 obtain⟨t3,e3⟩:=t2.putK e2 hK 3 (o:=3) (u:= .slice none 0 0) rfl (.slice none 0 0)
 obtain⟨t4,e4⟩:=t3.putK e3 hK 4 (o:=4) (u:= .bool false) rfl (.bool q)
 have HT4:=zL8 t4
 have HE4:=zL8 e4
 have k1:=zAb.setCell w3 ⟨cb,1,none⟩ (.slice oc2 nc cc2)
 have k2:=zAb.setCell (w3.setCell ⟨cb,1,none⟩ (.slice oc2 nc cc2)) ⟨cb,2,none⟩ (.slice ot2 nc ct2)
 have k3:=zAb.setCell ((w3.setCell ⟨cb,1,none⟩ (.slice oc2 nc cc2)).setCell ⟨cb,2,none⟩ (.slice ot2 nc ct2)) ⟨cb,3,none⟩ (.slice none 0 0)
 have k4:=zAb.setCell (((w3.setCell ⟨cb,1,none⟩ (.slice oc2 nc cc2)).setCell ⟨cb,2,none⟩ (.slice ot2 nc ct2)).setCell ⟨cb,3,none⟩ (.slice none 0 0)) ⟨cb,4,none⟩ (.bool q)
 have hk4:=((k1.trans k2 fun _ _ e=>e).trans k3 fun _ _ e=>e).trans k4 fun _ _ e=>e
 have HK4:=zL8 hk4
 clear t1 e1 t2 e2 t3 e3 t4 e4 hk4 hK k1 k2 k3 k4
 go_upto_region 5 with fail
 obtain⟨W4,hW⟩: ∃V,(((w3.setCell ⟨cb,1,none⟩ (.slice oc2 nc cc2)).setCell ⟨cb,2,none⟩ (.slice ot2 nc ct2)).setCell ⟨cb,3,none⟩ (.slice none 0 0)).setCell ⟨cb,4,none⟩ (.bool q)=V:=⟨_,rfl⟩
 rw[hW]at HT4 HK4 ⊢
 clear hW f1 f2 f3 f4 fz hcl
 have HSP:=zL8 (zGr W4)
 have hcl:=HT4.out.bk.lt
 go_wp2_with fail
 refine HSP.out.mono ?_;rintro e w5 ⟨rfl,hsp,hb5⟩
 obtain⟨sb,hsb⟩: ∃sb,W4.heap.size=sb:=⟨_,rfl⟩
 rw[hsb]at hsp ⊢
 have hsl:=hsp.lt
 have HT5:=zL8 (HT4.out.same (hb5.block cb HT4.out.bk.lt) hb5.size)
 have hsc:cb<sb:=by omega
 have hq4:QuE W4 qb:=by
  have hl:=HQ4.out.lt
  have hb:W4.heap[qb]?=w3.heap[qb]?:=HK4.out.block qb hl (by have:=HQC.out;omega)
  exact⟨zMB hl HK4.out.size,(zMC (a:=⟨qb,0,none⟩) hb).trans HQ4.out.c0,(zMC (a:=⟨qb,1,none⟩) hb).trans HQ4.out.c1,fun o=>(zMD (w:=w3) (a:=⟨qb,o,none⟩) hb).trans (HQ4.out.fz o)⟩
 have HQ5:=zL8 (hq4.below hb5)
 have HB5:Hid (Below c w w5):=zL8 ((HB4.out.trans (HK4.out.below (k:=c) (by have:=HT3.out.bk.lt;have:=HQC.out;have:=HCL.out;omega) fun j hj e=>by have:=HQC.out;have:=HCL.out;omega)).trans (hb5.mono (by have:=HQC.out;have:=HCL.out;omega)))
 have HC5:Hid (nc=0∨nc=1∧ ∃pb l,oc2=some ⟨pb,0,none⟩∧cb<pb∧pb<sb∧CmP w5 pb l):=zL8 (by
  rcases HCS.out with ⟨h,_⟩|⟨h,pb,l',g,h1,h2,h3,_⟩
  ·exact .inl h
  ·have hpl:=h2.lt
   have h2':=h2.same (HK4.out.block pb hpl (by have:=HCB.out;omega)) HK4.out.size
   exact .inr ⟨h,pb,l',h1,by have:=HCB.out;omega,by have:=HK4.out.size;omega,h2'.same (hb5.block pb (by have:=HK4.out.size;omega)) hb5.size⟩)
 have HSP5:=zL8 hsp
 have HSC:=zL8 hsc
 obtain⟨L4,hL4⟩: ∃L,(((((zE0 wb qb).set 1 (1,.slice oc2 nc cc2)).set 2 (2,.slice ot2 nc ct2)).set 3 (3,.slice none 0 0)).set 4 (4,.bool q))=L:=⟨_,rfl⟩
 have g0:L4[0]?=some (0,.pointer none):=by rw[←hL4];rfl
 have g1:L4[1]?=some (1,.slice oc2 nc cc2):=by rw[←hL4];rfl
 have g7:L4[7]?=some (9,.pointer none):=by rw[←hL4];rfl
 rw[hL4]at HT5 HE4
 have HL4:=zL8 hL4
 clear hq4 hsp hsc hb5 HT4 HT3 HB4 HK4 HQ4 HCS HSP hcl hL4 hsb HCB
 have f0:=HT5.out.bk.get 0 g0
 have z0:=HT5.out.bk.fz 0
 have hcl:=HT5.out.bk.lt
 have hK:[0,1,2,3,4,5,8,9,122,266,267,268,269,270,271,272,273].Nodup:=by decide
 obtain⟨t6,e6⟩:=HT5.out.putK HE4.out hK 0 g0 (.pointer (some ⟨sb,0,none⟩))
 have k6:=zAb.setCell w5 ⟨cb,0,none⟩ (.pointer (some ⟨sb,0,none⟩))
 have hl0:0<L4.length:=(zMF.1 g0).1
 have g1':(L4.set 0 (0,.pointer (some ⟨sb,0,none⟩)))[1]?=some (1,.slice oc2 nc cc2):=by rw[List.getElem?_set_ne (by decide)];exact g1
 have g7':(L4.set 0 (0,.pointer (some ⟨sb,0,none⟩)))[7]?=some (9,.pointer none):=by rw[List.getElem?_set_ne (by decide)];exact g7
 have HT6:=zL8 t6
 have HE6:=zL8 e6
 have HK6:=zL8 k6
 have G1:=zL8 g1'
 have G7:=zL8 g7'
 clear hK t6 e6 k6 g0 g1 g7 g1' g7' hl0
 go_upto_region 6 with fail
 obtain⟨W6,hW⟩: ∃V,w5.setCell ⟨cb,0,none⟩ (.pointer (some ⟨sb,0,none⟩))=V:=⟨_,rfl⟩
 rw[hW]at HT6 HK6 ⊢
 clear hW f0 z0 hcl HE4
 have f1:=HT6.out.bk.get 1 G1.out
 have hcl:=HT6.out.bk.lt
 have hn1:nc≤1:=by rcases HC5.out with e|⟨e,_⟩<;>omega
 have HGA:=zL8 (zHP (w:=W6) hn1)
 clear hn1
 go_wp2_with fail
 refine HGA.out.mono ?_;rintro e w7 ⟨gb,og,cg,rfl,hg1,hg2,hg3,hb7⟩
 obtain⟨pb,hpb⟩: ∃pb,nc=0∨nc=1∧oc2=some ⟨pb,0,none⟩∧cb<pb∧pb<sb∧ ∃l,CmP w5 pb l:=by
  rcases HC5.out with h|⟨h,pb,l,h1,h2,h3,h4⟩
  ·exact⟨0,.inl h⟩
  ·exact⟨pb,.inr ⟨h,h1,h2,h3,l,h4⟩⟩
 have hw67: ∀k,k<w5.heap.size→k≠cb→w7.heap[k]?=w5.heap[k]?:=fun k hk hn=>(hb7.block k (zMB hk HK6.out.size)).trans (HK6.out.block k hk hn)
 have hs67:w5.heap.size≤w7.heap.size:=zMV HK6.out.size hb7.size
 have hk67:zAb w5 w7 (fun k=>k=cb):=HK6.out.trans (zAb.of_below hb7 (fun _=>False) fun j hj hj2=>absurd hj2 (by omega)) fun _ _ e=>e.elim
 have HN7:Hid (NeS w7 cb sb qb gb nc oc2 pb (L4.set 0 (0,.pointer (some ⟨sb,0,none⟩)))):=zL8 ⟨HT6.out.same (hb7.block cb HT6.out.bk.lt) hb7.size,HSP5.out.keep hk67 (by have:=HSC.out;omega) (fun x hx=>by cases hx),
  ⟨zMB HQ5.out.lt hs67,(zMC (a:=⟨qb,0,none⟩) (hw67 qb HQ5.out.lt (by have:=HQC.out;omega))).trans HQ5.out.c0,(zMC (a:=⟨qb,1,none⟩) (hw67 qb HQ5.out.lt (by have:=HQC.out;omega))).trans HQ5.out.c1,fun o=>(zMD (w:=w5) (a:=⟨qb,o,none⟩) (hw67 qb HQ5.out.lt (by have:=HQC.out;omega))).trans (HQ5.out.fz o)⟩,
  hg2,⟨og,cg,hg3⟩,by
   rcases hpb with h|⟨h,h1,h2,h3,l,h4⟩
   ·exact .inl h
   ·exact .inr ⟨h,h1,h2,h3,l,h4.same (hw67 pb h4.lt (by omega)) hs67⟩,HQC.out,HSC.out,by have:=HK6.out.size;omega⟩
 have HB7:Hid (Below c w w7):=zL8 (HB5.out.trans (hk67.below (k:=c) (by have:=HQC.out;have:=HCL.out;have:=HQ5.out.lt;omega) fun j hj e=>by have:=HQC.out;have:=HCL.out;omega))
 clear hpb hw67 hs67 hk67 hg1 hg2 hg3 hb7 f1 hcl HK6 HT6 HC5 HB5 HSP5 HQ5 HGA HT5 hsl
 have f9:=HN7.out.tb.bk.get 7 G7.out
 have z9:=HN7.out.tb.bk.fz 9
 have hcl:=HN7.out.tb.bk.lt
 have hK:[0,1,2,3,4,5,8,9,122,266,267,268,269,270,271,272,273].Nodup:=by decide
 obtain⟨t8,e8⟩:=HN7.out.tb.putK HE6.out hK 7 G7.out (.pointer (some ⟨gb,0,none⟩))
 have k8:=zAb.setCell w7 ⟨cb,9,none⟩ (.pointer (some ⟨gb,0,none⟩))
 have HN8:=zL8 (HN7.out.tbl (fun k _ hn=>zMI _ _ _ _ hn) k8.size k8 t8)
 have HB8:=zL8 (HB7.out.setCell (p:=⟨cb,9,none⟩) (by show c≤cb;have:=HQC.out;have:=HCL.out;omega) (.pointer (some ⟨gb,0,none⟩)))
 have g1:((L4.set 0 (0,.pointer (some ⟨sb,0,none⟩))).set 7 (9,.pointer (some ⟨gb,0,none⟩)))[1]?=some (1,.slice oc2 nc cc2):=by rw[List.getElem?_set_ne (by decide)];exact G1.out
 have G1:=zL8 g1
 clear hK t8 e8 k8 g1
 go_upto_region 7 with fail
 obtain⟨W8,hW⟩: ∃V,w7.setCell ⟨cb,9,none⟩ (.pointer (some ⟨gb,0,none⟩))=V:=⟨_,rfl⟩
 rw[hW]at HN8 HB8 ⊢
 clear hW f9 z9 hcl HN7 HB7
 obtain⟨L5,hL5⟩: ∃L,(L4.set 0 (0,.pointer (some ⟨sb,0,none⟩))).set 7 (9,.pointer (some ⟨gb,0,none⟩))=L:=⟨_,rfl⟩
 rw[hL5]at HN8 G1
 have HL5:=zL8 hL5
 clear hL5
 have f1:=HN8.out.tb.bk.get 1 G1.out
 have hcl:=HN8.out.tb.bk.lt
 go_wp2_with fail
 clear f1 hcl HE6 G7
 go_loopg [57] (nc+1) (fun gk kv wr=> ∃i:Nat,kv= .int .i64 (i:Nat)∧gk=nc+1 - i∧i≤nc∧Below W8.heap.size W8 wr)
 case atStart=>exact⟨0,rfl,rfl,Nat.zero_le _,zL9 _ _⟩
 case round=>
 obtain⟨i,rfl,hgk,hin,hbw⟩:=hrel
 have HGK:=zL8 hgk
 have HIN:=zL8 hin
 have HBW:=zL8 hbw
 clear hgk hin hbw
 have HN:=zL8 (HN8.out.below HBW.out)
 by_cases hi:i<nc
 ·obtain⟨rfl,rfl,_,_,l2,hcm⟩:nc=1∧oc2=some ⟨pb,0,none⟩∧cb<pb∧pb<sb∧ ∃l,CmP wr pb l:=by
   rcases HN.out.cm with e|e
   ·omega
   ·exact e
  obtain rfl:i=0:=by omega
  have HC:=zL8 hcm
  have HRG:=zL8 hcm.row
  clear hcm hi
  have HCI:Hid ((Tryz.prog.info? 71).map (·.size)=some l2.length):=zL8 (by rw[HC.out.cl.len];exact zAd)
  have HSZ:=zL8 (zA2 HC.out.cl)
  have HSO:Hid (Tryz.zeroCells71.size=l2.toArray.size):=zL8 (by rw[←Array.length_toList,List.size_toArray,zAo,HC.out.cl.len])
  have HON:Hid (l2.toArray.all (·.oneCell')=true):=zL8 (by rw[←Array.all_toList,List.all_eq_true];simpa using HC.out.cl.one)
  have HHN:=zL8 (zML wr (.cells Tryz.zeroCells71 71))
  have hbe:Below wr.heap.size wr ((wr.alloc (.cells Tryz.zeroCells71 71)).setRow wr.heap.size l2.toArray):=zAv ((zL9 _ _).alloc (zMA _) _) (zMA _) _
  have HE:Hid (CmB ((wr.alloc (.cells Tryz.zeroCells71 71)).setRow wr.heap.size l2.toArray) wr.heap.size l2):=zL8 ⟨setRow_heap _ _ _ _ _ _ HHN.out,HC.out.cl⟩
  have HBE:=zL8 hbe
  clear hbe
  go_upto_region 10 with (first|refine wpList_load_mid rfl 71 _ rfl pb 0 rfl l2 _ HRG.out Tryz.underlying71 rfl HCI.out ?_|refine wpList_store_row rfl 71 _ _ rfl wr.heap.size l2.toArray rfl rfl _ _ HHN.out HSZ.out HSO.out HON.out ?_)
  obtain⟨X1,hX⟩: ∃X,(wr.alloc (.cells Tryz.zeroCells71 71)).setRow wr.heap.size l2.toArray=X:=⟨_,rfl⟩
  rw[hX]at HE HBE ⊢
  have HBF:Hid (Below W8.heap.size W8 X1):=zL8 (HBW.out.trans (HBE.out.mono HBW.out.size))
  obtain⟨e,he⟩: ∃e,wr.heap.size=e:=⟨_,rfl⟩
  rw[he]at HE ⊢
  clear hX he HRG HHN HSO HON HBE
  have k2:X1.cell? ⟨e,2,none⟩=some (.slice none 0 0):=(HE.out.cell 2).trans (HC.out.r 2 (.inl rfl))
  have k5:X1.cell? ⟨e,5,none⟩=some (.slice none 0 0):=(HE.out.cell 5).trans (HC.out.r 5 (.inr (.inl rfl)))
  have k10:X1.cell? ⟨e,10,none⟩=some (.slice none 0 0):=(HE.out.cell 10).trans (HC.out.r 10 (.inr (.inr rfl)))
  have hel:=HE.out.lt
  go_wp2_with fail
  have hq: ∀j,j<3→(X1.alloc (.cells #[.slice none 0 0,.slice none 0 0,.slice none 0 0] 64)).cell? ⟨X1.heap.size,j,none⟩=some (.slice none 0 0):=fun j hj=>by
   rw[zAL]
   rcases(show j=0∨j=1∨j=2 by omega)with rfl|rfl|rfl<;>rfl
  have HQ:=zL8 hq
  have HXL:=zL8 (zAl X1 (.cells #[.slice none 0 0,.slice none 0 0,.slice none 0 0] 64))
  have HBG:=zL8 (HBF.out.alloc HBF.out.size (.cells #[.slice none 0 0,.slice none 0 0,.slice none 0 0] 64))
  obtain⟨X2,hX⟩: ∃X,X1.alloc (.cells #[.slice none 0 0,.slice none 0 0,.slice none 0 0] 64)=X:=⟨_,rfl⟩
  rw[hX]at HQ HBG HXL ⊢
  obtain⟨r,hr⟩: ∃r,X1.heap.size=r:=⟨_,rfl⟩
  rw[hr]at HQ HXL ⊢
  clear hX hr hq k2 k5 k10 hel HE HBF
  go_loopg [72] 4 (fun gk kv wr=> ∃j:Nat,kv= .int .i64 (j:Nat)∧gk=4 - j∧j≤3∧wr=X2)
  case atStart=>exact⟨0,rfl,rfl,by decide,rfl⟩
  case round=>
  obtain⟨j,rfl,hgk,hj,hwr⟩:=hrel
  have HGK2:=zL8 hgk
  have HJ:=zL8 hj
  clear hgk hj
  subst hwr
  by_cases hj3:j<3
  ·have hj':(j:Int)<3:=by omega
   have kj:=HQ.out j hj3
   have hxl:=HXL.out
   go_wp2_with fail
   go_roundg (4 - (j+1))
   case measure=>have:=HGK2.out;omega
   case rel=>exact⟨j+1,by go_num,rfl,by omega,rfl⟩
  have hj': ¬(j:Int)<3:=by omega
  go_wp2_with fail
  go_roundg 1
  case measure=>have:=HGK.out;omega
  case rel=>exact⟨1,rfl,rfl,by decide,HBG.out⟩
 obtain rfl:i=nc:=by have:=HIN.out;omega
 clear hi
 have hii: ¬(i:Int)<(i:Int):=by omega
 obtain⟨k0,hk0⟩: ∃k0:CK,k0=⟨sb,wb,qb,gb,0,cb,pb,oc2,i,cc2,q⟩:=⟨_,rfl⟩
 have hmem: ∀p∈zDl k0 ⟨false,-1,0,0,0,false⟩,p∈L5:=by
  rw[←HL5.out,←HL4.out,hk0]
  intro p hp
  simp only[zDl,zCX,zE0,List.set_cons_zero,List.set_cons_succ,List.mem_cons,List.not_mem_nil,or_false]at hp ⊢
  rcases hp with h|h|h|h|h|h|h|h|h|h|h|h|h|h|h<;>simp[h]
 have hT:TbP wr k0.cb (zDl k0 ⟨false,-1,0,0,0,false⟩):=by
  rw[hk0]at hmem ⊢
  exact⟨⟨HN.out.tb.bk.lt,fun p hp=>HN.out.tb.bk.fx p (hmem p hp),HN.out.tb.bk.fz⟩,HN.out.tb.ex⟩
 have HTB:=zL8 (zDq hT)
 rw[show k0.cb=cb by rw[hk0]]at HTB
 have HK0:=zL8 hk0
 clear hk0 hmem hT
 go_wp2_with fail
 refine HTB.out.mono ?_;rintro e w9 ⟨rfl,hbk,hkt⟩
 have HBK:=zL8 hbk
 have HKT:=zL8 hkt
 clear hbk hkt HTB
 go_wp2_with fail
 go_ret2
 obtain rfl:=HK0.out
 have hbk:=HBK.out
 have hkt:=HKT.out
 have hn:=HN.out
 have hba:Below w9.heap.size w9 (w9.alloc (.cells #[.pointer (some ⟨cb,0,none⟩)] 54)):=(zL9 _ _).alloc (zMA _) _
 have bl: ∀x,x<wr.heap.size→x≠cb→(w9.alloc (.cells #[.pointer (some ⟨cb,0,none⟩)] 54)).heap[x]?=wr.heap[x]?:=fun x hx hne=>(hba.block x (zMB hx hkt.size)).trans (hkt.block x hx hne)
 have hs:wr.heap.size≤(w9.alloc (.cells #[.pointer (some ⟨cb,0,none⟩)] 54)).heap.size:=zMV hkt.size hba.size
 have h1:=hn.o1
 have h2:=hn.o2
 have h3:=hn.o3
 have h4:=hn.gl
 have hkz:=hkt.size
 have hB:Below c w (w9.alloc (.cells #[.pointer (some ⟨cb,0,none⟩)] 54)):=((HB8.out.trans (HBW.out.mono (by have:=HCL.out;have:=HN8.out.gl;have:=HN8.out.o1;omega))).trans (hkt.below (k:=c) (by have:=HCL.out;omega) fun j hj e=>by have:=HCL.out;omega)).trans (hba.mono (by have:=HCL.out;omega))
 have hsp:zFK (w9.alloc (.cells #[.pointer (some ⟨cb,0,none⟩)] 54)) sb [] none:=(hn.sp.keep hkt (by omega) fun x hx=>by cases hx).below hba
 refine⟨⟨⟨sb,wb,qb,gb,w9.heap.size,cb,pb,oc2,i,cc2,q⟩,rfl,⟨zAl _ _,zAL _ _ _ 0,hbk.same (hba.block cb hbk.lt) hba.size,hsp,⟨by show qb<_;omega,(zMC (a:=⟨qb,0,none⟩) (bl qb (by omega) (by omega))).trans hn.qu.c0,(zMC (a:=⟨qb,1,none⟩) (bl qb (by omega) (by omega))).trans hn.qu.c1,fun o=>(zMD (w:=wr) (a:=⟨qb,o,none⟩) (bl qb (by omega) (by omega))).trans (hn.qu.fz o)⟩,?_,fun e=>?_,⟨h1,h2,h3,by show gb<w9.heap.size;omega⟩,fun x hx=>(by cases hx),?_⟩,rfl,rfl,rfl,by rw[HCZ.out];show c≤qb;have:=HCL.out;omega⟩,by rw[HCZ.out];exact hB⟩
 ·obtain⟨og',cg',e⟩:=hn.ga
  exact⟨og',cg',(zMC (a:=⟨gb,0,none⟩) (bl gb (by omega) (by omega))).trans e⟩
 ·rcases hn.cm with e1|⟨_,e1,e2,e3,l',e4⟩
  ·exact absurd e (by show¬i=1;omega)
  ·exact⟨e1,e2,e3,l',e4.same (bl pb (by omega) (by omega)) hs⟩
 ·rcases hn.cm with e1|⟨e1,_⟩
  ·exact .inl e1
  ·exact .inr e1
end
end
section
open Go.RowKit
theorem zLI:ElT Tryz.prog 150 187 7 56 (.agg #[.int .i8 0,.int .u64 0,.int .u64 0,.int .u64 0,.int .u64 0,.int .i64 0,.int .i64 0]):=⟨Tryz.underlying150,by kernel_rfl,rfl,by decide⟩
theorem zCi (op x0 x1 x2 x3 X Y:Int): ∀u∈[Value.int .i8 op,.int .u64 x0,.int .u64 x1,.int .u64 x2,.int .u64 x3,.int .i64 X,.int .i64 Y],u.oneCell'=true:=fun u hu=>by
 simp only[List.mem_cons,List.not_mem_nil,or_false]at hu
 rcases hu with rfl|rfl|rfl|rfl|rfl|rfl|rfl<;>rfl
structure InS (w0 w:World) (c mb base k:Nat) (v:Value):Prop where
 B:Below c w0 w
 c0:w.cell? ⟨mb,0,none⟩=some v
 fz: ∀o,w.frozen? ⟨mb,o,none⟩=false
 row: ∃xs,w.ownsRow base 187 7 v k xs
 o1:c≤mb
 o2:mb<base
 le:base≤w.heap.size
def InX (w0 w:World) (c mb base k:Nat):Prop:= ∃v,InS w0 w c mb base k v
structure Stm (mb:Nat) (w w':World):Prop where
 le:w.heap.size≤w'.heap.size
 at_: ∀(g:Nat) (cs:Array Value) (e:TypeId) (f:Nat × Nat),e≠187→g≠mb→w.heap[g]?=some (.cells cs e f)→w'.heap[g]?=some (.cells cs e f)
section
variable {w0 w w' w2:World} {c mb base k:Nat} {v:Value}
theorem zKe {v:Value} {n:Nat} {xs:List Value} (h:Src w v n xs) (hb:Below w.heap.size w w'):Src w' v n xs:=by
 rcases h with h|⟨a,c,h1,h2⟩
 ·exact .inl h
 ·exact .inr ⟨a,c,h1,fun j u hj=>(hb.cell (zMf _ _ (h2 j u hj))).trans (h2 j u hj)⟩
theorem Stm.refl:Stm mb w w:=⟨zMA _,fun _ _ _ _ _ _ h=>h⟩
theorem Stm.trans (h:Stm mb w w') (k:Stm mb w' w2):Stm mb w w2:=⟨zMV h.le k.le,fun g cs e f h1 h2 h3=>k.at_ g cs e f h1 h2 (h.at_ g cs e f h1 h2 h3)⟩
theorem Stm.below (h:Below w.heap.size w w'):Stm mb w w':=⟨h.size,fun g _ _ _ _ _ h3=>(h.block g (zMG.1 h3).1).trans h3⟩
theorem Stm.set (x:Value) (o:Nat):Stm mb w (w.setCell ⟨mb,o,none⟩ x):=⟨by simp[World.setCell],fun g _ _ _ _ h2 h3=>(zMI _ _ _ _ (by show g≠mb;exact h2)).trans h3⟩
theorem Stm.grown {n:Nat} {xs:List Value} (ho:w.ownsRow base 187 7 v n xs) (hg:w.grownBy w' v.ownBlock):Stm mb w w':=⟨hg.size,fun g _ _ _ h1 _ h3=>by
 have hlt:=(zMG.1 h3).1
 refine(hg.block g hlt fun he=>?_).trans h3
 rcases ho.2 with ⟨rfl,_⟩|⟨g',cap,cur,rfl,_,h4,_⟩
 ·cases he
 ·cases he
  rw[h3]at h4
  cases h4
  exact h1 rfl⟩
theorem InS.lt (h:InS w0 w c mb base k v):mb<w.heap.size:=zMB h.o2 h.le
theorem InS.below (h:InS w0 w c mb base k v) (hb:Below w.heap.size w w'):InS w0 w' c mb base k v:=
 ⟨h.B.trans (hb.mono (by have:=h.lt;have:=h.o1;omega)),(hb.cell (p:=⟨mb,0,none⟩) h.lt).trans h.c0,fun o=>(zMD (w:=w) (a:=⟨mb,o,none⟩) (hb.block mb h.lt)).trans (h.fz o),by
  obtain⟨xs,e⟩:=h.row
  exact⟨xs,zAQ e (.below hb)⟩,h.o1,h.o2,zMV h.le hb.size⟩
theorem InX.below (h:InX w0 w c mb base k) (hb:Below w.heap.size w w'):InX w0 w' c mb base k:=by
 obtain⟨v,h⟩:=h
 exact⟨v,h.below hb⟩
theorem InX.b (h:InX w0 w c mb base k):Below c w0 w:=by
 obtain⟨v,h⟩:=h
 exact h.B
theorem InS.push {n:Nat} {v':Value} {xs:List Value} (h:InS w0 w c mb base k v) (hg:w.grownBy w' v.ownBlock) (ho:w'.ownsRow base 187 7 v' n xs):
  InX w0 (w'.setCell ⟨mb,0,none⟩ v') c mb base n∧Stm mb w (w'.setCell ⟨mb,0,none⟩ v')∧w'.cell? ⟨mb,0,none⟩=some v∧(∀o,w'.frozen? ⟨mb,o,none⟩=false)∧mb<w'.heap.size:=by
 obtain⟨xs0,e0⟩:=h.row
 have hbl:w'.heap[mb]?=w.heap[mb]?:=hg.block mb h.lt fun he=>by
  have:=(World.ownsRow.lt e0 mb he.symm).1
  have:=h.o2
  omega
 have hB:Below c w0 w':=h.B.grown hg (by have:=h.lt;have:=h.o1;omega) (fun j hj=>by
  have:=(World.ownsRow.lt e0 j hj).1
  have:=h.o1
  have:=h.o2
  omega)
 have hc:w'.cell? ⟨mb,0,none⟩=some v:=(zMC (a:=⟨mb,0,none⟩) hbl).trans h.c0
 refine⟨⟨v',hB.setCell (p:=⟨mb,0,none⟩) h.o1 _,zMR _ _ _ hc,fun o=>?_,⟨xs,zAQ ho (Kb.set h.o2 _ _)⟩,h.o1,h.o2,?_⟩,(Stm.grown e0 hg).trans (Stm.set _ _),hc,fun o=>(zMD (w:=w) (a:=⟨mb,o,none⟩) hbl).trans (h.fz o),zMB h.lt hg.size⟩
 ·exact(World.frozen?_setCell _ _ _ _).trans ((zMD (w:=w) (a:=⟨mb,o,none⟩) hbl).trans (h.fz o))
 ·have:=hg.size
  have:=h.le
  simp only[World.setCell,Array.size_modify]
  omega
theorem zDD {op x0 x1 x2 x3 X Y:Int} (h:InX w0 w c mb base k) (hk:k≤1000000):
  Calls Tryz.prog 115 #[.agg #[.int .i8 op,.int .u64 x0,.int .u64 x1,.int .u64 x2,.int .u64 x3,.int .i64 X,.int .i64 Y],.pointer (some ⟨mb,0,none⟩)] w fun e w'=>e= .returned (.int .i64 (k:Nat))∧InX w0 w' c mb base (k+1)∧Stm mb w w':=by
 obtain⟨v,h⟩:=h
 have HI:=zL8 h
 have hks:(k:Int)≤1000000:=by omega
 have HK:=zL8 hk
 have ha1:Below w.heap.size w (w.alloc (.cells #[.int .i8 op,.int .u64 x0,.int .u64 x1,.int .u64 x2,.int .u64 x3,.int .i64 X,.int .i64 Y] 187)):=(zL9 _ _).alloc (zMA _) _
 have ha2:Below w.heap.size w ((w.alloc (.cells #[.int .i8 op,.int .u64 x0,.int .u64 x1,.int .u64 x2,.int .u64 x3,.int .i64 X,.int .i64 Y] 187)).alloc (.cells #[.int .i8 op,.int .u64 x0,.int .u64 x1,.int .u64 x2,.int .u64 x3,.int .i64 X,.int .i64 Y] 187)):=ha1.alloc ha1.size _
 have HI2:=zL8 (h.below ha2)
 have HST:=zL8 (Stm.below (mb:=mb) ha2)
 have c0:=h.c0
 have hl:=h.lt
 clear h hk ha1 ha2
 go_enter Tryz.func115,Tryz.ntmps115
 obtain⟨xs,hrow⟩:=HI2.out.row
 have HRW:=zL8 hrow
 clear hrow
 have hso:=Src.new (w.alloc (.cells #[.int .i8 op,.int .u64 x0,.int .u64 x1,.int .u64 x2,.int .u64 x3,.int .i64 X,.int .i64 Y] 187)) [.int .i8 op,.int .u64 x0,.int .u64 x1,.int .u64 x2,.int .u64 x3,.int .i64 X,.int .i64 Y] 187 1 1
 have e1:(w.alloc (.cells #[.int .i8 op,.int .u64 x0,.int .u64 x1,.int .u64 x2,.int .u64 x3,.int .i64 X,.int .i64 Y] 187)).heap.size=w.heap.size+1:=by simp
 rw[e1]at hso
 have HSO:=zL8 hso
 clear hso e1
 obtain⟨ov,kv,rfl⟩:=zAI HRW.out
 go_wp2_with (at_builtin;refine zAN zLI rfl _ _ rfl base (n:=k) (m:=1) (xs:=xs) rfl HRW.out rfl HSO.out rfl (zCi _ _ _ _ _ _ _) (by unfold maxLen;omega) (by omega) HI2.out.le ?_)
 intro v2 w3 hown hgr _
 obtain⟨o2,k2,rfl⟩:=zAI hown
 obtain⟨p1,p2,c0,fz,hl⟩:=HI2.out.push hgr hown
 have HX:=zL8 p1
 have HS:=zL8 (HST.out.trans p2)
 have d0:(w3.setCell ⟨mb,0,none⟩ (.slice o2 (k+1) k2)).cell? ⟨mb,0,none⟩=some (.slice o2 (k+1) k2):=zMR _ _ _ c0
 have hdl:mb<(w3.setCell ⟨mb,0,none⟩ (.slice o2 (k+1) k2)).heap.size:=by simpa [World.setCell]using hl
 clear p1 p2 hown hgr
 go_upto_region 2 with fail
 obtain⟨W,hW⟩: ∃W,w3.setCell ⟨mb,0,none⟩ (.slice o2 (k+1) k2)=W:=⟨_,rfl⟩
 rw[hW]at HX HS d0 hdl ⊢
 clear hW c0 fz hl
 go_wp2_with fail
 go_ret
 exact⟨by simp,HX.out,HS.out⟩
theorem InX.put {j:Nat} {x:Value} (h:InX w0 w c mb base k) (hj:j<k*7): ∃g kv u,InS w0 w c mb base k (.slice (some ⟨g,0,none⟩) k kv)∧w.cell? ⟨g,j,none⟩=some u∧w.frozen? ⟨g,j,none⟩=false∧g<w.heap.size∧InX w0 (w.setCell ⟨g,j,none⟩ x) c mb base k∧Stm mb w (w.setCell ⟨g,j,none⟩ x):=by
 obtain⟨v,h⟩:=h
 obtain⟨xs,e⟩:=h.row
 obtain⟨o,kv,rfl⟩:=zAI e
 obtain⟨_,g,rfl,hg,hc,hf⟩:=zAZ e (by omega)
 obtain⟨u,_,hu⟩:=hc j hj
 have hlt:=World.ownsRow.lt e g rfl
 have hm:g≠mb:=by have:=h.o2;omega
 have hs:w.heap.size≤(w.setCell ⟨g,j,none⟩ x).heap.size:=by simp[World.setCell]
 have hb:(w.setCell ⟨g,j,none⟩ x).heap[mb]?=w.heap[mb]?:=zMI _ _ _ _ (by show mb≠g;omega)
 refine⟨g,kv,u,h,hu,hf j,hg,⟨_,h.B.setCell (p:=⟨g,j,none⟩) (by have:=h.o1;have:=h.o2;show c≤g;omega) _,(zMC (a:=⟨mb,0,none⟩) hb).trans h.c0,fun o=>(zMD (w:=w) (a:=⟨mb,o,none⟩) hb).trans (h.fz o),⟨_,(zMW e j x).1⟩,h.o1,h.o2,zMV h.le hs⟩,hs,fun g' cs e' f h1 _ h3=>?_⟩
 refine(zMI _ _ _ _ (fun he=>?_)).trans h3
 have he:g'=g:=he
 subst he
 rcases e.2 with ⟨h,_⟩|⟨g2,cap,cur,h2,_,h4,_⟩
 ·cases h
 ·cases h2
  rw[h3]at h4
  cases h4
  exact h1 rfl
theorem InX.ints {b2 n:Nat} {xs:List Value} (h:InX w0 w c mb base k) (ho:w.ownsRow b2 3 1 v n xs) (hb2:base≤b2) (hg:w.grownBy w' v.ownBlock):InX w0 w' c mb base k:=by
 obtain⟨v1,h⟩:=h
 obtain⟨xs1,e1⟩:=h.row
 have hlt: ∀j,v.ownBlock=some j→b2≤j:=fun j hj=>(World.ownsRow.lt ho j hj).1
 have hb:w'.heap[mb]?=w.heap[mb]?:=hg.block mb h.lt fun he=>by
  have:=hlt mb he.symm
  have:=h.o2
  omega
 exact⟨v1,h.B.grown hg (by have:=h.lt;have:=h.o1;omega) (fun j hj=>by have:=hlt j hj;have:=h.o1;have:=h.o2;omega),(zMC (a:=⟨mb,0,none⟩) hb).trans h.c0,fun o=>(zMD (w:=w) (a:=⟨mb,o,none⟩) hb).trans (h.fz o),⟨xs1,zAc e1 (by decide) (zCl.grown ho hg)⟩,h.o1,h.o2,zMV h.le hg.size⟩
theorem Stm.ints {b2 n:Nat} {xs:List Value} (h:Stm mb w w') (ho:w'.ownsRow b2 3 1 v n xs) (hb2:w.heap.size≤b2) (hg:w'.grownBy w2 v.ownBlock):Stm mb w w2:=⟨zMV h.le hg.size,fun g cs e f h1 h2 h3=>by
 have hlt:=(zMG.1 h3).1
 exact(hg.block g (zMB hlt h.le) fun he=>by
  have:=(World.ownsRow.lt ho g he.symm).1
  omega).trans (h.at_ g cs e f h1 h2 h3)⟩
theorem zBs {b2 n size:Nat} {e:TypeId} {xs:List Value} (h:w.ownsRow b2 e size v n xs) (he:e≠187) (hm:mb<b2) (k:Stm mb w w'):w'.ownsRow b2 e size v n xs:=zAK h fun g hg=>by
 have hlt:=World.ownsRow.lt h g hg
 rcases h.2 with ⟨rfl,_⟩|⟨g2,cap,cur,rfl,_,h2,_⟩
 ·cases hg
 ·cases hg
  exact(k.at_ _ _ _ _ he (by omega) h2).trans h2.symm
def zLl (w0 w:World) (c mb base m K nb ab:Nat):Prop:= ∀(X:World) (k:Nat),InX w0 X c mb base k→k+m≤K→Stm mb w X→Calls Tryz.prog 118 #[.pointer (some ⟨nb,0,none⟩),.pointer (some ⟨ab,0,none⟩)] X fun e X'=>e= .returned (.tuple #[])∧(∃k',k≤k'∧k'≤k+m∧InX w0 X' c mb base k')∧Stm mb X X'
end
end
section
open Go.RowKit
section
variable {w0 w w' w2:World} {c mb base k:Nat}
theorem zFa {m K nb ab mn R:Nat} {mx op x0 x1 x2 x3 xn kd:Int} (h:InX w0 w c mb base k) (hone:zLl w0 w c mb base m K nb ab) (hR:(mx= -1∧R=m+2)∨ ∃ex:Nat,mx=(mn:Nat)+(ex:Int)∧R=ex*(m+1)) (hmn:mn≤255) (hmx:mx≤255) (hK:k+mn*m+R≤K) (hK2:K≤1000000):
  Calls Tryz.prog 117 #[.pointer (some ⟨mb,0,none⟩),.agg #[.int .i8 op,.int .u64 x0,.int .u64 x1,.int .u64 x2,.int .u64 x3,.int .i64 xn,.int .i64 (mn:Nat),.int .i64 mx,.int .i64 kd],.func (.func 118) #[] #[.pointer (some ⟨nb,0,none⟩),.pointer (some ⟨ab,0,none⟩)]] w fun e w'=>e= .returned (.tuple #[])∧(∃k',k≤k'∧k'≤k+mn*m+R∧InX w0 w' c mb base k')∧Stm mb w w':=by
 have hba:Below w.heap.size w (w.alloc (.cells #[.int .i8 op,.int .u64 x0,.int .u64 x1,.int .u64 x2,.int .u64 x3,.int .i64 xn,.int .i64 (mn:Nat),.int .i64 mx,.int .i64 kd] 127)):=(zL9 _ _).alloc (zMA _) _
 have HI:=zL8 (h.below hba)
 have HS:=zL8 (Stm.below (mb:=mb) hba)
 have HN:=zL8 (zML w (.cells #[.int .i8 op,.int .u64 x0,.int .u64 x1,.int .u64 x2,.int .u64 x3,.int .i64 xn,.int .i64 (mn:Nat),.int .i64 mx,.int .i64 kd] 127))
 have HO:=zL8 hone
 have HR:=zL8 hR
 have HK:=zL8 (And.intro hK (And.intro hK2 (And.intro hmn hmx)))
 have HML:Hid (mb<w.heap.size):=zL8 (by obtain⟨v,h⟩:=h;exact h.lt)
 have hmn2:(mn:Int)≤255:=by omega
 have HBL0:Hid (base≤w.heap.size):=zL8 (by obtain⟨v,h⟩:=h;exact h.le)
 have hbs:=hba.size
 have HBL:=zL8 (zMV HBL0.out hbs)
 clear h hone hR hba hK hK2 hbs HBL0
 go_enter Tryz.func117,Tryz.ntmps117
 go_upto_region 1 with fail
 obtain⟨W,hW⟩: ∃W,w.alloc (.cells #[.int .i8 op,.int .u64 x0,.int .u64 x1,.int .u64 x2,.int .u64 x3,.int .i64 xn,.int .i64 (mn:Nat),.int .i64 mx,.int .i64 kd] 127)=W:=⟨_,rfl⟩
 rw[hW]at HI HS HN HBL ⊢
 obtain⟨b,hb⟩: ∃b,w.heap.size=b:=⟨_,rfl⟩
 have HBZ:=zL8 hb
 rw[hb]at HN HML ⊢
 clear hW hb
 have HC:Hid (∀(X:World),Stm mb W X→X.heap[b]?=some (.cells #[.int .i8 op,.int .u64 x0,.int .u64 x1,.int .u64 x2,.int .u64 x3,.int .i64 xn,.int .i64 (mn:Nat),.int .i64 mx,.int .i64 kd] 127 (0,0))):=zL8 fun X hX=>hX.at_ b _ _ _ (by decide) (by have:=HML.out;omega) HN.out
 have c6:W.cell? ⟨b,6,none⟩=some (.int .i64 (mn:Nat)):=zMN _ _ 6 _ _ (0,0) HN.out
 have hbl:b<W.heap.size:=zMf _ _ c6
 go_wp2_with fail
 clear c6 hbl
 go_loopg [12] mn (fun gk kv wr=> ∃(i k':Nat),kv= .int .i64 (i:Nat)∧gk=mn - i∧i≤mn∧k≤k'∧Hid (k'≤k+i*m)∧InX w0 wr c mb base k'∧Stm mb W wr)
 case atStart=>exact⟨0,k,rfl,rfl,Nat.zero_le _,zMA _,zL8 (by omega),HI.out,Stm.refl⟩
 case round=>
 obtain⟨i,k1,rfl,hg,hin,hk1,HK1,hx,hs⟩:=hrel
 have HG:=zL8 hg
 have HX:=zL8 hx
 have HS1:=zL8 hs
 have HKL:=zL8 hk1
 clear hg hx hs hk1 HI
 by_cases hlt:i<mn
 ·have hlt':(i:Int)<(mn:Int):=by omega
  have HKM:Hid (k1+m≤K):=zL8 (by
   have h1:=HK1.out
   have h2:=HK.out.1
   have h3:i*m+m≤mn*m:=by rw[←Nat.succ_mul];exact zMh _ hlt
   omega)
  have HE:=zL8 (HO.out wr k1 HX.out HKM.out (HS.out.trans HS1.out))
  go_wp2_with fail
  refine HE.out.mono ?_;rintro e w3 ⟨rfl,⟨k2,h1,h2,h3⟩,h4⟩
  have HX2:=zL8 h3
  have HS2:=zL8 (HS1.out.trans h4)
  have HK2:Hid (k2≤k+(i+1)*m):=zL8 (by have:=HK1.out;rw[Nat.succ_mul];omega)
  have HKL2:Hid (k≤k2):=zL8 (by have:=HKL.out;omega)
  clear h1 h2 h3 h4 HE
  go_wp2_with fail
  go_roundg (mn - (i+1))
  case measure=>have:=HG.out;omega
  case rel=>exact⟨i+1,k2,by go_num,rfl,by omega,HKL2.out,HK2,HX2.out,HS2.out⟩
 obtain rfl:i=mn:=by omega
 have hlt': ¬(i:Int)<(i:Int):=by omega
 have hnd:=HC.out wr HS1.out
 have c7:wr.cell? ⟨b,7,none⟩=some (.int .i64 mx):=zMN _ _ 7 _ _ (0,0) hnd
 have hbl:b<wr.heap.size:=zMf _ _ c7
 clear hnd
 by_cases hneg:mx= -1
 ·subst hneg
  rcases HR.out with ⟨_,hr⟩|⟨ex,hr,_⟩
  case inr=>omega
  have HRM:=zL8 hr
  clear hr
  have HKB0:Hid (k1+m+2≤K):=zL8 (by have:=HK1.out;have:=HK.out.1;have:=HRM.out;omega)
  obtain⟨v1,hi1⟩:=HX.out
  obtain⟨xs1,hr1⟩:=hi1.row
  obtain⟨o1,kv1,rfl⟩:=zAI hr1
  have c0:=hi1.c0
  have hml:=hi1.lt
  clear hi1 hr1
  go_upto_region 7 with fail
  clear c0 hml c7 hbl
  obtain⟨v0,hi0⟩:=HX.out
  have ha:Below wr.heap.size wr (wr.alloc (.cells #[.int .i8 5,.int .u64 0,.int .u64 0,.int .u64 0,.int .u64 0,.int .i64 ((k1:Int)+1),.int .i64 0] 187)):=(zL9 _ _).alloc (zMA _) _
  have HIA:=zL8 (hi0.below ha)
  have HSA:=zL8 (HS1.out.trans (Stm.below ha))
  obtain⟨xs0,hr0⟩:=HIA.out.row
  have HRW:=zL8 hr0
  obtain⟨ov,kv,rfl⟩:=zAI hr0
  have HSO:=zL8 (Src.new wr [.int .i8 5,.int .u64 0,.int .u64 0,.int .u64 0,.int .u64 0,.int .i64 ((k1:Int)+1),.int .i64 0] 187 1 1)
  have HKB:Hid (k1≤1000000):=zL8 (by have:=HK.out.1;have:=HK.out.2.1;have:=HKB0.out;omega)
  have c0:=hi0.c0
  have hml:=hi0.lt
  have hkb:((k1:Nat):Int)≤1000000:=by have:=HKB.out;omega
  clear hi0 ha hr0
  go_wp2_with (at_builtin;refine zAN zLI rfl _ _ rfl base (n:=k1) (m:=1) (xs:=xs0) rfl HRW.out rfl HSO.out rfl (zCi _ _ _ _ _ _ _) (by have:=HKB.out;unfold maxLen;omega) (by have:=HKB.out;omega) HIA.out.le ?_)
  intro v2 w3 hown hgr _
  obtain⟨o2,kv2,rfl⟩:=zAI hown
  obtain⟨p1,p2,c0,fz,hml⟩:=HIA.out.push hgr hown
  have HXN:=zL8 p1
  have HSN:=zL8 (HSA.out.trans p2)
  clear p1 p2 hown hgr HRW HSO HIA HSA
  go_upto_region 8 with fail
  obtain⟨V,hV⟩: ∃V,w3.setCell ⟨mb,0,none⟩ (.slice o2 (k1+1) kv2)=V:=⟨_,rfl⟩
  rw[hV]at HXN HSN ⊢
  clear hV c0 fz hml hkb
  rename World=>V1
  have HE:=zL8 (HO.out V1 (k1+1) HXN.out (by have:=HKB0.out;omega) (HS.out.trans HSN.out))
  go_wp2_with fail
  refine HE.out.mono ?_;rintro e w4 ⟨rfl,⟨k2,h1,h2,h3⟩,h4⟩
  have HX:=zL8 h3
  have HS1:=zL8 (HSN.out.trans h4)
  have HK2:=zL8 (And.intro h1 h2)
  have HKB1:=HKB0
  have HKB0:Hid (k2+2≤K+1):=zL8 (by have:=HKB1.out;omega)
  have hk12:(k1:Int)+1≤(k2:Int):=by omega
  clear h1 h2 h3 h4 HE HXN HSN HKB
  go_upto_region 9 with fail
  obtain⟨v0,hi0⟩:=HX.out
  have ha:Below w4.heap.size w4 (w4.alloc (.cells #[.int .i8 4,.int .u64 0,.int .u64 0,.int .u64 0,.int .u64 0,.int .i64 (k1:Nat),.int .i64 0] 187)):=(zL9 _ _).alloc (zMA _) _
  have HIA:=zL8 (hi0.below ha)
  have HSA:=zL8 (HS1.out.trans (Stm.below ha))
  obtain⟨xs0,hr0⟩:=HIA.out.row
  have HRW:=zL8 hr0
  obtain⟨ov,kv,rfl⟩:=zAI hr0
  have HSO:=zL8 (Src.new w4 [.int .i8 4,.int .u64 0,.int .u64 0,.int .u64 0,.int .u64 0,.int .i64 (k1:Nat),.int .i64 0] 187 1 1)
  have HKB:Hid (k2≤1000000):=zL8 (by have:=HK.out.1;have:=HK.out.2.1;have:=HKB0.out;omega)
  have c0:=hi0.c0
  have hml:=hi0.lt
  have hkb:((k2:Nat):Int)≤1000000:=by have:=HKB.out;omega
  clear hi0 ha hr0
  go_wp2_with (at_builtin;refine zAN zLI rfl _ _ rfl base (n:=k2) (m:=1) (xs:=xs0) rfl HRW.out rfl HSO.out rfl (zCi _ _ _ _ _ _ _) (by have:=HKB.out;unfold maxLen;omega) (by have:=HKB.out;omega) HIA.out.le ?_)
  intro v2 w3 hown hgr _
  obtain⟨o2,kv2,rfl⟩:=zAI hown
  obtain⟨p1,p2,c0,fz,hml⟩:=HIA.out.push hgr hown
  have HXN:=zL8 p1
  have HSN:=zL8 (HSA.out.trans p2)
  clear p1 p2 hown hgr HRW HSO HIA HSA
  go_upto_region 10 with fail
  obtain⟨V,hV⟩: ∃V,w3.setCell ⟨mb,0,none⟩ (.slice o2 (k2+1) kv2)=V:=⟨_,rfl⟩
  rw[hV]at HXN HSN ⊢
  clear hV c0 fz hml hkb
  rename World=>V2
  obtain⟨g,kv,u,hi,hu,hf,hgl,hxp,hsp⟩:=HXN.out.put (j:=k1*7+6) (x:= .int .i64 ((k2:Int)+1)) (by omega)
  have c0:=hi.c0
  have hml:=hi.lt
  have HXQ:=zL8 hxp
  have HSQ:=zL8 (HSN.out.trans hsp)
  clear hi hxp hsp
  refine zAA (X:=none) 10 [] [0,1,2,3,4,5,6,7,8,9] (by kernel_rfl) (by kernel_rfl) rfl (fun _ _ _ _ _ h=>h) ?_
  simp only[zAJ,zAC,zAD,zAB,List.getD_cons_zero,List.getD_cons_succ,List.drop_succ_cons,List.drop_zero]
  repeat (go_big_quiet_step (fail))
  refine wpQuiet_nil ?_
  go_wp2_with fail
  refine zMi (results_none rfl _ _ _) rfl ?_
  exact⟨rfl,⟨k2+1,by have:=HKL.out;have:=HK2.out.1;omega,by have:=HK2.out.2;have:=HK1.out;have:=HRM.out;omega,HXQ.out.below (zL9 _ _).drew⟩,HS.out.trans (HSQ.out.trans (Stm.below (zL9 _ _).drew))⟩
 ·rcases HR.out with ⟨hr,_⟩|⟨ex,hr,hr2⟩
  case inl=>exact absurd hr hneg
  have HMX:=zL8 hr
  have HRM:=zL8 hr2
  have hnn: ¬(mx<0):=by omega
  have hm255:mx≤255:=HK.out.2.2.2
  have hm0:(0:Int)≤mx:=by omega
  have hmi:(i:Int)≤mx:=by omega
  clear hr hr2 hneg
  have c6:wr.cell? ⟨b,6,none⟩=some (.int .i64 (i:Nat)):=zMN _ _ 6 _ _ (0,0) (HC.out wr HS1.out)
  go_wp2_with fail
  clear c6 c7 hbl
  go_loopg [7,60] ex (fun gk vs kv w4=> ∃(j k2:Nat) (ss:List Nat),kv= .int .i64 (j:Nat)∧gk=ex - j∧j≤ex∧k1≤k2∧Hid (k2≤k1+j*(m+1))∧InX w0 w4 c mb base k2∧Stm mb W w4∧w4.ownsRow W.heap.size 3 1 vs j (ss.map fun s:Nat=> .int .i64 (s:Nat))∧Hid (∀s∈ss,s<k2))
  case atStart=>exact⟨0,k1,[],rfl,rfl,Nat.zero_le _,zMA _,zL8 (by omega),HX.out,HS1.out,zMO _ _ _ _,zL8 (by simp)⟩
  case round=>
  obtain⟨j,k2,ss,rfl,hg,hj,hk2,HK2,hx,hs,hr,HSS⟩:=hrel
  have HG2:=zL8 hg
  have HX2:=zL8 hx
  have HS2:=zL8 hs
  have HKL2:=zL8 hk2
  have HR2:=zL8 hr
  obtain⟨os,ks,rfl⟩:=zAI hr
  clear hg hx hs hk2 hr
  by_cases hlt2:j<ex
  ·have hlt2':(j:Int)<mx - (i:Int):=by have:=HMX.out;omega
   have hkb2:k2≤1000000:=by
    have h1:=HK2.out
    have h2:=HK.out.1
    have h3:=HK1.out
    have h4:j*(m+1)+(m+1)≤ex*(m+1):=by rw[←Nat.succ_mul];exact zMh _ hlt2
    have:=HRM.out
    have:=HK.out.2.1
    omega
   have HKB0:Hid (k2+1+m≤K):=zL8 (by
    have h1:=HK2.out
    have h2:=HK.out.1
    have h3:=HK1.out
    have h4:j*(m+1)+(m+1)≤ex*(m+1):=by rw[←Nat.succ_mul];exact zMh _ hlt2
    have:=HRM.out
    omega)
   have hkk:(k2:Int)≤1000000:=by omega
   obtain⟨v0,hi0⟩:=HX2.out
   obtain⟨xs0,hr0⟩:=hi0.row
   obtain⟨ov0,kv0,rfl⟩:=zAI hr0
   have c0:=hi0.c0
   have hml:=hi0.lt
   clear hr0
   have ha:Below wr.heap.size wr (wr.alloc (.cells #[.int .i64 (k2:Nat)] 3)):=(zL9 _ _).alloc (zMA _) _
   have HIA:=zL8 (hi0.below ha)
   have HSA:=zL8 (HS2.out.trans (Stm.below ha))
   have HRA:=zL8 (zAQ HR2.out (.below ha))
   have HSO:=zL8 (Src.new wr [.int .i64 (k2:Nat)] 3 1 1)
   have HJ:Hid (j≤1000):=zL8 (by have:=HK.out.2.2.2;have:=HMX.out;omega)
   clear hi0 ha
   go_wp2_with (at_builtin;refine zAN zEO rfl _ _ rfl W.heap.size (n:=j) (m:=1) (news:=[.int .i64 (k2:Nat)]) rfl HRA.out rfl HSO.out rfl (by simp[Value.oneCell']) (by have:=HJ.out;unfold maxLen;omega) (by have:=HJ.out;omega) (HSA.out.le) ?_)
   intro v2 w5 hown hgr _
   obtain⟨o2,kv2,rfl⟩:=zAI hown
   have HX3:=zL8 (InX.ints ⟨_,HIA.out⟩ HRA.out HBL.out hgr)
   have HS3:=zL8 (HSA.out.ints HRA.out (zMA _) hgr)
   have hown':w5.ownsRow W.heap.size 3 1 (.slice o2 (j+1) kv2) (j+1) ((ss++[k2]).map fun s:Nat=> .int .i64 (s:Nat)):=by rw[List.map_append];exact hown
   have HR3:=zL8 hown'
   clear hown hown' hgr c0 hml HIA HSA HRA HSO HX2 HS2 HR2
   obtain⟨v0,hi0⟩:=HX3.out
   obtain⟨xs0,hr0⟩:=hi0.row
   obtain⟨ov0,kv0,rfl⟩:=zAI hr0
   have c0:=hi0.c0
   have hml:=hi0.lt
   have HI5:=zL8 hi0
   clear hi0 hr0 HX3
   go_upto_region 15 with fail
   refine zAA (X:=none) 11 [([0,1,2,3,4,5,6,7,8,9],10)] [] (by kernel_rfl) (by kernel_rfl) rfl (fun _ _ _ _ _ h=>h) ?_
   simp only[zAJ,zAC,zAG,zAD,zAB,List.getD_cons_zero,List.getD_cons_succ,List.drop_succ_cons,List.drop_zero]
   repeat (go_big_quiet_step (fail))
   refine wpQuiet_nil ?_
   go_wp2_with fail
   refine⟨zA5 _ _,?_⟩
   repeat (go_big_quiet_step (fail))
   refine wpQuiet_nil ?_
   clear c0 hml
   have ha:Below w5.heap.size w5 (w5.alloc (.cells #[.int .i8 5,.int .u64 0,.int .u64 0,.int .u64 0,.int .u64 0,.int .i64 ((k2:Int)+1),.int .i64 0] 187)).drew:=((zL9 _ _).alloc (zMA _) _).drew
   have HIA:=zL8 (HI5.out.below ha)
   have HSA:=zL8 (HS3.out.trans (Stm.below ha))
   have HRA:=zL8 (zAQ HR3.out (.below ha))
   have hso:=Src.new w5 [.int .i8 5,.int .u64 0,.int .u64 0,.int .u64 0,.int .u64 0,.int .i64 ((k2:Int)+1),.int .i64 0] 187 1 1
   have HSO:=zL8 (zKe hso ((zL9 _ _).drew))
   clear ha hso HI5 HS3 HR3
   obtain⟨X,hX⟩: ∃X,(w5.alloc (.cells #[.int .i8 5,.int .u64 0,.int .u64 0,.int .u64 0,.int .u64 0,.int .i64 ((k2:Int)+1),.int .i64 0] 187)).drew=X:=⟨_,rfl⟩
   rw[hX]at HIA HSA HRA ⊢
   have HSO2:Hid (Src X (.slice (some ⟨w5.heap.size,0,none⟩) 1 1) 1 [.int .i8 5,.int .u64 0,.int .u64 0,.int .u64 0,.int .u64 0,.int .i64 ((k2:Int)+1),.int .i64 0]):=zL8 (by rw[←hX];exact HSO.out)
   clear hX HSO
   obtain⟨xs3,hr3⟩:=HIA.out.row
   have HRW:=zL8 hr3
   clear hr3
   go_wp2_with (at_builtin;refine zAN zLI rfl _ _ rfl base (n:=k2) (m:=1) (xs:=xs3) rfl HRW.out rfl HSO2.out rfl (zCi _ _ _ _ _ _ _) (by unfold maxLen;omega) (by omega) HIA.out.le ?_)
   intro v4 w6 hown hgr _
   obtain⟨o4,kv4,rfl⟩:=zAI hown
   obtain⟨p1,p2,c0,fz,hml⟩:=HIA.out.push hgr hown
   have HX4:=zL8 p1
   have HS4:=zL8 (HSA.out.trans p2)
   have HR4:=zL8 (zBs HRA.out (by decide) (by have:=HIA.out.o2;have:=HBL.out;omega) p2)
   clear p1 p2 hown hgr HRW HSO2 HIA HSA HRA
   go_upto_region 16 with fail
   obtain⟨V,hV⟩: ∃V,w6.setCell ⟨mb,0,none⟩ (.slice o4 (k2+1) kv4)=V:=⟨_,rfl⟩
   rw[hV]at HX4 HS4 HR4 ⊢
   clear hV c0 fz hml
   have HE:=zL8 (HO.out V (k2+1) HX4.out HKB0.out (HS.out.trans HS4.out))
   go_wp2_with fail
   refine HE.out.mono ?_;rintro e w7 ⟨rfl,⟨k3,h1,h2,h3⟩,h4⟩
   have HX5:=zL8 h3
   have HS5:=zL8 (HS4.out.trans h4)
   have HR5:=zL8 (zBs HR4.out (by decide) (by obtain⟨v,h⟩:=HX4.out;have:=h.o2;have:=HBL.out;omega) h4)
   have HK5:Hid (k3≤k1+(j+1)*(m+1)):=zL8 (by have:=HK2.out;rw[Nat.succ_mul];omega)
   have HKL5:Hid (k1≤k3):=zL8 (by have:=HKL2.out;omega)
   have HSS5:Hid (∀s∈ss++[k2],s<k3):=zL8 (by
    intro s hs
    rcases zMd.1 hs with hs|hs
    ·have:=HSS.out s hs;omega
    ·rw[List.mem_singleton]at hs;omega)
   clear h1 h2 h3 h4 HE HX4 HS4 HR4
   go_wp2_with fail
   go_roundg (ex - (j+1))
   case measure=>have:=HG2.out;omega
   case rel=>exact⟨j+1,k3,ss++[k2],by go_num,rfl,by omega,HKL5.out,HK5,HX5.out,HS5.out,HR5.out,HSS5⟩
  ·have hlt2': ¬(j:Int)<mx - (i:Int):=by have:=HMX.out;omega
   have hje:j=ex:=by omega
   subst hje
   go_wp2_with fail
   go_loopg [87] j (fun gk kv w4=> ∃(d:Nat),kv= .int .i64 (d:Nat)∧gk=j - d∧d≤j∧InX w0 w4 c mb base k2∧Stm mb W w4∧w4.ownsRow W.heap.size 3 1 (.slice os j ks) j (ss.map fun s:Nat=> .int .i64 (s:Nat)))
   case atStart=>exact⟨0,rfl,rfl,Nat.zero_le _,HX2.out,HS2.out,HR2.out⟩
   case round=>
   obtain⟨d,rfl,hg,hd,hx,hs,hr⟩:=hrel
   have HG3:=zL8 hg
   have HX3:=zL8 hx
   have HS3:=zL8 hs
   have HR3:=zL8 hr
   clear hg hx hs hr
   by_cases hlt3:d<j
   ·have hlt3':(d:Int)<(j:Int):=by omega
    obtain⟨_,g2,rfl,hg2,hc2,_⟩:=zAZ HR3.out (by omega)
    obtain⟨u,hu,hcu⟩:=hc2 d (by omega)
    have hd2:d<ss.length:=by
     have:=(zMF.1 hu).1
     rw[List.length_map]at this
     exact this
    obtain⟨s,hs⟩: ∃s,ss[d]?=some s:=⟨_,zMP hd2⟩
    rw[List.getElem?_map,hs]at hu
    cases hu
    have hsk:=HSS.out s (zMc hs)
    have hkk:k2≤1000000:=by
     have h1:=HK2.out
     have h2:=HK.out.1
     have h3:=HK1.out
     have:=HRM.out
     have:=HK.out.2.1
     omega
    have hkk2:(k2:Int)≤1000000:=by omega
    have hd255:(d:Int)≤255:=by have:=HMX.out;omega
    have hsk2:(s:Int)<(k2:Int):=by omega
    obtain⟨g,kv,u,hi,hu,hf,hgl,hxp,hsp⟩:=HX3.out.put (j:=s*7+6) (x:= .int .i64 (k2:Nat)) (by omega)
    have c0:=hi.c0
    have hml:=hi.lt
    have HXQ:=zL8 hxp
    have HSQ:=zL8 (HS3.out.trans hsp)
    have HRQ:=zL8 (zBs HR3.out (by decide) (by have:=hi.o2;have:=HBL.out;omega) hsp)
    clear hi hxp hsp hc2 hs
    go_upto_region 21 with fail
    refine zAA (X:=none) 10 [] [0,1,2,3,4,5,6,7,8,9] (by kernel_rfl) (by kernel_rfl) rfl (fun _ _ _ _ _ h=>h) ?_
    simp only[zAJ,zAC,zAD,zAB,List.getD_cons_zero,List.getD_cons_succ,List.drop_succ_cons,List.drop_zero]
    repeat (go_big_quiet_step (fail))
    refine wpQuiet_nil ?_
    go_wp2_with fail
    go_roundg (j - (d+1))
    case measure=>have:=HG3.out;omega
    case rel=>exact⟨d+1,by go_num,rfl,by omega,HXQ.out.below (zL9 _ _).drew,HSQ.out.trans (Stm.below (zL9 _ _).drew),zAQ HRQ.out (.below (zL9 _ _).drew)⟩
   ·have hlt3': ¬(d:Int)<(j:Int):=by omega
    go_wp2_with fail
    go_end0
    exact⟨rfl,⟨k2,by have:=HKL.out;have:=HKL2.out;omega,by have:=HK2.out;have:=HK1.out;have:=HRM.out;omega,HX3.out⟩,HS.out.trans HS3.out⟩
end
end
section
open Go.RowKit
def zHZ (re:List Nd) (xs:List Value) (d:Nat):Prop:= ∀p,d≤p→p<re.length→ ∃q,zAU re 260 p=some q∧xs[p]?=some (.int .i64 (q.2:Nat))
theorem zHL {re:List Nd} {f k:Nat} {s:Int} {q:Nat} {r:Int × Nat} (h:zA3 (zAU re f) (k+1) s q=some r): ∃w nx,zAU re f q=some (w,nx)∧zA3 (zAU re f) k (min (s+w) 16385) nx=some r:=by
 unfold zA3 at h
 split at h
 ·cases h
 ·rename_i w nx hx
  exact⟨w,nx,hx,h⟩
theorem zFR {re:List Nd} {f i:Nat} {r:Int × Nat} {n:Nd} (h:zAU re (f+1) i=some r) (hn:re[i]?=some n): ∃sm,zA3 (zAU re f) n.kids.toNat 0 (i+1)=some (sm,r.2):=by
 unfold zAU at h
 rw[hn]at h
 simp only at h
 split at h
 ·cases h
 ·rename_i sm nx hk
  cases h
  exact⟨sm,hk⟩
section
variable {w w':World} {nb no cap:Nat} {re:List Nd}
theorem zFI (h:zCm w nb no re) (hr:zDj re) (hs: ∀p,p<re.length→ ∃q,zAU re 260 p=some q):
  Calls Tryz.prog 114 #[.slice (some ⟨nb,no,none⟩) re.length cap] w fun e w'=>(∃xs,e= .returned (.slice (some ⟨w.heap.size,0,none⟩) re.length re.length)∧w'.ownsRow w.heap.size 3 1 (.slice (some ⟨w.heap.size,0,none⟩) re.length re.length) re.length xs∧zHZ re xs 0)∧Below w.heap.size w w':=by
 have HV:=zL8 h
 have HR:=zL8 hr
 have HS:=zL8 hs
 have hl1:(re.length:Int)≤4294967296:=by have:=h.len;omega
 clear h hr hs
 obtain⟨i0,hi,hz0,hz1,hz2⟩:=info_parts (zEO).hi
 go_enter Tryz.func114,Tryz.ntmps114
 go_wp2_with (at_make;refine wpList_make_full _ rfl _ _ 23 rfl w.heap.size 3 i0 _ 1 Tryz.underlying23 hi hz0 hz1 .i64 .i64 (re.length:Int) (re.length:Int) re.length rfl rfl (by omega) (by omega) (by rw[hz2];omega) (by unfold maxLen;omega) (by omega) ?_)
 intro w1 hown hgr
 have HO1:=zL8 hown
 have HB1:=zL8 ((zL9 w.heap.size w).grown hgr (zMA _) (fun k hk=>by cases hk))
 clear hown hgr hi hz0 hz1 hz2
 obtain⟨b,hbz⟩: ∃b,w.heap.size=b:=⟨_,rfl⟩
 rw[hbz]at HO1 ⊢
 have HBZ:=zL8 hbz
 clear hbz
 go_wp2_with fail
 go_loopg [4] re.length (fun k iv wr=> ∃(d:Nat) (a:Int) (xs:List Value),iv= .int .i64 a∧Hid (a=(d:Int) - 1)∧k=d∧d≤re.length∧wr.ownsRow b 3 1 (.slice (some ⟨b,0,none⟩) re.length re.length) re.length xs∧Hid (zHZ re xs d)∧Below w.heap.size w wr)
 case atStart=>exact⟨re.length,_,_,rfl,zL8 rfl,rfl,zMA _,HO1.out,zL8 fun p h1 h2=>by omega,HB1.out⟩
 case round=>
 obtain⟨d,a,xs,rfl,HA,hgd,hd,ho,HX,hb⟩:=hrel
 have HGD:=zL8 hgd
 clear hgd
 have HO:=zL8 ho
 have HB:=zL8 hb
 clear ho hb HO1 HB1
 cases d with
 |zero=>
  obtain rfl:a= -1:=by have:=HA.out;omega
  go_wp2_with fail
  go_ret
  exact⟨⟨xs,by rw[HBZ.out];rfl,by rw[HBZ.out];exact HO.out,HX.out⟩,HB.out⟩
 |succ p=>
  obtain rfl:a=(p:Nat):=by have:=HA.out;omega
  have hpl:(p:Int)<(re.length:Int):=by omega
  obtain⟨x,hx⟩: ∃x,re[p]?=some x:=⟨_,zMP (by omega)⟩
  obtain⟨q0,hq0⟩:=HS.out p (by omega)
  obtain⟨s0,hs0⟩:=zFR (f:=259) hq0 hx
  have HQ0:=zL8 (And.intro hq0 hs0)
  have n8:=((HV.out.below HB.out).cells hx).2.2.2.2.2.2.2.2
  have nbl:=(HV.out.below HB.out).lt
  have hkb:x.kids≤9223372036854775807:=HV.out.k x (zMc hx)
  clear hq0 hs0 hx
  go_wp2_with fail
  clear n8 nbl
  rename World=>V
  go_loopg [5,23] x.kids.toNat (fun gk ev kv wr=> ∃(j q:Nat) (sm:Int),wr=V∧kv= .int .i64 (j:Nat)∧ev= .int .i64 (q:Nat)∧gk=x.kids.toNat - j∧j≤x.kids.toNat∧p<q∧Hid (zA3 (zAU re 259) (x.kids.toNat - j) sm q=some (s0,q0.2)))
  case atStart=>exact⟨0,p+1,0,rfl,rfl,rfl,rfl,Nat.zero_le _,by omega,zL8 HQ0.out.2⟩
  case round=>
  obtain⟨j,q,sm,rfl,rfl,rfl,hg2,hj,hpq,HK⟩:=hrel
  have HG2:=zL8 hg2
  clear hg2
  by_cases hlt:j<x.kids.toNat
  ·have hlt':(j:Int)<x.kids:=by omega
   obtain⟨k',hk'⟩: ∃k',x.kids.toNat - j=k'+1:=⟨x.kids.toNat - j - 1,by omega⟩
   have h1:=HK.out
   rw[hk']at h1
   obtain⟨w',nx,h2,h3⟩:=zHL h1
   have h4:=zAe HR.out _ _ _ h2
   simp only at h4
   have hql:q<re.length:=by omega
   obtain⟨q2,h5,h6⟩:=HX.out q (by omega) hql
   have h7:=zBV re (show 259≤260 by decide) h2
   rw[h5]at h7
   cases h7
   obtain⟨_,g',hg',hgl,hcs,_⟩:=zAZ HO.out (by omega)
   cases hg'
   obtain⟨u0,hu0,z0⟩:=hcs q (by omega)
   rw[h6]at hu0
   cases hu0
   have HK2:Hid (zA3 (zAU re 259) (x.kids.toNat - (j+1)) (min (sm+w') 16385) nx=some (s0,q0.2)):=zL8 (by rw[show x.kids.toNat - (j+1)=k' by omega];exact h3)
   have hqi:(q:Int)<(re.length:Int):=by omega
   have HPN:Hid (p<nx):=zL8 (by omega)
   clear h1 h2 h3 h4 h5 h6 hcs hk'
   go_wp2_with fail
   go_roundg (x.kids.toNat - (j+1))
   case measure=>have:=HG2.out;omega
   case rel=>exact⟨j+1,nx,_,rfl,by go_num,rfl,rfl,by omega,HPN.out,HK2⟩
  ·have hlt': ¬(j:Int)<x.kids:=by omega
   obtain rfl:j=x.kids.toNat:=by omega
   have hqe:q=q0.2:=by
    have h1:=HK.out
    rw[Nat.sub_self]at h1
    exact(zDE h1).2.symm
   subst hqe
   obtain⟨_,g',hg',hgl,hcs,hfz⟩:=zAZ HO.out (by omega)
   cases hg'
   obtain⟨u0,_,z0⟩:=hcs p (by omega)
   have f0:=hfz p
   have HR2:=zL8 (zMW HO.out p (.int .i64 (q0.2:Nat))).1
   have HB2:=zL8 (HB.out.setCell (p:=⟨b,p,none⟩) (by rw[HBZ.out];exact zMA _) (.int .i64 (q0.2:Nat)))
   have HX2:Hid (zHZ re (xs.set p (.int .i64 (q0.2:Nat))) p):=zL8 fun i h1 h2=>by
    have hl:=HO.out.1
    by_cases e:p=i
    ·subst e
     exact⟨q0,HQ0.out.1,by rw[List.getElem?_set_self (by omega)]⟩
    ·rw[List.getElem?_set_ne e]
     exact HX.out i (by omega) h2
   clear hcs hfz
   go_wp2_with fail
   go_roundg p
   case measure=>have:=HGD.out;omega
   case rel=>exact⟨p,_,_,rfl,zL8 (by go_num),rfl,by omega,HR2.out,HX2,HB2.out⟩
end
end
section
open Go.RowKit
theorem zDZ {P:Nat→Prop} {g:Nat→List Bool→Option (Nat × List Bool)} (hg: ∀i en r,g i en=some r→i<r.1∧ ∀p,i≤p→p<r.1→P p):
  ∀(k i:Nat) (en:List Bool) (r:Nat × List Bool),zAu g k i en=some r→i≤r.1∧ ∀p,i≤p→p<r.1→P p
 |0,i,en,r,h=>by simp only[zAu,Option.some.injEq]at h;subst h;exact⟨zMA _,fun p h1 h2=>by simp only at h2;omega⟩
 |k+1,i,en,r,h=>by
  unfold zAu at h
  split at h
  ·cases h
  ·rename_i j en1 h1
   have h2:=hg _ _ _ h1
   simp only at h2
   have h3:=zDZ hg k _ _ _ h
   refine⟨by omega,fun p hp1 hp2=>?_⟩
   by_cases hj:p<j
   ·exact h2.2 p hp1 hj
   ·exact h3.2 p (by omega) hp2
theorem zDW (re:List Nd): ∀(f g i:Nat) (en:List Bool) (r:Nat × List Bool),zAX re f g i en=some r→i<r.1∧ ∀p,i≤p→p<r.1→ ∃q,zAU re f p=some q
 |0,_,_,_,_,h=>by simp[zAX]at h
 |f+1,g,i,en,r,h=>by
  obtain⟨rj,ren⟩:=r
  obtain⟨wi,hwi⟩:=zBA re _ _ _ _ _ _ h
  have fin: ∀(g' k:Nat) (en1:List Bool) (r1:Nat × List Bool),zAu (zAX re f g') k (i+1) en1=some r1→i<r1.1∧ ∀p,i≤p→p<r1.1→ ∃q,zAU re (f+1) p=some q:=fun g' k en1 r1 hk=>by
   have h1:=zDZ (fun i en r=>zDW re f g' i en r) _ _ _ _ hk
   refine⟨by have:=h1.1;omega,fun p hp1 hp2=>?_⟩
   by_cases he:p=i
   ·exact⟨_,he▸hwi⟩
   ·obtain⟨q,hq⟩:=h1.2 p (by omega) hp2
    exact⟨q,zCM _ _ _ _ hq⟩
  unfold zAX at h
  split at h
  ·cases h
  ·split at h
   ·cases h
   ·split at h
    ·cases h
    ·split at h
     ·split at h
      ·cases h
      ·split at h
       ·cases h
       ·rename_i hk
        cases h
        have:=fin _ _ _ _ hk
        exact this
     ·exact fin _ _ _ _ h
structure ShK (re:List Nd):Prop where
 pos:0<re.length
 rep:zDj re
 ok: ∀p,p<re.length→zKU re p
 at_: ∀p,p<re.length→ ∃q,zAU re 260 p=some q
 top: ∃w tn,zAU re 260 0=some (w,tn)∧w≤16384
theorem shk {re:List Nd} (h:shapedN re=true):ShK re:=by
 unfold shapedN at h
 split at h
 ·cases h
 ·rename_i j en hn
  simp only[Bool.and_eq_true,decide_eq_true_eq]at h
  obtain⟨rfl,h⟩:=h
  have h1:=zCE re _ _ _ _ _ hn
  have h2:=zDW re _ _ _ _ _ hn
  split at h
  ·cases h
  ·rename_i w tn hw
   exact⟨h2.1,(zDM fun p hp=>h1.2.2 p (Nat.zero_le _) hp).1,fun p hp=>h1.2.2 p (Nat.zero_le _) hp,fun p hp=>h2.2 p (Nat.zero_le _) hp,w,tn,hw,by simpa using h⟩
theorem zId {n:Nd} (h:zAg n=true):1≤n.op∧n.op≤8∧(n.op=6→0≤n.min∧n.min≤255∧(n.max= -1∨n.min≤n.max∧n.max≤255)∧n.kids=1)∧(n.op=5→2≤n.kids):=by
 unfold zAg at h
 simp only[Bool.and_eq_true,decide_eq_true_eq,Bool.or_eq_true,beq_iff_eq]at h
 obtain⟨⟨⟨⟨⟨h1,h2⟩,h3⟩,h4⟩,h5⟩,h6⟩:=h
 refine⟨h1,h2,fun h=>?_,fun h=>?_⟩
 ·rw[if_pos h]at h5
  rw[if_pos (Or.inl h)]at h6
  simp only[Bool.and_eq_true,decide_eq_true_eq,Bool.or_eq_true,beq_iff_eq]at h5 h6
  exact⟨h5.1.1,h5.1.2,h5.2,h6⟩
 ·rw[if_neg (by omega),if_pos h]at h6
  simpa using h6
structure NoE (w:World) (nb no cap:Nat) (re:List Nd) (rb pb mb fb eb b:Nat):Prop where
 n:zCm w nb no re
 r:w.heap[rb]?=some (.cells #[.slice (some ⟨nb,no,none⟩) re.length cap] 64 (0,0))
 p:w.heap[pb]?=some (.cells #[.func (.func 115) #[] #[.pointer (some ⟨mb,0,none⟩)]] 188 (0,0))
 f:w.heap[fb]?=some (.cells #[.func (.func 116) #[] #[.pointer (some ⟨rb,0,none⟩),.pointer (some ⟨pb,0,none⟩),.pointer (some ⟨mb,0,none⟩),.pointer (some ⟨fb,0,none⟩),.pointer (some ⟨eb,0,none⟩)]] 120 (0,0))
 e:w.heap[eb]?=some (.cells #[.slice (some ⟨b,0,none⟩) re.length re.length] 23 (0,0))
 x: ∃xs:Array Value,w.heap[b]?=some (.cells xs 3 (0,0))∧zHZ re xs.toList 0
 nr:rb≠mb
 np:pb≠mb
 nf:fb≠mb
 ne:eb≠mb
 nx:b≠mb
section
variable {w0 w w':World} {c mb base k nb no cap rb pb fb eb b:Nat} {re:List Nd}
theorem NoE.keep (h:NoE w nb no cap re rb pb mb fb eb b) (hs:Stm mb w w') (hn:zCm w' nb no re):NoE w' nb no cap re rb pb mb fb eb b:=
 ⟨hn,hs.at_ _ _ _ _ (by decide) h.nr h.r,hs.at_ _ _ _ _ (by decide) h.np h.p,hs.at_ _ _ _ _ (by decide) h.nf h.f,hs.at_ _ _ _ _ (by decide) h.ne h.e,by
  obtain⟨xs,h1,h2⟩:=h.x
  exact⟨xs,hs.at_ _ _ _ _ (by decide) h.nx h1,h2⟩,h.nr,h.np,h.nf,h.ne,h.nx⟩
theorem NoE.end_ (h:NoE w nb no cap re rb pb mb fb eb b) {p:Nat} (hp:p<re.length): ∃q,zAU re 260 p=some q∧w.cell? ⟨b,p,none⟩=some (.int .i64 (q.2:Nat)):=by
 obtain⟨xs,h1,h2⟩:=h.x
 obtain⟨q,h3,h4⟩:=h2 p (Nat.zero_le _) hp
 refine⟨q,h3,?_⟩
 rw[zMN _ _ _ _ _ (0,0) h1,←Array.getElem?_toList,h4]
theorem zA4 {b:Nat} {v:Value} {t:TypeId} (h:w.heap[b]?=some (.cells #[v] t (0,0))):w.cell? ⟨b,0,none⟩=some v∧b<w.heap.size:=⟨zMN _ _ 0 _ _ (0,0) h,(zMG.1 h).1⟩
theorem zJM {X:World} {fb ab i:Nat} {S:World→Prop} {rb pb mb eb:Nat} (hf:X.heap[fb]?=some (.cells #[.func (.func 116) #[] #[.pointer (some ⟨rb,0,none⟩),.pointer (some ⟨pb,0,none⟩),.pointer (some ⟨mb,0,none⟩),.pointer (some ⟨fb,0,none⟩),.pointer (some ⟨eb,0,none⟩)]] 120 (0,0))) (ha:X.heap[ab]?=some (.cells #[.int .i64 (i:Nat)] 3 (0,0))) (hi:(i:Int)≤4294967296)
  (hc:Calls Tryz.prog 116 #[.int .i64 ((i+1:Nat):Int),.pointer (some ⟨rb,0,none⟩),.pointer (some ⟨pb,0,none⟩),.pointer (some ⟨mb,0,none⟩),.pointer (some ⟨fb,0,none⟩),.pointer (some ⟨eb,0,none⟩)] X fun e W'=>e= .returned (.tuple #[])∧S W'):
  Calls Tryz.prog 118 #[.pointer (some ⟨fb,0,none⟩),.pointer (some ⟨ab,0,none⟩)] X fun e W'=>e= .returned (.tuple #[])∧S W':=by
 obtain⟨f0,fl⟩:=zA4 hf
 obtain⟨a0,al⟩:=zA4 ha
 have hc':Calls Tryz.prog 116 #[.int .i64 ((i:Int)+1),.pointer (some ⟨rb,0,none⟩),.pointer (some ⟨pb,0,none⟩),.pointer (some ⟨mb,0,none⟩),.pointer (some ⟨fb,0,none⟩),.pointer (some ⟨eb,0,none⟩)] X fun e W'=>e= .returned (.tuple #[])∧S W':=hc
 have HC:=zL8 hc'
 clear hc hc' hf ha
 go_enter Tryz.func118,Tryz.ntmps118
 go_wp2_with fail
 refine HC.out.mono ?_;rintro e w3 ⟨rfl,hs⟩
 clear f0 fl a0 al
 go_wp2_with fail
 go_end0
 exact⟨rfl,hs⟩
end
end
end Go.Proofs.YtfcemodgopdkkaaGreatDoor
