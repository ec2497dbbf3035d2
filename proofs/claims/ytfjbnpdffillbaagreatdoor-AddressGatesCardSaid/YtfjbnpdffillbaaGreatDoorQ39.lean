/- Parts: Gv. -/
import Derived.Test.YtfjbnpdffillbaaGreatDoorQ38
import Derived.Test.YtfjbnpdffillbaaGreatDoorQ36
import Derived.Laws.CopyOwn
namespace Go.Proofs.YtfjbnpdffillbaaGreatDoor
open Go.RowKit
structure CmdB (w:World) (b:Nat) (l:List Value):Prop where
 heap:w.heap[b]?=some (.cells l.toArray 91 (0,0))
 cl:CmdL l
structure CmdX (l:List Value):Prop where
 c7: ∃v,l[7]?=some (.int .u8 v)
 c8: ∃v,l[8]?=some (.int .i64 v)
 c12: ∃v,l[12]?=some (.int .i64 v)
 c13: ∃v,l[13]?=some (.bool v)
 c14: ∃v,l[14]?=some (.bool v)
 c15: ∃v,l[15]?=some (.bool v)
 tab: ∀j,j<256→ ∃v,l[16+j]?=some (.int .u8 v)
structure CmdIn (w:World) (l:List Value) (ka na:Int) (oa:Option Addr) (ra:List Nd) (ca:Nat) (kb nb:Int) (ob:Option Addr) (rb:List Nd) (cb:Nat) (nt:Bool):Prop where
 cl:CmdL l
 a0:l[0]?=some (.int .i8 ka)
 a1:l[1]?=some (.int .i64 na)
 a2:l[2]?=some (.slice oa ra.length ca)
 b0:l[3]?=some (.int .i8 kb)
 b1:l[4]?=some (.int .i64 nb)
 b2:l[5]?=some (.slice ob rb.length cb)
 n:l[6]?=some (.bool nt)
 sa:Src w (.slice oa ra.length ca) ra.length (ndsC ra)
 za:ra.length*72≤140737488355328
 sb:Src w (.slice ob rb.length cb) rb.length (ndsC rb)
 zb:rb.length*72≤140737488355328
 tx: ∃o n c,l[9]?=some (.slice o n c)∧BtU w o n c
 re: ∃o re c,l[10]?=some (.slice o re.length c)∧Src w (.slice o re.length c) re.length (ndsC re)∧re.length*72≤140737488355328
 fi: ∃o n c,l[11]?=some (.slice o n c)∧PcW w o n
 x:CmdX l
 ba: -128≤ka∧ka≤127
 bb: -128≤kb∧kb≤127
section
variable {w w':World} {b:Nat} {l:List Value} {ka na:Int} {oa:Option Addr} {ra:List Nd} {ca:Nat} {kb nb:Int} {ob:Option Addr} {rb:List Nd} {cb:Nat} {nt:Bool}
theorem CmdB.lt (h:CmdB w b l):b<w.heap.size:=(Array.getElem?_eq_some_iff.1 h.heap).1
theorem CmdB.cell (h:CmdB w b l) (j:Nat):w.cell? ⟨b,j,none⟩=l[j]?:=(cell_of_row _ _ j _ _ (0,0) h.heap).trans (by simp)
theorem CmdB.fz (h:CmdB w b l) (j:Nat):w.frozen? ⟨b,j,none⟩=false:=frozen_cls h.heap j
theorem CmdB.block (h:CmdB w b l) (hb:w'.heap[b]?=w.heap[b]?):CmdB w' b l:=⟨hb.trans h.heap,h.cl⟩
theorem CmdB.below (h:CmdB w b l) (hb:Below w.heap.size w w'):CmdB w' b l:=h.block (hb.block b h.lt)
theorem CmdB.other (h:CmdB w b l) {c:Nat} (hc:b≠c) (o:Nat) (v:Value):CmdB (w.setCell ⟨c,o,none⟩ v) b l:=h.block (Below.heap_setCell _ _ _ _ hc)
theorem CmdB.set (h:CmdB w b l) (i:Nat) {v:Value} (hv:v.oneCell'=true):CmdB (w.setCell ⟨b,i,none⟩ v) b (l.set i v):=
 ⟨by
  rw[setCell_eq_setRow w b i _ _ _ v h.heap,setRow_heap w b _ _ _ _ h.heap]
  simp,h.cl.set i hv⟩
theorem CmdB.new (hl:CmdL l) (w:World):CmdB (w.alloc (.cells l.toArray 91)) w.heap.size l:=⟨heap_alloc_new w _,hl⟩
theorem CmdB.zero (w:World):CmdB (w.alloc (.cells Tryz.zeroCells91 91)) w.heap.size Tryz.zeroCells91.toList:=⟨by rw[Array.toArray_toList];exact heap_alloc_new w _,CmdL.zero⟩
theorem CmdB.info (h:CmdL l):(Tryz.prog.info? 91).map (·.size)=some l.toArray.size:=by rw[cmd_info,List.size_toArray,h.len]
theorem ret_cellC {fn:Func} {p:Tmp} (hf:fn.results= #[.cell p 91]) {Q:Ending→World→Prop} {a:Act} {w:World} (hp:a.tmps.getD p undef= .pointer (some ⟨b,0,none⟩)) (hd:a.defers=[])
  (h:CmdB w b l) (hQ:Q (.returned (.agg l.toArray)) w):bodyPost Tryz.prog fn Q .ret a w:=by
 refine bodyPost_ret (v:= .agg l.toArray) ?_ hd hQ
 rw[results_cell1 hf,hp]
 simp only[asAddr,Sem.run_pure,Result.andThen]
 exact run_loadVar_row w b _ _ _ (0,0) _ h.heap Tryz.underlying91 rfl (CmdB.info h.cl)
theorem CmdIn.below (h:CmdIn w l ka na oa ra ca kb nb ob rb cb nt) (hb:Below w.heap.size w w'):CmdIn w' l ka na oa ra ca kb nb ob rb cb nt:=
 ⟨h.cl,h.a0,h.a1,h.a2,h.b0,h.b1,h.b2,h.n,Src.below h.sa hb,h.za,Src.below h.sb hb,h.zb,
  by obtain⟨o,n,c,e1,e2⟩:=h.tx;exact⟨o,n,c,e1,e2.below hb⟩,by obtain⟨o,r,c,e1,e2,e3⟩:=h.re;exact⟨o,r,c,e1,Src.below e2 hb,e3⟩,by obtain⟨o,n,c,e1,e2⟩:=h.fi;exact⟨o,n,c,e1,e2.below hb⟩,h.x,h.ba,h.bb⟩
theorem CmdIn.v (h:CmdIn w l ka na oa ra ca kb nb ob rb cb nt):CmdV l.toArray ka na oa ra.length ca kb nb ob rb.length cb nt:=
 ⟨by simpa using h.a0,by simpa using h.a1,by simpa using h.a2,by simpa using h.b0,by simpa using h.b1,by simpa using h.b2,by simpa using h.n⟩
theorem CmdB.set3 (h:CmdB w b l) (i:Nat) (k n:Int) (o:Option Addr) (m c:Nat):
  CmdB (((w.setCell ⟨b,i,none⟩ (.int .i8 k)).setCell ⟨b,i+1,none⟩ (.int .i64 n)).setCell ⟨b,i+2,none⟩ (.slice o m c)) b (((l.set i (.int .i8 k)).set (i+1) (.int .i64 n)).set (i+2) (.slice o m c)):=
 ((h.set i rfl).set (i+1) rfl).set (i+2) rfl
theorem slice_form {w:World} {base e size:Nat} {v:Value} {n:Nat} {xs:List Value} (h:w.ownsRow base e size v n xs): ∃o m c,v= .slice o m c:=by
 rcases h.2 with ⟨rfl,_⟩|⟨g,cp,cur,rfl,_⟩<;>exact⟨_,_,_,rfl⟩
theorem copyBytesU {o:Option Addr} {n c:Nat} (h:BtU w o n c):Calls Tryz.prog 12 #[.slice o n c] w fun e w'=>(∃o' m c',e= .returned (.slice o' m c'))∧Below w.heap.size w w':=by
 obtain⟨T,rfl,hs,hl⟩:=h
 refine(copyBytes_call hs hl).mono ?_
 rintro e w' ⟨⟨v,rfl,ho⟩,hb⟩
 obtain⟨o',m,c',rfl⟩:=slice_form ho
 exact⟨⟨_,_,_,rfl⟩,hb⟩
theorem copyNodesU {o:Option Addr} {re:List Nd} {c:Nat} (h:Src w (.slice o re.length c) re.length (ndsC re)) (z:re.length*72≤140737488355328):Calls Tryz.prog 87 #[.slice o re.length c] w fun e w'=>(∃o' m c',e= .returned (.slice o' m c'))∧Below w.heap.size w w':=by
 refine(copyNodesS_call h z).mono ?_
 rintro e w' ⟨⟨v,rfl,ho⟩,hb⟩
 obtain⟨o',m,c',rfl⟩:=slice_form ho
 exact⟨⟨_,_,_,rfl⟩,hb⟩
set_option maxRecDepth 100000 in
set_option maxHeartbeats 3200000 in
theorem copyCmd_call (h:CmdIn w l ka na oa ra ca kb nb ob rb cb nt):
  Calls Tryz.prog 45 #[.agg l.toArray] w fun e w'=>(∃l' oa' ca' ob' cb',e= .returned (.agg l'.toArray)∧CmdL l'∧CmdV l'.toArray ka na oa' ra.length ca' kb nb ob' rb.length cb' nt∧
   Nds w' w.heap.size (.slice oa' ra.length ca') ra∧Nds w' w.heap.size (.slice ob' rb.length cb') rb)∧Below w.heap.size w w':=by
 have hb1:=((Below.refl w.heap.size w).alloc (Nat.le_refl _) (.cells l.toArray 91)).alloc (by simp) (.cells Tryz.zeroCells91 91)
 have HI:=Lib.hid (h.below hb1)
 have HC:=Lib.hid ((CmdB.new h.cl w).below ((Below.refl _ _).alloc (Nat.le_refl _) (.cells Tryz.zeroCells91 91)))
 have HZ:=Lib.hid (CmdB.zero (w.alloc (.cells l.toArray 91)))
 have hsz:(w.alloc (.cells l.toArray 91)).heap.size=w.heap.size+1:=by simp
 rw[hsz]at HZ
 have HB:=Lib.hid hb1
 have H0:=Lib.hid h
 clear h hb1 hsz HI
 go_enter Tryz.func45,Tryz.ntmps45
 go_upto_region 1 with fail
 obtain⟨W,hW⟩: ∃W,(w.alloc (.cells l.toArray 91)).alloc (.cells Tryz.zeroCells91 91)=W:=⟨_,rfl⟩
 rw[hW]at HC HZ HB ⊢
 clear hW
 have HI1:=Lib.hid (H0.out.below HB.out)
 have k0:W.cell? ⟨w.heap.size,0,none⟩=some (.int .i8 ka):=(HC.out.cell 0).trans (by simpa using H0.out.a0)
 have k1:W.cell? ⟨w.heap.size,1,none⟩=some (.int .i64 na):=(HC.out.cell 1).trans (by simpa using H0.out.a1)
 have k2:W.cell? ⟨w.heap.size,2,none⟩=some (.slice oa ra.length ca):=(HC.out.cell 2).trans (by simpa using H0.out.a2)
 have kl:=HC.out.lt
 have HX:=Lib.hid (copyAddr_call (cap:=ca) ka na HI1.out.sa HI1.out.za)
 go_wp2_with fail
 refine HX.out.mono ?_;rintro e v1 ⟨⟨o1,c1,rfl,hn⟩,hb⟩
 have NA1:=Lib.hid (hn.mono (by have:=HC.out.lt;have:=HZ.out.lt;omega:w.heap.size+1+1≤W.heap.size))
 have HC1:=Lib.hid (HC.out.below hb)
 have HZ1:=Lib.hid (HZ.out.below hb)
 have HB1:=Lib.hid (HB.out.trans (hb.mono HB.out.size))
 clear k0 k1 k2 kl hb HX HI1 HC HZ HB hn
 have k0:v1.cell? ⟨w.heap.size,0,none⟩=some (.int .i8 ka):=(HC1.out.cell 0).trans (by simpa using H0.out.a0)
 have k1:v1.cell? ⟨w.heap.size,1,none⟩=some (.int .i64 na):=(HC1.out.cell 1).trans (by simpa using H0.out.a1)
 have k2:v1.cell? ⟨w.heap.size,2,none⟩=some (.slice oa ra.length ca):=(HC1.out.cell 2).trans (by simpa using H0.out.a2)
 have kl:=HC1.out.lt
 have kf:=HC1.out.fz
 go_upto_region 2 with fail
 obtain⟨W1,hW⟩: ∃W,(((v1.setCell ⟨w.heap.size,0,none⟩ (.int .i8 ka)).setCell ⟨w.heap.size,1,none⟩ (.int .i64 na)).setCell ⟨w.heap.size,2,none⟩ (.slice o1 ra.length c1))=W:=⟨_,rfl⟩
 have HD1:Hid (CmdB W1 w.heap.size (((l.set 0 (.int .i8 ka)).set 1 (.int .i64 na)).set 2 (.slice o1 ra.length c1))):=Lib.hid (by rw[←hW];exact(((HC1.out.set 0 (v:= .int .i8 ka) rfl).set 1 (v:= .int .i64 na) rfl).set 2 (v:= .slice o1 ra.length c1) rfl))
 have HY1:Hid (CmdB W1 (w.heap.size+1) Tryz.zeroCells91.toList):=Lib.hid (by rw[←hW];exact(((HZ1.out.other (by omega) _ _).other (by omega) _ _).other (by omega) _ _))
 have HE1:Hid (Below w.heap.size w W1):=Lib.hid (by rw[←hW];exact(((HB1.out.setCell (p:=⟨w.heap.size,0,none⟩) (Nat.le_refl _) _).setCell (p:=⟨w.heap.size,1,none⟩) (Nat.le_refl _) _).setCell (p:=⟨w.heap.size,2,none⟩) (Nat.le_refl _) _))
 have NAx1:Hid (Nds W1 (w.heap.size+1+1) (.slice o1 ra.length c1) ra):=Lib.hid (by rw[←hW];exact NA1.out.block fun g hg=>by have h:=(NA1.out.lt g hg).1;iterate (first|exact rfl|refine(Below.heap_setCell _ _ _ _ (by show g≠w.heap.size;omega)).trans ?_))
 rw[hW]
 clear hW k0 k1 k2 kl kf HC1 HZ1 HB1 NA1
 have HI2:=Lib.hid (H0.out.below HE1.out)
 have k0:W1.cell? ⟨w.heap.size,3,none⟩=some (.int .i8 kb):=(HD1.out.cell 3).trans (by simpa using H0.out.b0)
 have k1:W1.cell? ⟨w.heap.size,4,none⟩=some (.int .i64 nb):=(HD1.out.cell 4).trans (by simpa using H0.out.b1)
 have k2:W1.cell? ⟨w.heap.size,5,none⟩=some (.slice ob rb.length cb):=(HD1.out.cell 5).trans (by simpa using H0.out.b2)
 have kl:=HD1.out.lt
 have HX:=Lib.hid (copyAddr_call (cap:=cb) kb nb HI2.out.sb HI2.out.zb)
 go_wp2_with fail
 refine HX.out.mono ?_;rintro e v2 ⟨⟨o2,c2,rfl,hn⟩,hb⟩
 have NB2:=Lib.hid (hn.mono (by have:=HY1.out.lt;omega:w.heap.size+1+1≤W1.heap.size))
 have HC2:=Lib.hid (HD1.out.below hb)
 have HZ2:=Lib.hid (HY1.out.below hb)
 have HB2:=Lib.hid (HE1.out.trans (hb.mono HE1.out.size))
 have NA2:=Lib.hid (NAx1.out.below hb)
 clear k0 k1 k2 kl hb HX HI2 HD1 HY1 HE1 hn
 have k0:v2.cell? ⟨w.heap.size,3,none⟩=some (.int .i8 kb):=(HC2.out.cell 3).trans (by simpa using H0.out.b0)
 have k1:v2.cell? ⟨w.heap.size,4,none⟩=some (.int .i64 nb):=(HC2.out.cell 4).trans (by simpa using H0.out.b1)
 have k2:v2.cell? ⟨w.heap.size,5,none⟩=some (.slice ob rb.length cb):=(HC2.out.cell 5).trans (by simpa using H0.out.b2)
 have kl:=HC2.out.lt
 have kf:=HC2.out.fz
 go_upto_region 3 with fail
 obtain⟨W2,hW⟩: ∃W,(((v2.setCell ⟨w.heap.size,3,none⟩ (.int .i8 kb)).setCell ⟨w.heap.size,4,none⟩ (.int .i64 nb)).setCell ⟨w.heap.size,5,none⟩ (.slice o2 rb.length c2))=W:=⟨_,rfl⟩
 have HD2:Hid (CmdB W2 w.heap.size ((((((l.set 0 (.int .i8 ka)).set 1 (.int .i64 na)).set 2 (.slice o1 ra.length c1)).set 3 (.int .i8 kb)).set 4 (.int .i64 nb)).set 5 (.slice o2 rb.length c2))):=Lib.hid (by rw[←hW];exact(((HC2.out.set 3 (v:= .int .i8 kb) rfl).set 4 (v:= .int .i64 nb) rfl).set 5 (v:= .slice o2 rb.length c2) rfl))
 have HY2:Hid (CmdB W2 (w.heap.size+1) Tryz.zeroCells91.toList):=Lib.hid (by rw[←hW];exact(((HZ2.out.other (by omega) _ _).other (by omega) _ _).other (by omega) _ _))
 have HE2:Hid (Below w.heap.size w W2):=Lib.hid (by rw[←hW];exact(((HB2.out.setCell (p:=⟨w.heap.size,3,none⟩) (Nat.le_refl _) _).setCell (p:=⟨w.heap.size,4,none⟩) (Nat.le_refl _) _).setCell (p:=⟨w.heap.size,5,none⟩) (Nat.le_refl _) _))
 have NAx2:Hid (Nds W2 (w.heap.size+1+1) (.slice o1 ra.length c1) ra):=Lib.hid (by rw[←hW];exact NA2.out.block fun g hg=>by have h:=(NA2.out.lt g hg).1;iterate (first|exact rfl|refine(Below.heap_setCell _ _ _ _ (by show g≠w.heap.size;omega)).trans ?_))
 have NBx2:Hid (Nds W2 (w.heap.size+1+1) (.slice o2 rb.length c2) rb):=Lib.hid (by rw[←hW];exact NB2.out.block fun g hg=>by have h:=(NB2.out.lt g hg).1;iterate (first|exact rfl|refine(Below.heap_setCell _ _ _ _ (by show g≠w.heap.size;omega)).trans ?_))
 rw[hW]
 clear hW k0 k1 k2 kl kf HC2 HZ2 HB2 NA2 NB2
 obtain⟨ot,nt',ct,ht,htx⟩:=H0.out.tx
 have HTX:=Lib.hid htx
 have HTT:=Lib.hid ht
 clear htx ht
 have k0:W2.cell? ⟨w.heap.size,9,none⟩=some (.slice ot nt' ct):=(HD2.out.cell 9).trans (by simpa using HTT.out)
 have kl:=HD2.out.lt
 have HX:=Lib.hid (copyBytesU (HTX.out.below HE2.out))
 go_wp2_with fail
 refine HX.out.mono ?_;rintro e v3 ⟨⟨o3,m3,c3,rfl⟩,hb⟩
 have HC3:=Lib.hid (HD2.out.below hb)
 have HZ3:=Lib.hid (HY2.out.below hb)
 have HB3:=Lib.hid (HE2.out.trans (hb.mono HE2.out.size))
 have NA3:=Lib.hid (NAx2.out.below hb)
 have NB3:=Lib.hid (NBx2.out.below hb)
 clear k0 kl hb HX HD2 HY2 HE2
 have k0:v3.cell? ⟨w.heap.size,9,none⟩=some (.slice ot nt' ct):=(HC3.out.cell 9).trans (by simpa using HTT.out)
 have kl:=HC3.out.lt
 have kf:=HC3.out.fz
 go_upto_region 4 with fail
 obtain⟨W3,hW⟩: ∃W,(v3.setCell ⟨w.heap.size,9,none⟩ (.slice o3 m3 c3))=W:=⟨_,rfl⟩
 have HD3:Hid (CmdB W3 w.heap.size (((((((l.set 0 (.int .i8 ka)).set 1 (.int .i64 na)).set 2 (.slice o1 ra.length c1)).set 3 (.int .i8 kb)).set 4 (.int .i64 nb)).set 5 (.slice o2 rb.length c2)).set 9 (.slice o3 m3 c3))):=Lib.hid (by rw[←hW];exact(HC3.out.set 9 (v:= .slice o3 m3 c3) rfl))
 have HY3:Hid (CmdB W3 (w.heap.size+1) Tryz.zeroCells91.toList):=Lib.hid (by rw[←hW];exact(HZ3.out.other (by omega) _ _))
 have HE3:Hid (Below w.heap.size w W3):=Lib.hid (by rw[←hW];exact(HB3.out.setCell (p:=⟨w.heap.size,9,none⟩) (Nat.le_refl _) _))
 have NAx3:Hid (Nds W3 (w.heap.size+1+1) (.slice o1 ra.length c1) ra):=Lib.hid (by rw[←hW];exact NA3.out.block fun g hg=>by have h:=(NA3.out.lt g hg).1;iterate (first|exact rfl|refine(Below.heap_setCell _ _ _ _ (by show g≠w.heap.size;omega)).trans ?_))
 have NBx3:Hid (Nds W3 (w.heap.size+1+1) (.slice o2 rb.length c2) rb):=Lib.hid (by rw[←hW];exact NB3.out.block fun g hg=>by have h:=(NB3.out.lt g hg).1;iterate (first|exact rfl|refine(Below.heap_setCell _ _ _ _ (by show g≠w.heap.size;omega)).trans ?_))
 rw[hW]
 clear hW k0 kl kf HC3 HZ3 HB3 NA3 NB3
 obtain⟨or,re,cr,hr,hrs,hrz⟩:=H0.out.re
 have HRS:=Lib.hid hrs
 have HRR:=Lib.hid hr
 have HRZ:=Lib.hid hrz
 clear hrs hr hrz
 have k0:W3.cell? ⟨w.heap.size,10,none⟩=some (.slice or re.length cr):=(HD3.out.cell 10).trans (by simpa using HRR.out)
 have kl:=HD3.out.lt
 have HX:=Lib.hid (copyNodesU (Src.below HRS.out HE3.out) HRZ.out)
 go_wp2_with fail
 refine HX.out.mono ?_;rintro e v4 ⟨⟨o4,m4,c4,rfl⟩,hb⟩
 have HC4:=Lib.hid (HD3.out.below hb)
 have HZ4:=Lib.hid (HY3.out.below hb)
 have HB4:=Lib.hid (HE3.out.trans (hb.mono HE3.out.size))
 have NA4:=Lib.hid (NAx3.out.below hb)
 have NB4:=Lib.hid (NBx3.out.below hb)
 clear k0 kl hb HX HD3 HY3 HE3
 have k0:v4.cell? ⟨w.heap.size,10,none⟩=some (.slice or re.length cr):=(HC4.out.cell 10).trans (by simpa using HRR.out)
 have kl:=HC4.out.lt
 have kf:=HC4.out.fz
 go_upto_region 5 with fail
 obtain⟨W4,hW⟩: ∃W,(v4.setCell ⟨w.heap.size,10,none⟩ (.slice o4 m4 c4))=W:=⟨_,rfl⟩
 have HD4:Hid (CmdB W4 w.heap.size ((((((((l.set 0 (.int .i8 ka)).set 1 (.int .i64 na)).set 2 (.slice o1 ra.length c1)).set 3 (.int .i8 kb)).set 4 (.int .i64 nb)).set 5 (.slice o2 rb.length c2)).set 9 (.slice o3 m3 c3)).set 10 (.slice o4 m4 c4))):=Lib.hid (by rw[←hW];exact(HC4.out.set 10 (v:= .slice o4 m4 c4) rfl))
 have HY4:Hid (CmdB W4 (w.heap.size+1) Tryz.zeroCells91.toList):=Lib.hid (by rw[←hW];exact(HZ4.out.other (by omega) _ _))
 have HE4:Hid (Below w.heap.size w W4):=Lib.hid (by rw[←hW];exact(HB4.out.setCell (p:=⟨w.heap.size,10,none⟩) (Nat.le_refl _) _))
 have NAx4:Hid (Nds W4 (w.heap.size+1+1) (.slice o1 ra.length c1) ra):=Lib.hid (by rw[←hW];exact NA4.out.block fun g hg=>by have h:=(NA4.out.lt g hg).1;iterate (first|exact rfl|refine(Below.heap_setCell _ _ _ _ (by show g≠w.heap.size;omega)).trans ?_))
 have NBx4:Hid (Nds W4 (w.heap.size+1+1) (.slice o2 rb.length c2) rb):=Lib.hid (by rw[←hW];exact NB4.out.block fun g hg=>by have h:=(NB4.out.lt g hg).1;iterate (first|exact rfl|refine(Below.heap_setCell _ _ _ _ (by show g≠w.heap.size;omega)).trans ?_))
 rw[hW]
 clear hW k0 kl kf HC4 HZ4 HB4 NA4 NB4
 obtain⟨of,nf,cf,hf,hfi⟩:=H0.out.fi
 have HFI:=Lib.hid hfi
 have HFF:=Lib.hid hf
 clear hfi hf
 have k0:W4.cell? ⟨w.heap.size,11,none⟩=some (.slice of nf cf):=(HD4.out.cell 11).trans (by simpa using HFF.out)
 have kl:=HD4.out.lt
 have HX:=Lib.hid (copyPieces_call (cap:=cf) (HFI.out.below HE4.out))
 go_wp2_with fail
 refine HX.out.mono ?_;rintro e v5 ⟨⟨o5,m5,c5,rfl⟩,hb⟩
 have HC5:=Lib.hid (HD4.out.below hb)
 have HZ5:=Lib.hid (HY4.out.below hb)
 have HB5:=Lib.hid (HE4.out.trans (hb.mono HE4.out.size))
 have NA5:=Lib.hid (NAx4.out.below hb)
 have NB5:=Lib.hid (NBx4.out.below hb)
 clear k0 kl hb HX HD4 HY4 HE4
 have k0:v5.cell? ⟨w.heap.size,11,none⟩=some (.slice of nf cf):=(HC5.out.cell 11).trans (by simpa using HFF.out)
 have kl:=HC5.out.lt
 have kf:=HC5.out.fz
 go_upto_region 6 with fail
 obtain⟨W5,hW⟩: ∃W,(v5.setCell ⟨w.heap.size,11,none⟩ (.slice o5 m5 c5))=W:=⟨_,rfl⟩
 have HD5:Hid (CmdB W5 w.heap.size (((((((((l.set 0 (.int .i8 ka)).set 1 (.int .i64 na)).set 2 (.slice o1 ra.length c1)).set 3 (.int .i8 kb)).set 4 (.int .i64 nb)).set 5 (.slice o2 rb.length c2)).set 9 (.slice o3 m3 c3)).set 10 (.slice o4 m4 c4)).set 11 (.slice o5 m5 c5))):=Lib.hid (by rw[←hW];exact(HC5.out.set 11 (v:= .slice o5 m5 c5) rfl))
 have HY5:Hid (CmdB W5 (w.heap.size+1) Tryz.zeroCells91.toList):=Lib.hid (by rw[←hW];exact(HZ5.out.other (by omega) _ _))
 have HE5:Hid (Below w.heap.size w W5):=Lib.hid (by rw[←hW];exact(HB5.out.setCell (p:=⟨w.heap.size,11,none⟩) (Nat.le_refl _) _))
 have NAx5:Hid (Nds W5 (w.heap.size+1+1) (.slice o1 ra.length c1) ra):=Lib.hid (by rw[←hW];exact NA5.out.block fun g hg=>by have h:=(NA5.out.lt g hg).1;iterate (first|exact rfl|refine(Below.heap_setCell _ _ _ _ (by show g≠w.heap.size;omega)).trans ?_))
 have NBx5:Hid (Nds W5 (w.heap.size+1+1) (.slice o2 rb.length c2) rb):=Lib.hid (by rw[←hW];exact NB5.out.block fun g hg=>by have h:=(NB5.out.lt g hg).1;iterate (first|exact rfl|refine(Below.heap_setCell _ _ _ _ (by show g≠w.heap.size;omega)).trans ?_))
 rw[hW]
 clear hW k0 kl kf HC5 HZ5 HB5 NA5 NB5
 obtain⟨LL,hLL⟩: ∃LL,(((((((((l.set 0 (.int .i8 ka)).set 1 (.int .i64 na)).set 2 (.slice o1 ra.length c1)).set 3 (.int .i8 kb)).set 4 (.int .i64 nb)).set 5 (.slice o2 rb.length c2)).set 9 (.slice o3 m3 c3)).set 10 (.slice o4 m4 c4)).set 11 (.slice o5 m5 c5))=LL:=⟨_,rfl⟩
 rw[hLL]at HD5
 have HLL:=Lib.hid hLL
 clear hLL
 have HSZ:=Lib.hid (CmdB.info HD5.out.cl)
 have HSO:Hid (Tryz.zeroCells91.toList.toArray.size=LL.toArray.size):=Lib.hid (by rw[List.size_toArray,List.size_toArray,cmd_size,HD5.out.cl.len])
 have HON:Hid (LL.toArray.all (·.oneCell')=true):=Lib.hid (by rw[←Array.all_toList,List.all_eq_true];simpa using HD5.out.cl.one)
 go_wp2_with (first|refine wpList_load_row rfl 91 _ rfl w.heap.size rfl _ _ (0,0) _ HD5.out.heap Tryz.underlying91 rfl HSZ.out ?_|refine wpList_store_row rfl 91 _ _ rfl (w.heap.size+1) _ rfl rfl _ _ HY5.out.heap HSZ.out HSO.out HON.out ?_)
 have HR:CmdB (W5.setRow (w.heap.size+1) LL.toArray) (w.heap.size+1) LL:=⟨setRow_heap _ _ _ _ _ _ HY5.out.heap,HD5.out.cl⟩
 refine ret_cellC (p:=2) rfl rfl rfl HR ⟨⟨LL,o1,c1,o2,c2,rfl,HD5.out.cl,?_,?_,?_⟩,?_⟩
 ·rw[←HLL.out]
  have hlen:=H0.out.cl.len
  exact⟨by simp[hlen],by simp[hlen],by simp[hlen],by simp[hlen],by simp[hlen],by simp[hlen],by simpa using H0.out.n⟩
 ·exact(NAx5.out.block fun g hg=>setRow_other _ _ _ _ (by have:=(NAx5.out.lt g hg).1;omega)).mono (by omega)
 ·exact(NBx5.out.block fun g hg=>setRow_other _ _ _ _ (by have:=(NBx5.out.lt g hg).1;omega)).mono (by omega)
 ·exact below_setRow HE5.out (by omega) _
end
end Go.Proofs.YtfjbnpdffillbaaGreatDoor
