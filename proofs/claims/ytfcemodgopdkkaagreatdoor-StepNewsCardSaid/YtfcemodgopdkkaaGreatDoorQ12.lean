/- Parts: Gva Hg. -/
import Derived.Test.YtfcemodgopdkkaaGreatDoorQ10
import Derived.Test.YtfcemodgopdkkaaGreatDoorQ11
import Derived.Laws.CopyOwn
set_option maxHeartbeats 3200000
set_option maxRecDepth 100000
namespace Go.Proofs.YtfcemodgopdkkaaGreatDoor
section
open Go.RowKit
structure zBE (w:World) (b:Nat) (l:List Value):Prop where
 heap:w.heap[b]?=some (.cells l.toArray 71 (0,0))
 cl:zBc l
structure zL5 (l:List Value):Prop where
 c7: ∃v,l[7]?=some (.int .u8 v)
 c8: ∃v,l[8]?=some (.int .i64 v)
 c12: ∃v,l[12]?=some (.int .i64 v)
 c13: ∃v,l[13]?=some (.bool v)
 c14: ∃v,l[14]?=some (.bool v)
 c15: ∃v,l[15]?=some (.bool v)
 tab: ∀j,j<256→ ∃v,l[16+j]?=some (.int .u8 v)
structure zHa (w:World) (l:List Value) (ka na:Int) (oa:Option Addr) (ra:List Nd) (ca:Nat) (kb nb:Int) (ob:Option Addr) (rb:List Nd) (cb:Nat) (nt:Bool):Prop where
 cl:zBc l
 a0:l[0]?=some (.int .i8 ka)
 a1:l[1]?=some (.int .i64 na)
 a2:l[2]?=some (.slice oa ra.length ca)
 b0:l[3]?=some (.int .i8 kb)
 b1:l[4]?=some (.int .i64 nb)
 b2:l[5]?=some (.slice ob rb.length cb)
 n:l[6]?=some (.bool nt)
 sa:Src w (.slice oa ra.length ca) ra.length (zBb ra)
 za:ra.length*72≤140737488355328
 sb:Src w (.slice ob rb.length cb) rb.length (zBb rb)
 zb:rb.length*72≤140737488355328
 tx: ∃o n c,l[9]?=some (.slice o n c)∧BtU w o n c
 re: ∃o re c,l[10]?=some (.slice o re.length c)∧Src w (.slice o re.length c) re.length (zBb re)∧re.length*72≤140737488355328
 fi: ∃o n c,l[11]?=some (.slice o n c)∧PcW w o n
 x:zL5 l
 ba: -128≤ka∧ka≤127
 bb: -128≤kb∧kb≤127
section
variable {w w':World} {b:Nat} {l:List Value} {ka na:Int} {oa:Option Addr} {ra:List Nd} {ca:Nat} {kb nb:Int} {ob:Option Addr} {rb:List Nd} {cb:Nat} {nt:Bool}
theorem zBE.lt (h:zBE w b l):b<w.heap.size:=(zMG.1 h.heap).1
theorem zBE.cell (h:zBE w b l) (j:Nat):w.cell? ⟨b,j,none⟩=l[j]?:=(zMN _ _ j _ _ (0,0) h.heap).trans (by simp)
theorem zBE.fz (h:zBE w b l) (j:Nat):w.frozen? ⟨b,j,none⟩=false:=zAm h.heap j
theorem zBE.block (h:zBE w b l) (hb:w'.heap[b]?=w.heap[b]?):zBE w' b l:=⟨hb.trans h.heap,h.cl⟩
theorem zBE.below (h:zBE w b l) (hb:Below w.heap.size w w'):zBE w' b l:=h.block (hb.block b h.lt)
theorem zBE.other (h:zBE w b l) {c:Nat} (hc:b≠c) (o:Nat) (v:Value):zBE (w.setCell ⟨c,o,none⟩ v) b l:=h.block (zMI _ _ _ _ hc)
theorem zBE.set (h:zBE w b l) (i:Nat) {v:Value} (hv:v.oneCell'=true):zBE (w.setCell ⟨b,i,none⟩ v) b (l.set i v):=
 ⟨by
  rw[setCell_eq_setRow w b i _ _ _ v h.heap,setRow_heap w b _ _ _ _ h.heap]
  simp,h.cl.set i hv⟩
theorem zBE.new (hl:zBc l) (w:World):zBE (w.alloc (.cells l.toArray 71)) w.heap.size l:=⟨zML w _,hl⟩
theorem zBE.zero (w:World):zBE (w.alloc (.cells Tryz.zeroCells71 71)) w.heap.size Tryz.zeroCells71.toList:=⟨by rw[Array.toArray_toList];exact zML w _,zBc.zero⟩
theorem zBE.info (h:zBc l):(Tryz.prog.info? 71).map (·.size)=some l.toArray.size:=by rw[zAd,List.size_toArray,h.len]
theorem zEs {fn:Func} {p:Tmp} (hf:fn.results= #[.cell p 71]) {Q:Ending→World→Prop} {a:Act} {w:World} (hp:a.tmps.getD p undef= .pointer (some ⟨b,0,none⟩)) (hd:a.defers=[])
  (h:zBE w b l) (hQ:Q (.returned (.agg l.toArray)) w):bodyPost Tryz.prog fn Q .ret a w:=by
 refine zMi (v:= .agg l.toArray) ?_ hd hQ
 rw[zBC hf,hp]
 simp only[asAddr,Sem.run_pure,Result.andThen]
 exact run_loadVar_row w b _ _ _ (0,0) _ h.heap Tryz.underlying71 rfl (zBE.info h.cl)
theorem zHa.below (h:zHa w l ka na oa ra ca kb nb ob rb cb nt) (hb:Below w.heap.size w w'):zHa w' l ka na oa ra ca kb nb ob rb cb nt:=
 ⟨h.cl,h.a0,h.a1,h.a2,h.b0,h.b1,h.b2,h.n,Src.below h.sa hb,h.za,Src.below h.sb hb,h.zb,
  by obtain⟨o,n,c,e1,e2⟩:=h.tx;exact⟨o,n,c,e1,e2.below hb⟩,by obtain⟨o,r,c,e1,e2,e3⟩:=h.re;exact⟨o,r,c,e1,Src.below e2 hb,e3⟩,by obtain⟨o,n,c,e1,e2⟩:=h.fi;exact⟨o,n,c,e1,e2.below hb⟩,h.x,h.ba,h.bb⟩
end
end
section
open Go.RowKit
structure Cx where
 l:List Value
 ka:Int
 na:Int
 oa:Option Addr
 ra:List Nd
 ca:Nat
 kb:Int
 nb:Int
 ob:Option Addr
 rb:List Nd
 cb:Nat
 nt:Bool
 ot:Option Addr
 ct:Nat
 T:List Nat
 oe:Option Addr
 ce:Nat
 R:List Nd
 op:Option Addr
 cp:Nat
 P:List Pce
structure zJ1 (w:World) (c:Cx):Prop where
 ci:zHa w c.l c.ka c.na c.oa c.ra c.ca c.kb c.nb c.ob c.rb c.cb c.nt
 a:NdU w c.oa c.ra
 b:NdU w c.ob c.rb
 e9:c.l[9]?=some (.slice c.ot c.T.length c.ct)
 t:BtM w c.ot c.T
 tz:c.T.length≤140737488355328
 tl: ∀b∈c.T,b<256
 e10:c.l[10]?=some (.slice c.oe c.R.length c.ce)
 r:NdU w c.oe c.R
 rz:c.R.length*72≤140737488355328
 e11:c.l[11]?=some (.slice c.op c.P.length c.cp)
 p:PcO w c.op c.P
theorem zJ1.below {w w':World} {c:Cx} (h:zJ1 w c) (hb:Below w.heap.size w w'):zJ1 w' c:=
 ⟨h.ci.below hb,h.a.below hb,h.b.below hb,h.e9,h.t.below hb,h.tz,h.tl,h.e10,h.r.below hb,h.rz,h.e11,h.p.below hb⟩
theorem zJ1.of {w:World} {l:List Value} {ka na:Int} {oa:Option Addr} {ra:List Nd} {ca:Nat} {kb nb:Int} {ob:Option Addr} {rb:List Nd} {cb:Nat} {nt:Bool} (h:zHa w l ka na oa ra ca kb nb ob rb cb nt):
  ∃ot ct T oe ce R op cp P,zJ1 w ⟨l,ka,na,oa,ra,ca,kb,nb,ob,rb,cb,nt,ot,ct,T,oe,ce,R,op,cp,P⟩:=by
 obtain⟨ot,n,ct,e9,T,rfl,ts,tz,tl⟩:=h.tx
 obtain⟨oe,R,ce,e10,rs,rz⟩:=h.re
 obtain⟨op,m,cp,e11,hp⟩:=h.fi
 obtain⟨P,rfl,hP⟩:=PcO.of hp
 exact⟨ot,ct,T,oe,ce,R,op,cp,P,h,NdU.of_src h.sa,NdU.of_src h.sb,e9,BtM.of_src ts,tz,tl,e10,NdU.of_src rs,rz,e11,hP⟩
structure zBa (w:World) (base:Nat) (c:Cx) (L:List Value) (ga gb gt gr gp:Nat):Prop where
 cl:zBc L
 e2:L[2]?=some (.slice (some ⟨ga,0,none⟩) c.ra.length (c.ra.length+64))
 e5:L[5]?=some (.slice (some ⟨gb,0,none⟩) c.rb.length (c.rb.length+64))
 e9:L[9]?=some (.slice (some ⟨gt,0,none⟩) c.T.length (c.T.length+64))
 e10:L[10]?=some (.slice (some ⟨gr,0,none⟩) c.R.length (c.R.length+64))
 e11:L[11]?=some (.slice (some ⟨gp,0,none⟩) c.P.length (c.P.length+64))
 same: ∀j,j≠2→j≠5→j≠9→j≠10→j≠11→L[j]?=c.l[j]?
 a:zAy w base ga c.ra.length c.ra
 b:zAy w base gb c.rb.length c.rb
 t:zAt w base gt c.T.length c.T
 r:zAy w base gr c.R.length c.R
 p:zBd w base gp c.P.length c.P
section
variable {w w':World} {c:Cx}
theorem zBa.block {base hi:Nat} {L:List Value} {ga gb gt gr gp:Nat} (h:zBa w base c L ga gb gt gr gp) (hs:w.heap.size≤hi) (hb: ∀k,base≤k→k<hi→w'.heap[k]?=w.heap[k]?) (hz:w.heap.size≤w'.heap.size):zBa w' base c L ga gb gt gr gp:=
 have f: ∀g,base≤g∧g<w.heap.size→w'.heap[g]?=w.heap[g]?:=fun g hg=>hb g hg.1 (zMB hg.2 hs)
 ⟨h.cl,h.e2,h.e5,h.e9,h.e10,h.e11,h.same,h.a.block (f _ h.a.lt),h.b.block (f _ h.b.lt),h.t.block (f _ h.t.lt),h.r.block (f _ h.r.lt),h.p.block hs hb hz⟩
theorem zBa.below {base:Nat} {L:List Value} {ga gb gt gr gp:Nat} (h:zBa w base c L ga gb gt gr gp) (hb:Below w.heap.size w w'):zBa w' base c L ga gb gt gr gp:=
 h.block (zMA _) (fun k _ hk=>hb.block k hk) hb.size
theorem zI0 (h:zJ1 w c):
  Calls Tryz.prog 53 #[.agg c.l.toArray] w fun e w'=>(∃L ga gb gt gr gp,e= .returned (.agg L.toArray)∧zBa w' w.heap.size c L ga gb gt gr gp)∧Below w.heap.size w w':=by
 have hb1:=((zL9 w.heap.size w).alloc (zMA _) (.cells c.l.toArray 71)).alloc (by simp) (.cells Tryz.zeroCells71 71)
 have HC:=zL8 ((zBE.new h.ci.cl w).below ((zL9 _ _).alloc (zMA _) (.cells Tryz.zeroCells71 71)))
 have HZ:=zL8 (zBE.zero (w.alloc (.cells c.l.toArray 71)))
 have hsz:(w.alloc (.cells c.l.toArray 71)).heap.size=w.heap.size+1:=by simp
 rw[hsz]at HZ
 have HB:=zL8 hb1
 have H0:=zL8 h
 clear h hb1 hsz
 go_enter Tryz.func53,Tryz.ntmps53
 go_upto_region 1 with fail
 obtain⟨W0,hW⟩: ∃W,(w.alloc (.cells c.l.toArray 71)).alloc (.cells Tryz.zeroCells71 71)=W:=⟨_,rfl⟩
 rw[hW]at HC HZ HB ⊢
 clear hW
 have HD0:=HC
 have HY0:=HZ
 have HE0:=HB
 clear HC HZ HB
 have k0:W0.cell? ⟨w.heap.size,0,none⟩=some (.int .i8 c.ka):=(HD0.out.cell 0).trans (by simpa using H0.out.ci.a0)
 have k1:W0.cell? ⟨w.heap.size,1,none⟩=some (.int .i64 c.na):=(HD0.out.cell 1).trans (by simpa using H0.out.ci.a1)
 have k2:W0.cell? ⟨w.heap.size,2,none⟩=some (.slice c.oa c.ra.length c.ca):=(HD0.out.cell 2).trans (by simpa using H0.out.ci.a2)
 have kl:=HD0.out.lt
 have HX:=zL8 (zEU (cap:=c.ca) c.ka c.na (H0.out.a.below HE0.out) H0.out.ci.za)
 go_wp2_with fail
 refine HX.out.mono ?_;rintro e v1 ⟨⟨ga,rfl,hn⟩,hb⟩
 have FA:Hid (zAy v1 (w.heap.size+1+1) ga c.ra.length c.ra):=zL8 (hn.mono (by have:=HY0.out.lt;omega))
 have HC:=zL8 (HD0.out.below hb)
 have HZ:=zL8 (HY0.out.below hb)
 have HB:=zL8 (HE0.out.trans (hb.mono HE0.out.size))
 clear k0 k1 k2 kl hb hn HX HD0 HY0 HE0
 have k0:v1.cell? ⟨w.heap.size,0,none⟩=some (.int .i8 c.ka):=(HC.out.cell 0).trans (by simpa using H0.out.ci.a0)
 have k1:v1.cell? ⟨w.heap.size,1,none⟩=some (.int .i64 c.na):=(HC.out.cell 1).trans (by simpa using H0.out.ci.a1)
 have k2:v1.cell? ⟨w.heap.size,2,none⟩=some (.slice c.oa c.ra.length c.ca):=(HC.out.cell 2).trans (by simpa using H0.out.ci.a2)
 have kl:=HC.out.lt
 have kf:=HC.out.fz
 go_upto_region 2 with fail
 obtain⟨W1,hW⟩: ∃W,(((v1.setCell ⟨w.heap.size,0,none⟩ (.int .i8 c.ka)).setCell ⟨w.heap.size,1,none⟩ (.int .i64 c.na)).setCell ⟨w.heap.size,2,none⟩ (.slice (some ⟨ga,0,none⟩) c.ra.length (c.ra.length+64)))=W:=⟨_,rfl⟩
 have HD1:Hid (zBE W1 w.heap.size (((c.l.set 0 (.int .i8 c.ka)).set 1 (.int .i64 c.na)).set 2 (.slice (some ⟨ga,0,none⟩) c.ra.length (c.ra.length+64)))):=zL8 (by rw[←hW];exact(((HC.out.set 0 (v:= .int .i8 c.ka) rfl).set 1 (v:= .int .i64 c.na) rfl).set 2 (v:= .slice (some ⟨ga,0,none⟩) c.ra.length (c.ra.length+64)) rfl))
 have HY1:Hid (zBE W1 (w.heap.size+1) Tryz.zeroCells71.toList):=zL8 (by rw[←hW];exact(((HZ.out.other (by omega) _ _).other (by omega) _ _).other (by omega) _ _))
 have HE1:Hid (Below w.heap.size w W1):=zL8 (by rw[←hW];exact(((HB.out.setCell (p:=⟨w.heap.size,0,none⟩) (zMA _) _).setCell (p:=⟨w.heap.size,1,none⟩) (zMA _) _).setCell (p:=⟨w.heap.size,2,none⟩) (zMA _) _))
 replace FA:Hid (zAy W1 (w.heap.size+1+1) ga c.ra.length c.ra):=zL8 (by rw[←hW];exact(((FA.out.other (by omega) _ _).other (by omega) _ _).other (by omega) _ _))
 rw[hW]
 clear hW k0 k1 k2 kl kf HC HZ HB
 have k0:W1.cell? ⟨w.heap.size,3,none⟩=some (.int .i8 c.kb):=(HD1.out.cell 3).trans (by simpa using H0.out.ci.b0)
 have k1:W1.cell? ⟨w.heap.size,4,none⟩=some (.int .i64 c.nb):=(HD1.out.cell 4).trans (by simpa using H0.out.ci.b1)
 have k2:W1.cell? ⟨w.heap.size,5,none⟩=some (.slice c.ob c.rb.length c.cb):=(HD1.out.cell 5).trans (by simpa using H0.out.ci.b2)
 have kl:=HD1.out.lt
 have HX:=zL8 (zEU (cap:=c.cb) c.kb c.nb (H0.out.b.below HE1.out) H0.out.ci.zb)
 go_wp2_with fail
 refine HX.out.mono ?_;rintro e v2 ⟨⟨gb,rfl,hn⟩,hb⟩
 have FBb:Hid (zAy v2 (w.heap.size+1+1) gb c.rb.length c.rb):=zL8 (hn.mono (by have:=HY1.out.lt;omega))
 have HC:=zL8 (HD1.out.below hb)
 have HZ:=zL8 (HY1.out.below hb)
 have HB:=zL8 (HE1.out.trans (hb.mono HE1.out.size))
 have FA':=zL8 (FA.out.below hb)
 clear k0 k1 k2 kl hb hn HX HD1 HY1 HE1 FA
 have k0:v2.cell? ⟨w.heap.size,3,none⟩=some (.int .i8 c.kb):=(HC.out.cell 3).trans (by simpa using H0.out.ci.b0)
 have k1:v2.cell? ⟨w.heap.size,4,none⟩=some (.int .i64 c.nb):=(HC.out.cell 4).trans (by simpa using H0.out.ci.b1)
 have k2:v2.cell? ⟨w.heap.size,5,none⟩=some (.slice c.ob c.rb.length c.cb):=(HC.out.cell 5).trans (by simpa using H0.out.ci.b2)
 have kl:=HC.out.lt
 have kf:=HC.out.fz
 go_upto_region 3 with fail
 obtain⟨W2,hW⟩: ∃W,(((v2.setCell ⟨w.heap.size,3,none⟩ (.int .i8 c.kb)).setCell ⟨w.heap.size,4,none⟩ (.int .i64 c.nb)).setCell ⟨w.heap.size,5,none⟩ (.slice (some ⟨gb,0,none⟩) c.rb.length (c.rb.length+64)))=W:=⟨_,rfl⟩
 have HD2:Hid (zBE W2 w.heap.size ((((((c.l.set 0 (.int .i8 c.ka)).set 1 (.int .i64 c.na)).set 2 (.slice (some ⟨ga,0,none⟩) c.ra.length (c.ra.length+64))).set 3 (.int .i8 c.kb)).set 4 (.int .i64 c.nb)).set 5 (.slice (some ⟨gb,0,none⟩) c.rb.length (c.rb.length+64)))):=zL8 (by rw[←hW];exact(((HC.out.set 3 (v:= .int .i8 c.kb) rfl).set 4 (v:= .int .i64 c.nb) rfl).set 5 (v:= .slice (some ⟨gb,0,none⟩) c.rb.length (c.rb.length+64)) rfl))
 have HY2:Hid (zBE W2 (w.heap.size+1) Tryz.zeroCells71.toList):=zL8 (by rw[←hW];exact(((HZ.out.other (by omega) _ _).other (by omega) _ _).other (by omega) _ _))
 have HE2:Hid (Below w.heap.size w W2):=zL8 (by rw[←hW];exact(((HB.out.setCell (p:=⟨w.heap.size,3,none⟩) (zMA _) _).setCell (p:=⟨w.heap.size,4,none⟩) (zMA _) _).setCell (p:=⟨w.heap.size,5,none⟩) (zMA _) _))
 have FA:Hid (zAy W2 (w.heap.size+1+1) ga c.ra.length c.ra):=zL8 (by rw[←hW];exact(((FA'.out.other (by omega) _ _).other (by omega) _ _).other (by omega) _ _))
 replace FBb:Hid (zAy W2 (w.heap.size+1+1) gb c.rb.length c.rb):=zL8 (by rw[←hW];exact(((FBb.out.other (by omega) _ _).other (by omega) _ _).other (by omega) _ _))
 rw[hW]
 clear hW k0 k1 k2 kl kf HC HZ HB FA'
 have k0:W2.cell? ⟨w.heap.size,9,none⟩=some (.slice c.ot c.T.length c.ct):=(HD2.out.cell 9).trans (by simpa using H0.out.e9)
 have kl:=HD2.out.lt
 have HX:=zL8 (zCn (cap:=c.ct) (H0.out.t.below HE2.out) H0.out.tz)
 go_wp2_with fail
 refine HX.out.mono ?_;rintro e v3 ⟨⟨gt,rfl,hn⟩,hb⟩
 have FT:Hid (zAt v3 (w.heap.size+1+1) gt c.T.length c.T):=zL8 (hn.mono (by have:=HY2.out.lt;omega))
 have HC:=zL8 (HD2.out.below hb)
 have HZ:=zL8 (HY2.out.below hb)
 have HB:=zL8 (HE2.out.trans (hb.mono HE2.out.size))
 have FA':=zL8 (FA.out.below hb)
 have FBb':=zL8 (FBb.out.below hb)
 clear k0 kl hb hn HX HD2 HY2 HE2 FA FBb
 have k0:v3.cell? ⟨w.heap.size,9,none⟩=some (.slice c.ot c.T.length c.ct):=(HC.out.cell 9).trans (by simpa using H0.out.e9)
 have kl:=HC.out.lt
 have kf:=HC.out.fz
 go_upto_region 4 with fail
 obtain⟨W3,hW⟩: ∃W,(v3.setCell ⟨w.heap.size,9,none⟩ (.slice (some ⟨gt,0,none⟩) c.T.length (c.T.length+64)))=W:=⟨_,rfl⟩
 have HD3:Hid (zBE W3 w.heap.size (((((((c.l.set 0 (.int .i8 c.ka)).set 1 (.int .i64 c.na)).set 2 (.slice (some ⟨ga,0,none⟩) c.ra.length (c.ra.length+64))).set 3 (.int .i8 c.kb)).set 4 (.int .i64 c.nb)).set 5 (.slice (some ⟨gb,0,none⟩) c.rb.length (c.rb.length+64))).set 9 (.slice (some ⟨gt,0,none⟩) c.T.length (c.T.length+64)))):=zL8 (by rw[←hW];exact(HC.out.set 9 (v:= .slice (some ⟨gt,0,none⟩) c.T.length (c.T.length+64)) rfl))
 have HY3:Hid (zBE W3 (w.heap.size+1) Tryz.zeroCells71.toList):=zL8 (by rw[←hW];exact(HZ.out.other (by omega) _ _))
 have HE3:Hid (Below w.heap.size w W3):=zL8 (by rw[←hW];exact(HB.out.setCell (p:=⟨w.heap.size,9,none⟩) (zMA _) _))
 have FA:Hid (zAy W3 (w.heap.size+1+1) ga c.ra.length c.ra):=zL8 (by rw[←hW];exact(FA'.out.other (by omega) _ _))
 have FBb:Hid (zAy W3 (w.heap.size+1+1) gb c.rb.length c.rb):=zL8 (by rw[←hW];exact(FBb'.out.other (by omega) _ _))
 replace FT:Hid (zAt W3 (w.heap.size+1+1) gt c.T.length c.T):=zL8 (by rw[←hW];exact(FT.out.other (by omega) _ _))
 rw[hW]
 clear hW k0 kl kf HC HZ HB FA' FBb'
 have k0:W3.cell? ⟨w.heap.size,10,none⟩=some (.slice c.oe c.R.length c.ce):=(HD3.out.cell 10).trans (by simpa using H0.out.e10)
 have kl:=HD3.out.lt
 have HX:=zL8 (zDp (cap:=c.ce) (H0.out.r.below HE3.out) (by have:=H0.out.rz;omega))
 go_wp2_with fail
 refine HX.out.mono ?_;rintro e v4 ⟨⟨gr,rfl,hn⟩,hb⟩
 have FR:Hid (zAy v4 (w.heap.size+1+1) gr c.R.length c.R):=zL8 (⟨rfl,hn.mono (by have:=HY3.out.lt;omega)⟩)
 have HC:=zL8 (HD3.out.below hb)
 have HZ:=zL8 (HY3.out.below hb)
 have HB:=zL8 (HE3.out.trans (hb.mono HE3.out.size))
 have FA':=zL8 (FA.out.below hb)
 have FBb':=zL8 (FBb.out.below hb)
 have FT':=zL8 (FT.out.below hb)
 clear k0 kl hb hn HX HD3 HY3 HE3 FA FBb FT
 have k0:v4.cell? ⟨w.heap.size,10,none⟩=some (.slice c.oe c.R.length c.ce):=(HC.out.cell 10).trans (by simpa using H0.out.e10)
 have kl:=HC.out.lt
 have kf:=HC.out.fz
 go_upto_region 5 with fail
 obtain⟨W4,hW⟩: ∃W,(v4.setCell ⟨w.heap.size,10,none⟩ (.slice (some ⟨gr,0,none⟩) c.R.length (c.R.length+64)))=W:=⟨_,rfl⟩
 have HD4:Hid (zBE W4 w.heap.size ((((((((c.l.set 0 (.int .i8 c.ka)).set 1 (.int .i64 c.na)).set 2 (.slice (some ⟨ga,0,none⟩) c.ra.length (c.ra.length+64))).set 3 (.int .i8 c.kb)).set 4 (.int .i64 c.nb)).set 5 (.slice (some ⟨gb,0,none⟩) c.rb.length (c.rb.length+64))).set 9 (.slice (some ⟨gt,0,none⟩) c.T.length (c.T.length+64))).set 10 (.slice (some ⟨gr,0,none⟩) c.R.length (c.R.length+64)))):=zL8 (by rw[←hW];exact(HC.out.set 10 (v:= .slice (some ⟨gr,0,none⟩) c.R.length (c.R.length+64)) rfl))
 have HY4:Hid (zBE W4 (w.heap.size+1) Tryz.zeroCells71.toList):=zL8 (by rw[←hW];exact(HZ.out.other (by omega) _ _))
 have HE4:Hid (Below w.heap.size w W4):=zL8 (by rw[←hW];exact(HB.out.setCell (p:=⟨w.heap.size,10,none⟩) (zMA _) _))
 have FA:Hid (zAy W4 (w.heap.size+1+1) ga c.ra.length c.ra):=zL8 (by rw[←hW];exact(FA'.out.other (by omega) _ _))
 have FBb:Hid (zAy W4 (w.heap.size+1+1) gb c.rb.length c.rb):=zL8 (by rw[←hW];exact(FBb'.out.other (by omega) _ _))
 have FT:Hid (zAt W4 (w.heap.size+1+1) gt c.T.length c.T):=zL8 (by rw[←hW];exact(FT'.out.other (by omega) _ _))
 replace FR:Hid (zAy W4 (w.heap.size+1+1) gr c.R.length c.R):=zL8 (by rw[←hW];exact(FR.out.other (by omega) _ _))
 rw[hW]
 clear hW k0 kl kf HC HZ HB FA' FBb' FT'
 have k0:W4.cell? ⟨w.heap.size,11,none⟩=some (.slice c.op c.P.length c.cp):=(HD4.out.cell 11).trans (by simpa using H0.out.e11)
 have kl:=HD4.out.lt
 have HX:=zL8 (zFQ (cap:=c.cp) (H0.out.p.below HE4.out))
 go_wp2_with fail
 refine HX.out.mono ?_;rintro e v5 ⟨⟨gp,rfl,hn⟩,hb⟩
 have FP:Hid (zBd v5 (w.heap.size+1+1) gp c.P.length c.P):=zL8 (hn.mono (by have:=HY4.out.lt;omega))
 have HC:=zL8 (HD4.out.below hb)
 have HZ:=zL8 (HY4.out.below hb)
 have HB:=zL8 (HE4.out.trans (hb.mono HE4.out.size))
 have FA':=zL8 (FA.out.below hb)
 have FBb':=zL8 (FBb.out.below hb)
 have FT':=zL8 (FT.out.below hb)
 have FR':=zL8 (FR.out.below hb)
 clear k0 kl hb hn HX HD4 HY4 HE4 FA FBb FT FR
 have k0:v5.cell? ⟨w.heap.size,11,none⟩=some (.slice c.op c.P.length c.cp):=(HC.out.cell 11).trans (by simpa using H0.out.e11)
 have kl:=HC.out.lt
 have kf:=HC.out.fz
 go_upto_region 6 with fail
 obtain⟨W5,hW⟩: ∃W,(v5.setCell ⟨w.heap.size,11,none⟩ (.slice (some ⟨gp,0,none⟩) c.P.length (c.P.length+64)))=W:=⟨_,rfl⟩
 have HD5:Hid (zBE W5 w.heap.size (((((((((c.l.set 0 (.int .i8 c.ka)).set 1 (.int .i64 c.na)).set 2 (.slice (some ⟨ga,0,none⟩) c.ra.length (c.ra.length+64))).set 3 (.int .i8 c.kb)).set 4 (.int .i64 c.nb)).set 5 (.slice (some ⟨gb,0,none⟩) c.rb.length (c.rb.length+64))).set 9 (.slice (some ⟨gt,0,none⟩) c.T.length (c.T.length+64))).set 10 (.slice (some ⟨gr,0,none⟩) c.R.length (c.R.length+64))).set 11 (.slice (some ⟨gp,0,none⟩) c.P.length (c.P.length+64)))):=zL8 (by rw[←hW];exact(HC.out.set 11 (v:= .slice (some ⟨gp,0,none⟩) c.P.length (c.P.length+64)) rfl))
 have HY5:Hid (zBE W5 (w.heap.size+1) Tryz.zeroCells71.toList):=zL8 (by rw[←hW];exact(HZ.out.other (by omega) _ _))
 have HE5:Hid (Below w.heap.size w W5):=zL8 (by rw[←hW];exact(HB.out.setCell (p:=⟨w.heap.size,11,none⟩) (zMA _) _))
 have FA:Hid (zAy W5 (w.heap.size+1+1) ga c.ra.length c.ra):=zL8 (by rw[←hW];exact(FA'.out.other (by omega) _ _))
 have FBb:Hid (zAy W5 (w.heap.size+1+1) gb c.rb.length c.rb):=zL8 (by rw[←hW];exact(FBb'.out.other (by omega) _ _))
 have FT:Hid (zAt W5 (w.heap.size+1+1) gt c.T.length c.T):=zL8 (by rw[←hW];exact(FT'.out.other (by omega) _ _))
 have FR:Hid (zAy W5 (w.heap.size+1+1) gr c.R.length c.R):=zL8 (by rw[←hW];exact(FR'.out.other (by omega) _ _))
 replace FP:Hid (zBd W5 (w.heap.size+1+1) gp c.P.length c.P):=zL8 (by rw[←hW];exact(FP.out.other (by omega) _ _))
 rw[hW]
 clear hW k0 kl kf HC HZ HB FA' FBb' FT' FR'
 obtain⟨LL,hLL⟩: ∃LL,(((((((((c.l.set 0 (.int .i8 c.ka)).set 1 (.int .i64 c.na)).set 2 (.slice (some ⟨ga,0,none⟩) c.ra.length (c.ra.length+64))).set 3 (.int .i8 c.kb)).set 4 (.int .i64 c.nb)).set 5 (.slice (some ⟨gb,0,none⟩) c.rb.length (c.rb.length+64))).set 9 (.slice (some ⟨gt,0,none⟩) c.T.length (c.T.length+64))).set 10 (.slice (some ⟨gr,0,none⟩) c.R.length (c.R.length+64))).set 11 (.slice (some ⟨gp,0,none⟩) c.P.length (c.P.length+64)))=LL:=⟨_,rfl⟩
 rw[hLL]at HD5
 have HLL:=zL8 hLL
 clear hLL
 have HSZ:=zL8 (zBE.info HD5.out.cl)
 have HSO:Hid (Tryz.zeroCells71.toList.toArray.size=LL.toArray.size):=zL8 (by rw[List.size_toArray,List.size_toArray,zAo,HD5.out.cl.len])
 have HON:Hid (LL.toArray.all (·.oneCell')=true):=zL8 (by rw[←Array.all_toList,List.all_eq_true];simpa using HD5.out.cl.one)
 go_wp2_with (first|refine wpList_load_row rfl 71 _ rfl w.heap.size rfl _ _ (0,0) _ HD5.out.heap Tryz.underlying71 rfl HSZ.out ?_|refine wpList_store_row rfl 71 _ _ rfl (w.heap.size+1) _ rfl rfl _ _ HY5.out.heap HSZ.out HSO.out HON.out ?_)
 have HR:zBE (W5.setRow (w.heap.size+1) LL.toArray) (w.heap.size+1) LL:=⟨setRow_heap _ _ _ _ _ _ HY5.out.heap,HD5.out.cl⟩
 have hr: ∀ {g:Nat},w.heap.size+1+1≤g∧g<W5.heap.size→(W5.setRow (w.heap.size+1) LL.toArray).heap[g]?=W5.heap[g]?:=fun hg=>Go.setRow_other _ _ _ _ (by omega)
 have hlen:=H0.out.ci.cl.len
 refine zEs (p:=2) rfl rfl rfl HR ⟨⟨LL,ga,gb,gt,gr,gp,rfl,HD5.out.cl,?_,?_,?_,?_,?_,?_,(FA.out.block (hr FA.out.lt)).mono (by omega),(FBb.out.block (hr FBb.out.lt)).mono (by omega),(FT.out.block (hr FT.out.lt)).mono (by omega),(FR.out.block (hr FR.out.lt)).mono (by omega),(FP.out.block (zMA _) (fun k h1 h2=>hr ⟨h1,h2⟩) ?_).mono (by omega)⟩,below_setRow HE5.out (by omega) _⟩
 ·rw[←HLL.out];simp[hlen]
 ·rw[←HLL.out];simp[hlen]
 ·rw[←HLL.out];simp[hlen]
 ·rw[←HLL.out];simp[hlen]
 ·rw[←HLL.out];simp[hlen]
 ·intro j h2 h5 h9 h10 h11
  rw[←HLL.out]
  by_cases j0:j=0
  ·subst j0;rw[H0.out.ci.a0];simp[hlen]
  by_cases j1:j=1
  ·subst j1;rw[H0.out.ci.a1];simp[hlen]
  by_cases j3:j=3
  ·subst j3;rw[H0.out.ci.b0];simp[hlen]
  by_cases j4:j=4
  ·subst j4;rw[H0.out.ci.b1];simp[hlen]
  simp only[List.getElem?_set]
  rw[if_neg (by omega),if_neg (by omega),if_neg (by omega),if_neg (by omega),if_neg (by omega),if_neg (by omega),if_neg (by omega),if_neg (by omega),if_neg (by omega)]
 ·rw[Go.setRow_size]
  exact zMA _
end
end
end Go.Proofs.YtfcemodgopdkkaaGreatDoor
