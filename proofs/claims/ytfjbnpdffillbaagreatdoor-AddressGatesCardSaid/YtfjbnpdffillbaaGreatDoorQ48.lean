/- Parts: Hg. -/
import Derived.Test.YtfjbnpdffillbaaGreatDoorQ45
import Derived.Test.YtfjbnpdffillbaaGreatDoorQ39
namespace Go.Proofs.YtfjbnpdffillbaaGreatDoor
open Go.RowKit
structure Cx where
 l:List Value
 ka:Int
 na:Int
 oa:Option Addr
 ra:List Nd
 ca:Nat
 kb:Int
 nb:Int
 ob:Option Addr
 rb:List Nd
 cb:Nat
 nt:Bool
 ot:Option Addr
 ct:Nat
 T:List Nat
 oe:Option Addr
 ce:Nat
 R:List Nd
 op:Option Addr
 cp:Nat
 P:List Pce
structure CxIn (w:World) (c:Cx):Prop where
 ci:CmdIn w c.l c.ka c.na c.oa c.ra c.ca c.kb c.nb c.ob c.rb c.cb c.nt
 a:NdU w c.oa c.ra
 b:NdU w c.ob c.rb
 e9:c.l[9]?=some (.slice c.ot c.T.length c.ct)
 t:BtM w c.ot c.T
 tz:c.T.length≤140737488355328
 e10:c.l[10]?=some (.slice c.oe c.R.length c.ce)
 r:NdU w c.oe c.R
 rz:c.R.length*72≤140737488355328
 e11:c.l[11]?=some (.slice c.op c.P.length c.cp)
 p:PcO w c.op c.P
theorem CxIn.below {w w':World} {c:Cx} (h:CxIn w c) (hb:Below w.heap.size w w'):CxIn w' c:=
 ⟨h.ci.below hb,h.a.below hb,h.b.below hb,h.e9,h.t.below hb,h.tz,h.e10,h.r.below hb,h.rz,h.e11,h.p.below hb⟩
theorem CxIn.of {w:World} {l:List Value} {ka na:Int} {oa:Option Addr} {ra:List Nd} {ca:Nat} {kb nb:Int} {ob:Option Addr} {rb:List Nd} {cb:Nat} {nt:Bool} (h:CmdIn w l ka na oa ra ca kb nb ob rb cb nt):
  ∃ot ct T oe ce R op cp P,CxIn w ⟨l,ka,na,oa,ra,ca,kb,nb,ob,rb,cb,nt,ot,ct,T,oe,ce,R,op,cp,P⟩:=by
 obtain⟨ot,n,ct,e9,T,rfl,ts,tz⟩:=h.tx
 obtain⟨oe,R,ce,e10,rs,rz⟩:=h.re
 obtain⟨op,m,cp,e11,hp⟩:=h.fi
 obtain⟨P,rfl,hP⟩:=PcO.of hp
 exact⟨ot,ct,T,oe,ce,R,op,cp,P,h,NdU.of_src h.sa,NdU.of_src h.sb,e9,BtM.of_src ts,tz,e10,NdU.of_src rs,rz,e11,hP⟩
structure WideC (w:World) (base:Nat) (c:Cx) (L:List Value) (ga gb gt gr gp:Nat):Prop where
 cl:CmdL L
 e2:L[2]?=some (.slice (some ⟨ga,0,none⟩) c.ra.length (c.ra.length+64))
 e5:L[5]?=some (.slice (some ⟨gb,0,none⟩) c.rb.length (c.rb.length+64))
 e9:L[9]?=some (.slice (some ⟨gt,0,none⟩) c.T.length (c.T.length+64))
 e10:L[10]?=some (.slice (some ⟨gr,0,none⟩) c.R.length (c.R.length+64))
 e11:L[11]?=some (.slice (some ⟨gp,0,none⟩) c.P.length (c.P.length+64))
 same: ∀j,j≠2→j≠5→j≠9→j≠10→j≠11→L[j]?=c.l[j]?
 a:WideN w base ga c.ra.length c.ra
 b:WideN w base gb c.rb.length c.rb
 t:WideB w base gt c.T.length c.T
 r:WideN w base gr c.R.length c.R
 p:WideP w base gp c.P.length c.P
section
variable {w w':World} {c:Cx}
theorem WideC.block {base hi:Nat} {L:List Value} {ga gb gt gr gp:Nat} (h:WideC w base c L ga gb gt gr gp) (hs:w.heap.size≤hi) (hb: ∀k,base≤k→k<hi→w'.heap[k]?=w.heap[k]?) (hz:w.heap.size≤w'.heap.size):WideC w' base c L ga gb gt gr gp:=
 have f: ∀g,base≤g∧g<w.heap.size→w'.heap[g]?=w.heap[g]?:=fun g hg=>hb g hg.1 (Nat.lt_of_lt_of_le hg.2 hs)
 ⟨h.cl,h.e2,h.e5,h.e9,h.e10,h.e11,h.same,h.a.block (f _ h.a.lt),h.b.block (f _ h.b.lt),h.t.block (f _ h.t.lt),h.r.block (f _ h.r.lt),h.p.block hs hb hz⟩
theorem WideC.below {base:Nat} {L:List Value} {ga gb gt gr gp:Nat} (h:WideC w base c L ga gb gt gr gp) (hb:Below w.heap.size w w'):WideC w' base c L ga gb gt gr gp:=
 h.block (Nat.le_refl _) (fun k _ hk=>hb.block k hk) hb.size
theorem WideC.v {base:Nat} {L:List Value} {ga gb gt gr gp:Nat} (h:WideC w base c L ga gb gt gr gp) (hi:CxIn w' c):CmdV L.toArray c.ka c.na (some ⟨ga,0,none⟩) c.ra.length (c.ra.length+64) c.kb c.nb (some ⟨gb,0,none⟩) c.rb.length (c.rb.length+64) c.nt:=
 ⟨by simpa using (h.same 0 (by decide) (by decide) (by decide) (by decide) (by decide)).trans hi.ci.a0,by simpa using (h.same 1 (by decide) (by decide) (by decide) (by decide) (by decide)).trans hi.ci.a1,by simpa using h.e2,
  by simpa using (h.same 3 (by decide) (by decide) (by decide) (by decide) (by decide)).trans hi.ci.b0,by simpa using (h.same 4 (by decide) (by decide) (by decide) (by decide) (by decide)).trans hi.ci.b1,by simpa using h.e5,by simpa using (h.same 6 (by decide) (by decide) (by decide) (by decide) (by decide)).trans hi.ci.n⟩
set_option maxRecDepth 100000 in
set_option maxHeartbeats 3200000 in
theorem wideCmdU (h:CxIn w c):
  Calls Tryz.prog 34 #[.agg c.l.toArray] w fun e w'=>(∃L ga gb gt gr gp,e= .returned (.agg L.toArray)∧WideC w' w.heap.size c L ga gb gt gr gp)∧Below w.heap.size w w':=by
 have hb1:=((Below.refl w.heap.size w).alloc (Nat.le_refl _) (.cells c.l.toArray 91)).alloc (by simp) (.cells Tryz.zeroCells91 91)
 have HC:=Lib.hid ((CmdB.new h.ci.cl w).below ((Below.refl _ _).alloc (Nat.le_refl _) (.cells Tryz.zeroCells91 91)))
 have HZ:=Lib.hid (CmdB.zero (w.alloc (.cells c.l.toArray 91)))
 have hsz:(w.alloc (.cells c.l.toArray 91)).heap.size=w.heap.size+1:=by simp
 rw[hsz]at HZ
 have HB:=Lib.hid hb1
 have H0:=Lib.hid h
 clear h hb1 hsz
 go_enter Tryz.func34,Tryz.ntmps34
 go_upto_region 1 with fail
 obtain⟨W0,hW⟩: ∃W,(w.alloc (.cells c.l.toArray 91)).alloc (.cells Tryz.zeroCells91 91)=W:=⟨_,rfl⟩
 rw[hW]at HC HZ HB ⊢
 clear hW
 have HD0:=HC
 have HY0:=HZ
 have HE0:=HB
 clear HC HZ HB
 have k0:W0.cell? ⟨w.heap.size,0,none⟩=some (.int .i8 c.ka):=(HD0.out.cell 0).trans (by simpa using H0.out.ci.a0)
 have k1:W0.cell? ⟨w.heap.size,1,none⟩=some (.int .i64 c.na):=(HD0.out.cell 1).trans (by simpa using H0.out.ci.a1)
 have k2:W0.cell? ⟨w.heap.size,2,none⟩=some (.slice c.oa c.ra.length c.ca):=(HD0.out.cell 2).trans (by simpa using H0.out.ci.a2)
 have kl:=HD0.out.lt
 have HX:=Lib.hid (wideAddrU (cap:=c.ca) c.ka c.na (H0.out.a.below HE0.out) H0.out.ci.za)
 go_wp2_with fail
 refine HX.out.mono ?_;rintro e v1 ⟨⟨ga,rfl,hn⟩,hb⟩
 have FA:Hid (WideN v1 (w.heap.size+1+1) ga c.ra.length c.ra):=Lib.hid (hn.mono (by have:=HY0.out.lt;omega))
 have HC:=Lib.hid (HD0.out.below hb)
 have HZ:=Lib.hid (HY0.out.below hb)
 have HB:=Lib.hid (HE0.out.trans (hb.mono HE0.out.size))
 clear k0 k1 k2 kl hb hn HX HD0 HY0 HE0
 have k0:v1.cell? ⟨w.heap.size,0,none⟩=some (.int .i8 c.ka):=(HC.out.cell 0).trans (by simpa using H0.out.ci.a0)
 have k1:v1.cell? ⟨w.heap.size,1,none⟩=some (.int .i64 c.na):=(HC.out.cell 1).trans (by simpa using H0.out.ci.a1)
 have k2:v1.cell? ⟨w.heap.size,2,none⟩=some (.slice c.oa c.ra.length c.ca):=(HC.out.cell 2).trans (by simpa using H0.out.ci.a2)
 have kl:=HC.out.lt
 have kf:=HC.out.fz
 go_upto_region 2 with fail
 obtain⟨W1,hW⟩: ∃W,(((v1.setCell ⟨w.heap.size,0,none⟩ (.int .i8 c.ka)).setCell ⟨w.heap.size,1,none⟩ (.int .i64 c.na)).setCell ⟨w.heap.size,2,none⟩ (.slice (some ⟨ga,0,none⟩) c.ra.length (c.ra.length+64)))=W:=⟨_,rfl⟩
 have HD1:Hid (CmdB W1 w.heap.size (((c.l.set 0 (.int .i8 c.ka)).set 1 (.int .i64 c.na)).set 2 (.slice (some ⟨ga,0,none⟩) c.ra.length (c.ra.length+64)))):=Lib.hid (by rw[←hW];exact(((HC.out.set 0 (v:= .int .i8 c.ka) rfl).set 1 (v:= .int .i64 c.na) rfl).set 2 (v:= .slice (some ⟨ga,0,none⟩) c.ra.length (c.ra.length+64)) rfl))
 have HY1:Hid (CmdB W1 (w.heap.size+1) Tryz.zeroCells91.toList):=Lib.hid (by rw[←hW];exact(((HZ.out.other (by omega) _ _).other (by omega) _ _).other (by omega) _ _))
 have HE1:Hid (Below w.heap.size w W1):=Lib.hid (by rw[←hW];exact(((HB.out.setCell (p:=⟨w.heap.size,0,none⟩) (Nat.le_refl _) _).setCell (p:=⟨w.heap.size,1,none⟩) (Nat.le_refl _) _).setCell (p:=⟨w.heap.size,2,none⟩) (Nat.le_refl _) _))
 replace FA:Hid (WideN W1 (w.heap.size+1+1) ga c.ra.length c.ra):=Lib.hid (by rw[←hW];exact(((FA.out.other (by omega) _ _).other (by omega) _ _).other (by omega) _ _))
 rw[hW]
 clear hW k0 k1 k2 kl kf HC HZ HB
 have k0:W1.cell? ⟨w.heap.size,3,none⟩=some (.int .i8 c.kb):=(HD1.out.cell 3).trans (by simpa using H0.out.ci.b0)
 have k1:W1.cell? ⟨w.heap.size,4,none⟩=some (.int .i64 c.nb):=(HD1.out.cell 4).trans (by simpa using H0.out.ci.b1)
 have k2:W1.cell? ⟨w.heap.size,5,none⟩=some (.slice c.ob c.rb.length c.cb):=(HD1.out.cell 5).trans (by simpa using H0.out.ci.b2)
 have kl:=HD1.out.lt
 have HX:=Lib.hid (wideAddrU (cap:=c.cb) c.kb c.nb (H0.out.b.below HE1.out) H0.out.ci.zb)
 go_wp2_with fail
 refine HX.out.mono ?_;rintro e v2 ⟨⟨gb,rfl,hn⟩,hb⟩
 have FBb:Hid (WideN v2 (w.heap.size+1+1) gb c.rb.length c.rb):=Lib.hid (hn.mono (by have:=HY1.out.lt;omega))
 have HC:=Lib.hid (HD1.out.below hb)
 have HZ:=Lib.hid (HY1.out.below hb)
 have HB:=Lib.hid (HE1.out.trans (hb.mono HE1.out.size))
 have FA':=Lib.hid (FA.out.below hb)
 clear k0 k1 k2 kl hb hn HX HD1 HY1 HE1 FA
 have k0:v2.cell? ⟨w.heap.size,3,none⟩=some (.int .i8 c.kb):=(HC.out.cell 3).trans (by simpa using H0.out.ci.b0)
 have k1:v2.cell? ⟨w.heap.size,4,none⟩=some (.int .i64 c.nb):=(HC.out.cell 4).trans (by simpa using H0.out.ci.b1)
 have k2:v2.cell? ⟨w.heap.size,5,none⟩=some (.slice c.ob c.rb.length c.cb):=(HC.out.cell 5).trans (by simpa using H0.out.ci.b2)
 have kl:=HC.out.lt
 have kf:=HC.out.fz
 go_upto_region 3 with fail
 obtain⟨W2,hW⟩: ∃W,(((v2.setCell ⟨w.heap.size,3,none⟩ (.int .i8 c.kb)).setCell ⟨w.heap.size,4,none⟩ (.int .i64 c.nb)).setCell ⟨w.heap.size,5,none⟩ (.slice (some ⟨gb,0,none⟩) c.rb.length (c.rb.length+64)))=W:=⟨_,rfl⟩
 have HD2:Hid (CmdB W2 w.heap.size ((((((c.l.set 0 (.int .i8 c.ka)).set 1 (.int .i64 c.na)).set 2 (.slice (some ⟨ga,0,none⟩) c.ra.length (c.ra.length+64))).set 3 (.int .i8 c.kb)).set 4 (.int .i64 c.nb)).set 5 (.slice (some ⟨gb,0,none⟩) c.rb.length (c.rb.length+64)))):=Lib.hid (by rw[←hW];exact(((HC.out.set 3 (v:= .int .i8 c.kb) rfl).set 4 (v:= .int .i64 c.nb) rfl).set 5 (v:= .slice (some ⟨gb,0,none⟩) c.rb.length (c.rb.length+64)) rfl))
 have HY2:Hid (CmdB W2 (w.heap.size+1) Tryz.zeroCells91.toList):=Lib.hid (by rw[←hW];exact(((HZ.out.other (by omega) _ _).other (by omega) _ _).other (by omega) _ _))
 have HE2:Hid (Below w.heap.size w W2):=Lib.hid (by rw[←hW];exact(((HB.out.setCell (p:=⟨w.heap.size,3,none⟩) (Nat.le_refl _) _).setCell (p:=⟨w.heap.size,4,none⟩) (Nat.le_refl _) _).setCell (p:=⟨w.heap.size,5,none⟩) (Nat.le_refl _) _))
 have FA:Hid (WideN W2 (w.heap.size+1+1) ga c.ra.length c.ra):=Lib.hid (by rw[←hW];exact(((FA'.out.other (by omega) _ _).other (by omega) _ _).other (by omega) _ _))
 replace FBb:Hid (WideN W2 (w.heap.size+1+1) gb c.rb.length c.rb):=Lib.hid (by rw[←hW];exact(((FBb.out.other (by omega) _ _).other (by omega) _ _).other (by omega) _ _))
 rw[hW]
 clear hW k0 k1 k2 kl kf HC HZ HB FA'
 have k0:W2.cell? ⟨w.heap.size,9,none⟩=some (.slice c.ot c.T.length c.ct):=(HD2.out.cell 9).trans (by simpa using H0.out.e9)
 have kl:=HD2.out.lt
 have HX:=Lib.hid (wideBytesU (cap:=c.ct) (H0.out.t.below HE2.out) H0.out.tz)
 go_wp2_with fail
 refine HX.out.mono ?_;rintro e v3 ⟨⟨gt,rfl,hn⟩,hb⟩
 have FT:Hid (WideB v3 (w.heap.size+1+1) gt c.T.length c.T):=Lib.hid (hn.mono (by have:=HY2.out.lt;omega))
 have HC:=Lib.hid (HD2.out.below hb)
 have HZ:=Lib.hid (HY2.out.below hb)
 have HB:=Lib.hid (HE2.out.trans (hb.mono HE2.out.size))
 have FA':=Lib.hid (FA.out.below hb)
 have FBb':=Lib.hid (FBb.out.below hb)
 clear k0 kl hb hn HX HD2 HY2 HE2 FA FBb
 have k0:v3.cell? ⟨w.heap.size,9,none⟩=some (.slice c.ot c.T.length c.ct):=(HC.out.cell 9).trans (by simpa using H0.out.e9)
 have kl:=HC.out.lt
 have kf:=HC.out.fz
 go_upto_region 4 with fail
 obtain⟨W3,hW⟩: ∃W,(v3.setCell ⟨w.heap.size,9,none⟩ (.slice (some ⟨gt,0,none⟩) c.T.length (c.T.length+64)))=W:=⟨_,rfl⟩
 have HD3:Hid (CmdB W3 w.heap.size (((((((c.l.set 0 (.int .i8 c.ka)).set 1 (.int .i64 c.na)).set 2 (.slice (some ⟨ga,0,none⟩) c.ra.length (c.ra.length+64))).set 3 (.int .i8 c.kb)).set 4 (.int .i64 c.nb)).set 5 (.slice (some ⟨gb,0,none⟩) c.rb.length (c.rb.length+64))).set 9 (.slice (some ⟨gt,0,none⟩) c.T.length (c.T.length+64)))):=Lib.hid (by rw[←hW];exact(HC.out.set 9 (v:= .slice (some ⟨gt,0,none⟩) c.T.length (c.T.length+64)) rfl))
 have HY3:Hid (CmdB W3 (w.heap.size+1) Tryz.zeroCells91.toList):=Lib.hid (by rw[←hW];exact(HZ.out.other (by omega) _ _))
 have HE3:Hid (Below w.heap.size w W3):=Lib.hid (by rw[←hW];exact(HB.out.setCell (p:=⟨w.heap.size,9,none⟩) (Nat.le_refl _) _))
 have FA:Hid (WideN W3 (w.heap.size+1+1) ga c.ra.length c.ra):=Lib.hid (by rw[←hW];exact(FA'.out.other (by omega) _ _))
 have FBb:Hid (WideN W3 (w.heap.size+1+1) gb c.rb.length c.rb):=Lib.hid (by rw[←hW];exact(FBb'.out.other (by omega) _ _))
 replace FT:Hid (WideB W3 (w.heap.size+1+1) gt c.T.length c.T):=Lib.hid (by rw[←hW];exact(FT.out.other (by omega) _ _))
 rw[hW]
 clear hW k0 kl kf HC HZ HB FA' FBb'
 have k0:W3.cell? ⟨w.heap.size,10,none⟩=some (.slice c.oe c.R.length c.ce):=(HD3.out.cell 10).trans (by simpa using H0.out.e10)
 have kl:=HD3.out.lt
 have HX:=Lib.hid (wideNodesU (cap:=c.ce) (H0.out.r.below HE3.out) (by have:=H0.out.rz;omega))
 go_wp2_with fail
 refine HX.out.mono ?_;rintro e v4 ⟨⟨gr,rfl,hn⟩,hb⟩
 have FR:Hid (WideN v4 (w.heap.size+1+1) gr c.R.length c.R):=Lib.hid (⟨rfl,hn.mono (by have:=HY3.out.lt;omega)⟩)
 have HC:=Lib.hid (HD3.out.below hb)
 have HZ:=Lib.hid (HY3.out.below hb)
 have HB:=Lib.hid (HE3.out.trans (hb.mono HE3.out.size))
 have FA':=Lib.hid (FA.out.below hb)
 have FBb':=Lib.hid (FBb.out.below hb)
 have FT':=Lib.hid (FT.out.below hb)
 clear k0 kl hb hn HX HD3 HY3 HE3 FA FBb FT
 have k0:v4.cell? ⟨w.heap.size,10,none⟩=some (.slice c.oe c.R.length c.ce):=(HC.out.cell 10).trans (by simpa using H0.out.e10)
 have kl:=HC.out.lt
 have kf:=HC.out.fz
 go_upto_region 5 with fail
 obtain⟨W4,hW⟩: ∃W,(v4.setCell ⟨w.heap.size,10,none⟩ (.slice (some ⟨gr,0,none⟩) c.R.length (c.R.length+64)))=W:=⟨_,rfl⟩
 have HD4:Hid (CmdB W4 w.heap.size ((((((((c.l.set 0 (.int .i8 c.ka)).set 1 (.int .i64 c.na)).set 2 (.slice (some ⟨ga,0,none⟩) c.ra.length (c.ra.length+64))).set 3 (.int .i8 c.kb)).set 4 (.int .i64 c.nb)).set 5 (.slice (some ⟨gb,0,none⟩) c.rb.length (c.rb.length+64))).set 9 (.slice (some ⟨gt,0,none⟩) c.T.length (c.T.length+64))).set 10 (.slice (some ⟨gr,0,none⟩) c.R.length (c.R.length+64)))):=Lib.hid (by rw[←hW];exact(HC.out.set 10 (v:= .slice (some ⟨gr,0,none⟩) c.R.length (c.R.length+64)) rfl))
 have HY4:Hid (CmdB W4 (w.heap.size+1) Tryz.zeroCells91.toList):=Lib.hid (by rw[←hW];exact(HZ.out.other (by omega) _ _))
 have HE4:Hid (Below w.heap.size w W4):=Lib.hid (by rw[←hW];exact(HB.out.setCell (p:=⟨w.heap.size,10,none⟩) (Nat.le_refl _) _))
 have FA:Hid (WideN W4 (w.heap.size+1+1) ga c.ra.length c.ra):=Lib.hid (by rw[←hW];exact(FA'.out.other (by omega) _ _))
 have FBb:Hid (WideN W4 (w.heap.size+1+1) gb c.rb.length c.rb):=Lib.hid (by rw[←hW];exact(FBb'.out.other (by omega) _ _))
 have FT:Hid (WideB W4 (w.heap.size+1+1) gt c.T.length c.T):=Lib.hid (by rw[←hW];exact(FT'.out.other (by omega) _ _))
 replace FR:Hid (WideN W4 (w.heap.size+1+1) gr c.R.length c.R):=Lib.hid (by rw[←hW];exact(FR.out.other (by omega) _ _))
 rw[hW]
 clear hW k0 kl kf HC HZ HB FA' FBb' FT'
 have k0:W4.cell? ⟨w.heap.size,11,none⟩=some (.slice c.op c.P.length c.cp):=(HD4.out.cell 11).trans (by simpa using H0.out.e11)
 have kl:=HD4.out.lt
 have HX:=Lib.hid (widePiecesU (cap:=c.cp) (H0.out.p.below HE4.out))
 go_wp2_with fail
 refine HX.out.mono ?_;rintro e v5 ⟨⟨gp,rfl,hn⟩,hb⟩
 have FP:Hid (WideP v5 (w.heap.size+1+1) gp c.P.length c.P):=Lib.hid (hn.mono (by have:=HY4.out.lt;omega))
 have HC:=Lib.hid (HD4.out.below hb)
 have HZ:=Lib.hid (HY4.out.below hb)
 have HB:=Lib.hid (HE4.out.trans (hb.mono HE4.out.size))
 have FA':=Lib.hid (FA.out.below hb)
 have FBb':=Lib.hid (FBb.out.below hb)
 have FT':=Lib.hid (FT.out.below hb)
 have FR':=Lib.hid (FR.out.below hb)
 clear k0 kl hb hn HX HD4 HY4 HE4 FA FBb FT FR
 have k0:v5.cell? ⟨w.heap.size,11,none⟩=some (.slice c.op c.P.length c.cp):=(HC.out.cell 11).trans (by simpa using H0.out.e11)
 have kl:=HC.out.lt
 have kf:=HC.out.fz
 go_upto_region 6 with fail
 obtain⟨W5,hW⟩: ∃W,(v5.setCell ⟨w.heap.size,11,none⟩ (.slice (some ⟨gp,0,none⟩) c.P.length (c.P.length+64)))=W:=⟨_,rfl⟩
 have HD5:Hid (CmdB W5 w.heap.size (((((((((c.l.set 0 (.int .i8 c.ka)).set 1 (.int .i64 c.na)).set 2 (.slice (some ⟨ga,0,none⟩) c.ra.length (c.ra.length+64))).set 3 (.int .i8 c.kb)).set 4 (.int .i64 c.nb)).set 5 (.slice (some ⟨gb,0,none⟩) c.rb.length (c.rb.length+64))).set 9 (.slice (some ⟨gt,0,none⟩) c.T.length (c.T.length+64))).set 10 (.slice (some ⟨gr,0,none⟩) c.R.length (c.R.length+64))).set 11 (.slice (some ⟨gp,0,none⟩) c.P.length (c.P.length+64)))):=Lib.hid (by rw[←hW];exact(HC.out.set 11 (v:= .slice (some ⟨gp,0,none⟩) c.P.length (c.P.length+64)) rfl))
 have HY5:Hid (CmdB W5 (w.heap.size+1) Tryz.zeroCells91.toList):=Lib.hid (by rw[←hW];exact(HZ.out.other (by omega) _ _))
 have HE5:Hid (Below w.heap.size w W5):=Lib.hid (by rw[←hW];exact(HB.out.setCell (p:=⟨w.heap.size,11,none⟩) (Nat.le_refl _) _))
 have FA:Hid (WideN W5 (w.heap.size+1+1) ga c.ra.length c.ra):=Lib.hid (by rw[←hW];exact(FA'.out.other (by omega) _ _))
 have FBb:Hid (WideN W5 (w.heap.size+1+1) gb c.rb.length c.rb):=Lib.hid (by rw[←hW];exact(FBb'.out.other (by omega) _ _))
 have FT:Hid (WideB W5 (w.heap.size+1+1) gt c.T.length c.T):=Lib.hid (by rw[←hW];exact(FT'.out.other (by omega) _ _))
 have FR:Hid (WideN W5 (w.heap.size+1+1) gr c.R.length c.R):=Lib.hid (by rw[←hW];exact(FR'.out.other (by omega) _ _))
 replace FP:Hid (WideP W5 (w.heap.size+1+1) gp c.P.length c.P):=Lib.hid (by rw[←hW];exact(FP.out.other (by omega) _ _))
 rw[hW]
 clear hW k0 kl kf HC HZ HB FA' FBb' FT' FR'
 obtain⟨LL,hLL⟩: ∃LL,(((((((((c.l.set 0 (.int .i8 c.ka)).set 1 (.int .i64 c.na)).set 2 (.slice (some ⟨ga,0,none⟩) c.ra.length (c.ra.length+64))).set 3 (.int .i8 c.kb)).set 4 (.int .i64 c.nb)).set 5 (.slice (some ⟨gb,0,none⟩) c.rb.length (c.rb.length+64))).set 9 (.slice (some ⟨gt,0,none⟩) c.T.length (c.T.length+64))).set 10 (.slice (some ⟨gr,0,none⟩) c.R.length (c.R.length+64))).set 11 (.slice (some ⟨gp,0,none⟩) c.P.length (c.P.length+64)))=LL:=⟨_,rfl⟩
 rw[hLL]at HD5
 have HLL:=Lib.hid hLL
 clear hLL
 have HSZ:=Lib.hid (CmdB.info HD5.out.cl)
 have HSO:Hid (Tryz.zeroCells91.toList.toArray.size=LL.toArray.size):=Lib.hid (by rw[List.size_toArray,List.size_toArray,cmd_size,HD5.out.cl.len])
 have HON:Hid (LL.toArray.all (·.oneCell')=true):=Lib.hid (by rw[←Array.all_toList,List.all_eq_true];simpa using HD5.out.cl.one)
 go_wp2_with (first|refine wpList_load_row rfl 91 _ rfl w.heap.size rfl _ _ (0,0) _ HD5.out.heap Tryz.underlying91 rfl HSZ.out ?_|refine wpList_store_row rfl 91 _ _ rfl (w.heap.size+1) _ rfl rfl _ _ HY5.out.heap HSZ.out HSO.out HON.out ?_)
 have HR:CmdB (W5.setRow (w.heap.size+1) LL.toArray) (w.heap.size+1) LL:=⟨setRow_heap _ _ _ _ _ _ HY5.out.heap,HD5.out.cl⟩
 have hr: ∀ {g:Nat},w.heap.size+1+1≤g∧g<W5.heap.size→(W5.setRow (w.heap.size+1) LL.toArray).heap[g]?=W5.heap[g]?:=fun hg=>setRow_other _ _ _ _ (by omega)
 have hlen:=H0.out.ci.cl.len
 refine ret_cellC (p:=2) rfl rfl rfl HR ⟨⟨LL,ga,gb,gt,gr,gp,rfl,HD5.out.cl,?_,?_,?_,?_,?_,?_,(FA.out.block (hr FA.out.lt)).mono (by omega),(FBb.out.block (hr FBb.out.lt)).mono (by omega),(FT.out.block (hr FT.out.lt)).mono (by omega),(FR.out.block (hr FR.out.lt)).mono (by omega),(FP.out.block (Nat.le_refl _) (fun k h1 h2=>hr ⟨h1,h2⟩) ?_).mono (by omega)⟩,below_setRow HE5.out (by omega) _⟩
 ·rw[←HLL.out];simp[hlen]
 ·rw[←HLL.out];simp[hlen]
 ·rw[←HLL.out];simp[hlen]
 ·rw[←HLL.out];simp[hlen]
 ·rw[←HLL.out];simp[hlen]
 ·intro j h2 h5 h9 h10 h11
  rw[←HLL.out]
  by_cases j0:j=0
  ·subst j0;rw[H0.out.ci.a0];simp[hlen]
  by_cases j1:j=1
  ·subst j1;rw[H0.out.ci.a1];simp[hlen]
  by_cases j3:j=3
  ·subst j3;rw[H0.out.ci.b0];simp[hlen]
  by_cases j4:j=4
  ·subst j4;rw[H0.out.ci.b1];simp[hlen]
  simp only[List.getElem?_set]
  rw[if_neg (by omega),if_neg (by omega),if_neg (by omega),if_neg (by omega),if_neg (by omega),if_neg (by omega),if_neg (by omega),if_neg (by omega),if_neg (by omega)]
 ·rw[setRow_size]
  exact Nat.le_refl _
end
end Go.Proofs.YtfjbnpdffillbaaGreatDoor
