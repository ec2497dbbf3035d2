/- Parts: Zm Xf. -/
import Derived.Test.YtfcemodgopdkkaaGreatDoorQ27
import Derived.Test.YtfcemodgopdkkaaGreatDoorQ15
import Derived.Test.YtfcemodgopdkkaaGreatDoorQ25
import Derived.Test.YtfcemodgopdkkaaGreatDoorQ23
import Derived.Test.YtfcemodgopdkkaaGreatDoorQ7
set_option maxHeartbeats 6400000
set_option maxRecDepth 100000
namespace Go.Proofs.YtfcemodgopdkkaaGreatDoor
section
open Go.ChangeShapes Go.WideShapes Go.RowKit Go.Deep
structure CxM (w:World) (c:Cx):Prop where
 i:zJ1 w c
 wa:NdW w c.oa c.ca c.ra
 wb:NdW w c.ob c.cb c.rb
 wr:NdW w c.oe c.ce c.R
 za:c.ra.length*72≤140737488351232
 zb:c.rb.length*72≤140737488351232
 zr:c.R.length*72≤140737488351232
 nm: ∃v:Nat,v<256∧c.l[7]?=some (.int .u8 (v:Nat))
theorem CxM.below {w w':World} {c:Cx} (h:CxM w c) (hb:Below w.heap.size w w'):CxM w' c:=⟨h.i.below hb,h.wa.below hb,h.wb.below hb,h.wr.below hb,h.za,h.zb,h.zr,h.nm⟩
section
variable {H:Type} {enc:TypeId × Value→H} {w:World} {spare:Nat→Bool} {held:Bool}
theorem zKB {n:Nat} {cs:List Value} {x:DataW H × List MemPlace} (h:DataW.trod enc Tryz.prog w 0 spare held n 71 cs=some x) (hz:Sz 71 x.1): ∃c:Cx,c.l=cs∧CxM w c:=by
 obtain⟨xs,n',_,hx,hl,hxl,hf⟩:=DataW.trod_struct Tryz.underlying71 h
 have hl2:cs.length=272:=hl.trans (by kernel_rfl)
 have hx1:x.1= .agg (xs.map (·.1)):=congrArg Prod.fst hx
 rw[hx1]at hz
 have hxs: ∀i,i<13→ ∃y,xs[i]?=some y:=fun i hi=>⟨_,zMP (by rw[hxl];exact hi)⟩
 have hzf: ∀ {i:Nat} {ty:TypeId} {y:DataW H × List MemPlace},xs[i]?=some y→(#[66,66,4,5,3,46,64,67,3,4,4,4,69]:Array TypeId).toList[i]?=some ty→Sz ty y.1:=fun hy hi=>Sz.fld Tryz.underlying71 hz hi (by rw[List.getElem?_map,hy];rfl)
 obtain⟨y0,q0⟩:=hxs 0 (by decide)
 obtain⟨y1,q1⟩:=hxs 1 (by decide)
 obtain⟨y2,q2⟩:=hxs 2 (by decide)
 obtain⟨y3,q3⟩:=hxs 3 (by decide)
 obtain⟨y4,q4⟩:=hxs 4 (by decide)
 obtain⟨y5,q5⟩:=hxs 5 (by decide)
 obtain⟨y6,q6⟩:=hxs 6 (by decide)
 obtain⟨y7,q7⟩:=hxs 7 (by decide)
 obtain⟨y8,q8⟩:=hxs 8 (by decide)
 obtain⟨y9,q9⟩:=hxs 9 (by decide)
 obtain⟨y10,q10⟩:=hxs 10 (by decide)
 obtain⟨y11,q11⟩:=hxs 11 (by decide)
 obtain⟨y12,q12⟩:=hxs 12 (by decide)
 have h0:=(fld hf (i:=0) (ty:=66) (off:=0) (k:=3) rfl rfl rfl (by kernel_rfl)).trans q0
 have h1:=(fld hf (i:=1) (ty:=66) (off:=3) (k:=3) rfl rfl rfl (by kernel_rfl)).trans q1
 have h2:=(fld hf (i:=2) (ty:=4) (off:=6) (k:=1) rfl rfl rfl (by kernel_rfl)).trans q2
 have h3:=(fld hf (i:=3) (ty:=5) (off:=7) (k:=1) rfl rfl rfl (by kernel_rfl)).trans q3
 have h4:=(fld hf (i:=4) (ty:=3) (off:=8) (k:=1) rfl rfl rfl (by kernel_rfl)).trans q4
 have h5:=(fld hf (i:=5) (ty:=46) (off:=9) (k:=1) rfl rfl rfl (by kernel_rfl)).trans q5
 have h6:=(fld hf (i:=6) (ty:=64) (off:=10) (k:=1) rfl rfl rfl (by kernel_rfl)).trans q6
 have h7:=(fld hf (i:=7) (ty:=67) (off:=11) (k:=1) rfl rfl rfl (by kernel_rfl)).trans q7
 have h8:=(fld hf (i:=8) (ty:=3) (off:=12) (k:=1) rfl rfl rfl (by kernel_rfl)).trans q8
 have h9:=(fld hf (i:=9) (ty:=4) (off:=13) (k:=1) rfl rfl rfl (by kernel_rfl)).trans q9
 have h10:=(fld hf (i:=10) (ty:=4) (off:=14) (k:=1) rfl rfl rfl (by kernel_rfl)).trans q10
 have h11:=(fld hf (i:=11) (ty:=4) (off:=15) (k:=1) rfl rfl rfl (by kernel_rfl)).trans q11
 have h12:=(fld hf (i:=12) (ty:=69) (off:=16) (k:=256) rfl rfl rfl (by kernel_rfl)).trans q12
 obtain⟨ka,na,oa,ra,ca,e0,wa,za,ba⟩:=zEy h0 (hzf q0 rfl)
 obtain⟨kb,nb,ob,rb,cb,e1,wb,zb,bb⟩:=zEy h1 (hzf q1 rfl)
 obtain⟨nt,e2,_⟩:=DataW.trod_bool Tryz.underlying4 h2
 obtain⟨v3,e3,_,w3⟩:=DataW.trod_int Tryz.underlying5 h3
 obtain⟨v4,e4,_,_⟩:=DataW.trod_int Tryz.underlying3 h4
 obtain⟨o5,n5,c5,e5,t5⟩:=zCq Tryz.underlying46 h5 (hzf q5 rfl)
 obtain⟨o6,n6,c6,e6⟩:=zAj Tryz.underlying64 h6
 rw[e6]at h6
 have z6:=zBI Tryz.underlying64 h6 (hzf q6 rfl)
 rw[show Tryz.prog.bytesOf 127=72 by kernel_rfl]at z6
 obtain⟨re,rl,wr,_⟩:=zDx (d:=y6.1) (p:=y6.2) Tryz.underlying64 ⟨n',h6⟩ rfl
 subst rl
 obtain⟨o7,n7,c7,e7,t7⟩:=zFu Tryz.underlying67 h7 (hzf q7 rfl)
 obtain⟨v8,e8,_,_⟩:=DataW.trod_int Tryz.underlying3 h8
 obtain⟨v9,e9,_⟩:=DataW.trod_bool Tryz.underlying4 h9
 obtain⟨v10,e10,_⟩:=DataW.trod_bool Tryz.underlying4 h10
 obtain⟨v11,e11,_⟩:=DataW.trod_bool Tryz.underlying4 h11
 have hr:(reachBytes:Nat)≤140737488355328:=by decide
 have f0:cs[0]?=some (.int .i8 ka):=zCx e0 (j:=0) (by decide)
 have f1:cs[1]?=some (.int .i64 na):=zCx e0 (j:=1) (by decide)
 have f2:cs[2]?=some (.slice oa ra.length ca):=zCx e0 (j:=2) (by decide)
 have f3:cs[3]?=some (.int .i8 kb):=zCx e1 (j:=0) (by decide)
 have f4:cs[4]?=some (.int .i64 nb):=zCx e1 (j:=1) (by decide)
 have f5:cs[5]?=some (.slice ob rb.length cb):=zCx e1 (j:=2) (by decide)
 have f6:cs[6]?=some (.bool nt):=zBG e2
 have f7:cs[7]?=some (.int .u8 v3):=zBG e3
 have f8:cs[8]?=some (.int .i64 v4):=zBG e4
 have f9:cs[9]?=some (.slice o5 n5 c5):=zBG e5
 have f10:cs[10]?=some (.slice o6 re.length c6):=zBG e6
 have f11:cs[11]?=some (.slice o7 n7 c7):=zBG e7
 have f12:cs[12]?=some (.int .i64 v8):=zBG e8
 have f13:cs[13]?=some (.bool v9):=zBG e9
 have f14:cs[14]?=some (.bool v10):=zBG e10
 have f15:cs[15]?=some (.bool v11):=zBG e11
 have htab: ∀i,i<256→ ∃v,cs[16+i]?=some (.int .u8 v):=by
  intro i hi
  obtain⟨ys,m,_,_,_,hyl,hg⟩:=DataW.trod_array Tryz.underlying69 h12
  obtain⟨y,hy⟩: ∃y,ys[i]?=some y:=⟨_,zMP (by rw[hyl];exact hi)⟩
  have h:=(zLC hg (c:=1) (by kernel_rfl) (i:=i) hi).trans hy
  obtain⟨z,ez,_,_⟩:=DataW.trod_int Tryz.underlying5 h
  have e1:=zBG ez
  rw[Nat.mul_one]at e1
  have e2:=zCx (cs:=cs) (off:=16) (k:=256) rfl (j:=i) hi
  exact⟨z,e2.trans e1⟩
 have hone: ∀v∈cs,v.oneCell'=true:=by
  intro v hv
  obtain⟨j,hv⟩:=List.mem_iff_getElem?.1 hv
  by_cases hj:16≤j
  ·have hjl:j<272:=by rw[←hl2];exact(zMF.1 hv).1
   obtain⟨i,rfl⟩: ∃i,j=16+i:=⟨j - 16,by omega⟩
   obtain⟨z,ez⟩:=htab i (by omega)
   rw[hv]at ez
   injection ez with ez
   rw[ez]
   rfl
  ·obtain rfl|rfl|rfl|rfl|rfl|rfl|rfl|rfl|rfl|rfl|rfl|rfl|rfl|rfl|rfl|rfl:j=0∨j=1∨j=2∨j=3∨j=4∨j=5∨j=6∨j=7∨j=8∨j=9∨j=10∨j=11∨j=12∨j=13∨j=14∨j=15:=by omega
   all_goals (simp only[f0,f1,f2,f3,f4,f5,f6,f7,f8,f9,f10,f11,f12,f13,f14,f15,Option.some.injEq]at hv;subst hv;rfl)
 obtain⟨T,rfl,ts,tz,tl⟩:=t5
 obtain⟨P,rfl,hP⟩:=PcO.of t7
 have hci:zHa w cs ka na oa ra ca kb nb ob rb cb nt:=⟨⟨hl2,hone⟩,f0,f1,f2,f3,f4,f5,f6,wa.srcZ,by omega,wb.srcZ,by omega,⟨o5,_,c5,f9,T,rfl,ts,tz,tl⟩,⟨o6,re,c6,f10,wr.srcZ,by omega⟩,⟨o7,_,c7,f11,t7⟩,⟨⟨_,f7⟩,⟨_,f8⟩,⟨_,f12⟩,⟨_,f13⟩,⟨_,f14⟩,⟨_,f15⟩,htab⟩,ba,bb⟩
 have hb3:=bounds_u8 w3
 exact⟨⟨cs,ka,na,oa,ra,ca,kb,nb,ob,rb,cb,nt,o5,c5,T,o6,c6,re,o7,c7,P⟩,rfl,
  ⟨hci,NdU.of_src wa.srcZ,NdU.of_src wb.srcZ,f9,BtM.of_src ts,tz,tl,f10,NdU.of_src wr.srcZ,by show re.length*72≤_;omega,f11,hP⟩,wa,wb,wr,za,zb,z6,v3.toNat,by omega,by
   rw[show((v3.toNat:Nat):Int)=v3 by omega];exact f7⟩
end
structure ShP (l:List Value) (z:Cz):Prop where
 nt:l[6]?=some (.bool z.nt)
 nm:l[7]?=some (.int .u8 (z.nm:Nat))
 nl:z.nm<256
 p:l[8]?=some (.int .i64 z.at_)
 ct:l[12]?=some (.int .i64 z.ct)
 al:l[13]?=some (.bool z.al)
 pr:l[14]?=some (.bool z.pr)
 wr:l[15]?=some (.bool z.wr)
 tb: ∀j,j<256→l[16+j]?=some (.int .u8 (z.tb j))
section
variable {w w':World} {c:Cx} {base:Nat} {L:List Value} {ga gb gt gr gp:Nat}
theorem CxM.cz (h:CxM w c): ∃z:Cz,z.a=⟨c.ka,c.na,c.ra⟩∧z.b=⟨c.kb,c.nb,c.rb⟩∧z.tx=c.T∧z.re=c.R∧z.fi=c.P.map (fun p=>⟨p.k,p.T⟩)∧ShP c.l z:=by
 obtain⟨nm,hn,h7⟩:=h.nm
 obtain⟨v8,h8⟩:=h.i.ci.x.c8
 obtain⟨v12,h12⟩:=h.i.ci.x.c12
 obtain⟨v13,h13⟩:=h.i.ci.x.c13
 obtain⟨v14,h14⟩:=h.i.ci.x.c14
 obtain⟨v15,h15⟩:=h.i.ci.x.c15
 have htb: ∀j,∃v:Int,j<256→c.l[16+j]?=some (.int .u8 v):=fun j=>by
  by_cases hj:j<256
  ·obtain⟨v,hv⟩:=h.i.ci.x.tab j hj
   exact⟨v,fun _=>hv⟩
  ·exact⟨0,fun e=>absurd e hj⟩
 exact⟨⟨⟨c.ka,c.na,c.ra⟩,⟨c.kb,c.nb,c.rb⟩,c.nt,nm,v8,c.T,c.R,c.P.map (fun p=>⟨p.k,p.T⟩),v12,v13,v14,v15,fun j=>Classical.choose (htb j)⟩,rfl,rfl,rfl,rfl,rfl,h.i.ci.n,h7,hn,h8,h12,h13,h14,h15,fun j hj=>Classical.choose_spec (htb j) hj⟩
theorem ShP.same {l:List Value} {z:Cz} (h:ShP l z) (hs: ∀j,j≠2→j≠5→j≠9→j≠10→j≠11→L[j]?=l[j]?):ShP L z where
 nt:=(hs 6 (by decide) (by decide) (by decide) (by decide) (by decide)).trans h.nt
 nm:=(hs 7 (by decide) (by decide) (by decide) (by decide) (by decide)).trans h.nm
 nl:=h.nl
 p:=(hs 8 (by decide) (by decide) (by decide) (by decide) (by decide)).trans h.p
 ct:=(hs 12 (by decide) (by decide) (by decide) (by decide) (by decide)).trans h.ct
 al:=(hs 13 (by decide) (by decide) (by decide) (by decide) (by decide)).trans h.al
 pr:=(hs 14 (by decide) (by decide) (by decide) (by decide) (by decide)).trans h.pr
 wr:=(hs 15 (by decide) (by decide) (by decide) (by decide) (by decide)).trans h.wr
 tb:=fun j hj=>(hs (16+j) (by omega) (by omega) (by omega) (by omega) (by omega)).trans (h.tb j hj)
theorem PcO.pcR {oa:Option Addr} {P:List Pce} (h:PcO w oa P):PcR w oa (P.map (fun p=>(⟨p.k,p.T⟩:Pc))):=fun hp=>by
 rw[List.length_map]at hp
 obtain⟨nb,no,h1,h2,h3⟩:=h.at_ hp
 refine⟨nb,no,h1,h2,fun i x hx=>?_⟩
 rw[List.getElem?_map]at hx
 cases hpi:P[i]? with
 |none=>rw[hpi]at hx;cases hx
 |some p=>
  rw[hpi]at hx
  cases hx
  obtain⟨e1,e2,_⟩:=h3 i p hpi
  exact⟨e1,_,_,e2⟩
theorem zBd.pcR {g:Nat} {P:List Pce} (h:zBd w base g P.length P):PcR w (some ⟨g,0,none⟩) (P.map (fun p=>(⟨p.k,p.T⟩:Pc))):=fun hp=>by
 refine⟨g,0,rfl,h.lt,fun i x hx=>?_⟩
 rw[List.getElem?_map]at hx
 cases hpi:P[i]? with
 |none=>rw[hpi]at hx;cases hx
 |some p=>
  rw[hpi]at hx
  cases hx
  obtain⟨_,q,⟨e1,e2⟩,_⟩:=h.at_ i p hpi
  rw[Nat.zero_add]
  exact⟨e1,_,_,e2⟩
theorem BtM.txIn {oa:Option Addr} {T:List Nat} (h:BtM w oa T):zBU w oa T:=fun hp=>by
 obtain⟨g,o,h1,_,h3⟩:=h hp
 exact⟨g,o,h1,fun j hj=>h3 j _ (by rw[zMH,zMP hj];rfl)⟩
theorem NdW.kb {oa:Option Addr} {cap:Nat} {re:List Nd} (h:NdW w oa cap re): ∀x∈re,x.kids≤9223372036854775807:=fun x hx=>(h.wf x hx).2.2.2.2.2
theorem CxM.shV (h:CxM w c) {z:Cz} (ha:z.a=⟨c.ka,c.na,c.ra⟩) (hb:z.b=⟨c.kb,c.nb,c.rb⟩) (ht:z.tx=c.T) (hr:z.re=c.R) (hf:z.fi=c.P.map (fun p=>⟨p.k,p.T⟩)) (hp:ShP c.l z) (z1:c.ra.length≤4294967296) (z2:c.rb.length≤4294967296) (z3:c.R.length≤4294967296):ShV w c.l z where
 cl:=h.i.ci.cl
 a0:=by rw[ha];exact h.i.ci.a0
 a1:=by rw[ha];exact h.i.ci.a1
 a2:=by rw[ha];exact⟨_,_,h.i.ci.a2,h.wa.toV z1⟩
 b0:=by rw[hb];exact h.i.ci.b0
 b1:=by rw[hb];exact h.i.ci.b1
 b2:=by rw[hb];exact⟨_,_,h.i.ci.b2,h.wb.toV z2⟩
 ka:=by rw[ha];exact h.i.ci.ba
 kb:=by rw[hb];exact h.i.ci.bb
 oa:=by rw[ha];exact h.wa.op
 ob:=by rw[hb];exact h.wb.op
 nt:=hp.nt
 nm:=hp.nm
 nl:=hp.nl
 p:=hp.p
 tx:=by rw[ht];exact⟨_,_,h.i.e9⟩
 re:=by rw[hr];exact⟨_,_,h.i.e10,h.wr.toV z3⟩
 ore:=by rw[hr];exact h.wr.op
 fi:=by rw[hf];exact⟨_,_,by rw[List.length_map];exact h.i.e11,h.i.p.pcR⟩
 fl:=by rw[hf,List.length_map];have:=h.i.p.z;omega
 ct:=hp.ct
 al:=hp.al
 pr:=hp.pr
 wr:=hp.wr
 tb:=hp.tb
theorem zBa.shV (hw:zBa w base c L ga gb gt gr gp) (h:CxM w' c) {z:Cz} (ha:z.a=⟨c.ka,c.na,c.ra⟩) (hb:z.b=⟨c.kb,c.nb,c.rb⟩) (ht:z.tx=c.T) (hr:z.re=c.R) (hf:z.fi=c.P.map (fun p=>⟨p.k,p.T⟩)) (hp:ShP c.l z) (z1:c.ra.length≤4294967296) (z2:c.rb.length≤4294967296) (z3:c.R.length≤4294967296):ShV w L z:=
 have hp2:=hp.same hw.same
 {cl:=hw.cl
  a0:=by rw[ha];exact(hw.same 0 (by decide) (by decide) (by decide) (by decide) (by decide)).trans h.i.ci.a0
  a1:=by rw[ha];exact(hw.same 1 (by decide) (by decide) (by decide) (by decide) (by decide)).trans h.i.ci.a1
  a2:=by rw[ha];exact⟨_,_,hw.e2,hw.a.2.preV (by rw[zMS];simp[zA7]) z1 h.wa.kb⟩
  b0:=by rw[hb];exact(hw.same 3 (by decide) (by decide) (by decide) (by decide) (by decide)).trans h.i.ci.b0
  b1:=by rw[hb];exact(hw.same 4 (by decide) (by decide) (by decide) (by decide) (by decide)).trans h.i.ci.b1
  b2:=by rw[hb];exact⟨_,_,hw.e5,hw.b.2.preV (by rw[zMS];simp[zA7]) z2 h.wb.kb⟩
  ka:=by rw[ha];exact h.i.ci.ba
  kb:=by rw[hb];exact h.i.ci.bb
  oa:=by rw[ha];exact h.wa.op
  ob:=by rw[hb];exact h.wb.op
  nt:=hp2.nt
  nm:=hp2.nm
  nl:=hp2.nl
  p:=hp2.p
  tx:=by rw[ht];exact⟨_,_,hw.e9⟩
  re:=by rw[hr];exact⟨_,_,hw.e10,hw.r.2.preV (by rw[zMS];simp[zA7]) z3 h.wr.kb⟩
  ore:=by rw[hr];exact h.wr.op
  fi:=by rw[hf];exact⟨_,_,by rw[List.length_map];exact hw.e11,hw.p.pcR⟩
  fl:=by rw[hf,List.length_map];have:=h.i.p.z;omega
  ct:=hp2.ct
  al:=hp2.al
  pr:=hp2.pr
  wr:=hp2.wr
  tb:=hp2.tb }
end
end
section
open Go.RowKit
def PcE (w:World) (oa:Option Addr) (P:List Pc):Prop:=
 P.length≤maxLen∧(0<P.length→ ∃nb no,oa=some ⟨nb,no,none⟩∧nb<w.heap.size∧ ∀i p,P[i]?=some p→w.cell? ⟨nb,no+i*2,none⟩=some (.int .i64 p.k)∧ ∃ob cb,w.cell? ⟨nb,no+i*2+1,none⟩=some (.slice ob p.t.length cb)∧zBU w ob p.t∧p.t.length≤maxLen)
structure EqW (w:World) (l:List Value) (c:Cz):Prop where
 a0:l[0]?=some (.int .i8 c.a.kind)
 a1:l[1]?=some (.int .i64 c.a.n)
 a2: ∃o k,l[2]?=some (.slice o c.a.re.length k)∧NdU w o c.a.re∧c.a.re.length≤maxLen
 b0:l[3]?=some (.int .i8 c.b.kind)
 b1:l[4]?=some (.int .i64 c.b.n)
 b2: ∃o k,l[5]?=some (.slice o c.b.re.length k)∧NdU w o c.b.re∧c.b.re.length≤maxLen
 nt:l[6]?=some (.bool c.nt)
 nm:l[7]?=some (.int .u8 (c.nm:Nat))
 p:l[8]?=some (.int .i64 c.at_)
 tx: ∃o k,l[9]?=some (.slice o c.tx.length k)∧zBU w o c.tx∧c.tx.length≤maxLen
 re: ∃o k,l[10]?=some (.slice o c.re.length k)∧NdU w o c.re∧c.re.length≤maxLen
 fi: ∃o k,l[11]?=some (.slice o c.fi.length k)∧PcE w o c.fi
 ct:l[12]?=some (.int .i64 c.ct)
 al:l[13]?=some (.bool c.al)
 pr:l[14]?=some (.bool c.pr)
 wr:l[15]?=some (.bool c.wr)
 tb: ∀k,k<256→l[16+k]?=some (.int .u8 (c.tb k))
section
variable {w w':World} {base:Nat} {l:List Value} {c:Cz} {oa ob:Option Addr} {ca cb:Nat} {T:List Nat} {re:List Nd} {P:List Pc}
theorem PcE.below (h:PcE w oa P) (hb:Below w.heap.size w w'):PcE w' oa P:=⟨h.1,fun hp=>by
 obtain⟨nb,no,h1,h2,h3⟩:=h.2 hp
 refine⟨nb,no,h1,zMB h2 hb.size,fun i p hi=>?_⟩
 obtain⟨e1,ob,cb,e2,e3,e4⟩:=h3 i p hi
 exact⟨(hb.cell (p:=⟨nb,no+i*2,none⟩) h2).trans e1,ob,cb,(hb.cell (p:=⟨nb,no+i*2+1,none⟩) h2).trans e2,e3.below hb,e4⟩⟩
theorem EqW.below (h:EqW w l c) (hb:Below w.heap.size w w'):EqW w' l c:=
 {h with
  a2:=by obtain⟨o,k,h1,h2,h3⟩:=h.a2;exact⟨o,k,h1,h2.below hb,h3⟩
  b2:=by obtain⟨o,k,h1,h2,h3⟩:=h.b2;exact⟨o,k,h1,h2.below hb,h3⟩
  tx:=by obtain⟨o,k,h1,h2,h3⟩:=h.tx;exact⟨o,k,h1,h2.below hb,h3⟩
  re:=by obtain⟨o,k,h1,h2,h3⟩:=h.re;exact⟨o,k,h1,h2.below hb,h3⟩
  fi:=by obtain⟨o,k,h1,h2⟩:=h.fi;exact⟨o,k,h1,h2.below hb⟩ }
theorem EqW.tail {L M:List Value} (h:EqW w L c) (k:EqW w' M c) (hL:L.length=272) (hM:M.length=272):L.drop 16=M.drop 16:=List.ext_getElem? fun j=>by
 rw[List.getElem?_drop,List.getElem?_drop]
 by_cases hj:j<256
 ·rw[h.tb j hj,k.tb j hj]
 ·rw[zMj (by omega),zMj (by omega)]
theorem zIf (h:PcE w oa P) (ho:PcE w ob P):
  Calls Tryz.prog 172 #[.slice oa P.length ca,.slice ob P.length cb] w fun e w'=>e= .returned (.bool true)∧Below w.heap.size w w':=by
 have H:=zL8 h
 have HO:=zL8 ho
 have hz:=zBR h.1
 clear h ho
 go_enter Tryz.func172,Tryz.ntmps172
 go_wp2_with fail
 go_loopg [5] P.length (fun n iv wr=> ∃d:Nat,iv= .int .i64 (d:Nat)∧n=P.length - d∧d≤P.length∧Below w.heap.size w wr)
 case atStart=>exact⟨0,rfl,by omega,by omega,zL9 _ _⟩
 case round=>
  obtain⟨d,rfl,hg,hd,hbe⟩:=hrel
  have HG:=zL8 hg
  have HBE:=zL8 hbe
  clear hg
  by_cases hlt:d<P.length
  ·have hlt':(d:Int)<(P.length:Int):=by omega
   obtain⟨na,oo,hoa,nal,hna⟩:=(H.out.below hbe).2 (by omega)
   obtain⟨nb,oo',hob,nbl,hnb⟩:=(HO.out.below hbe).2 (by omega)
   obtain⟨p,hp⟩: ∃p,P[d]?=some p:=⟨_,zMP hlt⟩
   obtain⟨z0,o1,k1,z1,t1,q1⟩:=hna d p hp
   obtain⟨e1,o2,k2,e2,t2,_⟩:=hnb d p hp
   have HD:=zL8 ((zL9 wr.heap.size wr).drew)
   have HE:=zL8 (zJa (ca:=k1) (cb:=k2) p.k (t1.below HD.out) (t2.below HD.out) q1)
   subst hoa
   subst hob
   clear hna hnb hbe hp t1 t2 q1
   go_wp2_with fail
   refine zAA (X:=none) 8 [] [0,1,2,3,4,5,6,7] (by kernel_rfl) (by kernel_rfl) rfl (fun _ _ _ _ _ h=>h) ?_
   simp only[zAJ,zAC,zAD,zAB,List.getD_cons_zero,List.getD_cons_succ,List.drop_succ_cons,List.drop_zero]
   repeat (go_big_quiet_step (fail))
   refine wpQuiet_nil ?_
   go_wp2_with fail
   refine HE.out.mono ?_
   rintro e w2 ⟨rfl,hb2⟩
   have HB2:=zL8 (HBE.out.trans ((HD.out.trans hb2).mono HBE.out.size))
   clear hb2 e1 e2 z0 z1
   go_wp2_with fail
   go_roundg (P.length - (d+1))
   case measure=>have:=HG.out;omega
   case rel=>exact⟨d+1,by go_num,rfl,by omega,HB2.out⟩
  ·have hlt': ¬(d:Int)<(P.length:Int):=by omega
   clear hbe
   go_wp2_with fail
   go_ret
   exact⟨rfl,HBE.out⟩
end
section
variable {w:World} {c:Cz} {L M:List Value}
theorem zIv (hL:zBc L) (hM:zBc M) (hx:EqW w L c) (hy:EqW w M c):
  Calls Tryz.prog 136 #[.agg L.toArray,.agg M.toArray] w fun e w'=>e= .returned (.bool true)∧Below w.heap.size w w':=by
 have hb1:=((zL9 w.heap.size w).alloc (zMA _) (.cells L.toArray 71)).alloc (by simp) (.cells M.toArray 71)
 have HC:=zL8 ((CmB.new hL w).below ((zL9 _ _).alloc (zMA _) (.cells M.toArray 71)))
 have HD:=zL8 (CmB.new hM (w.alloc (.cells L.toArray 71)))
 have hsz:(w.alloc (.cells L.toArray 71)).heap.size=w.heap.size+1:=by simp
 rw[hsz]at HD
 have HB:=zL8 hb1
 have HU:=zL8 (hx.below hb1)
 have HV:=zL8 (hy.below hb1)
 have HX:=zL8 hx
 have HY:=zL8 hy
 have HTL:=zL8 (hx.tail hy hL.len hM.len)
 have hq:=zGm (xs:=(M.drop 16).toArray) (fun i hi2=>⟨_,by rw[List.getElem?_toArray,List.getElem?_drop];exact hy.tb i hi2⟩)
 have HTI:Hid ((Tryz.prog.info? 69).map (·.size)=some (M.drop 16).length):=zL8 (by rw[zGn,List.length_drop,hM.len])
 clear hL hM hx hy hb1 hsz
 go_enter Tryz.func136,Tryz.ntmps136
 go_upto_region 1 with fail
 obtain⟨W,hW⟩: ∃W,(w.alloc (.cells L.toArray 71)).alloc (.cells M.toArray 71)=W:=⟨_,rfl⟩
 rw[hW]at HC HD HB HU HV ⊢
 clear hW
 obtain⟨ou,ku,eu,ru,zu⟩:=HU.out.a2
 obtain⟨ov,kv,ev,rv,_⟩:=HV.out.a2
 have RU:=zL8 ru
 have RV:=zL8 rv
 clear ru rv
 have a0:=(HC.out.cell 0).trans HX.out.a0
 have b0:=(HD.out.cell 0).trans HY.out.a0
 have a1:=(HC.out.cell 1).trans HX.out.a1
 have b1:=(HD.out.cell 1).trans HY.out.a1
 have a2:=(HC.out.cell 2).trans eu
 have b2:=(HD.out.cell 2).trans ev
 have kl:=HC.out.lt
 have kd:=HD.out.lt
 have HE:=zL8 (zIg (ca:=ku) (cb:=kv) c.a.kind c.a.n RU.out RV.out zu)
 go_wp2_with fail
 refine HE.out.mono ?_;rintro e v1 ⟨rfl,hb⟩
 have HC1:=zL8 (HC.out.below hb)
 have HD1:=zL8 (HD.out.below hb)
 have HU1:=zL8 (HU.out.below hb)
 have HV1:=zL8 (HV.out.below hb)
 have HB1:=zL8 (HB.out.trans (hb.mono HB.out.size))
 clear hb kl kd HE HC HD HU HV HB a0 b0 a1 b1 a2 b2
 clear eu ev RU RV zu
 obtain⟨ou,ku,eu,ru,zu⟩:=HU1.out.b2
 obtain⟨ov,kv,ev,rv,_⟩:=HV1.out.b2
 have RU:=zL8 ru
 have RV:=zL8 rv
 clear ru rv
 have a3:=(HC1.out.cell 3).trans HX.out.b0
 have b3:=(HD1.out.cell 3).trans HY.out.b0
 have a4:=(HC1.out.cell 4).trans HX.out.b1
 have b4:=(HD1.out.cell 4).trans HY.out.b1
 have a5:=(HC1.out.cell 5).trans eu
 have b5:=(HD1.out.cell 5).trans ev
 have kl:=HC1.out.lt
 have kd:=HD1.out.lt
 have HE:=zL8 (zIg (ca:=ku) (cb:=kv) c.b.kind c.b.n RU.out RV.out zu)
 go_wp2_with fail
 refine HE.out.mono ?_;rintro e v2 ⟨rfl,hb⟩
 have HC2:=zL8 (HC1.out.below hb)
 have HD2:=zL8 (HD1.out.below hb)
 have HU2:=zL8 (HU1.out.below hb)
 have HV2:=zL8 (HV1.out.below hb)
 have HB2:=zL8 (HB1.out.trans (hb.mono HB1.out.size))
 clear hb kl kd HE HC1 HD1 HU1 HV1 HB1 a3 b3 a4 b4 a5 b5
 clear eu ev RU RV zu
 obtain⟨ou,ku,eu,ru,zu⟩:=HU2.out.tx
 obtain⟨ov,kv,ev,rv,_⟩:=HV2.out.tx
 have RU:=zL8 ru
 have RV:=zL8 rv
 clear ru rv
 have a6:=(HC2.out.cell 6).trans HX.out.nt
 have b6:=(HD2.out.cell 6).trans HY.out.nt
 have a7:=(HC2.out.cell 7).trans HX.out.nm
 have b7:=(HD2.out.cell 7).trans HY.out.nm
 have a9:=(HC2.out.cell 9).trans eu
 have b9:=(HD2.out.cell 9).trans ev
 have kl:=HC2.out.lt
 have kd:=HD2.out.lt
 have HE:=zL8 (zGZ (ca:=ku) (cb:=kv) RU.out RV.out zu)
 go_wp2_with fail
 refine HE.out.mono ?_;rintro e v3 ⟨rfl,hb⟩
 have HC3:=zL8 (HC2.out.below hb)
 have HD3:=zL8 (HD2.out.below hb)
 have HU3:=zL8 (HU2.out.below hb)
 have HV3:=zL8 (HV2.out.below hb)
 have HB3:=zL8 (HB2.out.trans (hb.mono HB2.out.size))
 clear hb kl kd HE HC2 HD2 HU2 HV2 HB2 a6 b6 a7 b7 a9 b9
 clear eu ev RU RV zu
 obtain⟨ou,ku,eu,ru,zu⟩:=HU3.out.re
 obtain⟨ov,kv,ev,rv,_⟩:=HV3.out.re
 have RU:=zL8 ru
 have RV:=zL8 rv
 clear ru rv
 have a10:=(HC3.out.cell 10).trans eu
 have b10:=(HD3.out.cell 10).trans ev
 have kl:=HC3.out.lt
 have kd:=HD3.out.lt
 have HE:=zL8 (zGY (ca:=ku) (cb:=kv) RU.out RV.out zu)
 go_wp2_with fail
 refine HE.out.mono ?_;rintro e v4 ⟨rfl,hb⟩
 have HC4:=zL8 (HC3.out.below hb)
 have HD4:=zL8 (HD3.out.below hb)
 have HU4:=zL8 (HU3.out.below hb)
 have HV4:=zL8 (HV3.out.below hb)
 have HB4:=zL8 (HB3.out.trans (hb.mono HB3.out.size))
 clear hb kl kd HE HC3 HD3 HU3 HV3 HB3 a10 b10
 clear eu ev RU RV zu
 obtain⟨ou,ku,eu,ru⟩:=HU4.out.fi
 obtain⟨ov,kv,ev,rv⟩:=HV4.out.fi
 have RU:=zL8 ru
 have RV:=zL8 rv
 clear ru rv
 have a11:=(HC4.out.cell 11).trans eu
 have b11:=(HD4.out.cell 11).trans ev
 have kl:=HC4.out.lt
 have kd:=HD4.out.lt
 have HE:=zL8 (zIf (ca:=ku) (cb:=kv) RU.out RV.out)
 go_wp2_with fail
 refine HE.out.mono ?_;rintro e v5 ⟨rfl,hb⟩
 have HC5:=zL8 (HC4.out.below hb)
 have HD5:=zL8 (HD4.out.below hb)
 have HU5:=zL8 (HU4.out.below hb)
 have HV5:=zL8 (HV4.out.below hb)
 have HB5:=zL8 (HB4.out.trans (hb.mono HB4.out.size))
 clear hb kl kd HE HC4 HD4 HU4 HV4 HB4 a11 b11
 clear eu ev RU RV
 have a12:=(HC5.out.cell 12).trans HX.out.ct
 have b12:=(HD5.out.cell 12).trans HY.out.ct
 have a13:=(HC5.out.cell 13).trans HX.out.al
 have b13:=(HD5.out.cell 13).trans HY.out.al
 have a14:=(HC5.out.cell 14).trans HX.out.pr
 have b14:=(HD5.out.cell 14).trans HY.out.pr
 have a15:=(HC5.out.cell 15).trans HX.out.wr
 have b15:=(HD5.out.cell 15).trans HY.out.wr
 have kl:=HC5.out.lt
 have kd:=HD5.out.lt
 have HT1:=zL8 HC5.out.tab2
 have HT2:=zL8 HD5.out.tab2
 rw[HTL.out]at HT1
 go_wp2_with (first|refine zAV (by kernel_rfl) 69 _ rfl w.heap.size 16 rfl _ _ HT1.out Tryz.underlying69 rfl HTI.out ?_|refine zAV (by kernel_rfl) 69 _ rfl (w.heap.size+1) 16 rfl _ _ HT2.out Tryz.underlying69 rfl HTI.out ?_)
 go_ret
 exact⟨rfl,HB5.out⟩
theorem zK6 (hL:zBc L) (hM:zBc M) (hx:EqW w L c) (hy:EqW w M c):
  Calls Tryz.prog 91 #[.agg L.toArray,.agg M.toArray] w fun e w'=>e= .returned (.bool true)∧Below w.heap.size w w':=by
 have hb1:=((zL9 w.heap.size w).alloc (zMA _) (.cells L.toArray 71)).alloc (by simp) (.cells M.toArray 71)
 have HC:=zL8 ((CmB.new hL w).below ((zL9 _ _).alloc (zMA _) (.cells M.toArray 71)))
 have HD:=zL8 (CmB.new hM (w.alloc (.cells L.toArray 71)))
 have hsz:(w.alloc (.cells L.toArray 71)).heap.size=w.heap.size+1:=by simp
 rw[hsz]at HD
 have HB:=zL8 hb1
 have HX:=zL8 (zIv hL hM (hx.below hb1) (hy.below hb1))
 have HX8:=zL8 hx.p
 have HY8:=zL8 hy.p
 have HI1:Hid ((Tryz.prog.info? 71).map (·.size)=some L.length):=zL8 (by rw[zAd,hL.len])
 have HI2:Hid ((Tryz.prog.info? 71).map (·.size)=some M.length):=zL8 (by rw[zAd,hM.len])
 clear hL hM hx hy hb1 hsz
 go_enter Tryz.func91,Tryz.ntmps91
 go_upto_region 1 with fail
 obtain⟨W,hW⟩: ∃W,(w.alloc (.cells L.toArray 71)).alloc (.cells M.toArray 71)=W:=⟨_,rfl⟩
 rw[hW]at HC HD HB HX ⊢
 clear hW
 have HR1:=zL8 HC.out.row2
 have HR2:=zL8 HD.out.row2
 have a8:=(HC.out.cell 8).trans HX8.out
 have b8:=(HD.out.cell 8).trans HY8.out
 have kl:=HC.out.lt
 have kd:=HD.out.lt
 go_wp2_with (first|refine zAV (by kernel_rfl) 71 _ rfl w.heap.size 0 rfl _ _ HR1.out Tryz.underlying71 rfl HI1.out ?_|refine zAV (by kernel_rfl) 71 _ rfl (w.heap.size+1) 0 rfl _ _ HR2.out Tryz.underlying71 rfl HI2.out ?_)
 refine HX.out.mono ?_;rintro e v1 ⟨rfl,hb⟩
 have HB1:=zL8 (HB.out.trans (hb.mono HB.out.size))
 clear hb a8 b8 kl kd
 go_wp2_with fail
 go_ret
 exact⟨rfl,HB1.out⟩
end
section
variable {w w':World} {c:Cx} {base:Nat} {L:List Value} {ga gb gt gr gp:Nat}
theorem PcO.pcE {oa:Option Addr} {P:List Pce} (h:PcO w oa P):PcE w oa (P.map (fun p=>(⟨p.k,p.T⟩:Pc))):=by
 refine⟨by rw[List.length_map];have:=h.z;unfold maxLen;omega,fun hp=>?_⟩
 rw[List.length_map]at hp
 obtain⟨nb,no,h1,h2,h3⟩:=h.at_ hp
 refine⟨nb,no,h1,h2,fun i x hx=>?_⟩
 rw[List.getElem?_map]at hx
 cases hpi:P[i]? with
 |none=>rw[hpi]at hx;cases hx
 |some p=>
  rw[hpi]at hx
  cases hx
  obtain⟨e1,e2,e3,e4⟩:=h3 i p hpi
  exact⟨e1,_,_,e2,e3.txIn,by unfold maxLen;show p.T.length≤_;omega⟩
theorem zBd.pcE {g:Nat} {P:List Pce} (h:zBd w base g P.length P) (hz:P.length*32≤140737488355328):PcE w (some ⟨g,0,none⟩) (P.map (fun p=>(⟨p.k,p.T⟩:Pc))):=by
 refine⟨by rw[List.length_map];unfold maxLen;omega,fun hp=>?_⟩
 rw[List.length_map]at hp
 refine⟨g,0,rfl,h.lt,fun i x hx=>?_⟩
 rw[List.getElem?_map]at hx
 cases hpi:P[i]? with
 |none=>rw[hpi]at hx;cases hx
 |some p=>
  rw[hpi]at hx
  cases hx
  obtain⟨e4,q,⟨e1,e2⟩,e3⟩:=h.at_ i p hpi
  rw[Nat.zero_add]
  exact⟨e1,_,_,e2,e3.btM.txIn,by unfold maxLen;show p.T.length≤_;omega⟩
theorem CxM.eqW (h:CxM w c) {z:Cz} (ha:z.a=⟨c.ka,c.na,c.ra⟩) (hb:z.b=⟨c.kb,c.nb,c.rb⟩) (ht:z.tx=c.T) (hr:z.re=c.R) (hf:z.fi=c.P.map (fun p=>⟨p.k,p.T⟩)) (hp:ShP c.l z):EqW w c.l z where
 a0:=by rw[ha];exact h.i.ci.a0
 a1:=by rw[ha];exact h.i.ci.a1
 a2:=by rw[ha];exact⟨_,_,h.i.ci.a2,h.i.a,by have:=h.za;unfold maxLen;show c.ra.length≤_;omega⟩
 b0:=by rw[hb];exact h.i.ci.b0
 b1:=by rw[hb];exact h.i.ci.b1
 b2:=by rw[hb];exact⟨_,_,h.i.ci.b2,h.i.b,by have:=h.zb;unfold maxLen;show c.rb.length≤_;omega⟩
 nt:=hp.nt
 nm:=hp.nm
 p:=hp.p
 tx:=by rw[ht];exact⟨_,_,h.i.e9,h.i.t.txIn,by have:=h.i.tz;unfold maxLen;omega⟩
 re:=by rw[hr];exact⟨_,_,h.i.e10,h.i.r,by have:=h.zr;unfold maxLen;omega⟩
 fi:=by rw[hf];exact⟨_,_,by rw[List.length_map];exact h.i.e11,h.i.p.pcE⟩
 ct:=hp.ct
 al:=hp.al
 pr:=hp.pr
 wr:=hp.wr
 tb:=hp.tb
theorem zBa.eqW (hw:zBa w base c L ga gb gt gr gp) (h:CxM w' c) {z:Cz} (ha:z.a=⟨c.ka,c.na,c.ra⟩) (hb:z.b=⟨c.kb,c.nb,c.rb⟩) (ht:z.tx=c.T) (hr:z.re=c.R) (hf:z.fi=c.P.map (fun p=>⟨p.k,p.T⟩)) (hp:ShP c.l z):EqW w L z:=
 have hp2:=hp.same hw.same
 {a0:=by rw[ha];exact(hw.same 0 (by decide) (by decide) (by decide) (by decide) (by decide)).trans h.i.ci.a0
  a1:=by rw[ha];exact(hw.same 1 (by decide) (by decide) (by decide) (by decide) (by decide)).trans h.i.ci.a1
  a2:=by rw[ha];exact⟨_,_,hw.e2,hw.a.toU,by have:=h.za;unfold maxLen;show c.ra.length≤_;omega⟩
  b0:=by rw[hb];exact(hw.same 3 (by decide) (by decide) (by decide) (by decide) (by decide)).trans h.i.ci.b0
  b1:=by rw[hb];exact(hw.same 4 (by decide) (by decide) (by decide) (by decide) (by decide)).trans h.i.ci.b1
  b2:=by rw[hb];exact⟨_,_,hw.e5,hw.b.toU,by have:=h.zb;unfold maxLen;show c.rb.length≤_;omega⟩
  nt:=hp2.nt
  nm:=hp2.nm
  p:=hp2.p
  tx:=by rw[ht];exact⟨_,_,hw.e9,hw.t.btM.txIn,by have:=h.i.tz;unfold maxLen;omega⟩
  re:=by rw[hr];exact⟨_,_,hw.e10,hw.r.toU,by have:=h.zr;unfold maxLen;omega⟩
  fi:=by rw[hf];exact⟨_,_,by rw[List.length_map];exact hw.e11,hw.p.pcE h.i.p.z⟩
  ct:=hp2.ct
  al:=hp2.al
  pr:=hp2.pr
  wr:=hp2.wr
  tb:=hp2.tb }
end
end
end Go.Proofs.YtfcemodgopdkkaaGreatDoor
