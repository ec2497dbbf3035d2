/- Parts: Zm Zn. -/
import Derived.Test.YtmaagpbjahjmhaaGreatDoorQ46
import Derived.Test.YtmaagpbjahjmhaaGreatDoorQ47
import Derived.Test.YtmaagpbjahjmhaaGreatDoorQ43
import Derived.Test.YtmaagpbjahjmhaaGreatDoorQ36
import Derived.Deep.MidRow
import Derived.Laws.CopyOwn
set_option maxHeartbeats 12800000
set_option maxRecDepth 100000
namespace Go.Proofs.YtmaagpbjahjmhaaGreatDoor
section
open Go.ChangeShapes Go.WideShapes Go.RowKit Go.Deep
structure CxM (w:World) (c:Cx):Prop where
 i:zNJ w c
 wa:NdW w c.oa c.ca c.ra
 wb:NdW w c.ob c.cb c.rb
 wr:NdW w c.oe c.ce c.R
 za:c.ra.length*72≤140737488351232
 zb:c.rb.length*72≤140737488351232
 zr:c.R.length*72≤140737488351232
 nm: ∃v:Nat,v<256∧c.l[7]?=some (.int .u8 (v:Nat))
theorem CxM.below {w w':World} {c:Cx} (h:CxM w c) (hb:Below w.heap.size w w'):CxM w' c:=⟨h.i.below hb,h.wa.below hb,h.wb.below hb,h.wr.below hb,h.za,h.zb,h.zr,h.nm⟩
section
variable {H:Type} {enc:TypeId × Value→H} {w:World} {spare:Nat→Bool} {held:Bool}
theorem zOz {n:Nat} {cs:List Value} {x:DataW H × List MemPlace} (h:DataW.trod enc Tryz.prog w 0 spare held n 36 cs=some x) (hz:Sz 36 x.1): ∃c:Cx,c.l=cs∧CxM w c:=by
 obtain⟨xs,n',_,hx,hl,hxl,hf⟩:=DataW.trod_struct Tryz.underlying36 h
 have hl2:cs.length=272:=hl.trans (by kernel_rfl)
 have hx1:x.1= .agg (xs.map (·.1)):=congrArg Prod.fst hx
 rw[hx1]at hz
 have hxs: ∀i,i<13→ ∃y,xs[i]?=some y:=fun i hi=>⟨_,zQ8 (by rw[hxl];exact hi)⟩
 have hzf: ∀ {i:Nat} {ty:TypeId} {y:DataW H × List MemPlace},xs[i]?=some y→(#[31,31,4,5,3,22,29,32,3,4,4,4,34]:Array TypeId).toList[i]?=some ty→Sz ty y.1:=fun hy hi=>Sz.fld Tryz.underlying36 hz hi (by rw[List.getElem?_map,hy];rfl)
 obtain⟨y0,q0⟩:=hxs 0 (by decide)
 obtain⟨y1,q1⟩:=hxs 1 (by decide)
 obtain⟨y2,q2⟩:=hxs 2 (by decide)
 obtain⟨y3,q3⟩:=hxs 3 (by decide)
 obtain⟨y4,q4⟩:=hxs 4 (by decide)
 obtain⟨y5,q5⟩:=hxs 5 (by decide)
 obtain⟨y6,q6⟩:=hxs 6 (by decide)
 obtain⟨y7,q7⟩:=hxs 7 (by decide)
 obtain⟨y8,q8⟩:=hxs 8 (by decide)
 obtain⟨y9,q9⟩:=hxs 9 (by decide)
 obtain⟨y10,q10⟩:=hxs 10 (by decide)
 obtain⟨y11,q11⟩:=hxs 11 (by decide)
 obtain⟨y12,q12⟩:=hxs 12 (by decide)
 have h0:=(fld hf (i:=0) (ty:=31) (off:=0) (k:=3) rfl rfl rfl (by kernel_rfl)).trans q0
 have h1:=(fld hf (i:=1) (ty:=31) (off:=3) (k:=3) rfl rfl rfl (by kernel_rfl)).trans q1
 have h2:=(fld hf (i:=2) (ty:=4) (off:=6) (k:=1) rfl rfl rfl (by kernel_rfl)).trans q2
 have h3:=(fld hf (i:=3) (ty:=5) (off:=7) (k:=1) rfl rfl rfl (by kernel_rfl)).trans q3
 have h4:=(fld hf (i:=4) (ty:=3) (off:=8) (k:=1) rfl rfl rfl (by kernel_rfl)).trans q4
 have h5:=(fld hf (i:=5) (ty:=22) (off:=9) (k:=1) rfl rfl rfl (by kernel_rfl)).trans q5
 have h6:=(fld hf (i:=6) (ty:=29) (off:=10) (k:=1) rfl rfl rfl (by kernel_rfl)).trans q6
 have h7:=(fld hf (i:=7) (ty:=32) (off:=11) (k:=1) rfl rfl rfl (by kernel_rfl)).trans q7
 have h8:=(fld hf (i:=8) (ty:=3) (off:=12) (k:=1) rfl rfl rfl (by kernel_rfl)).trans q8
 have h9:=(fld hf (i:=9) (ty:=4) (off:=13) (k:=1) rfl rfl rfl (by kernel_rfl)).trans q9
 have h10:=(fld hf (i:=10) (ty:=4) (off:=14) (k:=1) rfl rfl rfl (by kernel_rfl)).trans q10
 have h11:=(fld hf (i:=11) (ty:=4) (off:=15) (k:=1) rfl rfl rfl (by kernel_rfl)).trans q11
 have h12:=(fld hf (i:=12) (ty:=34) (off:=16) (k:=256) rfl rfl rfl (by kernel_rfl)).trans q12
 obtain⟨ka,na,oa,ra,ca,e0,wa,za,ba⟩:=zIK h0 (hzf q0 rfl)
 obtain⟨kb,nb,ob,rb,cb,e1,wb,zb,bb⟩:=zIK h1 (hzf q1 rfl)
 obtain⟨nt,e2,_⟩:=DataW.trod_bool Tryz.underlying4 h2
 obtain⟨v3,e3,_,w3⟩:=DataW.trod_int Tryz.underlying5 h3
 obtain⟨v4,e4,_,_⟩:=DataW.trod_int Tryz.underlying3 h4
 obtain⟨o5,n5,c5,e5,t5⟩:=zGp Tryz.underlying22 h5 (hzf q5 rfl)
 obtain⟨o6,n6,c6,e6⟩:=zDF Tryz.underlying29 h6
 rw[e6]at h6
 have z6:=zFb Tryz.underlying29 h6 (hzf q6 rfl)
 rw[show Tryz.prog.bytesOf 101=72 by kernel_rfl]at z6
 obtain⟨re,rl,wr,_⟩:=zGm (d:=y6.1) (p:=y6.2) Tryz.underlying29 ⟨n',h6⟩ rfl
 subst rl
 obtain⟨o7,n7,c7,e7,t7⟩:=zJb Tryz.underlying32 h7 (hzf q7 rfl)
 obtain⟨v8,e8,_,_⟩:=DataW.trod_int Tryz.underlying3 h8
 obtain⟨v9,e9,_⟩:=DataW.trod_bool Tryz.underlying4 h9
 obtain⟨v10,e10,_⟩:=DataW.trod_bool Tryz.underlying4 h10
 obtain⟨v11,e11,_⟩:=DataW.trod_bool Tryz.underlying4 h11
 have hr:(reachBytes:Nat)≤140737488355328:=by decide
 have f0:cs[0]?=some (.int .i8 ka):=zFI e0 (j:=0) (by decide)
 have f1:cs[1]?=some (.int .i64 na):=zFI e0 (j:=1) (by decide)
 have f2:cs[2]?=some (.slice oa ra.length ca):=zFI e0 (j:=2) (by decide)
 have f3:cs[3]?=some (.int .i8 kb):=zFI e1 (j:=0) (by decide)
 have f4:cs[4]?=some (.int .i64 nb):=zFI e1 (j:=1) (by decide)
 have f5:cs[5]?=some (.slice ob rb.length cb):=zFI e1 (j:=2) (by decide)
 have f6:cs[6]?=some (.bool nt):=zCn e2
 have f7:cs[7]?=some (.int .u8 v3):=zCn e3
 have f8:cs[8]?=some (.int .i64 v4):=zCn e4
 have f9:cs[9]?=some (.slice o5 n5 c5):=zCn e5
 have f10:cs[10]?=some (.slice o6 re.length c6):=zCn e6
 have f11:cs[11]?=some (.slice o7 n7 c7):=zCn e7
 have f12:cs[12]?=some (.int .i64 v8):=zCn e8
 have f13:cs[13]?=some (.bool v9):=zCn e9
 have f14:cs[14]?=some (.bool v10):=zCn e10
 have f15:cs[15]?=some (.bool v11):=zCn e11
 have htab: ∀i,i<256→ ∃v,cs[16+i]?=some (.int .u8 v):=by
  intro i hi
  obtain⟨ys,m,_,_,_,hyl,hg⟩:=DataW.trod_array Tryz.underlying34 h12
  obtain⟨y,hy⟩: ∃y,ys[i]?=some y:=⟨_,zQ8 (by rw[hyl];exact hi)⟩
  have h:=(zPz hg (c:=1) (by kernel_rfl) (i:=i) hi).trans hy
  obtain⟨z,ez,_,_⟩:=DataW.trod_int Tryz.underlying5 h
  have e1:=zCn ez
  rw[Nat.mul_one]at e1
  have e2:=zFI (cs:=cs) (off:=16) (k:=256) rfl (j:=i) hi
  exact⟨z,e2.trans e1⟩
 have hone: ∀v∈cs,v.oneCell'=true:=by
  intro v hv
  obtain⟨j,hv⟩:=List.mem_iff_getElem?.1 hv
  by_cases hj:16≤j
  ·have hjl:j<272:=by rw[←hl2];exact(zQy.1 hv).1
   obtain⟨i,rfl⟩: ∃i,j=16+i:=⟨j - 16,by omega⟩
   obtain⟨z,ez⟩:=htab i (by omega)
   rw[hv]at ez
   injection ez with ez
   rw[ez]
   rfl
  ·obtain rfl|rfl|rfl|rfl|rfl|rfl|rfl|rfl|rfl|rfl|rfl|rfl|rfl|rfl|rfl|rfl:j=0∨j=1∨j=2∨j=3∨j=4∨j=5∨j=6∨j=7∨j=8∨j=9∨j=10∨j=11∨j=12∨j=13∨j=14∨j=15:=by omega
   all_goals (simp only[f0,f1,f2,f3,f4,f5,f6,f7,f8,f9,f10,f11,f12,f13,f14,f15,Option.some.injEq]at hv;subst hv;rfl)
 obtain⟨T,rfl,ts,tz,tl⟩:=t5
 obtain⟨P,rfl,hP⟩:=PcO.of t7
 have hci:zLl w cs ka na oa ra ca kb nb ob rb cb nt:=⟨⟨hl2,hone⟩,f0,f1,f2,f3,f4,f5,f6,wa.srcZ,by omega,wb.srcZ,by omega,⟨o5,_,c5,f9,T,rfl,ts,tz,tl⟩,⟨o6,re,c6,f10,wr.srcZ,by omega⟩,⟨o7,_,c7,f11,t7⟩,⟨⟨_,f7⟩,⟨_,f8⟩,⟨_,f12⟩,⟨_,f13⟩,⟨_,f14⟩,⟨_,f15⟩,htab⟩,ba,bb⟩
 have hb3:=bounds_u8 w3
 exact⟨⟨cs,ka,na,oa,ra,ca,kb,nb,ob,rb,cb,nt,o5,c5,T,o6,c6,re,o7,c7,P⟩,rfl,
  ⟨hci,NdU.of_src wa.srcZ,NdU.of_src wb.srcZ,f9,BtM.of_src ts,tz,tl,f10,NdU.of_src wr.srcZ,by show re.length*72≤_;omega,f11,hP⟩,wa,wb,wr,za,zb,z6,v3.toNat,by omega,by
   rw[show((v3.toNat:Nat):Int)=v3 by omega];exact f7⟩
end
structure ShP (l:List Value) (z:Cz):Prop where
 nt:l[6]?=some (.bool z.nt)
 nm:l[7]?=some (.int .u8 (z.nm:Nat))
 nl:z.nm<256
 p:l[8]?=some (.int .i64 z.at_)
 ct:l[12]?=some (.int .i64 z.ct)
 al:l[13]?=some (.bool z.al)
 pr:l[14]?=some (.bool z.pr)
 wr:l[15]?=some (.bool z.wr)
 tb: ∀j,j<256→l[16+j]?=some (.int .u8 (z.tb j))
section
variable {w w':World} {c:Cx} {base:Nat} {L:List Value} {ga gb gt gr gp:Nat}
theorem CxM.cz (h:CxM w c): ∃z:Cz,z.a=⟨c.ka,c.na,c.ra⟩∧z.b=⟨c.kb,c.nb,c.rb⟩∧z.tx=c.T∧z.re=c.R∧z.fi=c.P.map (fun p=>⟨p.k,p.T⟩)∧ShP c.l z:=by
 obtain⟨nm,hn,h7⟩:=h.nm
 obtain⟨v8,h8⟩:=h.i.ci.x.c8
 obtain⟨v12,h12⟩:=h.i.ci.x.c12
 obtain⟨v13,h13⟩:=h.i.ci.x.c13
 obtain⟨v14,h14⟩:=h.i.ci.x.c14
 obtain⟨v15,h15⟩:=h.i.ci.x.c15
 have htb: ∀j,∃v:Int,j<256→c.l[16+j]?=some (.int .u8 v):=fun j=>by
  by_cases hj:j<256
  ·obtain⟨v,hv⟩:=h.i.ci.x.tab j hj
   exact⟨v,fun _=>hv⟩
  ·exact⟨0,fun e=>absurd e hj⟩
 exact⟨⟨⟨c.ka,c.na,c.ra⟩,⟨c.kb,c.nb,c.rb⟩,c.nt,nm,v8,c.T,c.R,c.P.map (fun p=>⟨p.k,p.T⟩),v12,v13,v14,v15,fun j=>Classical.choose (htb j)⟩,rfl,rfl,rfl,rfl,rfl,h.i.ci.n,h7,hn,h8,h12,h13,h14,h15,fun j hj=>Classical.choose_spec (htb j) hj⟩
theorem ShP.same {l:List Value} {z:Cz} (h:ShP l z) (hs: ∀j,j≠2→j≠5→j≠9→j≠10→j≠11→L[j]?=l[j]?):ShP L z where
 nt:=(hs 6 (by decide) (by decide) (by decide) (by decide) (by decide)).trans h.nt
 nm:=(hs 7 (by decide) (by decide) (by decide) (by decide) (by decide)).trans h.nm
 nl:=h.nl
 p:=(hs 8 (by decide) (by decide) (by decide) (by decide) (by decide)).trans h.p
 ct:=(hs 12 (by decide) (by decide) (by decide) (by decide) (by decide)).trans h.ct
 al:=(hs 13 (by decide) (by decide) (by decide) (by decide) (by decide)).trans h.al
 pr:=(hs 14 (by decide) (by decide) (by decide) (by decide) (by decide)).trans h.pr
 wr:=(hs 15 (by decide) (by decide) (by decide) (by decide) (by decide)).trans h.wr
 tb:=fun j hj=>(hs (16+j) (by omega) (by omega) (by omega) (by omega) (by omega)).trans (h.tb j hj)
theorem PcO.pcR {oa:Option Addr} {P:List Pce} (h:PcO w oa P):PcR w oa (P.map (fun p=>(⟨p.k,p.T⟩:Pc))):=fun hp=>by
 rw[List.length_map]at hp
 obtain⟨nb,no,h1,h2,h3⟩:=h.at_ hp
 refine⟨nb,no,h1,h2,fun i x hx=>?_⟩
 rw[List.getElem?_map]at hx
 cases hpi:P[i]? with
 |none=>rw[hpi]at hx;cases hx
 |some p=>
  rw[hpi]at hx
  cases hx
  obtain⟨e1,e2,_⟩:=h3 i p hpi
  exact⟨e1,_,_,e2⟩
theorem zC0.pcR {g:Nat} {P:List Pce} (h:zC0 w base g P.length P):PcR w (some ⟨g,0,none⟩) (P.map (fun p=>(⟨p.k,p.T⟩:Pc))):=fun hp=>by
 refine⟨g,0,rfl,h.lt,fun i x hx=>?_⟩
 rw[List.getElem?_map]at hx
 cases hpi:P[i]? with
 |none=>rw[hpi]at hx;cases hx
 |some p=>
  rw[hpi]at hx
  cases hx
  obtain⟨_,q,⟨e1,e2⟩,_⟩:=h.at_ i p hpi
  rw[Nat.zero_add]
  exact⟨e1,_,_,e2⟩
theorem BtM.txIn {oa:Option Addr} {T:List Nat} (h:BtM w oa T):zD2 w oa T:=fun hp=>by
 obtain⟨g,o,h1,_,h3⟩:=h hp
 exact⟨g,o,h1,fun j hj=>h3 j _ (by rw[zQ0,zQ8 hj];rfl)⟩
theorem zBq.bys {g:Nat} {T:List Nat} (h:zBq w base g T.length T):Bys w base (.slice (some ⟨g,0,none⟩) T.length (T.length+64)) T:=by
 refine⟨_,_,rfl,by rw[zBZ,Nat.mul_one],.inr ?_⟩
 rcases h.2.2 with ⟨h3,_⟩|⟨g',cap,cur,h3,hb,hg,hnc,hcm,hcs,ht⟩
 ·cases h3
 ·simp only[Value.slice.injEq,Option.some.injEq,Addr.mk.injEq,and_true,true_and]at h3
  obtain⟨rfl,rfl⟩:=h3
  refine⟨g,T.length+64,cur,rfl,hb,hg,by omega,hcm,hcs,?_⟩
  rw[show T.length*1=min (T.length*1) ((T.length+64)*1)by omega,←List.take_take,ht,show u8s (T++zCk T.length)=u8s T++u8s (zCk T.length)by simp[u8s],List.take_left' (by rw[zBZ,Nat.mul_one])]
theorem NdW.kb {oa:Option Addr} {cap:Nat} {re:List Nd} (h:NdW w oa cap re): ∀x∈re,x.kids≤9223372036854775807:=fun x hx=>(h.wf x hx).2.2.2.2.2
theorem CxM.shV (h:CxM w c) {z:Cz} (ha:z.a=⟨c.ka,c.na,c.ra⟩) (hb:z.b=⟨c.kb,c.nb,c.rb⟩) (ht:z.tx=c.T) (hr:z.re=c.R) (hf:z.fi=c.P.map (fun p=>⟨p.k,p.T⟩)) (hp:ShP c.l z) (z1:c.ra.length≤4294967296) (z2:c.rb.length≤4294967296) (z3:c.R.length≤4294967296):ShV w c.l z where
 cl:=h.i.ci.cl
 a0:=by rw[ha];exact h.i.ci.a0
 a1:=by rw[ha];exact h.i.ci.a1
 a2:=by rw[ha];exact⟨_,_,h.i.ci.a2,h.wa.toV z1⟩
 b0:=by rw[hb];exact h.i.ci.b0
 b1:=by rw[hb];exact h.i.ci.b1
 b2:=by rw[hb];exact⟨_,_,h.i.ci.b2,h.wb.toV z2⟩
 ka:=by rw[ha];exact h.i.ci.ba
 kb:=by rw[hb];exact h.i.ci.bb
 oa:=by rw[ha];exact h.wa.op
 ob:=by rw[hb];exact h.wb.op
 nt:=hp.nt
 nm:=hp.nm
 nl:=hp.nl
 p:=hp.p
 tx:=by rw[ht];exact⟨_,_,h.i.e9⟩
 re:=by rw[hr];exact⟨_,_,h.i.e10,h.wr.toV z3⟩
 ore:=by rw[hr];exact h.wr.op
 fi:=by rw[hf];exact⟨_,_,by rw[List.length_map];exact h.i.e11,h.i.p.pcR⟩
 fl:=by rw[hf,List.length_map];have:=h.i.p.z;omega
 ct:=hp.ct
 al:=hp.al
 pr:=hp.pr
 wr:=hp.wr
 tb:=hp.tb
theorem zEn.shV (hw:zEn w base c L ga gb gt gr gp) (h:CxM w' c) {z:Cz} (ha:z.a=⟨c.ka,c.na,c.ra⟩) (hb:z.b=⟨c.kb,c.nb,c.rb⟩) (ht:z.tx=c.T) (hr:z.re=c.R) (hf:z.fi=c.P.map (fun p=>⟨p.k,p.T⟩)) (hp:ShP c.l z) (z1:c.ra.length≤4294967296) (z2:c.rb.length≤4294967296) (z3:c.R.length≤4294967296):ShV w L z:=
 have hp2:=hp.same hw.same
 {cl:=hw.cl
  a0:=by rw[ha];exact(hw.same 0 (by decide) (by decide) (by decide) (by decide) (by decide)).trans h.i.ci.a0
  a1:=by rw[ha];exact(hw.same 1 (by decide) (by decide) (by decide) (by decide) (by decide)).trans h.i.ci.a1
  a2:=by rw[ha];exact⟨_,_,hw.e2,hw.a.2.preV (by rw[zRB];simp[zCP]) z1 h.wa.kb⟩
  b0:=by rw[hb];exact(hw.same 3 (by decide) (by decide) (by decide) (by decide) (by decide)).trans h.i.ci.b0
  b1:=by rw[hb];exact(hw.same 4 (by decide) (by decide) (by decide) (by decide) (by decide)).trans h.i.ci.b1
  b2:=by rw[hb];exact⟨_,_,hw.e5,hw.b.2.preV (by rw[zRB];simp[zCP]) z2 h.wb.kb⟩
  ka:=by rw[ha];exact h.i.ci.ba
  kb:=by rw[hb];exact h.i.ci.bb
  oa:=by rw[ha];exact h.wa.op
  ob:=by rw[hb];exact h.wb.op
  nt:=hp2.nt
  nm:=hp2.nm
  nl:=hp2.nl
  p:=hp2.p
  tx:=by rw[ht];exact⟨_,_,hw.e9⟩
  re:=by rw[hr];exact⟨_,_,hw.e10,hw.r.2.preV (by rw[zRB];simp[zCP]) z3 h.wr.kb⟩
  ore:=by rw[hr];exact h.wr.op
  fi:=by rw[hf];exact⟨_,_,by rw[List.length_map];exact hw.e11,hw.p.pcR⟩
  fl:=by rw[hf,List.length_map];have:=h.i.p.z;omega
  ct:=hp2.ct
  al:=hp2.al
  pr:=hp2.pr
  wr:=hp2.wr
  tb:=hp2.tb }
end
end
section
open Go.RowKit
theorem zGu (n:Int) {w:World} :Calls Tryz.prog 18 #[.int .i64 n] w fun e w'=>e= .returned (.bool (decide (2147483647<n)))∧w=w':=by
 go_enter Tryz.func18,Tryz.ntmps18
 go_wp2_with fail
 go_ret
 exact⟨rfl,rfl⟩
section
variable {w:World} {c:Cx} {base:Nat} {L:List Value} {ga gb gt gr gp:Nat}
theorem zId (h:zNJ w c):
  Calls Tryz.prog 11 #[.agg c.l.toArray] w fun e w'=>(∃b,e= .returned (.bool b)∧(b=false→c.T.length+c.R.length+c.ra.length+c.rb.length+c.P.length≤2147483647))∧Below w.heap.size w w':=by
 have hb1:=(zQs w.heap.size w).alloc (zQt _) (.cells c.l.toArray 36)
 have HC:=zQr (zCV.new h.ci.cl w)
 have HI:=zQr (h.below hb1)
 have HI0:=zQr h
 have HB:=zQr hb1
 obtain⟨S,hS⟩: ∃S:Nat,c.T.length+c.R.length+c.ra.length+c.rb.length+c.P.length=S:=⟨_,rfl⟩
 have HS:=zQr hS
 have y1:(c.T.length:Int)≤140737488355328:=by have:=h.tz;omega
 have y2:(c.R.length:Int)≤1954687338269:=by have:=h.rz;omega
 have y3:(c.ra.length:Int)≤1954687338269:=by have:=h.ci.za;omega
 have y4:(c.rb.length:Int)≤1954687338269:=by have:=h.ci.zb;omega
 have y5:(c.P.length:Int)≤4398046511104:=by have:=h.p.z;omega
 have HY:=zQr (show S≤1000000000000000 by omega)
 clear h hb1 hS
 go_enter Tryz.func11,Tryz.ntmps11
 go_upto_region 1 with fail
 obtain⟨b,hb⟩: ∃b,w.heap.size=b:=⟨_,rfl⟩
 have HBQ:=zQr hb
 obtain⟨W,hW⟩: ∃W,w.alloc (.cells c.l.toArray 36)=W:=⟨_,rfl⟩
 rw[hW]at HC HI HB ⊢
 rw[hb]at HC ⊢
 clear hW hb
 have k9:=(HC.out.cell 9).trans HI0.out.e9
 have k10:=(HC.out.cell 10).trans HI0.out.e10
 have k2:=(HC.out.cell 2).trans HI0.out.ci.a2
 have k5:=(HC.out.cell 5).trans HI0.out.ci.b2
 have k11:=(HC.out.cell 11).trans HI0.out.e11
 have kl:=HC.out.lt
 go_wp2_with fail
 clear k9 k10 k2 k5 k11 kl
 go_loopg [3,4] c.P.length (fun n sv iv wr=> ∃d s:Nat,sv= .int .i64 (s:Nat)∧iv= .int .i64 (d:Nat)∧n=c.P.length - d∧d≤c.P.length∧S≤s∧s≤1000000000000000∧Below W.heap.size W wr)
 case atStart=>exact⟨0,S,congrArg (Value.int .i64) (by have:=HS.out;omega),rfl,rfl,Nat.zero_le _,zQt _,HY.out,zQs _ _⟩
 case round=>
 obtain⟨d,s,rfl,rfl,hg,hd,hs1,hs2,hbe⟩:=hrel
 have HG:=zQr hg
 have HS1:=zQr hs1
 have HS2:=zQr hs2
 have HBE:=zQr hbe
 have HC1:=zQr (HC.out.below hbe)
 have HBT:=zQr (HB.out.trans (hbe.mono HB.out.size))
 have k11:wr.cell? ⟨b,11,none⟩=some (.slice c.op c.P.length c.cp):=(HC1.out.cell 11).trans HI0.out.e11
 have kl:=HC1.out.lt
 clear hg hs1 hs2
 by_cases hlt:d<c.P.length
 case neg=>
  have hlt': ¬(d:Int)<(c.P.length:Int):=by omega
  clear hbe
  go_wp2_with fail
  refine(zGu _).mono ?_;rintro e wz ⟨rfl,rfl⟩
  go_wp2_with fail
  go_ret
  exact⟨⟨_,rfl,fun e=>by rw[decide_eq_false_iff_not]at e;have:=HS.out;have:=HS1.out;omega⟩,HBT.out⟩
 have hlt':(d:Int)<(c.P.length:Int):=by omega
 by_cases hsm:s≤2147483647
 case neg=>
  have hsm': ¬(s:Int)≤2147483647:=by omega
  clear hbe
  go_wp2_with fail
  refine(zGu _).mono ?_;rintro e wz ⟨rfl,rfl⟩
  go_wp2_with fail
  go_ret
  exact⟨⟨_,rfl,fun e=>by first|(cases e;done)|(rw[decide_eq_false_iff_not]at e;omega)⟩,HBT.out⟩
 have hsm':(s:Int)≤2147483647:=by omega
 obtain⟨nb,no,hoa,nal,hna⟩:=((HI.out.below hbe).p).at_ (by omega)
 obtain⟨p,hp⟩: ∃p,c.P[d]?=some p:=⟨_,zQ8 hlt⟩
 obtain⟨_,e2,_,e4⟩:=hna d p hp
 have e4':(p.T.length:Int)≤140737488355328:=by omega
 rw[hoa]at k11
 clear hbe hna hp hoa
 have HPL:=zQr e4
 clear e4
 go_wp2_with fail
 go_roundg (c.P.length - (d+1))
 case measure=>have:=HG.out;omega
 case rel=>exact⟨d+1,s+p.T.length,congrArg (Value.int .i64) (by omega),congrArg (Value.int .i64) (by omega),rfl,by omega,by have:=HS1.out;omega,by have:=HPL.out;omega,HBE.out⟩
theorem zEn.said (hw:zEn w base c L ga gb gt gr gp) {z:Cz} (hp:ShP c.l z) (ht:z.tx=c.T) (tl: ∀b∈c.T,b<256) (U:U8V w):Calls Tryz.prog 42 #[.agg L.toArray] w fun e w'=>e= .returned (.bool (zDu z.nm z.wr z.tx))∧Below w.heap.size w w':=by
 rw[ht]
 exact zPj (hp.same hw.same).nm hw.e9 (hp.same hw.same).wr hw.t.bys tl U
theorem CxM.text (h:CxM w c) {z:Cz} (hp:ShP c.l z) (ht:z.tx=c.T):Calls Tryz.prog 48 #[.agg c.l.toArray] w fun e w'=>e= .returned (.bool (zDu z.nm z.wr z.tx))∧Below w.heap.size w w':=by
 rw[ht]
 exact zPe hp.nm h.i.e9 hp.wr h.i.t.txIn (by have:=h.i.tz;unfold maxLen;omega) h.i.tl
end
section
variable {w:World} {c:Cx} {x y:Addr}
theorem zHw (h:CxM w c) (G:Gl w x y) (hx:x.block<w.heap.size) (hy:y.block<w.heap.size) (h4:4<w.heap.size):
  Calls Tryz.prog 4 #[.agg c.l.toArray] w fun e w'=>e= .returned (.bool true)∧Below w.heap.size w w':=by
 have hb1:=(zQs w.heap.size w).alloc (zQt _) (.cells c.l.toArray 36)
 obtain⟨z,za,zb,zt,zr,zf,zp⟩:=h.cz
 have HC:=zQr (CmB.new h.i.ci.cl w)
 have HM:=zQr (h.below hb1)
 have HM0:=zQr h
 have HB:=zQr hb1
 have HG:=zQr G
 have HXB:=zQr hx
 have HYB:=zQr hy
 have H4:=zQr h4
 have ZA:=zQr za
 have ZB:=zQr zb
 have ZT:=zQr zt
 have ZR:=zQr zr
 have ZF:=zQr zf
 have ZP:=zQr zp
 have HCI:Hid ((Tryz.prog.info? 36).map (·.size)=some c.l.toArray.size):=zQr (by rw[zCe,List.size_toArray,h.i.ci.cl.len])
 clear h hb1 G hx hy h4 za zb zt zr zf zp
 go_enter Tryz.func4,Tryz.ntmps4
 go_upto_region 1 with fail
 obtain⟨b,hb⟩: ∃b,w.heap.size=b:=⟨_,rfl⟩
 have HBQ:=zQr hb
 obtain⟨W,hW⟩: ∃W,w.alloc (.cells c.l.toArray 36)=W:=⟨_,rfl⟩
 rw[hW]at HC HM HB ⊢
 rw[hb]at HC ⊢
 clear hW hb
 have k10:=(HC.out.cell 10).trans HM0.out.i.e10
 have kl:=HC.out.lt
 have HX:=zQr (zEK HM.out.wr HM.out.zr)
 go_wp2_with fail
 refine HX.out.mono ?_;rintro e w1 ⟨⟨b1,rfl⟩,hb⟩
 have HC1:=zQr (HC.out.below hb)
 have HM1:=zQr (HM.out.below hb)
 have HB1:=zQr (HB.out.trans (hb.mono HB.out.size))
 clear hb k10 kl HX HC HM HB
 cases b1 with
 |true=>
  go_wp2_with fail
  go_ret
  exact⟨rfl,HB1.out⟩
 |false=>
 have k2:=(HC1.out.cell 2).trans HM0.out.i.ci.a2
 have kl:=HC1.out.lt
 have HX:=zQr (zEK HM1.out.wa HM1.out.za)
 go_wp2_with fail
 refine HX.out.mono ?_;rintro e w2 ⟨⟨b2,rfl⟩,hb⟩
 have HC2:=zQr (HC1.out.below hb)
 have HM2:=zQr (HM1.out.below hb)
 have HB2:=zQr (HB1.out.trans (hb.mono HB1.out.size))
 clear hb k2 kl HX HC1 HM1 HB1
 cases b2 with
 |true=>
  go_wp2_with fail
  go_ret
  exact⟨rfl,HB2.out⟩
 |false=>
 have k5:=(HC2.out.cell 5).trans HM0.out.i.ci.b2
 have kl:=HC2.out.lt
 have HX:=zQr (zEK HM2.out.wb HM2.out.zb)
 go_wp2_with fail
 refine HX.out.mono ?_;rintro e w3 ⟨⟨b3,rfl⟩,hb⟩
 have HC3:=zQr (HC2.out.below hb)
 have HM3:=zQr (HM2.out.below hb)
 have HB3:=zQr (HB2.out.trans (hb.mono HB2.out.size))
 clear hb k5 kl HX HC2 HM2 HB2
 cases b3 with
 |true=>
  go_wp2_with fail
  go_ret
  exact⟨rfl,HB3.out⟩
 |false=>
 have HX:=zQr (zId HM3.out.i)
 go_wp2_with (refine zAS rfl 36 _ rfl b rfl 36 c.l.toArray (0,0) _ HC3.out.heap Tryz.underlying36 rfl HCI.out ?_)
 refine HX.out.mono ?_;rintro e w4 ⟨⟨bl,rfl,hbl⟩,hb⟩
 have HC4:=zQr (HC3.out.below hb)
 have HM4:=zQr (HM3.out.below hb)
 have HB4:=zQr (HB3.out.trans (hb.mono HB3.out.size))
 clear hb HX HC3 HM3 HB3
 cases bl with
 |true=>
  clear hbl
  go_wp2_with fail
  go_ret
  exact⟨rfl,HB4.out⟩
 |false=>
 have HSZ:=zQr (hbl rfl)
 clear hbl
 have HX:=zQr (zLL (HG.out.bel HB4.out HXB.out HYB.out H4.out) (zQu HXB.out HB4.out.size) (zQu HYB.out HB4.out.size) (zQu H4.out HB4.out.size))
 go_wp2_with fail
 refine HX.out.mono ?_;rintro e w5 ⟨rfl,hb⟩
 have HC5:=zQr (HC4.out.below hb)
 have HM5:=zQr (HM4.out.below hb)
 have HB5:=zQr (HB4.out.trans (hb.mono HB4.out.size))
 clear hb HX HC4 HM4 HB4
 have HX:=zQr (zNO HM5.out.i)
 go_wp2_with (refine zAS rfl 36 _ rfl b rfl 36 c.l.toArray (0,0) _ HC5.out.heap Tryz.underlying36 rfl HCI.out ?_)
 refine HX.out.mono ?_;rintro e w6 ⟨⟨L,ga,gb,gt,gr,gp,rfl,hw⟩,hb⟩
 have HC6:=zQr (HC5.out.below hb)
 have HM6:=zQr (HM5.out.below hb)
 have HB6:=zQr (HB5.out.trans (hb.mono HB5.out.size))
 have HW6:=zQr hw
 have HLI:Hid ((Tryz.prog.info? 36).map (·.size)=some L.toArray.size):=zQr (by rw[zCe,List.size_toArray,hw.cl.len])
 have HLO:=zQr (show Tryz.zeroCells36.size=L.toArray.size by rw[←Array.length_toList,zFg,List.size_toArray,hw.cl.len])
 have HL1:=zQr (show L.toArray.all (·.oneCell')=true by rw[←Array.all_toList,List.all_eq_true];exact hw.cl.one)
 have HHN:=zQr (zQ4 w6 (.cells Tryz.zeroCells36 36))
 clear hb hw HX HC5 HM5 HB5
 go_upto_region 5 with (refine wpList_store_row rfl 36 _ _ rfl w6.heap.size L.toArray rfl rfl _ _ HHN.out HLI.out HLO.out HL1.out ?_)
 obtain⟨w7,hW⟩: ∃W,(w6.alloc (.cells Tryz.zeroCells36 36)).setRow w6.heap.size L.toArray=W:=⟨_,rfl⟩
 have HL7:Hid (CmB w7 w6.heap.size L):=zQr ⟨by rw[←hW];exact setRow_heap _ _ _ _ _ _ HHN.out,HW6.out.cl⟩
 have hb:Below w6.heap.size w6 w7:=by rw[←hW];exact below_setRow ((zQs _ _).alloc (zQt _) _) (zQt _) _
 have HC7:=zQr (HC6.out.below hb)
 have HM7:=zQr (HM6.out.below hb)
 have HB7:=zQr (HB6.out.trans (hb.mono HB6.out.size))
 have HW7:=zQr (HW6.out.below hb)
 rw[hW]
 clear hW hb HHN HLO HL1 HC6 HM6 HB6 HW6
 obtain⟨qb,hqb⟩: ∃k,w6.heap.size=k:=⟨_,rfl⟩
 rw[hqb]at HL7 ⊢
 clear hqb
 have HXS:=zNj (HW7.out.shV HM7.out ZA.out ZB.out ZT.out ZR.out ZF.out ZP.out (by have:=HSZ.out;omega) (by have:=HSZ.out;omega) (by have:=HSZ.out;omega)) (fun V hv=>(HW7.out.below hv).said ZP.out ZT.out HM7.out.i.tl (HG.out.bel (HB7.out.trans (hv.mono HB7.out.size)) HXB.out HYB.out H4.out).u8)
 obtain⟨ok,hok⟩: ∃k,z.ok=k:=⟨_,rfl⟩
 rw[hok]at HXS
 have HOK:=zQr hok
 have HX:=zQr HXS
 clear HXS hok
 go_wp2_with (refine zAS rfl 36 _ rfl qb rfl 36 L.toArray (0,0) _ HL7.out.heap Tryz.underlying36 rfl HLI.out ?_)
 refine HX.out.mono ?_;rintro e w8 ⟨rfl,hb⟩
 have HC8:=zQr (HC7.out.below hb)
 have HM8:=zQr (HM7.out.below hb)
 have HB8:=zQr (HB7.out.trans (hb.mono HB7.out.size))
 have HW8:=zQr (HW7.out.below hb)
 have HL8:=zQr (HL7.out.below hb)
 clear hb HX HC7 HM7 HB7 HW7 HL7
 have HXS:=zNg (HM8.out.shV ZA.out ZB.out ZT.out ZR.out ZF.out ZP.out (by have:=HSZ.out;omega) (by have:=HSZ.out;omega) (by have:=HSZ.out;omega)) (fun V hv=>(HM8.out.below hv).text ZP.out ZT.out)
 rw[HOK.out]at HXS
 have HX:=zQr HXS
 have r0:(ok !=ok)=false:=by simp
 clear HXS
 go_wp2_with (refine zAS rfl 36 _ rfl b rfl 36 c.l.toArray (0,0) _ HC8.out.heap Tryz.underlying36 rfl HCI.out ?_)
 refine HX.out.mono ?_;rintro e w9 ⟨rfl,hb⟩
 have HC9:=zQr (HC8.out.below hb)
 have HM9:=zQr (HM8.out.below hb)
 have HB9:=zQr (HB8.out.trans (hb.mono HB8.out.size))
 have HW9:=zQr (HW8.out.below hb)
 have HL9:=zQr (HL8.out.below hb)
 clear hb HX HC8 HM8 HB8 HW8 HL8
 have HX:=zQr (zPv HW9.out HM9.out.i)
 go_wp2_with (first|refine zAS rfl 36 _ rfl b rfl 36 c.l.toArray (0,0) _ HC9.out.heap Tryz.underlying36 rfl HCI.out ?_|refine zAS rfl 36 _ rfl qb rfl 36 L.toArray (0,0) _ HL9.out.heap Tryz.underlying36 rfl HLI.out ?_)
 refine HX.out.mono ?_;rintro e w10 ⟨rfl,hb⟩
 have HM10:=zQr (HM9.out.below hb)
 have HB10:=zQr (HB9.out.trans (hb.mono HB9.out.size))
 have HW10:=zQr (HW9.out.below hb)
 have HL10:=zQr (HL9.out.below hb)
 clear hb HX HC9 HM9 HB9 HW9 HL9
 have HX:=zQr (zL0 HW10.out HM10.out.i)
 go_wp2_with (refine zAS rfl 36 _ rfl qb rfl 36 L.toArray (0,0) _ HL10.out.heap Tryz.underlying36 rfl HLI.out ?_)
 refine HX.out.mono ?_;rintro e w11 ⟨rfl,hb⟩
 have HB11:=zQr (HB10.out.trans (hb.mono HB10.out.size))
 clear hb HX HM10 HB10 HW10 HL10
 go_wp2_with fail
 go_loopg [6] 256 (fun gk kv wr=> ∃k:Nat,kv= .int .i64 (k:Nat)∧gk=256 - k∧k≤256∧Below w.heap.size w wr)
 case atStart=>exact⟨0,rfl,rfl,by omega,HB11.out⟩
 case round=>
 obtain⟨k,rfl,hg,hk,hbr⟩:=hrel
 have HGK:=zQr hg
 have HBR:=zQr hbr
 clear hg hbr
 by_cases hlt:k<256
 case neg=>
  obtain rfl:k=256:=by omega
  go_wp2_with fail
  go_ret
  exact⟨rfl,HBR.out⟩
 have hlt':(k:Int)<256:=by omega
 have HP1:=zQr (fun v=>zF7 (w:=v) hlt)
 have HP2:=zQr (fun v=>zGj (w:=v) (b:=k))
 obtain⟨m,hm⟩: ∃m,zFT (zCd k)=m:=⟨_,rfl⟩
 rw[hm]at HP1 HP2
 have r1:(m !=m)=false:=by simp
 clear hm hlt
 go_wp2_with fail
 refine(HP1.out _).mono ?_;rintro e wp ⟨rfl,rfl⟩
 go_wp2_with fail
 refine(HP2.out _).mono ?_;rintro e wp ⟨rfl,rfl⟩
 go_wp2_with fail
 go_roundg (256 - (k+1))
 case measure=>have:=HGK.out;omega
 case rel=>exact⟨k+1,congrArg (Value.int .i64) (by omega),rfl,by omega,HBR.out⟩
end
end
end Go.Proofs.YtmaagpbjahjmhaaGreatDoor
