/- Parts: Gx Gyp Gy. -/
import Derived.Test.YtfjbnpdffillbaaGreatDoorQ40
import Derived.Test.YtfjbnpdffillbaaGreatDoorQ38
import Derived.Test.YtfjbnpdffillbaaGreatDoorQ15
import Derived.Test.YtfjbnpdffillbaaGreatDoorQ37
import Derived.Deep.Grids
namespace Go.Proofs.YtfjbnpdffillbaaGreatDoor
open Go.ChangeShapes Go.WideShapes Go.RowKit Go.Deep
theorem seg_at {cs l:List Value} {off k:Nat} (h:(cs.drop off).take k=l) {j:Nat} (hj:j<k):cs[off+j]?=l[j]?:=by
 rw[←h,List.getElem?_take,if_pos hj,List.getElem?_drop]
theorem list_three {α:Type} {l:List α} (h:l.length=3): ∃a b c,l=[a,b,c]:=by
 match l,h with
 |[a,b,c],_=>exact⟨a,b,c,rfl⟩
theorem seg_one {cs:List Value} {off:Nat} {v:Value} (h:(cs.drop off).take 1=[v]):cs[off]?=some v:=by
 have:=seg_at h (j:=0) (by decide)
 simpa using this
section
variable {H:Type} {enc:TypeId × Value→H} {w:World} {spare:Nat→Bool} {held:Bool}
theorem open_addr {n:Nat} {cs:List Value} {x:DataW H × List MemPlace} (h:DataW.trod enc Tryz.prog w 0 spare held n 54 cs=some x) (hz:Sz 54 x.1):
  ∃(k m:Int) (oa:Option Addr) (re:List Nd) (ca:Nat),cs=[.int .i8 k,.int .i64 m,.slice oa re.length ca]∧NdW w oa ca re∧re.length*72≤140737488351232∧ -128≤k∧k≤127:=by
 obtain⟨xs,n',_,hx,hl,hxl,hf⟩:=DataW.trod_struct Tryz.underlying54 h
 have hl2:cs.length=3:=hl.trans (by kernel_rfl)
 obtain⟨c0,c1,c2,rfl⟩:=list_three hl2
 obtain⟨x0,x1,x2,rfl⟩:=list_three hxl
 have h0:=fld hf (i:=0) (ty:=51) (off:=0) (k:=1) rfl rfl rfl (by kernel_rfl)
 have h1:=fld hf (i:=1) (ty:=3) (off:=1) (k:=1) rfl rfl rfl (by kernel_rfl)
 have h2:=fld hf (i:=2) (ty:=52) (off:=2) (k:=1) rfl rfl rfl (by kernel_rfl)
 simp only[List.drop_zero,List.take_succ_cons,List.take_zero,List.drop_succ_cons,List.getElem?_cons_zero,List.getElem?_cons_succ]at h0 h1 h2
 obtain⟨k,e0,_,w0⟩:=DataW.trod_int Tryz.underlying51 h0
 obtain⟨m,e1,_,_⟩:=DataW.trod_int Tryz.underlying3 h1
 obtain⟨oa,len,ca,e2⟩:=slice_cells Tryz.underlying52 h2
 simp only[List.cons.injEq,and_true]at e0 e1 e2
 subst e0 e1 e2
 obtain⟨re,hl,hm,_⟩:=read_nodes (d:=x2.1) (p:=x2.2) Tryz.underlying52 ⟨n',h2⟩ rfl
 subst hl
 have hx1:x.1= .agg [x0.1,x1.1,x2.1]:=congrArg Prod.fst hx
 rw[hx1]at hz
 have:=open_len Tryz.underlying52 h2 (Sz.fld Tryz.underlying54 hz (i:=2) rfl rfl)
 rw[show Tryz.prog.bytesOf 78=72 by kernel_rfl]at this
 exact⟨k,m,oa,re,ca,rfl,hm,this,bounds_i8 w0⟩
theorem NdW.srcZ {oa:Option Addr} {cap:Nat} {re:List Nd} (h:NdW w oa cap re):Src w (.slice oa re.length cap) re.length (ndsC re):=by
 cases oa with
 |none=>
  obtain⟨rfl,rfl⟩:=h.no rfl
  exact .inl ⟨rfl,rfl,rfl⟩
 |some a=>
  refine .inr ⟨a,cap,rfl,fun j u hu=>?_⟩
  have hj:j<(ndsC re).length:=(List.getElem?_eq_some_iff.1 hu).1
  rw[ndsC_length]at hj
  obtain⟨nb,no,h1,_,h3⟩:=h.at_ (by omega)
  injection h1 with h1
  subst h1
  have hc:=ndsC_at re (j / 9) (j % 9) (by omega) (Nat.mod_lt _ (by decide))
  rw[show j / 9*9+j % 9=j by omega,hu]at hc
  rw[add_none,show no+j=no+j / 9*9+j % 9 by omega,h3 (j / 9) (by omega) (j % 9) (Nat.mod_lt _ (by decide)),←hc]
theorem open_cmd {n:Nat} {cs:List Value} {x:DataW H × List MemPlace} (h:DataW.trod enc Tryz.prog w 0 spare held n 91 cs=some x) (hz:Sz 91 x.1):
  ∃(ka na:Int) (oa:Option Addr) (ra:List Nd) (ca:Nat) (kb nb:Int) (ob:Option Addr) (rb:List Nd) (cb:Nat) (nt:Bool),CmdIn w cs ka na oa ra ca kb nb ob rb cb nt∧NdW w oa ca ra∧NdW w ob cb rb∧ra.length*72≤140737488351232∧rb.length*72≤140737488351232:=by
 obtain⟨xs,n',_,hx,hl,hxl,hf⟩:=DataW.trod_struct Tryz.underlying91 h
 have hl2:cs.length=272:=hl.trans (by kernel_rfl)
 have hx1:x.1= .agg (xs.map (·.1)):=congrArg Prod.fst hx
 rw[hx1]at hz
 have hxs: ∀i,i<13→ ∃y,xs[i]?=some y:=fun i hi=>⟨_,List.getElem?_eq_getElem (by rw[hxl];exact hi)⟩
 have hzf: ∀ {i:Nat} {ty:TypeId} {y:DataW H × List MemPlace},xs[i]?=some y→(#[54,54,4,5,3,22,52,87,3,4,4,4,89]:Array TypeId).toList[i]?=some ty→Sz ty y.1:=fun hy hi=>Sz.fld Tryz.underlying91 hz hi (by rw[List.getElem?_map,hy];rfl)
 obtain⟨y0,q0⟩:=hxs 0 (by decide)
 obtain⟨y1,q1⟩:=hxs 1 (by decide)
 obtain⟨y2,q2⟩:=hxs 2 (by decide)
 obtain⟨y3,q3⟩:=hxs 3 (by decide)
 obtain⟨y4,q4⟩:=hxs 4 (by decide)
 obtain⟨y5,q5⟩:=hxs 5 (by decide)
 obtain⟨y6,q6⟩:=hxs 6 (by decide)
 obtain⟨y7,q7⟩:=hxs 7 (by decide)
 obtain⟨y8,q8⟩:=hxs 8 (by decide)
 obtain⟨y9,q9⟩:=hxs 9 (by decide)
 obtain⟨y10,q10⟩:=hxs 10 (by decide)
 obtain⟨y11,q11⟩:=hxs 11 (by decide)
 obtain⟨y12,q12⟩:=hxs 12 (by decide)
 have h0:=(fld hf (i:=0) (ty:=54) (off:=0) (k:=3) rfl rfl rfl (by kernel_rfl)).trans q0
 have h1:=(fld hf (i:=1) (ty:=54) (off:=3) (k:=3) rfl rfl rfl (by kernel_rfl)).trans q1
 have h2:=(fld hf (i:=2) (ty:=4) (off:=6) (k:=1) rfl rfl rfl (by kernel_rfl)).trans q2
 have h3:=(fld hf (i:=3) (ty:=5) (off:=7) (k:=1) rfl rfl rfl (by kernel_rfl)).trans q3
 have h4:=(fld hf (i:=4) (ty:=3) (off:=8) (k:=1) rfl rfl rfl (by kernel_rfl)).trans q4
 have h5:=(fld hf (i:=5) (ty:=22) (off:=9) (k:=1) rfl rfl rfl (by kernel_rfl)).trans q5
 have h6:=(fld hf (i:=6) (ty:=52) (off:=10) (k:=1) rfl rfl rfl (by kernel_rfl)).trans q6
 have h7:=(fld hf (i:=7) (ty:=87) (off:=11) (k:=1) rfl rfl rfl (by kernel_rfl)).trans q7
 have h8:=(fld hf (i:=8) (ty:=3) (off:=12) (k:=1) rfl rfl rfl (by kernel_rfl)).trans q8
 have h9:=(fld hf (i:=9) (ty:=4) (off:=13) (k:=1) rfl rfl rfl (by kernel_rfl)).trans q9
 have h10:=(fld hf (i:=10) (ty:=4) (off:=14) (k:=1) rfl rfl rfl (by kernel_rfl)).trans q10
 have h11:=(fld hf (i:=11) (ty:=4) (off:=15) (k:=1) rfl rfl rfl (by kernel_rfl)).trans q11
 have h12:=(fld hf (i:=12) (ty:=89) (off:=16) (k:=256) rfl rfl rfl (by kernel_rfl)).trans q12
 obtain⟨ka,na,oa,ra,ca,e0,wa,za,ba⟩:=open_addr h0 (hzf q0 rfl)
 obtain⟨kb,nb,ob,rb,cb,e1,wb,zb,bb⟩:=open_addr h1 (hzf q1 rfl)
 obtain⟨nt,e2,_⟩:=DataW.trod_bool Tryz.underlying4 h2
 obtain⟨v3,e3,_,_⟩:=DataW.trod_int Tryz.underlying5 h3
 obtain⟨v4,e4,_,_⟩:=DataW.trod_int Tryz.underlying3 h4
 obtain⟨o5,n5,c5,e5,t5⟩:=open_bytes Tryz.underlying22 h5 (hzf q5 rfl)
 obtain⟨o6,n6,c6,e6⟩:=slice_cells Tryz.underlying52 h6
 rw[e6]at h6
 have z6:=open_len Tryz.underlying52 h6 (hzf q6 rfl)
 rw[show Tryz.prog.bytesOf 78=72 by kernel_rfl]at z6
 obtain⟨re,rl,wr,_⟩:=read_nodes (d:=y6.1) (p:=y6.2) Tryz.underlying52 ⟨n',h6⟩ rfl
 subst rl
 obtain⟨o7,n7,c7,e7,t7⟩:=open_pieces Tryz.underlying87 h7 (hzf q7 rfl)
 obtain⟨v8,e8,_,_⟩:=DataW.trod_int Tryz.underlying3 h8
 obtain⟨v9,e9,_⟩:=DataW.trod_bool Tryz.underlying4 h9
 obtain⟨v10,e10,_⟩:=DataW.trod_bool Tryz.underlying4 h10
 obtain⟨v11,e11,_⟩:=DataW.trod_bool Tryz.underlying4 h11
 have hr:(reachBytes:Nat)≤140737488355328:=by decide
 have f0:cs[0]?=some (.int .i8 ka):=seg_at e0 (j:=0) (by decide)
 have f1:cs[1]?=some (.int .i64 na):=seg_at e0 (j:=1) (by decide)
 have f2:cs[2]?=some (.slice oa ra.length ca):=seg_at e0 (j:=2) (by decide)
 have f3:cs[3]?=some (.int .i8 kb):=seg_at e1 (j:=0) (by decide)
 have f4:cs[4]?=some (.int .i64 nb):=seg_at e1 (j:=1) (by decide)
 have f5:cs[5]?=some (.slice ob rb.length cb):=seg_at e1 (j:=2) (by decide)
 have f6:cs[6]?=some (.bool nt):=seg_one e2
 have f7:cs[7]?=some (.int .u8 v3):=seg_one e3
 have f8:cs[8]?=some (.int .i64 v4):=seg_one e4
 have f9:cs[9]?=some (.slice o5 n5 c5):=seg_one e5
 have f10:cs[10]?=some (.slice o6 re.length c6):=seg_one e6
 have f11:cs[11]?=some (.slice o7 n7 c7):=seg_one e7
 have f12:cs[12]?=some (.int .i64 v8):=seg_one e8
 have f13:cs[13]?=some (.bool v9):=seg_one e9
 have f14:cs[14]?=some (.bool v10):=seg_one e10
 have f15:cs[15]?=some (.bool v11):=seg_one e11
 have htab: ∀i,i<256→ ∃v,cs[16+i]?=some (.int .u8 v):=by
  intro i hi
  obtain⟨ys,m,_,_,_,hyl,hg⟩:=DataW.trod_array Tryz.underlying89 h12
  obtain⟨y,hy⟩: ∃y,ys[i]?=some y:=⟨_,List.getElem?_eq_getElem (by rw[hyl];exact hi)⟩
  have h:=(afld hg (c:=1) (by kernel_rfl) (i:=i) hi).trans hy
  obtain⟨z,ez,_,_⟩:=DataW.trod_int Tryz.underlying5 h
  have e1:=seg_one ez
  rw[Nat.mul_one]at e1
  have e2:=seg_at (cs:=cs) (off:=16) (k:=256) rfl (j:=i) hi
  exact⟨z,e2.trans e1⟩
 have hone: ∀v∈cs,v.oneCell'=true:=by
  intro v hv
  obtain⟨j,hv⟩:=List.mem_iff_getElem?.1 hv
  by_cases hj:16≤j
  ·have hjl:j<272:=by rw[←hl2];exact(List.getElem?_eq_some_iff.1 hv).1
   obtain⟨i,rfl⟩: ∃i,j=16+i:=⟨j - 16,by omega⟩
   obtain⟨z,ez⟩:=htab i (by omega)
   rw[hv]at ez
   injection ez with ez
   rw[ez]
   rfl
  ·obtain rfl|rfl|rfl|rfl|rfl|rfl|rfl|rfl|rfl|rfl|rfl|rfl|rfl|rfl|rfl|rfl:j=0∨j=1∨j=2∨j=3∨j=4∨j=5∨j=6∨j=7∨j=8∨j=9∨j=10∨j=11∨j=12∨j=13∨j=14∨j=15:=by omega
   all_goals (simp only[f0,f1,f2,f3,f4,f5,f6,f7,f8,f9,f10,f11,f12,f13,f14,f15,Option.some.injEq]at hv;subst hv;rfl)
 exact⟨ka,na,oa,ra,ca,kb,nb,ob,rb,cb,nt,⟨⟨hl2,hone⟩,f0,f1,f2,f3,f4,f5,f6,wa.srcZ,by omega,wb.srcZ,by omega,⟨o5,n5,c5,f9,t5⟩,⟨o6,re,c6,f10,wr.srcZ,by omega⟩,⟨o7,n7,c7,f11,t7⟩,⟨⟨_,f7⟩,⟨_,f8⟩,⟨_,f12⟩,⟨_,f13⟩,⟨_,f14⟩,⟨_,f15⟩,htab⟩,ba,bb⟩,wa,wb,za,zb⟩
structure Aq where
 I:Int
 l:List Value
 ka:Int
 na:Int
 oa:Option Addr
 ra:List Nd
 ca:Nat
 kb:Int
 nb:Int
 ob:Option Addr
 rb:List Nd
 cb:Nat
 nt:Bool
 line:Int
 last:Bool
 ro:Option Addr
 RL:List Bool
 rc:Nat
def Aq.cells (q:Aq):List Value:= .int .i64 q.I::(q.l++[.int .i64 q.line,.bool q.last,.slice q.ro q.RL.length q.rc])
structure AqIn (w:World) (q:Aq):Prop where
 c:CmdIn w q.l q.ka q.na q.oa q.ra q.ca q.kb q.nb q.ob q.rb q.cb q.nt
 wa:NdW w q.oa q.ca q.ra
 wb:NdW w q.ob q.cb q.rb
 za:q.ra.length*72≤140737488351232
 zb:q.rb.length*72≤140737488351232
 row:0<q.RL.length→ ∃g o,q.ro=some ⟨g,o,none⟩∧g<w.heap.size∧w.cell? ⟨g,o,none⟩=some (.bool (q.RL.getD 0 false))
structure AsksW (w:World) (oa:Option Addr) (n:Nat):Prop where
 z:n≤140737488355328
 at_:0<n→ ∃nb no,oa=some ⟨nb,no,none⟩∧nb<w.heap.size∧ ∀i,i<n→ ∃q:Aq,w.rangeAt nb (no+i*276) q.cells∧AqIn w q
theorem AqIn.below {w':World} {q:Aq} (h:AqIn w q) (hb:Below w.heap.size w w'):AqIn w' q:=
 ⟨h.c.below hb,h.wa.below hb,h.wb.below hb,h.za,h.zb,fun hp=>by
  obtain⟨g,o,e1,e2,e3⟩:=h.row hp
  exact⟨g,o,e1,Nat.lt_of_lt_of_le e2 hb.size,(hb.cell (p:=⟨g,o,none⟩) e2).trans e3⟩⟩
theorem AsksW.below {w':World} {oa:Option Addr} {n:Nat} (h:AsksW w oa n) (hb:Below w.heap.size w w'):AsksW w' oa n:=⟨h.z,fun hp=>by
 obtain⟨nb,no,e1,e2,e3⟩:=h.at_ hp
 refine⟨nb,no,e1,Nat.lt_of_lt_of_le e2 hb.size,fun i hi=>?_⟩
 obtain⟨q,f1,f2⟩:=e3 i hi
 exact⟨q,fun j v hv=>(hb.cell (p:=⟨nb,no+i*276+j,none⟩) e2).trans (f1 j v hv),f2.below hb⟩⟩
theorem cut_at (cs:List Value) (a k:Nat):cs.drop a=(cs.drop a).take k++cs.drop (a+k):=by rw[←List.drop_drop,List.take_append_drop]
theorem open_row {n:Nat} {cs:List Value} {x:DataW H × List MemPlace} (h:DataW.trod enc Tryz.prog w 0 spare held n 92 cs=some x):
  ∃(ro:Option Addr) (RL:List Bool) (rc:Nat),cs=[.slice ro RL.length rc]∧(0<RL.length→ ∃g o,ro=some ⟨g,o,none⟩∧g<w.heap.size∧w.cell? ⟨g,o,none⟩=some (.bool (RL.getD 0 false))):=by
 rcases open_slice Tryz.underlying92 h with ⟨h0,_⟩|⟨a,len,cap,m,n',D,Pl,hcs,hb,hl,hmx,hmm,rfl,hi⟩
 ·exact⟨none,[],0,h0,fun hp=>absurd hp (by simp)⟩
 ·by_cases h0:len=0
  ·subst h0
   exact⟨some a,[],cap,hcs,fun hp=>absurd hp (by simp)⟩
  ·have hlm:0<m:=by rw[hmm];split<;>omega
   rw[show Tryz.prog.cellsOf 4=1 by kernel_rfl]at hi
   obtain⟨cs',hc,ht'⟩:=hi 0 hlm
   obtain⟨_,hl2,hat⟩:=World.cells?_some hc
   obtain⟨b,e0,_⟩:=DataW.trod_bool Tryz.underlying4 ht'
   subst e0
   have k0:=hat 0 (by decide)
   rw[add_add]at k0
   obtain⟨g,off,spot⟩:=a
   have hspot:spot=none:=by simpa [Addr.add]using World.cell?_spot k0
   subst hspot
   rw[add_none]at k0
   refine⟨_,b::List.replicate (len - 1) false,cap,by rw[hcs];simp;omega,fun _=>⟨g,off,rfl,World.block_lt_of_cell? w _ (show w.cell? ⟨g,off,none⟩=some (.bool b)from k0),k0⟩⟩
theorem open_ask {n:Nat} {cs:List Value} {x:DataW H × List MemPlace} (h:DataW.trod enc Tryz.prog w 0 spare held n 94 cs=some x) (hz:Sz 94 x.1): ∃q:Aq,cs=q.cells∧AqIn w q:=by
 obtain⟨xs,n',_,hx,hl,hxl,hf⟩:=DataW.trod_struct Tryz.underlying94 h
 have hl2:cs.length=276:=hl.trans (by kernel_rfl)
 have hx1:x.1= .agg (xs.map (·.1)):=congrArg Prod.fst hx
 rw[hx1]at hz
 have hxs: ∀i,i<5→ ∃y,xs[i]?=some y:=fun i hi=>⟨_,List.getElem?_eq_getElem (by rw[hxl];exact hi)⟩
 obtain⟨y0,q0⟩:=hxs 0 (by decide)
 obtain⟨y1,q1⟩:=hxs 1 (by decide)
 obtain⟨y2,q2⟩:=hxs 2 (by decide)
 obtain⟨y3,q3⟩:=hxs 3 (by decide)
 obtain⟨y4,q4⟩:=hxs 4 (by decide)
 have h0:=(fld hf (i:=0) (ty:=3) (off:=0) (k:=1) rfl rfl rfl (by kernel_rfl)).trans q0
 have h1:=(fld hf (i:=1) (ty:=91) (off:=1) (k:=272) rfl rfl rfl (by kernel_rfl)).trans q1
 have h2:=(fld hf (i:=2) (ty:=3) (off:=273) (k:=1) rfl rfl rfl (by kernel_rfl)).trans q2
 have h3:=(fld hf (i:=3) (ty:=4) (off:=274) (k:=1) rfl rfl rfl (by kernel_rfl)).trans q3
 have h4:=(fld hf (i:=4) (ty:=92) (off:=275) (k:=1) rfl rfl rfl (by kernel_rfl)).trans q4
 obtain⟨I,e0,_,_⟩:=DataW.trod_int Tryz.underlying3 h0
 obtain⟨line,e2,_,_⟩:=DataW.trod_int Tryz.underlying3 h2
 obtain⟨last,e3,_⟩:=DataW.trod_bool Tryz.underlying4 h3
 obtain⟨ro,RL,rc,e4,hrow⟩:=open_row h4
 obtain⟨ka,na,oa,ra,ca,kb,nb,ob,rb,cb,nt,hc,wa,wb,za,zb⟩:=open_cmd h1 (Sz.fld Tryz.underlying94 hz (i:=1) (d:=y1.1) rfl (by rw[List.getElem?_map,q1];rfl))
 have hcs:cs= .int .i64 I::((cs.drop 1).take 272++[.int .i64 line,.bool last,.slice ro RL.length rc]):=by
  have k0:=cut_at cs 0 1
  have k1:=cut_at cs 1 272
  have k2:=cut_at cs 273 1
  have k3:=cut_at cs 274 1
  have k4:=cut_at cs 275 1
  rw[e0]at k0
  rw[e2]at k2
  rw[e3]at k3
  rw[e4,List.drop_eq_nil_of_le (show cs.length≤275+1 by omega)]at k4
  simp only[List.drop_zero,Nat.zero_add]at k0
  have k5:cs.drop 273=[.int .i64 line,.bool last,.slice ro RL.length rc]:=by rw[k2,show 273+1=274 from rfl,k3,show 274+1=275 from rfl,k4];rfl
  rw[show 1+272=273 from rfl,k5]at k1
  rw[k1]at k0
  exact k0
 exact⟨⟨I,(cs.drop 1).take 272,ka,na,oa,ra,ca,kb,nb,ob,rb,cb,nt,line,last,ro,RL,rc⟩,hcs,⟨hc,wa,wb,za,zb,hrow⟩⟩
theorem read_asks {t:TypeId} {v:Value} {d:DataW H} {p:List MemPlace} (ht:Tryz.prog.underlying t=some (.slice 94)) {o:Option Addr} {len cap:Nat} (hv:v= .slice o len cap) (h:DataW.Trod enc Tryz.prog w 0 spare held t v d p) (hz:Sz t d):AsksW w o len:=by
 subst hv
 obtain⟨fuel,h⟩:=h
 replace h:DataW.trod enc Tryz.prog w 0 spare held fuel t [.slice o len cap]=some (d,p):=h
 have hlen:=open_len ht h hz
 have hby:1≤Tryz.prog.bytesOf 94:=by decide+kernel
 have hlen2:len≤140737488355328:=Nat.le_trans (Nat.le_trans (Nat.le_mul_of_pos_right len hby) hlen) (by decide)
 refine⟨hlen2,fun hp=>?_⟩
 rcases open_slice ht h with ⟨h0,_⟩|⟨a,len2,cap2,m,n',D,Pl,hcs,hb,hl,hmx,hmm,hxx,hi⟩
 ·simp only[List.cons.injEq,and_true,Value.slice.injEq]at h0
  omega
 ·simp only[List.cons.injEq,and_true,Value.slice.injEq]at hcs
  obtain⟨rfl,rfl,rfl⟩:=hcs
  have hlm:len≤m:=by rw[hmm];split<;>omega
  have hd:d= .slice ((List.range len).map D) ((List.range (m - len)).map fun j=>D (len+j)):=congrArg Prod.fst hxx
  rw[hd]at hz
  have hel:=(Sz.slice ht hz).2
  rw[show Tryz.prog.cellsOf 94=276 by kernel_rfl]at hi
  have hall: ∀i,i<len→ ∃q:Aq,(∀j v,q.cells[j]?=some v→w.cell? (a.add (i*276+j))=some v)∧AqIn w q:=fun i hil=>by
   obtain⟨cs',hc,ht'⟩:=hi i (by omega)
   obtain⟨_,hl2,hat⟩:=World.cells?_some hc
   obtain⟨q,rfl,hq⟩:=open_ask ht' (hel (D i) (List.mem_map.2 ⟨i,List.mem_range.2 hil,rfl⟩))
   refine⟨q,fun j v hj=>?_,hq⟩
   have:=hat j (by rw[←hl2];exact(List.getElem?_eq_some_iff.1 hj).1)
   rw[add_add]at this
   rw[this,hj]
  obtain⟨b,off,spot⟩:=a
  obtain⟨q,hq,_⟩:=hall 0 hp
  have k0:=hq 0 _ rfl
  have hspot:spot=none:=by simpa [Addr.add]using World.cell?_spot k0
  subst hspot
  refine⟨b,off,rfl,cell_lt k0,fun i hil=>?_⟩
  obtain⟨q,e1,e2⟩:=hall i hil
  refine⟨q,fun j v hj=>?_,e2⟩
  have:=e1 j v hj
  rw[add_none]at this
  rw[Nat.add_assoc]
  exact this
end
end Go.Proofs.YtfjbnpdffillbaaGreatDoor
namespace Go.Proofs.YtfjbnpdffillbaaGreatDoor
open Go.RowKit
structure TwoG (base:Nat) (w:World) (gb bb hb cb:Nat) (op op2:Nat→Bool):Prop where
 g:GtS w gb bb 4 op
 h:GtS w hb cb 4 op2
 l1:base≤gb
 l2:base≤bb
 l3:base≤hb
 l4:base≤cb
 n1:bb≠hb
 n2:bb≠cb
 n3:gb≠cb
theorem TwoG.below {base:Nat} {w w':World} {gb bb hb cb:Nat} {op op2:Nat→Bool} (h:TwoG base w gb bb hb cb op op2) (b:Below w.heap.size w w'):TwoG base w' gb bb hb cb op op2:=
 ⟨h.g.below b,h.h.below b,h.l1,h.l2,h.l3,h.l4,h.n1,h.n2,h.n3⟩
theorem takesS_not (ka na kb nb:Int) (nt:Bool) (line:Int) (last opened hit:Bool):takesS ka na kb nb (!nt) line last opened hit=(!(takesS ka na kb nb nt line last opened hit).1,(takesS ka na kb nb nt line last opened hit).2):=by
 unfold takesS
 simp only[]
 split
 ·cases nt<;>rfl
 ·split
  ·cases nt<;>cases selS ka na line last hit<;>rfl
  ·split
   ·cases nt<;>rfl
   ·split
    ·cases nt<;>rfl
    ·cases nt<;>rfl
theorem Aq.len {w:World} {q:Aq} (h:AqIn w q):q.cells.length=276:=by simp[Aq.cells,h.c.cl.len]
theorem Aq.one {w:World} {q:Aq} (h:AqIn w q): ∀v∈q.cells,v.oneCell'=true:=by
 intro v hv
 simp only[Aq.cells,List.mem_cons,List.mem_append,List.not_mem_nil,or_false]at hv
 rcases hv with rfl|hv|rfl|rfl|rfl
 ·rfl
 ·exact h.c.cl.one v hv
 all_goals rfl
theorem ask_info:(Tryz.prog.info? 94).map (·.size)=some 276:=by kernel_rfl
theorem ask_size:Tryz.zeroCells94.size=276:=by kernel_rfl
structure QB (w:World) (b:Nat) (q:Aq):Prop where
 heap:w.heap[b]?=some (.cells q.cells.toArray 94 (0,0))
 c0:w.cell? ⟨b,0,none⟩=some (.int .i64 q.I)
 c3:w.cell? ⟨b,3,none⟩=some (.slice q.oa q.ra.length q.ca)
 c6:w.cell? ⟨b,6,none⟩=some (.slice q.ob q.rb.length q.cb)
 c273:w.cell? ⟨b,273,none⟩=some (.int .i64 q.line)
 c274:w.cell? ⟨b,274,none⟩=some (.bool q.last)
 c275:w.cell? ⟨b,275,none⟩=some (.slice q.ro q.RL.length q.rc)
 cmd:w.rangeAt b 1 q.l
theorem QB.of {w v:World} {b:Nat} {q:Aq} (h:AqIn v q) (hb:w.heap[b]?=some (.cells q.cells.toArray 94 (0,0))):QB w b q:=by
 have hl:=h.c.cl.len
 have hc: ∀j,w.cell? ⟨b,j,none⟩=q.cells[j]?:=fun j=>(cell_of_row _ _ j _ _ (0,0) hb).trans (by simp)
 have h1: ∀j,j<272→q.cells[j+1]?=q.l[j]?:=fun j hj=>by
  unfold Aq.cells
  rw[List.getElem?_cons_succ,List.getElem?_append_left (by omega)]
 have h2: ∀j,q.cells[j+273]?=([.int .i64 q.line,.bool q.last,.slice q.ro q.RL.length q.rc]:List Value)[j]?:=fun j=>by
  unfold Aq.cells
  rw[show j+273=(j+272)+1 by omega,List.getElem?_cons_succ,List.getElem?_append_right (by omega),hl,show j+272 - 272=j by omega]
 exact⟨hb,(hc 0).trans rfl,(hc 3).trans ((h1 2 (by decide)).trans h.c.a2),(hc 6).trans ((h1 5 (by decide)).trans h.c.b2),(hc 273).trans (h2 0),(hc 274).trans (h2 1),(hc 275).trans (h2 2),fun j v hj=>by
  have hj2:j<272:=by rw[←hl];exact(List.getElem?_eq_some_iff.1 hj).1
  rw[Nat.add_comm 1 j,hc,h1 j hj2,hj]⟩
theorem QB.block {w w':World} {b:Nat} {q:Aq} (h:QB w b q) (hb:w'.heap[b]?=w.heap[b]?):QB w' b q:=
 have hc: ∀j,w'.cell? ⟨b,j,none⟩=w.cell? ⟨b,j,none⟩:=fun j=>World.cell?_of_block (w:=w) (a:=⟨b,j,none⟩) hb
 ⟨hb.trans h.heap,(hc _).trans h.c0,(hc _).trans h.c3,(hc _).trans h.c6,(hc _).trans h.c273,(hc _).trans h.c274,(hc _).trans h.c275,fun j v hj=>(hc (1+j)).trans (h.cmd j v hj)⟩
theorem QB.lt {w:World} {b:Nat} {q:Aq} (h:QB w b q):b<w.heap.size:=(Array.getElem?_eq_some_iff.1 h.heap).1
theorem QB.below {w w':World} {b:Nat} {q:Aq} (h:QB w b q) (hb:Below w.heap.size w w'):QB w' b q:=h.block (hb.block b h.lt)
theorem TlS.new {ro:Option Addr} {RL:List Bool} (w:World) (rc:Nat) (h:0<RL.length→ ∃g o,ro=some ⟨g,o,none⟩∧g<w.heap.size∧w.cell? ⟨g,o,none⟩=some (.bool (RL.getD 0 false))) (lo:Nat):
  TlS (w.alloc (.cells #[.slice ro RL.length rc,.slice none 0 0] 99)) w.heap.size ro rc RL∧AskS (w.alloc (.cells #[.slice ro RL.length rc,.slice none 0 0] 99)) w.heap.size lo none:=
 have hB:(w.alloc (.cells #[.slice ro RL.length rc,.slice none 0 0] 99)).heap[w.heap.size]?=some (.cells #[.slice ro RL.length rc,.slice none 0 0] 99 (0,0)):=heap_alloc_new w _
 ⟨⟨by simp,(cell_of_row _ _ 0 _ _ (0,0) hB).trans rfl,fun o=>frozen_cls hB o,fun hp=>by
  obtain⟨g,o,e1,e2,e3⟩:=h hp
  exact⟨g,o,e1,by omega,by simp;omega,lt_cell e3 _⟩⟩,(cell_of_row _ _ 1 _ _ (0,0) hB).trans rfl⟩
theorem AskS.cell1 {w:World} {tb lo:Nat} {A:Option Ad} (h:AskS w tb lo A): ∃(so:Option Addr) (sn sc:Nat),w.cell? ⟨tb,1,none⟩=some (.slice so sn sc)∧sn≤1:=by
 cases A with
 |none=>exact⟨none,0,0,h,by omega⟩
 |some a=>
  obtain⟨ab,cp,oo,oc,h1,_⟩:=h
  exact⟨_,1,cp,h1,by omega⟩
theorem asked_size {ka na:Int} {ra:List Nd} {kb nb:Int} {rb:List Nd} {o:Bool} (za:ra.length*72≤140737488355328) (zb:rb.length*72≤140737488355328): ∀x,askedA ka na ra kb nb rb o=some x→x.re.length*72≤140737488355328:=by
 intro x hx
 have h: ∀(k m:Int) (re:List Nd),re.length*72≤140737488355328→askA k m re=some x→x.re.length*72≤140737488355328:=fun k m re hz h=>by
  unfold askA at h
  split at h
  ·injection h with h;rw[←h];exact hz
  ·cases h
 unfold askedA at hx
 split at hx
 ·cases hx
 ·split at hx
  ·exact h _ _ _ za hx
  ·split at hx
   ·exact h _ _ _ zb hx
   ·exact h _ _ _ za hx
theorem RBut.toBelow2 {base rb eb:Nat} {w v v':World} (hb:Below base w v) (h:RBut rb (some eb) v v') (h1:base≤rb) (h2:base≤eb) (hv:base≤v.heap.size):Below base w v' where
 os:=h.os.trans hb.os
 tape:=h.tape.trans hb.tape
 output:=h.output.trans hb.output
 size:=Nat.le_trans hb.size h.size
 block:=fun k hk=>(h.block k (by omega) (by omega) (by simp;omega)).trans (hb.block k hk)
theorem quiet_load_mid {P:Program} {o:Oper} {a:Act} {W:World} {K:Act→Prop} (ty:TypeId) (x:Operand) (ho:o.op= .load ty x) (b off:Nat) (hx:a.eval x= .pointer (some ⟨b,off,none⟩)) (cs:List Value) (d:TypeDesc) (hc:W.rangeAt b off cs) (hb:b<W.heap.size)
  (hu:P.underlying ty=some d) (hd:d.isRow=true) (hi:(P.info? ty).map (·.size)=some cs.length) (hk:K (a.put o.dst (.agg cs.toArray))):o.quiet P a (fun w'=> ∃g,w'=wgr none W g) K:=by
 refine⟨_,fun w hw=>?_,hk⟩
 obtain⟨g,rfl⟩:=hw
 have hr:(wgr none W g).rangeAt b off cs:=fun j v hv=>((keeps_wgr (X:=none) W g).cell ⟨b,off+j,none⟩ hb (by simp)).trans (hc j v hv)
 unfold Oper.quietAt execOp
 simp only[ho,hx,Instr.loadAt,Instr.sureAddr,Sem.run_bind,Sem.run_pure,Result.andThen_ok,run_loadVar_mid _ b off ty cs d hr hu hd hi]
 exact⟨rfl,rfl⟩
end Go.Proofs.YtfjbnpdffillbaaGreatDoor
namespace Go.Proofs.YtfjbnpdffillbaaGreatDoor
open Go.RowKit
section
variable {w:World} {oa:Option Addr} {n cap:Nat}
set_option maxRecDepth 100000 in
set_option maxHeartbeats 6400000 in
theorem not_all (hT:Tabs w) (hq:AsksW w oa n):
  Calls Tryz.prog 8 #[.slice oa n cap] w (fun e w'=>e= .returned (.bool true)∧Below w.heap.size w w'):=by
 have HT:=Lib.hid hT
 have HQ:=Lib.hid hq
 have hz:(n:Int)≤140737488355328:=by have:=hq.z;omega
 clear hT hq
 by_cases hlong:2147483647<n
 ·have hlong':(2147483647:Int)<(n:Int):=by omega
  go_enter Tryz.func8,Tryz.ntmps8
  go_wp2_with fail
  refine(long_call (n:Int)).mono ?_;rintro e w1 ⟨rfl,rfl⟩
  go_wp2_with fail
  go_ret
  exact⟨rfl,Below.refl _ _⟩
 have hlong': ¬(2147483647:Int)<(n:Int):=by omega
 clear hlong
 go_enter Tryz.func8,Tryz.ntmps8
 go_wp2_with fail
 refine(long_call (n:Int)).mono ?_;rintro e w1 ⟨rfl,rfl⟩
 go_wp2_with fail
 refine(gnew_call (w:=w) (n:=4) (by decide)).mono ?_;rintro e w1 ⟨gb,bb,rfl,l1,l2,hg,hb⟩
 have HG1:=Lib.hid hg
 have HB1:=Lib.hid hb
 have L1:=Lib.hid l1
 have L2:=Lib.hid l2
 clear hg hb l1 l2
 go_wp2_with fail
 refine(gnew_call (w:=w1) (n:=4) (by decide)).mono ?_;rintro e w2 ⟨hb',cb,rfl,l3,l4,hg,hb⟩
 have HTG:Hid (TwoG w.heap.size w2 gb bb hb' cb (fun _=>false) (fun _=>false)):=Lib.hid (by
  have h0:=HB1.out.size
  have h1:=HG1.out.lt
  have h2:=HG1.out.ltb
  exact⟨HG1.out.below hb,hg,L1.out,L2.out,by omega,by omega,by omega,by omega,by omega⟩)
 have HB2:=Lib.hid (HB1.out.trans (hb.mono HB1.out.size))
 clear hg hb l3 l4 HG1 HB1 L1 L2
 go_wp2_with fail
 go_loopg [7] n (fun g iv wr=> ∃(d:Nat) (op:Nat→Bool),iv= .int .i64 (d:Nat)∧g=n - d∧d≤n∧TwoG w.heap.size wr gb bb hb' cb op op∧Below w.heap.size w wr)
 case atStart=>exact⟨0,_,rfl,rfl,Nat.zero_le _,HTG.out,HB2.out⟩
 case round=>
  obtain⟨d,op,rfl,hg,hd,htg,hbe⟩:=hrel
  have HG:=Lib.hid hg
  have HBE:=Lib.hid hbe
  have HTW:=Lib.hid htg
  clear hg htg hbe
  by_cases hlt:d<n
  ·have hlt':(d:Int)<(n:Int):=by omega
   have HLT:=Lib.hid hlt
   obtain⟨nb,no,rfl,nl0,hc⟩:=HQ.out.at_ (by omega)
   obtain⟨q,hra0,hq0⟩:=hc d hlt
   have HQ0:=Lib.hid hq0
   have hq:=hq0.below HBE.out
   have hra:wr.rangeAt nb (no+d*276) q.cells:=fun j v hv=>(HBE.out.cell (p:=⟨nb,no+d*276+j,none⟩) nl0).trans (hra0 j v hv)
   have nl:nb<wr.heap.size:=Nat.lt_of_lt_of_le nl0 HBE.out.size
   clear hra0 hq0 nl0
   have HRA:=Lib.hid hra
   have HQI:=Lib.hid hq
   have HQZ:=Lib.hid (show(Tryz.prog.info? 94).map (·.size)=some q.cells.length by rw[ask_info,Aq.len hq])
   have HQZ2:=Lib.hid (show(Tryz.prog.info? 94).map (·.size)=some q.cells.toArray.size by rw[ask_info,List.size_toArray,Aq.len hq])
   have HQO:=Lib.hid (show Tryz.zeroCells94.size=q.cells.toArray.size by rw[ask_size,List.size_toArray,Aq.len hq])
   have HQ1:=Lib.hid (show q.cells.toArray.all (·.oneCell')=true by rw[←Array.all_toList,List.all_eq_true];exact Aq.one hq)
   have HHN:=Lib.hid (heap_alloc_new wr (.cells Tryz.zeroCells94 94))
   clear hc hra hq hlt
   go_upto_region 10 with fail
   go_upto_region 11 with (first|refine wpList_load_mid rfl 94 _ rfl nb (no+d*276) rfl q.cells _ HRA.out Tryz.underlying94 rfl HQZ.out ?_|refine wpList_store_row rfl 94 _ _ rfl wr.heap.size q.cells.toArray rfl rfl _ _ HHN.out HQZ2.out HQO.out HQ1.out ?_)
   obtain⟨W,hW⟩: ∃W,(wr.alloc (.cells Tryz.zeroCells94 94)).setRow wr.heap.size q.cells.toArray=W:=⟨_,rfl⟩
   have HQB:Hid (QB W wr.heap.size q):=Lib.hid (QB.of HQI.out (by rw[←hW];exact setRow_heap _ _ _ _ _ _ HHN.out))
   have hbw:Below wr.heap.size wr W:=by rw[←hW];exact below_setRow ((Below.refl _ _).alloc (Nat.le_refl _) _) (Nat.le_refl _) _
   have HB:=Lib.hid (HBE.out.trans (hbw.mono HBE.out.size))
   have HTG2:=Lib.hid (HTW.out.below hbw)
   have HQ2:=Lib.hid (HQI.out.below hbw)
   have HNB:=Lib.hid (show w.heap.size≤wr.heap.size∧gb<wr.heap.size∧bb<wr.heap.size∧hb'<wr.heap.size∧cb<wr.heap.size from⟨HBE.out.size,HTW.out.g.lt,HTW.out.g.ltb,HTW.out.h.lt,HTW.out.h.ltb⟩)
   rw[hW]
   clear hW hbw HHN HQZ HQZ2 HQO HQ1 HRA HQI HBE HTW HTG HB2 nl
   obtain⟨qb,hqb⟩: ∃b,wr.heap.size=b:=⟨_,rfl⟩
   rw[hqb]at HQB HNB ⊢
   clear hqb
   have k0:=HQB.out.c0
   have k3:=HQB.out.c3
   have k6:=HQB.out.c6
   have kq:=HQB.out.lt
   by_cases hI0:q.I<0
   ·go_wp2_with fail
    go_roundg (n - (d+1))
    case measure=>have:=HG.out;have:=HLT.out;omega
    case rel=>exact⟨d+1,op,by go_num,rfl,HLT.out,HTG2.out,HB.out⟩
   by_cases hI3:3<q.I
   ·have hI0':0≤q.I:=by omega
    clear hI0
    go_wp2_with fail
    go_roundg (n - (d+1))
    case measure=>have:=HG.out;have:=HLT.out;omega
    case rel=>exact⟨d+1,op,by go_num,rfl,HLT.out,HTG2.out,HB.out⟩
   have hI0':0≤q.I:=by omega
   have hI3':q.I≤3:=by omega
   clear hI0 hI3
   go_wp2_with fail
   refine(beyond_call HQ2.out.wa HQ2.out.za).mono ?_;rintro e w3 ⟨⟨b1,rfl⟩,hb3⟩
   have HQB3:=Lib.hid (HQB.out.below hb3)
   have HTG3:=Lib.hid (HTG2.out.below hb3)
   have HQ3:=Lib.hid (HQ2.out.below hb3)
   have HB3:=Lib.hid (HB.out.trans (hb3.mono HB.out.size))
   clear hb3 HQB HTG2 HQ2 HB k0 k3 k6 kq
   have k0:=HQB3.out.c0
   have k6:=HQB3.out.c6
   have kq:=HQB3.out.lt
   cases b1 with
   |true=>
    go_wp2_with fail
    go_roundg (n - (d+1))
    case measure=>have:=HG.out;have:=HLT.out;omega
    case rel=>exact⟨d+1,op,by go_num,rfl,HLT.out,HTG3.out,HB3.out⟩
   |false=>
   go_wp2_with fail
   refine(beyond_call HQ3.out.wb HQ3.out.zb).mono ?_;rintro e w4 ⟨⟨b2,rfl⟩,hb4⟩
   have HQB4:=Lib.hid (HQB3.out.below hb4)
   have HTG4:=Lib.hid (HTG3.out.below hb4)
   have HQ4:=Lib.hid (HQ3.out.below hb4)
   have HB4:=Lib.hid (HB3.out.trans (hb4.mono HB3.out.size))
   clear hb4 HQB3 HTG3 HQ3 HB3 k0 k6 kq
   cases b2 with
   |true=>
    go_wp2_with fail
    go_roundg (n - (d+1))
    case measure=>have:=HG.out;have:=HLT.out;omega
    case rel=>exact⟨d+1,op,by go_num,rfl,HLT.out,HTG4.out,HB4.out⟩
   |false=>
   have HCZ:=Lib.hid (show(Tryz.prog.info? 91).map (·.size)=some q.l.length by rw[cmd_info,HQ4.out.c.cl.len])
   go_wp2_with (refine wpList_load_mid rfl 91 _ rfl qb 1 rfl q.l _ HQB4.out.cmd Tryz.underlying91 rfl HCZ.out ?_)
   refine(copyCmd_call HQ4.out.c).mono ?_;rintro e w5 ⟨⟨L1,o1,c1,o2,c2,rfl,hl1,hv1,hna1,hnb1⟩,hb5⟩
   have HNA1:=Lib.hid (hna1.mono (Nat.le_of_lt HQB4.out.lt))
   have HNB1:=Lib.hid (hnb1.mono (Nat.le_of_lt HQB4.out.lt))
   have HV1:=Lib.hid hv1
   have HL1:=Lib.hid hl1
   have HQB5:=Lib.hid (HQB4.out.below hb5)
   have HTG5:=Lib.hid (HTG4.out.below hb5)
   have HQ5:=Lib.hid (HQ4.out.below hb5)
   have HB5:=Lib.hid (HB4.out.trans (hb5.mono HB4.out.size))
   have HHN:=Lib.hid (heap_alloc_new w5 (.cells Tryz.zeroCells91 91))
   have HSZ:=Lib.hid (CmdB.info hl1)
   have HSO:Hid (Tryz.zeroCells91.size=L1.toArray.size):=Lib.hid (by rw[←Array.length_toList,cmd_size,List.size_toArray,hl1.len])
   have HON:Hid (L1.toArray.all (·.oneCell')=true):=Lib.hid (by rw[←Array.all_toList,List.all_eq_true];simpa using hl1.one)
   clear hb5 hl1 hv1 hna1 hnb1 HQB4 HTG4 HQ4 HB4
   go_upto_region 13 with (refine wpList_store_row rfl 91 _ _ rfl w5.heap.size L1.toArray rfl rfl _ _ HHN.out HSZ.out HSO.out HON.out ?_)
   have hbw:Below w5.heap.size w5 ((w5.alloc (.cells Tryz.zeroCells91 91)).setRow w5.heap.size L1.toArray):=below_setRow ((Below.refl _ _).alloc (Nat.le_refl _) _) (Nat.le_refl _) _
   have hcb:CmdB ((w5.alloc (.cells Tryz.zeroCells91 91)).setRow w5.heap.size L1.toArray) w5.heap.size L1:=⟨setRow_heap _ _ _ _ _ _ HHN.out,HL1.out⟩
   obtain⟨W6,hW6⟩: ∃W,(w5.alloc (.cells Tryz.zeroCells91 91)).setRow w5.heap.size L1.toArray=W:=⟨_,rfl⟩
   rw[hW6]at hbw hcb ⊢
   obtain⟨cc,hcc⟩: ∃b,w5.heap.size=b:=⟨_,rfl⟩
   have HCC:=Lib.hid (show qb<cc by rw[←hcc];exact HQB5.out.lt)
   have HNA6:=Lib.hid (HNA1.out.below hbw)
   have HNB6:=Lib.hid (HNB1.out.below hbw)
   have HQB6:=Lib.hid (HQB5.out.below hbw)
   have HTG6:=Lib.hid (HTG5.out.below hbw)
   have HQ6:=Lib.hid (HQ5.out.below hbw)
   have HB6:=Lib.hid (HB5.out.trans (hbw.mono HB5.out.size))
   rw[hcc]at hcb ⊢
   have HCB6:=Lib.hid hcb
   clear hW6 hcc hcb hbw HHN HSZ HSO HON HQB5 HTG5 HQ5 HB5 HNA1 HNB1 HL1
   go_wp2_with (refine wpList_load_mid rfl 91 _ rfl qb 1 rfl q.l _ HQB6.out.cmd Tryz.underlying91 rfl HCZ.out ?_)
   refine(copyCmd_call HQ6.out.c).mono ?_;rintro e w7 ⟨⟨L2,p1,d1,p2,d2,rfl,hl2,hv2,hna2,hnb2⟩,hb7⟩
   have HNA7:=Lib.hid (HNA6.out.below hb7)
   have HNB7:=Lib.hid (HNB6.out.below hb7)
   have HMA1:=Lib.hid (hna2.mono (Nat.le_of_lt HQB6.out.lt))
   have HMB1:=Lib.hid (hnb2.mono (Nat.le_of_lt HQB6.out.lt))
   have HV2:=Lib.hid hv2
   have HL2:=Lib.hid hl2
   have HQB7:=Lib.hid (HQB6.out.below hb7)
   have HTG7:=Lib.hid (HTG6.out.below hb7)
   have HQ7:=Lib.hid (HQ6.out.below hb7)
   have HCB7:=Lib.hid (HCB6.out.below hb7)
   have HB7:=Lib.hid (HB6.out.trans (hb7.mono HB6.out.size))
   have HHN:=Lib.hid (heap_alloc_new w7 (.cells Tryz.zeroCells91 91))
   have HSZ:=Lib.hid (CmdB.info hl2)
   have HSO:Hid (Tryz.zeroCells91.size=L2.toArray.size):=Lib.hid (by rw[←Array.length_toList,cmd_size,List.size_toArray,hl2.len])
   have HON:Hid (L2.toArray.all (·.oneCell')=true):=Lib.hid (by rw[←Array.all_toList,List.all_eq_true];simpa using hl2.one)
   clear hb7 hl2 hv2 hna2 hnb2 HQB6 HTG6 HQ6 HB6 HNA6 HNB6 HCB6
   go_upto_region 14 with (refine wpList_store_row rfl 91 _ _ rfl w7.heap.size L2.toArray rfl rfl _ _ HHN.out HSZ.out HSO.out HON.out ?_)
   have hbw:Below w7.heap.size w7 ((w7.alloc (.cells Tryz.zeroCells91 91)).setRow w7.heap.size L2.toArray):=below_setRow ((Below.refl _ _).alloc (Nat.le_refl _) _) (Nat.le_refl _) _
   have hcb:CmdB ((w7.alloc (.cells Tryz.zeroCells91 91)).setRow w7.heap.size L2.toArray) w7.heap.size L2:=⟨setRow_heap _ _ _ _ _ _ HHN.out,HL2.out⟩
   obtain⟨W8,hW8⟩: ∃W,(w7.alloc (.cells Tryz.zeroCells91 91)).setRow w7.heap.size L2.toArray=W:=⟨_,rfl⟩
   rw[hW8]at hbw hcb ⊢
   obtain⟨cd,hcd⟩: ∃b,w7.heap.size=b:=⟨_,rfl⟩
   have HCD:=Lib.hid (show cc<cd by rw[←hcd];exact HCB7.out.lt)
   have HCB8:=Lib.hid (HCB7.out.below hbw)
   have HBW:=Lib.hid hbw
   rw[hcd]at hcb ⊢
   have HDB8:=Lib.hid hcb
   have HCDE:=Lib.hid hcd
   clear hW8 hcd hcb hbw HHN HSZ HSO HON HL2
   have e1:W8.cell? ⟨cc,6,none⟩=some (.bool q.nt):=(HCB8.out.cell 6).trans (by simpa using HV1.out.n)
   have e2:W8.cell? ⟨cd,6,none⟩=some (.bool q.nt):=(HDB8.out.cell 6).trans (by simpa using HV2.out.n)
   have e3:=HDB8.out.fz
   have e4:=HDB8.out.lt
   have e5:=HCB8.out.lt
   go_upto_region 15 with fail
   have hbw:Below w7.heap.size w7 (W8.setCell ⟨cd,6,none⟩ (.bool (!q.nt))):=HBW.out.setCell (Nat.le_of_eq HCDE.out) _
   have hdb:CmdB (W8.setCell ⟨cd,6,none⟩ (.bool (!q.nt))) cd (L2.set 6 (.bool (!q.nt))):=HDB8.out.set 6 rfl
   obtain⟨W9,hW9⟩: ∃W,W8.setCell ⟨cd,6,none⟩ (.bool (!q.nt))=W:=⟨_,rfl⟩
   rw[hW9]at hbw hdb ⊢
   have HV3:Hid (CmdV (L2.set 6 (.bool (!q.nt))).toArray q.ka q.na p1 q.ra.length d1 q.kb q.nb p2 q.rb.length d2 (!q.nt)):=Lib.hid (by
    have h:=HV2.out
    have hl:=HDB8.out.cl.len
    exact⟨by simpa using h.a0,by simpa using h.a1,by simpa using h.a2,by simpa using h.b0,by simpa using h.b1,by simpa using h.b2,by simp[hl]⟩)
   have HNA9:=Lib.hid (HNA7.out.below hbw)
   have HNB9:=Lib.hid (HNB7.out.below hbw)
   have HMA9:=Lib.hid (HMA1.out.below hbw)
   have HMB9:=Lib.hid (HMB1.out.below hbw)
   have HQB9:=Lib.hid (HQB7.out.below hbw)
   have HTG9:=Lib.hid (HTG7.out.below hbw)
   have HQ9:=Lib.hid (HQ7.out.below hbw)
   have HCB9:=Lib.hid (HCB7.out.below hbw)
   have HB9:=Lib.hid (HB7.out.trans (hbw.mono HB7.out.size))
   have HDB9:=Lib.hid hdb
   clear hW9 hbw hdb HBW e1 e2 e3 e4 e5 HV2 HCB8 HDB8 HNA7 HNB7 HMA1 HMB1 HQB7 HTG7 HQ7 HCB7 HB7 HCDE
   have k275:=HQB9.out.c275
   have kq:=HQB9.out.lt
   go_upto_region 17 with fail
   have hbw:Below W9.heap.size W9 ((W9.alloc (.cells #[.slice q.ro q.RL.length q.rc,.slice none 0 0] 99)).alloc (.cells #[.slice q.ro q.RL.length q.rc,.slice none 0 0] 99)):=((Below.refl _ _).alloc (Nat.le_refl _) _).alloc (by simp) _
   have hs1:=TlS.new W9 q.rc HQ9.out.row W9.heap.size
   have hs2:=TlS.new (W9.alloc (.cells #[.slice q.ro q.RL.length q.rc,.slice none 0 0] 99)) q.rc ((HQ9.out.below ((Below.refl _ _).alloc (Nat.le_refl _) (.cells #[.slice q.ro q.RL.length q.rc,.slice none 0 0] 99))).row) 0
   rw[show(W9.alloc (.cells #[.slice q.ro q.RL.length q.rc,.slice none 0 0] 99)).heap.size=W9.heap.size+1 by simp]at hs2
   have hs1':TlS ((W9.alloc (.cells #[.slice q.ro q.RL.length q.rc,.slice none 0 0] 99)).alloc (.cells #[.slice q.ro q.RL.length q.rc,.slice none 0 0] 99)) W9.heap.size q.ro q.rc q.RL∧AskS ((W9.alloc (.cells #[.slice q.ro q.RL.length q.rc,.slice none 0 0] 99)).alloc (.cells #[.slice q.ro q.RL.length q.rc,.slice none 0 0] 99)) W9.heap.size 0 none:=
    ⟨hs1.1.below ((Below.refl _ _).alloc (Nat.le_refl _) _),hs1.2.below hs1.1.lt ((Below.refl _ _).alloc (Nat.le_refl _) _)⟩
   obtain⟨V,hV⟩: ∃W,(W9.alloc (.cells #[.slice q.ro q.RL.length q.rc,.slice none 0 0] 99)).alloc (.cells #[.slice q.ro q.RL.length q.rc,.slice none 0 0] 99)=W:=⟨_,rfl⟩
   rw[hV]at hbw hs1' hs2 ⊢
   have HSS:=Lib.hid hs1'
   have HTT:=Lib.hid hs2
   have HNAv:=Lib.hid (HNA9.out.below hbw)
   have HNBv:=Lib.hid (HNB9.out.below hbw)
   have HMAv:=Lib.hid (HMA9.out.below hbw)
   have HMBv:=Lib.hid (HMB9.out.below hbw)
   have HQBv:=Lib.hid (HQB9.out.below hbw)
   have HTGv:=Lib.hid (HTG9.out.below hbw)
   have HCBv:=Lib.hid (HCB9.out.below hbw)
   have HDBv:=Lib.hid (HDB9.out.below hbw)
   have HBv:=Lib.hid (HB9.out.trans (hbw.mono HB9.out.size))
   have HCL:Hid (cd<W9.heap.size):=Lib.hid HDB9.out.lt
   have HM1:Hid (∀g,(Value.slice p1 q.ra.length d1).ownBlock=some g→qb≤g∧g<W9.heap.size):=Lib.hid HMA9.out.lt
   have HM2:Hid (∀g,(Value.slice p2 q.rb.length d2).ownBlock=some g→qb≤g∧g<W9.heap.size):=Lib.hid HMB9.out.lt
   have hsv:W9.heap.size+1<V.heap.size:=hs2.1.lt
   obtain⟨sb,hsb⟩: ∃b,W9.heap.size=b:=⟨_,rfl⟩
   rw[hsb]at HSS HTT HCL HM1 HM2 hsv ⊢
   have HSV:=Lib.hid hsv
   clear hV hs1 hs1' hs2 hbw hsb hsv HNA9 HNB9 HMA9 HMB9 HQB9 HTG9 HCB9 HDB9 HB9 HQ9 k275 kq
   obtain⟨ix,hix,hix4⟩: ∃i:Nat,q.I=(i:Nat)∧i<4:=⟨q.I.toNat,by omega,by omega⟩
   have HIX:=Lib.hid hix
   have HI4:=Lib.hid hix4
   have HR1:Hid (∀g o,q.ro=some ⟨g,o,none⟩→0<q.RL.length→g<w.heap.size):=Lib.hid (by
    intro g o e hp
    obtain⟨g',o',e1,e2,_⟩:=HQ0.out.row hp
    rw[e]at e1
    injection e1 with e1
    injection e1 with e1
    omega)
   obtain⟨hit,hhit⟩: ∃b,q.RL.getD 0 false=b:=⟨_,rfl⟩
   have HT1:=Lib.hid (takes_tell (w:=V) (i:=ix) HV1.out HTGv.out.g HI4.out HSS.out.1 (HSS.out.2.mono (Nat.zero_le _):AskS V sb 0 none) (by have:=HNB.out;have:=HCL.out;have:=HCD.out;have:=HCC.out;omega) (by have:=HNB.out;have:=HCL.out;have:=HCD.out;have:=HCC.out;omega) (fun g o e hp=>by have:=HR1.out g o e hp;have:=HTGv.out.l2;omega)
    HNAv.out.src (by have:=HQ0.out.za;omega) HNBv.out.src (by have:=HQ0.out.zb;omega) q.line q.last)
   obtain⟨r,hr⟩: ∃r,takesS q.ka q.na q.kb q.nb q.nt q.line q.last (op ix) (q.RL.getD 0 false)=r:=⟨_,rfl⟩
   have HRR:Hid (takesS q.ka q.na q.kb q.nb (!q.nt) q.line q.last (op ix) (q.RL.getD 0 false)=(!r.1,r.2)):=Lib.hid (by rw[takesS_not,hr])
   obtain⟨A,hA⟩: ∃A,askedA q.ka q.na q.ra q.kb q.nb q.rb (op ix)=A:=⟨_,rfl⟩
   have HAZ:Hid (∀x,A=some x→x.re.length*72≤140737488355328):=Lib.hid (by rw[←hA];exact asked_size (by have:=HQ0.out.za;omega) (by have:=HQ0.out.zb;omega))
   rw[hr,hA]at HT1
   obtain⟨r1,r2,r3⟩:=r
   have HAE:=Lib.hid hA
   clear hr hA hhit hix hix4
   have hmf: ∀(fn:Fn) (first cap:Array Value) (w:World),(Instr.makeFunc fn first cap).run Tryz.prog w= .ok (.func fn first cap) w:=fun _ _ _ _=>rfl
   have k0:V.cell? ⟨qb,0,none⟩=some (.int .i64 (ix:Nat)):=by rw[HQBv.out.c0,HIX.out]
   have k273:=HQBv.out.c273
   have k274:=HQBv.out.c274
   have kq:=HQBv.out.lt
   have HCZ1:=Lib.hid (CmdB.info HCBv.out.cl)
   go_wp2_with (refine wpList_load_row rfl 91 _ rfl cc rfl _ _ (0,0) _ HCBv.out.heap Tryz.underlying91 rfl HCZ1.out ?_)
   refine HT1.out.mono ?_;rintro e w12 ⟨rfl,hgt,hrb,htl,hak⟩
   have hN:=HNB.out
   have hCL:=HCL.out
   have hCD:=HCD.out
   have hCC:=HCC.out
   have hSV:=HSV.out
   have hG1:=HTGv.out.l1
   have hG2:=HTGv.out.l2
   have hG3:=HTGv.out.n1
   have hG4:=HTGv.out.n2
   have hG5:=HTGv.out.n3
   have hb1: ∀k,k<V.heap.size→k≠bb→k≠sb→w12.heap[k]?=V.heap[k]?:=fun k h1 h2 h3=>hrb.block k h1 h2 (by simpa using h3)
   have HGh:=Lib.hid (HTGv.out.h.block (hb1 hb' (by omega) (by omega) (by omega)) (hb1 cb (by omega) (by omega) (by omega)) hrb.size)
   have HQB12:=Lib.hid (HQBv.out.block (hb1 qb (by omega) (by omega) (by omega)))
   have HDB12:=Lib.hid (HDBv.out.block (hb1 cd (by omega) (by omega) (by omega)))
   have HTT12:Hid (TlS w12 (sb+1) q.ro q.rc q.RL):=Lib.hid (HTT.out.1.same (hb1 (sb+1) (by omega) (by omega) (by omega)) (fun g o e h1 h2 hp=>hb1 g h1 (by have:=HR1.out g o e hp;omega) (by have:=HR1.out g o e hp;omega)) hrb.size)
   have HTA12:Hid (AskS w12 (sb+1) w12.heap.size none):=Lib.hid ((World.cell?_of_block (w:=V) (a:=⟨sb+1,1,none⟩) (hb1 (sb+1) (by omega) (by omega) (by omega))).trans HTT.out.2)
   have HMA12:=Lib.hid (HMAv.out.block fun g hg=>by have h:=HM1.out g hg;exact hb1 g (by omega) (by omega) (by omega))
   have HMB12:=Lib.hid (HMBv.out.block fun g hg=>by have h:=HM2.out g hg;exact hb1 g (by omega) (by omega) (by omega))
   have HB12:=Lib.hid (RBut.toBelow2 HBv.out hrb (by omega) (by omega) (by omega))
   have HGg:=Lib.hid hgt
   have HSV12:=Lib.hid (show V.heap.size≤w12.heap.size from hrb.size)
   have HA12:=Lib.hid hak
   have HT2:=Lib.hid (takes_tell (w:=w12) (i:=ix) HV3.out HGh.out HI4.out HTT12.out HTA12.out (by omega) (by omega) (fun g o e hp=>by have:=HR1.out g o e hp;have:=HTGv.out.l4;omega)
    HMA12.out.src (by have:=HQ0.out.za;omega) HMB12.out.src (by have:=HQ0.out.zb;omega) q.line q.last)
   rw[HRR.out,HAE.out]at HT2
   have HCZ2:=Lib.hid (CmdB.info HDB12.out.cl)
   clear k0 k273 k274 kq hN hCL hCD hCC hSV hG1 hG2 hG3 hG4 hG5 hb1 hgt hrb htl hak HT1 HCZ1 HCBv HNAv HNBv HMAv HMBv HDBv HQBv HTT HSS HBv
   have k0:w12.cell? ⟨qb,0,none⟩=some (.int .i64 (ix:Nat)):=by rw[HQB12.out.c0,HIX.out]
   have k273:=HQB12.out.c273
   have k274:=HQB12.out.c274
   have kq:=HQB12.out.lt
   go_wp2_with (refine wpList_load_row rfl 91 _ rfl cd rfl _ _ (0,0) _ HDB12.out.heap Tryz.underlying91 rfl HCZ2.out ?_)
   refine HT2.out.mono ?_;rintro e w13 ⟨rfl,hgt,hrb,htl,hak⟩
   have hN:=HNB.out
   have hCL:=HCL.out
   have hCD:=HCD.out
   have hCC:=HCC.out
   have hSV:=HSV.out
   have hG2:=HTGv.out.l4
   have hG4:=HTGv.out.n2
   have hG5:=HTGv.out.n3
   have hS12:=HSV12.out
   have hb1: ∀k,k<w12.heap.size→k≠cb→k≠sb+1→w13.heap[k]?=w12.heap[k]?:=fun k h1 h2 h3=>hrb.block k h1 h2 (by simpa using h3)
   have HTG13:Hid (TwoG w.heap.size w13 gb bb hb' cb (fun j=>if j=ix then r3 else op j) (fun j=>if j=ix then r3 else op j)):=Lib.hid ⟨HGg.out.block (hb1 gb (by omega) (by omega) (by omega)) (hb1 bb (by omega) (by omega) (by omega)) hrb.size,hgt,HTGv.out.l1,HTGv.out.l2,HTGv.out.l3,HTGv.out.l4,HTGv.out.n1,HTGv.out.n2,HTGv.out.n3⟩
   have HQB13:=Lib.hid (HQB12.out.block (hb1 qb (by omega) (by omega) (by omega)))
   have HAS:Hid (AskS w13 sb V.heap.size A):=Lib.hid (HA12.out.same (hb1 sb (by omega) (by omega) (by omega)) (fun k h1 h2=>hb1 k h2 (by omega) (by omega)) hrb.size)
   have HAT:=Lib.hid hak
   have HB13:=Lib.hid (RBut.toBelow2 HB12.out hrb (by omega) (by omega) (by omega))
   have HSL:Hid (sb<w13.heap.size∧sb+1<w13.heap.size):=Lib.hid (by have:=hrb.size;omega)
   clear k0 k273 k274 kq hN hCL hCD hCC hSV hG2 hG4 hG5 hS12 hb1 hgt hrb htl hak HT2 HCZ2 HDB12 HMA12 HMB12 HTT12 HTA12 HGg HGh HQB12 HA12 HB12
   obtain⟨so,sn,sc,hs1,hsn⟩:=HAS.out.cell1
   have hsn': ¬(1:Int)<(sn:Int):=by omega
   have hsl:=HSL.out.1
   have k0:w13.cell? ⟨qb,0,none⟩=some (.int .i64 (ix:Nat)):=by rw[HQB13.out.c0,HIX.out]
   have kq:=HQB13.out.lt
   have hi4:=HI4.out
   go_upto_region 19 with fail
   obtain⟨op',hop'⟩: ∃f:Nat→Bool,(fun j=>if j=ix then r3 else op j)=f:=⟨_,rfl⟩
   rw[hop']at HTG13
   clear hop'
   cases r1
   all_goals
    refine wp_region_segs (X:=none) 33 [([0,1,2,3,4,5,6,7,8,9,10],11),([12,13,14,15,16,17,18,19,20,21,22,23,24,25,27,28,29],26),([],30)] [31,32] (by kernel_rfl) (by kernel_rfl) rfl (fun _ _ _ _ _ h=>h) ?_
    simp only[wpSegs,pickSegs_nil,pickSegs_cons,pickOps_nil,pickOps_cons,List.getD_cons_zero,List.getD_cons_succ,List.drop_succ_cons,List.drop_nil]
    repeat (go_big_quiet_step (fail))
    refine wpQuiet_nil ?_
    go_wp2_with fail
    refine(alike_same (HAS.out.below HSL.out.1 ((Below.refl w13.heap.size w13).drew)) (HAT.out.below HSL.out.2 ((Below.refl w13.heap.size w13).drew)) HSL.out.1 HSL.out.2 HAZ.out).mono ?_
    rintro e w14 ⟨rfl,hb14⟩
    have HK14:=Lib.hid hb14
    have HBD:=Lib.hid ((Below.refl w13.heap.size w13).drew.trans hb14)
    have HTG14:=Lib.hid (HTG13.out.below HBD.out)
    have HQB14:=Lib.hid (HQB13.out.below HBD.out)
    have HB14:=Lib.hid (HB13.out.trans (HBD.out.mono HB13.out.size))
    have hs1':=(HBD.out.cell (p:=⟨sb,1,none⟩) hsl).trans hs1
    have hsl':sb<w14.heap.size:=Nat.lt_of_lt_of_le hsl HBD.out.size
    have kq':=HQB14.out.lt
    have k0':w14.cell? ⟨qb,0,none⟩=some (.int .i64 (ix:Nat)):=by rw[HQB14.out.c0,HIX.out]
    have hsd:decide ((1:Int)<(sn:Int))=false:=decide_eq_false (by omega)
    clear hb14 hs1 hsl k0 kq
    go_wp2_with fail
    refine⟨Keeps.of_below HK14.out,?_⟩
    repeat (go_big_quiet_step (fail))
    refine wpQuiet_nil ?_
    go_wp2_with fail
    refine(open_call HTG14.out.g HI4.out).mono ?_;rintro e w15 ⟨rfl,rfl⟩
    go_wp2_with fail
    refine⟨Keeps.refl _,?_⟩
    repeat (go_big_quiet_step (fail))
    refine wpQuiet_nil ?_
    go_wp2_with fail
    refine(open_call HTG14.out.h HI4.out).mono ?_;rintro e w15 ⟨rfl,rfl⟩
    go_wp2_with fail
    refine⟨Keeps.refl _,?_⟩
    repeat (go_big_quiet_step (fail))
    refine wpQuiet_nil ?_
    go_wp2_with fail
    go_roundg (n - (d+1))
    case measure=>have:=HG.out;have:=HLT.out;omega
    case rel=>exact⟨d+1,op',by go_num,rfl,HLT.out,HTG14.out,HB14.out⟩
  ·obtain rfl:d=n:=by omega
   go_wp2_with fail
   refine(works_call (HT.out.below HBE.out)).mono ?_;rintro e w3 ⟨rfl,hb3⟩
   have HB3:=Lib.hid (HBE.out.trans (hb3.mono HBE.out.size))
   clear hb3
   go_wp2_with fail
   go_ret
   exact⟨rfl,HB3.out⟩
end
end Go.Proofs.YtfjbnpdffillbaaGreatDoor
