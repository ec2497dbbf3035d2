/- Parts: Gx Gyp. -/
import Derived.Test.YtfjbnpdffillbaaGreatDoorQ40
import Derived.Test.YtfjbnpdffillbaaGreatDoorQ38
import Derived.Test.YtfjbnpdffillbaaGreatDoorQ15
import Derived.Test.YtfjbnpdffillbaaGreatDoorQ37
import Derived.Deep.Grids
namespace Go.Proofs.YtfjbnpdffillbaaGreatDoor
open Go.ChangeShapes Go.WideShapes Go.RowKit Go.Deep
theorem seg_at {cs l:List Value} {off k:Nat} (h:(cs.drop off).take k=l) {j:Nat} (hj:j<k):cs[off+j]?=l[j]?:=by
 rw[←h,List.getElem?_take,if_pos hj,List.getElem?_drop]
theorem list_three {α:Type} {l:List α} (h:l.length=3): ∃a b c,l=[a,b,c]:=by
 match l,h with
 |[a,b,c],_=>exact⟨a,b,c,rfl⟩
theorem seg_one {cs:List Value} {off:Nat} {v:Value} (h:(cs.drop off).take 1=[v]):cs[off]?=some v:=by
 have:=seg_at h (j:=0) (by decide)
 simpa using this
section
variable {H:Type} {enc:TypeId × Value→H} {w:World} {spare:Nat→Bool} {held:Bool}
theorem open_addr {n:Nat} {cs:List Value} {x:DataW H × List MemPlace} (h:DataW.trod enc Tryz.prog w 0 spare held n 54 cs=some x) (hz:Sz 54 x.1):
  ∃(k m:Int) (oa:Option Addr) (re:List Nd) (ca:Nat),cs=[.int .i8 k,.int .i64 m,.slice oa re.length ca]∧NdW w oa ca re∧re.length*72≤140737488351232∧ -128≤k∧k≤127:=by
 obtain⟨xs,n',_,hx,hl,hxl,hf⟩:=DataW.trod_struct Tryz.underlying54 h
 have hl2:cs.length=3:=hl.trans (by kernel_rfl)
 obtain⟨c0,c1,c2,rfl⟩:=list_three hl2
 obtain⟨x0,x1,x2,rfl⟩:=list_three hxl
 have h0:=fld hf (i:=0) (ty:=51) (off:=0) (k:=1) rfl rfl rfl (by kernel_rfl)
 have h1:=fld hf (i:=1) (ty:=3) (off:=1) (k:=1) rfl rfl rfl (by kernel_rfl)
 have h2:=fld hf (i:=2) (ty:=52) (off:=2) (k:=1) rfl rfl rfl (by kernel_rfl)
 simp only[List.drop_zero,List.take_succ_cons,List.take_zero,List.drop_succ_cons,List.getElem?_cons_zero,List.getElem?_cons_succ]at h0 h1 h2
 obtain⟨k,e0,_,w0⟩:=DataW.trod_int Tryz.underlying51 h0
 obtain⟨m,e1,_,_⟩:=DataW.trod_int Tryz.underlying3 h1
 obtain⟨oa,len,ca,e2⟩:=slice_cells Tryz.underlying52 h2
 simp only[List.cons.injEq,and_true]at e0 e1 e2
 subst e0 e1 e2
 obtain⟨re,hl,hm,_⟩:=read_nodes (d:=x2.1) (p:=x2.2) Tryz.underlying52 ⟨n',h2⟩ rfl
 subst hl
 have hx1:x.1= .agg [x0.1,x1.1,x2.1]:=congrArg Prod.fst hx
 rw[hx1]at hz
 have:=open_len Tryz.underlying52 h2 (Sz.fld Tryz.underlying54 hz (i:=2) rfl rfl)
 rw[show Tryz.prog.bytesOf 78=72 by kernel_rfl]at this
 exact⟨k,m,oa,re,ca,rfl,hm,this,bounds_i8 w0⟩
theorem NdW.srcZ {oa:Option Addr} {cap:Nat} {re:List Nd} (h:NdW w oa cap re):Src w (.slice oa re.length cap) re.length (ndsC re):=by
 cases oa with
 |none=>
  obtain⟨rfl,rfl⟩:=h.no rfl
  exact .inl ⟨rfl,rfl,rfl⟩
 |some a=>
  refine .inr ⟨a,cap,rfl,fun j u hu=>?_⟩
  have hj:j<(ndsC re).length:=(List.getElem?_eq_some_iff.1 hu).1
  rw[ndsC_length]at hj
  obtain⟨nb,no,h1,_,h3⟩:=h.at_ (by omega)
  injection h1 with h1
  subst h1
  have hc:=ndsC_at re (j / 9) (j % 9) (by omega) (Nat.mod_lt _ (by decide))
  rw[show j / 9*9+j % 9=j by omega,hu]at hc
  rw[add_none,show no+j=no+j / 9*9+j % 9 by omega,h3 (j / 9) (by omega) (j % 9) (Nat.mod_lt _ (by decide)),←hc]
theorem open_cmd {n:Nat} {cs:List Value} {x:DataW H × List MemPlace} (h:DataW.trod enc Tryz.prog w 0 spare held n 91 cs=some x) (hz:Sz 91 x.1):
  ∃(ka na:Int) (oa:Option Addr) (ra:List Nd) (ca:Nat) (kb nb:Int) (ob:Option Addr) (rb:List Nd) (cb:Nat) (nt:Bool),CmdIn w cs ka na oa ra ca kb nb ob rb cb nt∧NdW w oa ca ra∧NdW w ob cb rb∧ra.length*72≤140737488351232∧rb.length*72≤140737488351232:=by
 obtain⟨xs,n',_,hx,hl,hxl,hf⟩:=DataW.trod_struct Tryz.underlying91 h
 have hl2:cs.length=272:=hl.trans (by kernel_rfl)
 have hx1:x.1= .agg (xs.map (·.1)):=congrArg Prod.fst hx
 rw[hx1]at hz
 have hxs: ∀i,i<13→ ∃y,xs[i]?=some y:=fun i hi=>⟨_,List.getElem?_eq_getElem (by rw[hxl];exact hi)⟩
 have hzf: ∀ {i:Nat} {ty:TypeId} {y:DataW H × List MemPlace},xs[i]?=some y→(#[54,54,4,5,3,22,52,87,3,4,4,4,89]:Array TypeId).toList[i]?=some ty→Sz ty y.1:=fun hy hi=>Sz.fld Tryz.underlying91 hz hi (by rw[List.getElem?_map,hy];rfl)
 obtain⟨y0,q0⟩:=hxs 0 (by decide)
 obtain⟨y1,q1⟩:=hxs 1 (by decide)
 obtain⟨y2,q2⟩:=hxs 2 (by decide)
 obtain⟨y3,q3⟩:=hxs 3 (by decide)
 obtain⟨y4,q4⟩:=hxs 4 (by decide)
 obtain⟨y5,q5⟩:=hxs 5 (by decide)
 obtain⟨y6,q6⟩:=hxs 6 (by decide)
 obtain⟨y7,q7⟩:=hxs 7 (by decide)
 obtain⟨y8,q8⟩:=hxs 8 (by decide)
 obtain⟨y9,q9⟩:=hxs 9 (by decide)
 obtain⟨y10,q10⟩:=hxs 10 (by decide)
 obtain⟨y11,q11⟩:=hxs 11 (by decide)
 obtain⟨y12,q12⟩:=hxs 12 (by decide)
 have h0:=(fld hf (i:=0) (ty:=54) (off:=0) (k:=3) rfl rfl rfl (by kernel_rfl)).trans q0
 have h1:=(fld hf (i:=1) (ty:=54) (off:=3) (k:=3) rfl rfl rfl (by kernel_rfl)).trans q1
 have h2:=(fld hf (i:=2) (ty:=4) (off:=6) (k:=1) rfl rfl rfl (by kernel_rfl)).trans q2
 have h3:=(fld hf (i:=3) (ty:=5) (off:=7) (k:=1) rfl rfl rfl (by kernel_rfl)).trans q3
 have h4:=(fld hf (i:=4) (ty:=3) (off:=8) (k:=1) rfl rfl rfl (by kernel_rfl)).trans q4
 have h5:=(fld hf (i:=5) (ty:=22) (off:=9) (k:=1) rfl rfl rfl (by kernel_rfl)).trans q5
 have h6:=(fld hf (i:=6) (ty:=52) (off:=10) (k:=1) rfl rfl rfl (by kernel_rfl)).trans q6
 have h7:=(fld hf (i:=7) (ty:=87) (off:=11) (k:=1) rfl rfl rfl (by kernel_rfl)).trans q7
 have h8:=(fld hf (i:=8) (ty:=3) (off:=12) (k:=1) rfl rfl rfl (by kernel_rfl)).trans q8
 have h9:=(fld hf (i:=9) (ty:=4) (off:=13) (k:=1) rfl rfl rfl (by kernel_rfl)).trans q9
 have h10:=(fld hf (i:=10) (ty:=4) (off:=14) (k:=1) rfl rfl rfl (by kernel_rfl)).trans q10
 have h11:=(fld hf (i:=11) (ty:=4) (off:=15) (k:=1) rfl rfl rfl (by kernel_rfl)).trans q11
 have h12:=(fld hf (i:=12) (ty:=89) (off:=16) (k:=256) rfl rfl rfl (by kernel_rfl)).trans q12
 obtain⟨ka,na,oa,ra,ca,e0,wa,za,ba⟩:=open_addr h0 (hzf q0 rfl)
 obtain⟨kb,nb,ob,rb,cb,e1,wb,zb,bb⟩:=open_addr h1 (hzf q1 rfl)
 obtain⟨nt,e2,_⟩:=DataW.trod_bool Tryz.underlying4 h2
 obtain⟨v3,e3,_,_⟩:=DataW.trod_int Tryz.underlying5 h3
 obtain⟨v4,e4,_,_⟩:=DataW.trod_int Tryz.underlying3 h4
 obtain⟨o5,n5,c5,e5,t5⟩:=open_bytes Tryz.underlying22 h5 (hzf q5 rfl)
 obtain⟨o6,n6,c6,e6⟩:=slice_cells Tryz.underlying52 h6
 rw[e6]at h6
 have z6:=open_len Tryz.underlying52 h6 (hzf q6 rfl)
 rw[show Tryz.prog.bytesOf 78=72 by kernel_rfl]at z6
 obtain⟨re,rl,wr,_⟩:=read_nodes (d:=y6.1) (p:=y6.2) Tryz.underlying52 ⟨n',h6⟩ rfl
 subst rl
 obtain⟨o7,n7,c7,e7,t7⟩:=open_pieces Tryz.underlying87 h7 (hzf q7 rfl)
 obtain⟨v8,e8,_,_⟩:=DataW.trod_int Tryz.underlying3 h8
 obtain⟨v9,e9,_⟩:=DataW.trod_bool Tryz.underlying4 h9
 obtain⟨v10,e10,_⟩:=DataW.trod_bool Tryz.underlying4 h10
 obtain⟨v11,e11,_⟩:=DataW.trod_bool Tryz.underlying4 h11
 have hr:(reachBytes:Nat)≤140737488355328:=by decide
 have f0:cs[0]?=some (.int .i8 ka):=seg_at e0 (j:=0) (by decide)
 have f1:cs[1]?=some (.int .i64 na):=seg_at e0 (j:=1) (by decide)
 have f2:cs[2]?=some (.slice oa ra.length ca):=seg_at e0 (j:=2) (by decide)
 have f3:cs[3]?=some (.int .i8 kb):=seg_at e1 (j:=0) (by decide)
 have f4:cs[4]?=some (.int .i64 nb):=seg_at e1 (j:=1) (by decide)
 have f5:cs[5]?=some (.slice ob rb.length cb):=seg_at e1 (j:=2) (by decide)
 have f6:cs[6]?=some (.bool nt):=seg_one e2
 have f7:cs[7]?=some (.int .u8 v3):=seg_one e3
 have f8:cs[8]?=some (.int .i64 v4):=seg_one e4
 have f9:cs[9]?=some (.slice o5 n5 c5):=seg_one e5
 have f10:cs[10]?=some (.slice o6 re.length c6):=seg_one e6
 have f11:cs[11]?=some (.slice o7 n7 c7):=seg_one e7
 have f12:cs[12]?=some (.int .i64 v8):=seg_one e8
 have f13:cs[13]?=some (.bool v9):=seg_one e9
 have f14:cs[14]?=some (.bool v10):=seg_one e10
 have f15:cs[15]?=some (.bool v11):=seg_one e11
 have htab: ∀i,i<256→ ∃v,cs[16+i]?=some (.int .u8 v):=by
  intro i hi
  obtain⟨ys,m,_,_,_,hyl,hg⟩:=DataW.trod_array Tryz.underlying89 h12
  obtain⟨y,hy⟩: ∃y,ys[i]?=some y:=⟨_,List.getElem?_eq_getElem (by rw[hyl];exact hi)⟩
  have h:=(afld hg (c:=1) (by kernel_rfl) (i:=i) hi).trans hy
  obtain⟨z,ez,_,_⟩:=DataW.trod_int Tryz.underlying5 h
  have e1:=seg_one ez
  rw[Nat.mul_one]at e1
  have e2:=seg_at (cs:=cs) (off:=16) (k:=256) rfl (j:=i) hi
  exact⟨z,e2.trans e1⟩
 have hone: ∀v∈cs,v.oneCell'=true:=by
  intro v hv
  obtain⟨j,hv⟩:=List.mem_iff_getElem?.1 hv
  by_cases hj:16≤j
  ·have hjl:j<272:=by rw[←hl2];exact(List.getElem?_eq_some_iff.1 hv).1
   obtain⟨i,rfl⟩: ∃i,j=16+i:=⟨j - 16,by omega⟩
   obtain⟨z,ez⟩:=htab i (by omega)
   rw[hv]at ez
   injection ez with ez
   rw[ez]
   rfl
  ·obtain rfl|rfl|rfl|rfl|rfl|rfl|rfl|rfl|rfl|rfl|rfl|rfl|rfl|rfl|rfl|rfl:j=0∨j=1∨j=2∨j=3∨j=4∨j=5∨j=6∨j=7∨j=8∨j=9∨j=10∨j=11∨j=12∨j=13∨j=14∨j=15:=by omega
   all_goals (simp only[f0,f1,f2,f3,f4,f5,f6,f7,f8,f9,f10,f11,f12,f13,f14,f15,Option.some.injEq]at hv;subst hv;rfl)
 exact⟨ka,na,oa,ra,ca,kb,nb,ob,rb,cb,nt,⟨⟨hl2,hone⟩,f0,f1,f2,f3,f4,f5,f6,wa.srcZ,by omega,wb.srcZ,by omega,⟨o5,n5,c5,f9,t5⟩,⟨o6,re,c6,f10,wr.srcZ,by omega⟩,⟨o7,n7,c7,f11,t7⟩,⟨⟨_,f7⟩,⟨_,f8⟩,⟨_,f12⟩,⟨_,f13⟩,⟨_,f14⟩,⟨_,f15⟩,htab⟩,ba,bb⟩,wa,wb,za,zb⟩
structure Aq where
 I:Int
 l:List Value
 ka:Int
 na:Int
 oa:Option Addr
 ra:List Nd
 ca:Nat
 kb:Int
 nb:Int
 ob:Option Addr
 rb:List Nd
 cb:Nat
 nt:Bool
 line:Int
 last:Bool
 ro:Option Addr
 RL:List Bool
 rc:Nat
def Aq.cells (q:Aq):List Value:= .int .i64 q.I::(q.l++[.int .i64 q.line,.bool q.last,.slice q.ro q.RL.length q.rc])
structure AqIn (w:World) (q:Aq):Prop where
 c:CmdIn w q.l q.ka q.na q.oa q.ra q.ca q.kb q.nb q.ob q.rb q.cb q.nt
 wa:NdW w q.oa q.ca q.ra
 wb:NdW w q.ob q.cb q.rb
 za:q.ra.length*72≤140737488351232
 zb:q.rb.length*72≤140737488351232
 row:0<q.RL.length→ ∃g o,q.ro=some ⟨g,o,none⟩∧g<w.heap.size∧w.cell? ⟨g,o,none⟩=some (.bool (q.RL.getD 0 false))
structure AsksW (w:World) (oa:Option Addr) (n:Nat):Prop where
 z:n≤140737488355328
 at_:0<n→ ∃nb no,oa=some ⟨nb,no,none⟩∧nb<w.heap.size∧ ∀i,i<n→ ∃q:Aq,w.rangeAt nb (no+i*276) q.cells∧AqIn w q
theorem AqIn.below {w':World} {q:Aq} (h:AqIn w q) (hb:Below w.heap.size w w'):AqIn w' q:=
 ⟨h.c.below hb,h.wa.below hb,h.wb.below hb,h.za,h.zb,fun hp=>by
  obtain⟨g,o,e1,e2,e3⟩:=h.row hp
  exact⟨g,o,e1,Nat.lt_of_lt_of_le e2 hb.size,(hb.cell (p:=⟨g,o,none⟩) e2).trans e3⟩⟩
theorem AsksW.below {w':World} {oa:Option Addr} {n:Nat} (h:AsksW w oa n) (hb:Below w.heap.size w w'):AsksW w' oa n:=⟨h.z,fun hp=>by
 obtain⟨nb,no,e1,e2,e3⟩:=h.at_ hp
 refine⟨nb,no,e1,Nat.lt_of_lt_of_le e2 hb.size,fun i hi=>?_⟩
 obtain⟨q,f1,f2⟩:=e3 i hi
 exact⟨q,fun j v hv=>(hb.cell (p:=⟨nb,no+i*276+j,none⟩) e2).trans (f1 j v hv),f2.below hb⟩⟩
theorem cut_at (cs:List Value) (a k:Nat):cs.drop a=(cs.drop a).take k++cs.drop (a+k):=by rw[←List.drop_drop,List.take_append_drop]
theorem open_row {n:Nat} {cs:List Value} {x:DataW H × List MemPlace} (h:DataW.trod enc Tryz.prog w 0 spare held n 92 cs=some x):
  ∃(ro:Option Addr) (RL:List Bool) (rc:Nat),cs=[.slice ro RL.length rc]∧(0<RL.length→ ∃g o,ro=some ⟨g,o,none⟩∧g<w.heap.size∧w.cell? ⟨g,o,none⟩=some (.bool (RL.getD 0 false))):=by
 rcases open_slice Tryz.underlying92 h with ⟨h0,_⟩|⟨a,len,cap,m,n',D,Pl,hcs,hb,hl,hmx,hmm,rfl,hi⟩
 ·exact⟨none,[],0,h0,fun hp=>absurd hp (by simp)⟩
 ·by_cases h0:len=0
  ·subst h0
   exact⟨some a,[],cap,hcs,fun hp=>absurd hp (by simp)⟩
  ·have hlm:0<m:=by rw[hmm];split<;>omega
   rw[show Tryz.prog.cellsOf 4=1 by kernel_rfl]at hi
   obtain⟨cs',hc,ht'⟩:=hi 0 hlm
   obtain⟨_,hl2,hat⟩:=World.cells?_some hc
   obtain⟨b,e0,_⟩:=DataW.trod_bool Tryz.underlying4 ht'
   subst e0
   have k0:=hat 0 (by decide)
   rw[add_add]at k0
   obtain⟨g,off,spot⟩:=a
   have hspot:spot=none:=by simpa [Addr.add]using World.cell?_spot k0
   subst hspot
   rw[add_none]at k0
   refine⟨_,b::List.replicate (len - 1) false,cap,by rw[hcs];simp;omega,fun _=>⟨g,off,rfl,World.block_lt_of_cell? w _ (show w.cell? ⟨g,off,none⟩=some (.bool b)from k0),k0⟩⟩
theorem open_ask {n:Nat} {cs:List Value} {x:DataW H × List MemPlace} (h:DataW.trod enc Tryz.prog w 0 spare held n 94 cs=some x) (hz:Sz 94 x.1): ∃q:Aq,cs=q.cells∧AqIn w q:=by
 obtain⟨xs,n',_,hx,hl,hxl,hf⟩:=DataW.trod_struct Tryz.underlying94 h
 have hl2:cs.length=276:=hl.trans (by kernel_rfl)
 have hx1:x.1= .agg (xs.map (·.1)):=congrArg Prod.fst hx
 rw[hx1]at hz
 have hxs: ∀i,i<5→ ∃y,xs[i]?=some y:=fun i hi=>⟨_,List.getElem?_eq_getElem (by rw[hxl];exact hi)⟩
 obtain⟨y0,q0⟩:=hxs 0 (by decide)
 obtain⟨y1,q1⟩:=hxs 1 (by decide)
 obtain⟨y2,q2⟩:=hxs 2 (by decide)
 obtain⟨y3,q3⟩:=hxs 3 (by decide)
 obtain⟨y4,q4⟩:=hxs 4 (by decide)
 have h0:=(fld hf (i:=0) (ty:=3) (off:=0) (k:=1) rfl rfl rfl (by kernel_rfl)).trans q0
 have h1:=(fld hf (i:=1) (ty:=91) (off:=1) (k:=272) rfl rfl rfl (by kernel_rfl)).trans q1
 have h2:=(fld hf (i:=2) (ty:=3) (off:=273) (k:=1) rfl rfl rfl (by kernel_rfl)).trans q2
 have h3:=(fld hf (i:=3) (ty:=4) (off:=274) (k:=1) rfl rfl rfl (by kernel_rfl)).trans q3
 have h4:=(fld hf (i:=4) (ty:=92) (off:=275) (k:=1) rfl rfl rfl (by kernel_rfl)).trans q4
 obtain⟨I,e0,_,_⟩:=DataW.trod_int Tryz.underlying3 h0
 obtain⟨line,e2,_,_⟩:=DataW.trod_int Tryz.underlying3 h2
 obtain⟨last,e3,_⟩:=DataW.trod_bool Tryz.underlying4 h3
 obtain⟨ro,RL,rc,e4,hrow⟩:=open_row h4
 obtain⟨ka,na,oa,ra,ca,kb,nb,ob,rb,cb,nt,hc,wa,wb,za,zb⟩:=open_cmd h1 (Sz.fld Tryz.underlying94 hz (i:=1) (d:=y1.1) rfl (by rw[List.getElem?_map,q1];rfl))
 have hcs:cs= .int .i64 I::((cs.drop 1).take 272++[.int .i64 line,.bool last,.slice ro RL.length rc]):=by
  have k0:=cut_at cs 0 1
  have k1:=cut_at cs 1 272
  have k2:=cut_at cs 273 1
  have k3:=cut_at cs 274 1
  have k4:=cut_at cs 275 1
  rw[e0]at k0
  rw[e2]at k2
  rw[e3]at k3
  rw[e4,List.drop_eq_nil_of_le (show cs.length≤275+1 by omega)]at k4
  simp only[List.drop_zero,Nat.zero_add]at k0
  have k5:cs.drop 273=[.int .i64 line,.bool last,.slice ro RL.length rc]:=by rw[k2,show 273+1=274 from rfl,k3,show 274+1=275 from rfl,k4];rfl
  rw[show 1+272=273 from rfl,k5]at k1
  rw[k1]at k0
  exact k0
 exact⟨⟨I,(cs.drop 1).take 272,ka,na,oa,ra,ca,kb,nb,ob,rb,cb,nt,line,last,ro,RL,rc⟩,hcs,⟨hc,wa,wb,za,zb,hrow⟩⟩
theorem read_asks {t:TypeId} {v:Value} {d:DataW H} {p:List MemPlace} (ht:Tryz.prog.underlying t=some (.slice 94)) {o:Option Addr} {len cap:Nat} (hv:v= .slice o len cap) (h:DataW.Trod enc Tryz.prog w 0 spare held t v d p) (hz:Sz t d):AsksW w o len:=by
 subst hv
 obtain⟨fuel,h⟩:=h
 replace h:DataW.trod enc Tryz.prog w 0 spare held fuel t [.slice o len cap]=some (d,p):=h
 have hlen:=open_len ht h hz
 have hby:1≤Tryz.prog.bytesOf 94:=by decide+kernel
 have hlen2:len≤140737488355328:=Nat.le_trans (Nat.le_trans (Nat.le_mul_of_pos_right len hby) hlen) (by decide)
 refine⟨hlen2,fun hp=>?_⟩
 rcases open_slice ht h with ⟨h0,_⟩|⟨a,len2,cap2,m,n',D,Pl,hcs,hb,hl,hmx,hmm,hxx,hi⟩
 ·simp only[List.cons.injEq,and_true,Value.slice.injEq]at h0
  omega
 ·simp only[List.cons.injEq,and_true,Value.slice.injEq]at hcs
  obtain⟨rfl,rfl,rfl⟩:=hcs
  have hlm:len≤m:=by rw[hmm];split<;>omega
  have hd:d= .slice ((List.range len).map D) ((List.range (m - len)).map fun j=>D (len+j)):=congrArg Prod.fst hxx
  rw[hd]at hz
  have hel:=(Sz.slice ht hz).2
  rw[show Tryz.prog.cellsOf 94=276 by kernel_rfl]at hi
  have hall: ∀i,i<len→ ∃q:Aq,(∀j v,q.cells[j]?=some v→w.cell? (a.add (i*276+j))=some v)∧AqIn w q:=fun i hil=>by
   obtain⟨cs',hc,ht'⟩:=hi i (by omega)
   obtain⟨_,hl2,hat⟩:=World.cells?_some hc
   obtain⟨q,rfl,hq⟩:=open_ask ht' (hel (D i) (List.mem_map.2 ⟨i,List.mem_range.2 hil,rfl⟩))
   refine⟨q,fun j v hj=>?_,hq⟩
   have:=hat j (by rw[←hl2];exact(List.getElem?_eq_some_iff.1 hj).1)
   rw[add_add]at this
   rw[this,hj]
  obtain⟨b,off,spot⟩:=a
  obtain⟨q,hq,_⟩:=hall 0 hp
  have k0:=hq 0 _ rfl
  have hspot:spot=none:=by simpa [Addr.add]using World.cell?_spot k0
  subst hspot
  refine⟨b,off,rfl,cell_lt k0,fun i hil=>?_⟩
  obtain⟨q,e1,e2⟩:=hall i hil
  refine⟨q,fun j v hj=>?_,e2⟩
  have:=e1 j v hj
  rw[add_none]at this
  rw[Nat.add_assoc]
  exact this
end
end Go.Proofs.YtfjbnpdffillbaaGreatDoor
namespace Go.Proofs.YtfjbnpdffillbaaGreatDoor
open Go.RowKit
structure TwoG (base:Nat) (w:World) (gb bb hb cb:Nat) (op op2:Nat→Bool):Prop where
 g:GtS w gb bb 4 op
 h:GtS w hb cb 4 op2
 l1:base≤gb
 l2:base≤bb
 l3:base≤hb
 l4:base≤cb
 n1:bb≠hb
 n2:bb≠cb
 n3:gb≠cb
theorem TwoG.below {base:Nat} {w w':World} {gb bb hb cb:Nat} {op op2:Nat→Bool} (h:TwoG base w gb bb hb cb op op2) (b:Below w.heap.size w w'):TwoG base w' gb bb hb cb op op2:=
 ⟨h.g.below b,h.h.below b,h.l1,h.l2,h.l3,h.l4,h.n1,h.n2,h.n3⟩
theorem takesS_not (ka na kb nb:Int) (nt:Bool) (line:Int) (last opened hit:Bool):takesS ka na kb nb (!nt) line last opened hit=(!(takesS ka na kb nb nt line last opened hit).1,(takesS ka na kb nb nt line last opened hit).2):=by
 unfold takesS
 simp only[]
 split
 ·cases nt<;>rfl
 ·split
  ·cases nt<;>cases selS ka na line last hit<;>rfl
  ·split
   ·cases nt<;>rfl
   ·split
    ·cases nt<;>rfl
    ·cases nt<;>rfl
theorem Aq.len {w:World} {q:Aq} (h:AqIn w q):q.cells.length=276:=by simp[Aq.cells,h.c.cl.len]
theorem Aq.one {w:World} {q:Aq} (h:AqIn w q): ∀v∈q.cells,v.oneCell'=true:=by
 intro v hv
 simp only[Aq.cells,List.mem_cons,List.mem_append,List.not_mem_nil,or_false]at hv
 rcases hv with rfl|hv|rfl|rfl|rfl
 ·rfl
 ·exact h.c.cl.one v hv
 all_goals rfl
theorem ask_info:(Tryz.prog.info? 94).map (·.size)=some 276:=by kernel_rfl
theorem ask_size:Tryz.zeroCells94.size=276:=by kernel_rfl
structure QB (w:World) (b:Nat) (q:Aq):Prop where
 heap:w.heap[b]?=some (.cells q.cells.toArray 94 (0,0))
 c0:w.cell? ⟨b,0,none⟩=some (.int .i64 q.I)
 c3:w.cell? ⟨b,3,none⟩=some (.slice q.oa q.ra.length q.ca)
 c6:w.cell? ⟨b,6,none⟩=some (.slice q.ob q.rb.length q.cb)
 c273:w.cell? ⟨b,273,none⟩=some (.int .i64 q.line)
 c274:w.cell? ⟨b,274,none⟩=some (.bool q.last)
 c275:w.cell? ⟨b,275,none⟩=some (.slice q.ro q.RL.length q.rc)
 cmd:w.rangeAt b 1 q.l
theorem QB.of {w v:World} {b:Nat} {q:Aq} (h:AqIn v q) (hb:w.heap[b]?=some (.cells q.cells.toArray 94 (0,0))):QB w b q:=by
 have hl:=h.c.cl.len
 have hc: ∀j,w.cell? ⟨b,j,none⟩=q.cells[j]?:=fun j=>(cell_of_row _ _ j _ _ (0,0) hb).trans (by simp)
 have h1: ∀j,j<272→q.cells[j+1]?=q.l[j]?:=fun j hj=>by
  unfold Aq.cells
  rw[List.getElem?_cons_succ,List.getElem?_append_left (by omega)]
 have h2: ∀j,q.cells[j+273]?=([.int .i64 q.line,.bool q.last,.slice q.ro q.RL.length q.rc]:List Value)[j]?:=fun j=>by
  unfold Aq.cells
  rw[show j+273=(j+272)+1 by omega,List.getElem?_cons_succ,List.getElem?_append_right (by omega),hl,show j+272 - 272=j by omega]
 exact⟨hb,(hc 0).trans rfl,(hc 3).trans ((h1 2 (by decide)).trans h.c.a2),(hc 6).trans ((h1 5 (by decide)).trans h.c.b2),(hc 273).trans (h2 0),(hc 274).trans (h2 1),(hc 275).trans (h2 2),fun j v hj=>by
  have hj2:j<272:=by rw[←hl];exact(List.getElem?_eq_some_iff.1 hj).1
  rw[Nat.add_comm 1 j,hc,h1 j hj2,hj]⟩
theorem QB.block {w w':World} {b:Nat} {q:Aq} (h:QB w b q) (hb:w'.heap[b]?=w.heap[b]?):QB w' b q:=
 have hc: ∀j,w'.cell? ⟨b,j,none⟩=w.cell? ⟨b,j,none⟩:=fun j=>World.cell?_of_block (w:=w) (a:=⟨b,j,none⟩) hb
 ⟨hb.trans h.heap,(hc _).trans h.c0,(hc _).trans h.c3,(hc _).trans h.c6,(hc _).trans h.c273,(hc _).trans h.c274,(hc _).trans h.c275,fun j v hj=>(hc (1+j)).trans (h.cmd j v hj)⟩
theorem QB.lt {w:World} {b:Nat} {q:Aq} (h:QB w b q):b<w.heap.size:=(Array.getElem?_eq_some_iff.1 h.heap).1
theorem QB.below {w w':World} {b:Nat} {q:Aq} (h:QB w b q) (hb:Below w.heap.size w w'):QB w' b q:=h.block (hb.block b h.lt)
theorem TlS.new {ro:Option Addr} {RL:List Bool} (w:World) (rc:Nat) (h:0<RL.length→ ∃g o,ro=some ⟨g,o,none⟩∧g<w.heap.size∧w.cell? ⟨g,o,none⟩=some (.bool (RL.getD 0 false))) (lo:Nat):
  TlS (w.alloc (.cells #[.slice ro RL.length rc,.slice none 0 0] 99)) w.heap.size ro rc RL∧AskS (w.alloc (.cells #[.slice ro RL.length rc,.slice none 0 0] 99)) w.heap.size lo none:=
 have hB:(w.alloc (.cells #[.slice ro RL.length rc,.slice none 0 0] 99)).heap[w.heap.size]?=some (.cells #[.slice ro RL.length rc,.slice none 0 0] 99 (0,0)):=heap_alloc_new w _
 ⟨⟨by simp,(cell_of_row _ _ 0 _ _ (0,0) hB).trans rfl,fun o=>frozen_cls hB o,fun hp=>by
  obtain⟨g,o,e1,e2,e3⟩:=h hp
  exact⟨g,o,e1,by omega,by simp;omega,lt_cell e3 _⟩⟩,(cell_of_row _ _ 1 _ _ (0,0) hB).trans rfl⟩
theorem AskS.cell1 {w:World} {tb lo:Nat} {A:Option Ad} (h:AskS w tb lo A): ∃(so:Option Addr) (sn sc:Nat),w.cell? ⟨tb,1,none⟩=some (.slice so sn sc)∧sn≤1:=by
 cases A with
 |none=>exact⟨none,0,0,h,by omega⟩
 |some a=>
  obtain⟨ab,cp,oo,oc,h1,_⟩:=h
  exact⟨_,1,cp,h1,by omega⟩
theorem asked_size {ka na:Int} {ra:List Nd} {kb nb:Int} {rb:List Nd} {o:Bool} (za:ra.length*72≤140737488355328) (zb:rb.length*72≤140737488355328): ∀x,askedA ka na ra kb nb rb o=some x→x.re.length*72≤140737488355328:=by
 intro x hx
 have h: ∀(k m:Int) (re:List Nd),re.length*72≤140737488355328→askA k m re=some x→x.re.length*72≤140737488355328:=fun k m re hz h=>by
  unfold askA at h
  split at h
  ·injection h with h;rw[←h];exact hz
  ·cases h
 unfold askedA at hx
 split at hx
 ·cases hx
 ·split at hx
  ·exact h _ _ _ za hx
  ·split at hx
   ·exact h _ _ _ zb hx
   ·exact h _ _ _ za hx
theorem RBut.toBelow2 {base rb eb:Nat} {w v v':World} (hb:Below base w v) (h:RBut rb (some eb) v v') (h1:base≤rb) (h2:base≤eb) (hv:base≤v.heap.size):Below base w v' where
 os:=h.os.trans hb.os
 tape:=h.tape.trans hb.tape
 output:=h.output.trans hb.output
 size:=Nat.le_trans hb.size h.size
 block:=fun k hk=>(h.block k (by omega) (by omega) (by simp;omega)).trans (hb.block k hk)
theorem quiet_load_mid {P:Program} {o:Oper} {a:Act} {W:World} {K:Act→Prop} (ty:TypeId) (x:Operand) (ho:o.op= .load ty x) (b off:Nat) (hx:a.eval x= .pointer (some ⟨b,off,none⟩)) (cs:List Value) (d:TypeDesc) (hc:W.rangeAt b off cs) (hb:b<W.heap.size)
  (hu:P.underlying ty=some d) (hd:d.isRow=true) (hi:(P.info? ty).map (·.size)=some cs.length) (hk:K (a.put o.dst (.agg cs.toArray))):o.quiet P a (fun w'=> ∃g,w'=wgr none W g) K:=by
 refine⟨_,fun w hw=>?_,hk⟩
 obtain⟨g,rfl⟩:=hw
 have hr:(wgr none W g).rangeAt b off cs:=fun j v hv=>((keeps_wgr (X:=none) W g).cell ⟨b,off+j,none⟩ hb (by simp)).trans (hc j v hv)
 unfold Oper.quietAt execOp
 simp only[ho,hx,Instr.loadAt,Instr.sureAddr,Sem.run_bind,Sem.run_pure,Result.andThen_ok,run_loadVar_mid _ b off ty cs d hr hu hd hi]
 exact⟨rfl,rfl⟩
end Go.Proofs.YtfjbnpdffillbaaGreatDoor
