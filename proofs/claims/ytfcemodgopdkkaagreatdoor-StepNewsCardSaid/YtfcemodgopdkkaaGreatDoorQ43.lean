/- Parts: Xpo Xlo Xnv Xnw. -/
import Derived.Test.YtfcemodgopdkkaaGreatDoorQ42
import Derived.Test.YtfcemodgopdkkaaGreatDoorQ26
import Derived.Test.YtfcemodgopdkkaaGreatDoorQ34
import Derived.Test.YtfcemodgopdkkaaGreatDoorQ8
import Derived.Test.YtfcemodgopdkkaaGreatDoorQ37
import Derived.Test.YtfcemodgopdkkaaGreatDoorQ39
import Derived.Test.YtfcemodgopdkkaaGreatDoorQ40
import Derived.Test.YtfcemodgopdkkaaGreatDoorQ44
import Derived.Deep.Strs
import Derived.Deep.DeepCutAuto
set_option maxHeartbeats 25600000
set_option maxRecDepth 100000
namespace Go.Proofs.YtfcemodgopdkkaaGreatDoor
section
open Go.ChangeShapes Go.WideShapes Go.RowKit Go.Deep
def FlM (w:World) (oa:Option Addr) (ls:List Nat):Prop:=0<ls.length→ ∃nb no,oa=some ⟨nb,no,none⟩∧nb<w.heap.size∧ ∀i t,ls[i]?=some t→t≤140737488355328∧ ∃ob cb,w.cell? ⟨nb,no+i*3+1,none⟩=some (.slice ob t cb)
theorem FlM.below {w w':World} {oa:Option Addr} {ls:List Nat} (h:FlM w oa ls) (hb:Below w.heap.size w w'):FlM w' oa ls:=fun hp=>by
 obtain⟨nb,no,h1,h2,h3⟩:=h hp
 refine⟨nb,no,h1,zMB h2 hb.size,fun i t ht=>?_⟩
 obtain⟨e1,ob,cb,e2⟩:=h3 i t ht
 exact⟨e1,ob,cb,(hb.cell (p:=⟨nb,no+i*3+1,none⟩) h2).trans e2⟩
theorem zCB {w:World} {a:Addr} {v:Value} (h:w.cell? (a.add 0)=some v):a.spot=none:=by
 have h1:=World.cell?_spot h
 obtain⟨b,off,spot⟩:=a
 cases spot with
 |none=>rfl
 |some s=>simp[Addr.add]at h1
theorem zD1 {α:Type} {l:List α} (h:l.length=4): ∃a b c d,l=[a,b,c,d]:=by
 match l,h with
 |[a,b,c,d],_=>exact⟨a,b,c,d,rfl⟩
theorem zD2 {α:Type} {l:List α} (h:l.length=5): ∃a b c d e,l=[a,b,c,d,e]:=by
 match l,h with
 |[a,b,c,d,e],_=>exact⟨a,b,c,d,e,rfl⟩
section
variable {H:Type} {enc:TypeId × Value→H} {w:World} {spare:Nat→Bool} {held:Bool}
theorem zJy {t e:TypeId} {fuel:Nat} {x:DataW H × List MemPlace} (ht:Tryz.prog.underlying t=some (.slice e)) {o:Option Addr} {len cap:Nat} (h:DataW.trod enc Tryz.prog w 0 spare held fuel t [.slice o len cap]=some x):len≤cap:=by
 rcases open_slice ht h with ⟨h0,_⟩|⟨a,len2,cap2,m,n',D,Pl,hcs,_,hl,_⟩
 ·simp only[List.cons.injEq,and_true,Value.slice.injEq]at h0
  omega
 ·simp only[List.cons.injEq,and_true,Value.slice.injEq]at hcs
  omega
theorem zJL {n:Nat} {cs:List Value} {x:DataW H × List MemPlace} (h:DataW.trod enc Tryz.prog w 0 spare held n 71 cs=some x) (hz:Sz 71 x.1): ∃c:Cx,c.l=cs∧CxM w c∧c.T.length≤c.ct:=by
 obtain⟨c,hc,hm⟩:=zKB h hz
 refine⟨c,hc,hm,?_⟩
 obtain⟨xs,n',_,hx,hl,hxl,hf⟩:=DataW.trod_struct Tryz.underlying71 h
 obtain⟨y5,q5⟩: ∃y,xs[5]?=some y:=⟨_,zMP (by rw[hxl];decide)⟩
 have h5:=(fld hf (i:=5) (ty:=46) (off:=9) (k:=1) rfl rfl rfl (by kernel_rfl)).trans q5
 obtain⟨o5,n5,c5,e5⟩:=zAj Tryz.underlying46 h5
 rw[e5]at h5
 have h6:=zJy Tryz.underlying46 h5
 have h7:cs[9]?=some (.slice o5 n5 c5):=zBG e5
 have h8:=hm.i.e9
 rw[hc,h7]at h8
 simp only[Option.some.injEq,Value.slice.injEq]at h8
 obtain⟨_,rfl,rfl⟩:=h8
 exact h6
theorem zIG {t:TypeId} {fuel:Nat} {cs:List Value} {x:DataW H × List MemPlace} (ht:Tryz.prog.underlying t=some (.slice 71)) (h:DataW.trod enc Tryz.prog w 0 spare held fuel t cs=some x) (hz:Sz t x.1):
  ∃o len cap,cs=[.slice o len cap]∧len*440≤140737488351232∧len≤cap∧ ∃L:List Cx,L.length=len∧CmI w o L∧ ∀c∈L,c.T.length≤c.ct:=by
 obtain⟨o,len,cap,rfl⟩:=zAj ht h
 have hlen:=zBI ht h hz
 rw[show Tryz.prog.bytesOf 71=440 by kernel_rfl]at hlen
 refine⟨o,len,cap,rfl,hlen,zJy ht h,?_⟩
 rcases open_slice ht h with ⟨h0,_⟩|⟨a,len2,cap2,m,n',D,Pl,hcs,hb,hl,hmx,hmm,rfl,hi⟩
 ·simp only[List.cons.injEq,and_true,Value.slice.injEq]at h0
  obtain⟨rfl,rfl,rfl⟩:=h0
  exact⟨[],rfl,fun i c hc=>by simp at hc,fun c hc=>by cases hc⟩
 ·simp only[List.cons.injEq,and_true,Value.slice.injEq]at hcs
  obtain⟨rfl,rfl,rfl⟩:=hcs
  have hlm:len≤m:=by rw[hmm];split<;>omega
  have hel:=(Sz.slice ht hz).2
  rw[show Tryz.prog.cellsOf 71=272 by kernel_rfl]at hi
  have hall: ∀i,i<len→ ∃c:Cx,(∀j v,c.l[j]?=some v→w.cell? (a.add (i*272+j))=some v)∧CxM w c∧c.T.length≤c.ct:=fun i hil=>by
   obtain⟨cs',hc,ht'⟩:=hi i (by omega)
   obtain⟨_,hl2,hat⟩:=World.cells?_some hc
   have hd:=hel (D i) (List.mem_map.2 ⟨i,List.mem_range.2 hil,rfl⟩)
   obtain⟨c,hcl,hm,htc⟩:=zJL ht' hd
   refine⟨c,fun j v hv=>?_,hm,htc⟩
   rw[hcl]at hv
   have:=hat j (by rw[←hl2];exact(zMF.1 hv).1)
   rw[add_add]at this
   rw[this]
   exact hv
  obtain⟨L,hL,hLL⟩:=zBl hall
  refine⟨L,hL,fun i c hc=>?_,fun c hc=>?_⟩
  ·obtain⟨b,off,spot⟩:=a
   obtain⟨h1,h2,_⟩:=hLL i c hc
   obtain⟨c0,g1,g2,_⟩:=hall 0 (by have:=(zMF.1 hc).1;omega)
   have k0:=g1 0 _ g2.i.ci.a0
   have hspot:spot=none:=zCB k0
   subst hspot
   refine⟨b,off,rfl,by rw[zAq]at k0;exact zMf _ _ k0,fun j v hv=>?_,h2⟩
   have:=h1 j v hv
   rw[zAq]at this
   rwa[Nat.add_assoc]
  ·obtain⟨i,hi⟩:=List.mem_iff_getElem?.1 hc
   exact(hLL i c hi).2.2
theorem zHC {t:TypeId} {fuel:Nat} {cs:List Value} {x:DataW H × List MemPlace} (ht:Tryz.prog.underlying t=some (.slice 3)) (h:DataW.trod enc Tryz.prog w 0 spare held fuel t cs=some x) (hz:Sz t x.1):
  ∃o len cap,cs=[.slice o len cap]∧len*8≤140737488351232∧ ∃ti:Nat→Int,RwV w o len (fun i=> .int .i64 (ti i))∧Src w (.slice o len cap) len ((List.range len).map fun i=> .int .i64 (ti i)):=by
 obtain⟨o,len,cap,rfl⟩:=zAj ht h
 have hlen:=zBI ht h hz
 rw[show Tryz.prog.bytesOf 3=8 by kernel_rfl]at hlen
 refine⟨o,len,cap,rfl,hlen,?_⟩
 rcases open_ints ht Tryz.underlying3 (by kernel_rfl) h with ⟨h0,_⟩|⟨a,len2,cap2,zs,hcs,_,hl,_,hzl,_,hc,hw⟩
 ·simp only[List.cons.injEq,and_true,Value.slice.injEq]at h0
  obtain⟨rfl,rfl,rfl⟩:=h0
  exact⟨fun _=>0,fun hp=>absurd hp (by omega),Src.nil w⟩
 ·simp only[List.cons.injEq,and_true,Value.slice.injEq]at hcs
  obtain⟨rfl,rfl,rfl⟩:=hcs
  have hzl2:len≤zs.length:=by rw[hzl];split<;>omega
  refine⟨fun i=>zs.getD i 0,fun hp=>?_,.inr ⟨a,cap,rfl,fun j u hu=>?_⟩⟩
  ·obtain⟨b,off,spot⟩:=a
   have k0:=hc 0 (by omega)
   have hspot:spot=none:=zCB k0
   subst hspot
   refine⟨b,off,rfl,by rw[zAq]at k0;exact zMf _ _ k0,fun i hi=>?_⟩
   have:=hc i (by omega)
   rwa[zAq]at this
  ·rw[List.getElem?_map,Option.map_eq_some_iff]at hu
   obtain⟨z,hz1,rfl⟩:=hu
   have hj:j<len:=by simpa using (zMF.1 hz1).1
   rw[List.getElem?_range hj]at hz1
   cases hz1
   exact hc j (by omega)
theorem zHB {t:TypeId} {fuel:Nat} {cs:List Value} {x:DataW H × List MemPlace} (ht:Tryz.prog.underlying t=some (.slice 9)) (h:DataW.trod enc Tryz.prog w 0 spare held fuel t cs=some x) (hz:Sz t x.1):
  ∃o len cap,cs=[.slice o len cap]∧len*16≤140737488351232∧ ∃fi:Nat→ByteArray,RwV w o len (fun i=> .string (fi i))∧Src w (.slice o len cap) len ((List.range len).map fun i=> .string (fi i)):=by
 obtain⟨o,len,cap,rfl⟩:=zAj ht h
 have hlen:=zBI ht h hz
 rw[show Tryz.prog.bytesOf 9=16 by kernel_rfl]at hlen
 refine⟨o,len,cap,rfl,hlen,?_⟩
 rcases open_strs ht Tryz.underlying9 (by kernel_rfl) h with ⟨h0,_⟩|⟨a,len2,cap2,m,Sx,hcs,_,hl,_,hmm,_,hc⟩
 ·simp only[List.cons.injEq,and_true,Value.slice.injEq]at h0
  obtain⟨rfl,rfl,rfl⟩:=h0
  exact⟨fun _=>⟨#[]⟩,fun hp=>absurd hp (by omega),Src.nil w⟩
 ·simp only[List.cons.injEq,and_true,Value.slice.injEq]at hcs
  obtain⟨rfl,rfl,rfl⟩:=hcs
  have hzl2:len≤m:=by rw[hmm];split<;>omega
  refine⟨Sx,fun hp=>?_,.inr ⟨a,cap,rfl,fun j u hu=>?_⟩⟩
  ·obtain⟨b,off,spot⟩:=a
   have k0:=(hc 0 (by omega)).1
   have hspot:spot=none:=zCB k0
   subst hspot
   refine⟨b,off,rfl,by rw[zAq]at k0;exact zMf _ _ k0,fun i hi=>?_⟩
   have:=(hc i (by omega)).1
   rwa[zAq]at this
  ·rw[List.getElem?_map,Option.map_eq_some_iff]at hu
   obtain⟨z,hz1,rfl⟩:=hu
   have hj:j<len:=by simpa using (zMF.1 hz1).1
   rw[List.getElem?_range hj]at hz1
   cases hz1
   exact(hc j (by omega)).1
theorem zFv {t:TypeId} {fuel:Nat} {cs:List Value} {x:DataW H × List MemPlace} (ht:Tryz.prog.underlying t=some (.slice 62)) (h:DataW.trod enc Tryz.prog w 0 spare held fuel t cs=some x) (hz:Sz t x.1):
  ∃o len cap,cs=[.slice o len cap]∧len*48≤140737488351232∧ ∃ls:List Nat,ls.length=len∧FlM w o ls:=by
 obtain⟨o,len,cap,rfl⟩:=zAj ht h
 have hlen:=zBI ht h hz
 rw[show Tryz.prog.bytesOf 62=48 by kernel_rfl]at hlen
 refine⟨o,len,cap,rfl,hlen,?_⟩
 rcases open_slice ht h with ⟨h0,_⟩|⟨a,len2,cap2,m,n',D,Pl,hcs,hb,hl,hmx,hmm,rfl,hi⟩
 ·simp only[List.cons.injEq,and_true,Value.slice.injEq]at h0
  obtain⟨rfl,rfl,rfl⟩:=h0
  exact⟨[],rfl,fun hp=>absurd hp (by simp)⟩
 ·simp only[List.cons.injEq,and_true,Value.slice.injEq]at hcs
  obtain⟨rfl,rfl,rfl⟩:=hcs
  have hlm:len≤m:=by rw[hmm];split<;>omega
  have hel:=(Sz.slice ht hz).2
  rw[show Tryz.prog.cellsOf 62=3 by kernel_rfl]at hi
  have hall: ∀i,i<len→ ∃t:Nat,t≤140737488355328∧(∃v,w.cell? (a.add (i*3))=some v)∧ ∃ob cb,w.cell? (a.add (i*3+1))=some (.slice ob t cb):=fun i hil=>by
   obtain⟨cs',hc,ht'⟩:=hi i (by omega)
   obtain⟨_,hl2,hat⟩:=World.cells?_some hc
   have hd:=hel (D i) (List.mem_map.2 ⟨i,List.mem_range.2 hil,rfl⟩)
   obtain⟨xs,n2,_,hx,_,hxl,hf⟩:=DataW.trod_struct Tryz.underlying62 ht'
   obtain⟨x0,x1,x2,rfl⟩:=zCr hxl
   have h1:=fld hf (i:=1) (ty:=46) (off:=1) (k:=1) rfl rfl rfl (by kernel_rfl)
   simp only[List.getElem?_cons_zero,List.getElem?_cons_succ]at h1
   have hx1:D i= .agg [x0.1,x1.1,x2.1]:=congrArg Prod.fst hx
   rw[hx1]at hd
   obtain⟨ob,lb,cb,e2⟩:=zAj Tryz.underlying46 h1
   rw[e2]at h1
   have h3:=zBI Tryz.underlying46 h1 (Sz.fld Tryz.underlying62 hd (i:=1) rfl rfl)
   rw[show Tryz.prog.bytesOf 5=1 by kernel_rfl,Nat.mul_one]at h3
   have h4:=hat 1 (by decide)
   rw[add_add,zBG e2]at h4
   have h5:=hat 0 (by decide)
   rw[add_add,Nat.add_zero]at h5
   exact⟨lb,zMV h3 (by decide),⟨_,h5.trans (zMP (by rw[hl2];decide))⟩,ob,cb,h4⟩
  obtain⟨L,hL,hLL⟩:=zBl hall
  refine⟨L,hL,fun hp=>?_⟩
  obtain⟨b,off,spot⟩:=a
  obtain⟨_,_,⟨_,k0⟩,_⟩:=hall 0 (by omega)
  have hspot:spot=none:=zCB k0
  subst hspot
  refine⟨b,off,rfl,by rw[zAq]at k0;exact zMf _ _ k0,fun i t ht=>?_⟩
  obtain⟨e1,_,ob,cb,e2⟩:=hLL i t ht
  rw[zAq]at e2
  exact⟨e1,ob,cb,e2⟩
theorem zIE {n:Nat} {cs:List Value} {x:DataW H × List MemPlace} (h:DataW.trod enc Tryz.prog w 0 spare held n 26 cs=some x) (hz:Sz 26 x.1):
  ∃oc n cc ot m ct of_ k cf q,∃(L:List Cx) (ti:Nat→Int) (fi:Nat→ByteArray),cs=[.slice oc n cc,.slice ot m ct,.slice of_ k cf,.bool q]∧PgI w oc n cc ot m ct of_ k cf L ti fi∧ ∀c∈L,c.T.length≤c.ct:=by
 obtain⟨xs,n',_,hx,hl,hxl,hf⟩:=DataW.trod_struct Tryz.underlying26 h
 have hl2:cs.length=4:=hl.trans (by kernel_rfl)
 obtain⟨c0,c1,c2,c3,rfl⟩:=zD1 hl2
 obtain⟨x0,x1,x2,x3,rfl⟩:=zD1 hxl
 have h0:=fld hf (i:=0) (ty:=22) (off:=0) (k:=1) rfl rfl rfl (by kernel_rfl)
 have h1:=fld hf (i:=1) (ty:=23) (off:=1) (k:=1) rfl rfl rfl (by kernel_rfl)
 have h2:=fld hf (i:=2) (ty:=24) (off:=2) (k:=1) rfl rfl rfl (by kernel_rfl)
 have h3:=fld hf (i:=3) (ty:=4) (off:=3) (k:=1) rfl rfl rfl (by kernel_rfl)
 simp only[List.drop_zero,List.take_succ_cons,List.take_zero,List.drop_succ_cons,List.getElem?_cons_zero,List.getElem?_cons_succ]at h0 h1 h2 h3
 have hx1:x.1= .agg [x0.1,x1.1,x2.1,x3.1]:=congrArg Prod.fst hx
 rw[hx1]at hz
 obtain⟨oc,nc,cc,e0,z0,l0,L,hL,hi,htc⟩:=zIG Tryz.underlying22 h0 (Sz.fld Tryz.underlying26 hz (i:=0) rfl rfl)
 obtain⟨ot,m,ct,e1,z1,ti,r1,s1⟩:=zHC Tryz.underlying23 h1 (Sz.fld Tryz.underlying26 hz (i:=1) rfl rfl)
 obtain⟨of_,k,cf,e2,z2,fi,r2,s2⟩:=zHB Tryz.underlying24 h2 (Sz.fld Tryz.underlying26 hz (i:=2) rfl rfl)
 obtain⟨q,e3,_⟩:=DataW.trod_bool Tryz.underlying4 h3
 simp only[List.cons.injEq,and_true]at e0 e1 e2 e3
 subst e0 e1 e2 e3
 exact⟨oc,nc,cc,ot,m,ct,of_,k,cf,q,L,ti,fi,rfl,⟨hi,hL,z0,l0,s1,r1,z1,s2,r2,z2⟩,htc⟩
theorem zIB {n:Nat} {cs:List Value} {x:DataW H × List MemPlace} (h:DataW.trod enc Tryz.prog w 0 spare held n 31 cs=some x) (hz:Sz 31 x.1):
  ∃ol m cl of_ k cf fa er la,∃(LL:List Lin) (FL:List Nat),cs=[.slice ol m cl,.slice of_ k cf,.int .i64 fa,.int .i64 er,.bool la]∧m*24≤140737488355328∧LL.length=m∧LnM w ol LL∧k*48≤140737488351232∧FL.length=k∧FlM w of_ FL:=by
 obtain⟨xs,n',_,hx,hl,hxl,hf⟩:=DataW.trod_struct Tryz.underlying31 h
 have hl2:cs.length=5:=hl.trans (by kernel_rfl)
 obtain⟨c0,c1,c2,c3,c4,rfl⟩:=zD2 hl2
 obtain⟨x0,x1,x2,x3,x4,rfl⟩:=zD2 hxl
 have h0:=fld hf (i:=0) (ty:=27) (off:=0) (k:=1) rfl rfl rfl (by kernel_rfl)
 have h1:=fld hf (i:=1) (ty:=28) (off:=1) (k:=1) rfl rfl rfl (by kernel_rfl)
 have h2:=fld hf (i:=2) (ty:=3) (off:=2) (k:=1) rfl rfl rfl (by kernel_rfl)
 have h3:=fld hf (i:=3) (ty:=29) (off:=3) (k:=1) rfl rfl rfl (by kernel_rfl)
 have h4:=fld hf (i:=4) (ty:=4) (off:=4) (k:=1) rfl rfl rfl (by kernel_rfl)
 simp only[List.drop_zero,List.take_succ_cons,List.take_zero,List.drop_succ_cons,List.getElem?_cons_zero,List.getElem?_cons_succ]at h0 h1 h2 h3 h4
 have hx1:x.1= .agg [x0.1,x1.1,x2.1,x3.1,x4.1]:=congrArg Prod.fst hx
 rw[hx1]at hz
 obtain⟨ol,m,cl,e0,z0,LL,hL,hi⟩:=zID Tryz.underlying27 h0 (Sz.fld Tryz.underlying31 hz (i:=0) rfl rfl)
 obtain⟨of_,k,cf,e1,z1,FL,hF,hj⟩:=zFv Tryz.underlying28 h1 (Sz.fld Tryz.underlying31 hz (i:=1) rfl rfl)
 obtain⟨fa,e2,_,_⟩:=DataW.trod_int Tryz.underlying3 h2
 obtain⟨er,e3,_,_⟩:=DataW.trod_int Tryz.underlying29 h3
 obtain⟨la,e4,_⟩:=DataW.trod_bool Tryz.underlying4 h4
 simp only[List.cons.injEq,and_true]at e0 e1 e2 e3 e4
 subst e0 e1 e2 e3 e4
 exact⟨ol,m,cl,of_,k,cf,fa,er,la,LL,FL,rfl,z0,hL,hi,z1,hF,hj⟩
end
end
section
open Go.RowKit
theorem zHI (n:Int) {w:World} :Calls Tryz.prog 20 #[.int .i64 n] w fun e w'=>e= .returned (.bool (decide (2147483647<n)))∧w=w':=by
 go_enter Tryz.func20,Tryz.ntmps20
 go_wp2_with fail
 go_ret
 exact⟨rfl,rfl⟩
structure CxQ (c:Cx) (s:Nat):Prop where
 a:c.T.length+c.R.length+c.ra.length+c.rb.length+c.P.length≤s
 p: ∀p∈c.P,p.T.length≤s
theorem CxQ.mono {c:Cx} {s t:Nat} (h:CxQ c s) (hs:s≤t):CxQ c t:=⟨zMV h.a hs,fun p hp=>zMV (h.p p hp) hs⟩
def CtQ (cs:List Cx) (i s:Nat):Prop:= ∀j c,j<i→cs[j]?=some c→CxQ c s∨2147483648≤s
theorem CtQ.mono {cs:List Cx} {i s t:Nat} (h:CtQ cs i s) (hs:s≤t):CtQ cs i t:=fun j c hj hc=>(h j c hj hc).elim (fun e=> .inl (e.mono hs)) fun e=> .inr (zMV e hs)
section
variable {w:World} {oc ot of_ ol og:Option Addr} {n cc m ct k cf ml cl fl cg:Nat} {cs:List Cx} {ti:Nat→Int} {fi:Nat→ByteArray} {LL:List Lin} {FL:List Nat}
theorem zJS (hp:PgI w oc n cc ot m ct of_ k cf cs ti fi) (hl:LnM w ol LL) (hll:LL.length=ml) (hlz:ml*24≤140737488355328) (hf:FlM w og FL) (hfl:FL.length=fl) (hfz:fl*48≤140737488351232) (fa er:Int) (la q:Bool):
  Calls Tryz.prog 4 #[.agg #[.slice ol ml cl,.slice og fl cg,.int .i64 fa,.int .i64 er,.bool la],.agg #[.slice oc n cc,.slice ot m ct,.slice of_ k cf,.bool q]] w fun e w'=>(∃b,e= .returned (.bool b)∧(b=false→ ∀c∈cs,CxQ c 2147483647))∧Below w.heap.size w w':=by
 have hba:Below w.heap.size w ((w.alloc (.cells #[.slice ol ml cl,.slice og fl cg,.int .i64 fa,.int .i64 er,.bool la] 31)).alloc (.cells #[.slice oc n cc,.slice ot m ct,.slice of_ k cf,.bool q] 26)):=((zL9 _ _).alloc (zMA _) _).alloc (by simp) _
 have e1:(w.alloc (.cells #[.slice ol ml cl,.slice og fl cg,.int .i64 fa,.int .i64 er,.bool la] 31)).heap.size=w.heap.size+1:=by simp
 have hp0:=zAL (w.alloc (.cells #[.slice ol ml cl,.slice og fl cg,.int .i64 fa,.int .i64 er,.bool la] 31)) #[.slice oc n cc,.slice ot m ct,.slice of_ k cf,.bool q] 26
 rw[e1]at hp0
 have hr: ∀j,((w.alloc (.cells #[.slice ol ml cl,.slice og fl cg,.int .i64 fa,.int .i64 er,.bool la] 31)).alloc (.cells #[.slice oc n cc,.slice ot m ct,.slice of_ k cf,.bool q] 26)).cell? ⟨w.heap.size,j,none⟩=(#[.slice ol ml cl,.slice og fl cg,.int .i64 fa,.int .i64 er,.bool la]:Array Value)[j]?:=fun j=>(zMC (a:=⟨w.heap.size,j,none⟩) (zMM _ _ (zAl _ _))).trans (zAL _ _ _ j)
 have HL:=zL8 (hl.below hba)
 have HF:=zL8 (hf.below hba)
 have HP:=zL8 (hp.below hba)
 have HB:=zL8 hba
 have HLL:=zL8 hll
 have HFL:=zL8 hfl
 have HCN:=zL8 hp.cn
 have HNZ:=zL8 hp.cz
 have HSZ:Hid (w.heap.size+1<((w.alloc (.cells #[.slice ol ml cl,.slice og fl cg,.int .i64 fa,.int .i64 er,.bool la] 31)).alloc (.cells #[.slice oc n cc,.slice ot m ct,.slice of_ k cf,.bool q] 26)).heap.size):=zL8 (by simp)
 have r0:=hr 0
 have r1:=hr 1
 have p0:=hp0 0
 have p1:=hp0 1
 have p2:=hp0 2
 have z1:(m:Int)≤17592186043904:=by have:=hp.tz;omega
 have z2:(k:Int)≤8796093021952:=by have:=hp.fz;omega
 have z3:(ml:Int)≤5864062014806:=by omega
 have z4:(fl:Int)≤2932031007403:=by omega
 have z5:(n:Int)≤319857928070:=by have:=hp.cz;omega
 clear hl hll hlz hf hfl hfz hp hba e1 hp0 hr
 go_enter Tryz.func4,Tryz.ntmps4
 go_upto_region 1 with fail
 obtain⟨W,hW⟩: ∃W,(w.alloc (.cells #[.slice ol ml cl,.slice og fl cg,.int .i64 fa,.int .i64 er,.bool la] 31)).alloc (.cells #[.slice oc n cc,.slice ot m ct,.slice of_ k cf,.bool q] 26)=W:=⟨_,rfl⟩
 rw[hW]at HL HF HP HB HSZ r0 r1 p0 p1 p2 ⊢
 clear hW
 obtain⟨c,hcz⟩: ∃c,w.heap.size=c:=⟨_,rfl⟩
 rw[hcz]at HSZ HB r0 r1 p0 p1 p2 ⊢
 have HW0:Hid (∀ {X:World},Below c w X→Below w.heap.size w X):=zL8 fun h=>by rw[hcz];exact h
 clear hcz
 replace r0:W.cell? ⟨c,0,none⟩=some (.slice ol ml cl):=r0
 replace r1:W.cell? ⟨c,1,none⟩=some (.slice og fl cg):=r1
 replace p0:W.cell? ⟨c+1,0,none⟩=some (.slice oc n cc):=p0
 replace p1:W.cell? ⟨c+1,1,none⟩=some (.slice ot m ct):=p1
 replace p2:W.cell? ⟨c+1,2,none⟩=some (.slice of_ k cf):=p2
 have hc1:=HSZ.out
 have hc0:c<W.heap.size:=by omega
 go_wp2_with fail
 go_loopg [5,6] (ml+1) (fun gk nv iv wr=> ∃i s:Nat,nv= .int .i64 (s:Nat)∧iv= .int .i64 (i:Nat)∧gk=ml+1 - i∧i≤ml∧s≤281474976710656∧wr=W)
 case atStart=>exact⟨0,fl+ml+m+k,by go_num,rfl,rfl,by omega,by omega,rfl⟩
 case round=>
 obtain⟨i,s,rfl,rfl,hgk,him,hss,hwr⟩:=hrel
 have HGK:=zL8 hgk
 have HIM:=zL8 him
 have HSS:=zL8 hss
 subst hwr
 clear hgk him hss
 go_upto_region 3 with fail
 go_cut [34] (fun xb wc=>xb= .bool (decide (i<ml∧s<2147483648))∧wr=wc)
 case first=>
  by_cases h1:i<ml
  ·have h1':(i:Int)<(ml:Int):=by omega
   by_cases h2:s<2147483648
   ·have h2':(s:Int)<2147483648:=by omega
    have hd:decide (i<ml∧s<2147483648)=true:=zMJ ⟨h1,h2⟩
    go_wp2_with fail
    go_meet
    exact⟨by rw[hd],rfl⟩
   ·have h2': ¬(s:Int)<2147483648:=by omega
    have hd:decide (i<ml∧s<2147483648)=false:=zMK fun e=>h2 e.2
    go_wp2_with fail
    go_meet
    exact⟨by rw[hd],rfl⟩
  ·have h1': ¬(i:Int)<(ml:Int):=by omega
   have hd:decide (i<ml∧s<2147483648)=false:=zMK fun e=>h1 e.1
   go_wp2_with fail
   go_meet
   exact⟨by rw[hd],rfl⟩
 case rest=>
 obtain⟨hx,hw⟩:=hcut
 subst hw
 by_cases hb:i<ml∧s<2147483648
 ·rw[zMJ hb]at hx
  subst hx
  have h1':(i:Int)<(ml:Int):=by omega
  obtain⟨nb,no,rfl,hnb,hcell⟩:=HL.out (by have:=HLL.out;omega)
  obtain⟨l,hlg⟩: ∃l,LL[i]?=some l:=⟨_,zMP (by have:=HLL.out;omega)⟩
  obtain⟨e1,_,e2,_⟩:=hcell i l hlg
  have e2':(l.T.length:Int)≤140737488355328:=by omega
  have hss':(s:Int)<2147483648:=by omega
  have HHB:=zL8 hb
  clear hcell hlg hb e2
  go_wp2_with fail
  go_roundg (ml+1 - (i+1))
  case measure=>have:=HGK.out;have:=HHB.out;omega
  case rel=>exact⟨i+1,s+l.T.length,by go_num,by go_num,rfl,by have:=HHB.out;omega,by have:=HHB.out;omega,rfl⟩
 rw[zMK hb]at hx
 subst hx
 clear hb HIM HGK r0 HL
 have HS0:=zL8 HSS.out
 obtain⟨s0,hs0⟩: ∃s0,s=s0:=⟨_,rfl⟩
 rw[hs0]at HS0 ⊢
 clear hs0 HSS
 go_wp2_with fail
 rename World=>X
 go_loopg [5,7] (fl+1) (fun gk nv iv wr=> ∃i s:Nat,nv= .int .i64 (s:Nat)∧iv= .int .i64 (i:Nat)∧gk=fl+1 - i∧i≤fl∧s≤281474976710656∧wr=X)
 case atStart=>exact⟨0,s0,rfl,rfl,rfl,by omega,HS0.out,rfl⟩
 case round=>
 obtain⟨i,s,rfl,rfl,hgk,him,hss,hwr⟩:=hrel
 have HGK:=zL8 hgk
 have HIM:=zL8 him
 have HSS:=zL8 hss
 subst hwr
 clear hgk him hss
 go_upto_region 7 with fail
 go_cut [53] (fun xb wc=>xb= .bool (decide (i<fl∧s<2147483648))∧wr=wc)
 case first=>
  by_cases h1:i<fl
  ·have h1':(i:Int)<(fl:Int):=by omega
   by_cases h2:s<2147483648
   ·have h2':(s:Int)<2147483648:=by omega
    have hd:decide (i<fl∧s<2147483648)=true:=zMJ ⟨h1,h2⟩
    go_wp2_with fail
    go_meet
    exact⟨by rw[hd],rfl⟩
   ·have h2': ¬(s:Int)<2147483648:=by omega
    have hd:decide (i<fl∧s<2147483648)=false:=zMK fun e=>h2 e.2
    go_wp2_with fail
    go_meet
    exact⟨by rw[hd],rfl⟩
  ·have h1': ¬(i:Int)<(fl:Int):=by omega
   have hd:decide (i<fl∧s<2147483648)=false:=zMK fun e=>h1 e.1
   go_wp2_with fail
   go_meet
   exact⟨by rw[hd],rfl⟩
 case rest=>
 obtain⟨hx,hw⟩:=hcut
 subst hw
 by_cases hb:i<fl∧s<2147483648
 ·rw[zMJ hb]at hx
  subst hx
  have h1':(i:Int)<(fl:Int):=by omega
  obtain⟨nb,no,rfl,hnb,hcell⟩:=HF.out (by have:=HFL.out;omega)
  obtain⟨t,htg⟩: ∃t,FL[i]?=some t:=⟨_,zMP (by have:=HFL.out;omega)⟩
  obtain⟨e2,ob,cb,e1⟩:=hcell i t htg
  have e2':(t:Int)≤140737488355328:=by omega
  have hss':(s:Int)<2147483648:=by omega
  have HHB:=zL8 hb
  clear hcell htg hb e2
  go_wp2_with fail
  go_roundg (fl+1 - (i+1))
  case measure=>have:=HGK.out;have:=HHB.out;omega
  case rel=>exact⟨i+1,s+t,by go_num,by go_num,rfl,by have:=HHB.out;omega,by have:=HHB.out;omega,rfl⟩
 rw[zMK hb]at hx
 subst hx
 clear hb HIM HGK r1 HF
 have HS0:=zL8 HSS.out
 obtain⟨s0,hs0⟩: ∃s0,s=s0:=⟨_,rfl⟩
 rw[hs0]at HS0 ⊢
 clear hs0 HSS
 go_wp2_with fail
 clear p1 p2 z3 z4
 have P0:=zL8 p0
 have HC1:=zL8 hc1
 clear p0 hc1 hc0
 rename World=>X
 go_loopg [5,8] (n+1) (fun gk nv iv wr=> ∃i s:Nat,nv= .int .i64 (s:Nat)∧iv= .int .i64 (i:Nat)∧gk=n+1 - i∧i≤n∧s≤2000000000000000∧CtQ cs i s∧Below X.heap.size X wr)
 case atStart=>exact⟨0,s0,rfl,rfl,rfl,by omega,by have:=HS0.out;omega,fun j c hj=>absurd hj (by omega),zL9 _ _⟩
 case round=>
 obtain⟨i,s,rfl,rfl,hgk,him,hss,hct,hbw⟩:=hrel
 have HGK:=zL8 hgk
 have HIM:=zL8 him
 have HSS:=zL8 hss
 have HCT:=zL8 hct
 have HBW:=zL8 hbw
 have p0:wr.cell? ⟨c+1,0,none⟩=some (.slice oc n cc):=(hbw.cell (p:=⟨c+1,0,none⟩) HC1.out).trans P0.out
 have hcw:c+1<wr.heap.size:=zMB HC1.out hbw.size
 clear hgk him hss hct hbw
 go_upto_region 11 with fail
 go_cut [73] (fun xb wc=>xb= .bool (decide (i<n∧s<2147483648))∧wr=wc)
 case first=>
  by_cases h1:i<n
  ·have h1':(i:Int)<(n:Int):=by omega
   by_cases h2:s<2147483648
   ·have h2':(s:Int)<2147483648:=by omega
    have hd:decide (i<n∧s<2147483648)=true:=zMJ ⟨h1,h2⟩
    go_wp2_with fail
    go_meet
    exact⟨by rw[hd],rfl⟩
   ·have h2': ¬(s:Int)<2147483648:=by omega
    have hd:decide (i<n∧s<2147483648)=false:=zMK fun e=>h2 e.2
    go_wp2_with fail
    go_meet
    exact⟨by rw[hd],rfl⟩
  ·have h1': ¬(i:Int)<(n:Int):=by omega
   have hd:decide (i<n∧s<2147483648)=false:=zMK fun e=>h1 e.1
   go_wp2_with fail
   go_meet
   exact⟨by rw[hd],rfl⟩
 case rest=>
 obtain⟨hx,hw⟩:=hcut
 subst hw
 by_cases hb:i<n∧s<2147483648
 case neg=>
  rw[zMK hb]at hx
  subst hx
  have HNB:=zL8 hb
  clear hb p0 hcw
  have HLC:=zL8 (zHI (w:=wr) (s:Int))
  obtain⟨R,hR⟩: ∃R,decide (2147483647<(s:Int))=R:=⟨_,rfl⟩
  rw[hR]at HLC
  have HR:=zL8 hR
  clear hR
  go_wp2_with fail
  refine HLC.out.mono ?_;rintro e w9 ⟨rfl,hw9⟩
  subst hw9
  go_wp2_with fail
  go_ret
  refine⟨⟨R,rfl,fun h x hx=>?_⟩,HW0.out (HB.out.trans (HBW.out.mono (by have:=HC1.out;omega)))⟩
  have h1: ¬(2147483647:Int)<(s:Int):=of_decide_eq_false (HR.out.trans h)
  have h2:i=n:=by have:=HNB.out;have:=HIM.out;omega
  obtain⟨j,hj⟩:=List.mem_iff_getElem?.1 hx
  rcases HCT.out j x (by have:=(zMF.1 hj).1;have:=HCN.out;omega) hj with h3|h3
  ·exact h3.mono (by omega)
  ·omega
 rw[zMJ hb]at hx
 subst hx
 have h1':(i:Int)<(n:Int):=by omega
 have HHB:=zL8 hb
 clear hb
 obtain⟨x,hxi⟩: ∃x,cs[i]?=some x:=⟨_,zMP (by have:=HCN.out;have:=HHB.out;omega)⟩
 obtain⟨nb,no,rfl,hnb,hrg,hxm⟩:=(HP.out.c.below HBW.out) i x hxi
 have HXM:=zL8 hxm
 have HXI:=zL8 hxi
 have HRG:=zL8 hrg
 have HCI:Hid ((Tryz.prog.info? 71).map (·.size)=some x.l.length):=zL8 (by rw[hxm.i.ci.cl.len];exact zAd)
 have HSZ2:=zL8 (zA2 hxm.i.ci.cl)
 have HSO:Hid (Tryz.zeroCells71.size=x.l.toArray.size):=zL8 (by rw[←Array.length_toList,List.size_toArray,zAo,hxm.i.ci.cl.len])
 have HON:Hid (x.l.toArray.all (·.oneCell')=true):=zL8 (by rw[←Array.all_toList,List.all_eq_true];simpa using hxm.i.ci.cl.one)
 have HHN:=zL8 (zML wr (.cells Tryz.zeroCells71 71))
 have hbe:Below wr.heap.size wr ((wr.alloc (.cells Tryz.zeroCells71 71)).setRow wr.heap.size x.l.toArray):=zAv ((zL9 _ _).alloc (zMA _) _) (zMA _) _
 have HE:Hid (CmB ((wr.alloc (.cells Tryz.zeroCells71 71)).setRow wr.heap.size x.l.toArray) wr.heap.size x.l):=zL8 ⟨setRow_heap _ _ _ _ _ _ HHN.out,hxm.i.ci.cl⟩
 have HX1:=zL8 (hxm.below hbe)
 have HBE:=zL8 (HBW.out.trans (hbe.mono HBW.out.size))
 clear hxi hrg hxm
 go_upto_region 14 with (first|refine wpList_load_mid rfl 71 _ rfl nb (no+i*272) rfl x.l _ HRG.out Tryz.underlying71 rfl HCI.out ?_|refine wpList_store_row rfl 71 _ _ rfl wr.heap.size x.l.toArray rfl rfl _ _ HHN.out HSZ2.out HSO.out HON.out ?_)
 obtain⟨X1,hX⟩: ∃X,(wr.alloc (.cells Tryz.zeroCells71 71)).setRow wr.heap.size x.l.toArray=X:=⟨_,rfl⟩
 rw[hX]at HE HX1 HBE ⊢
 obtain⟨e,he⟩: ∃e,wr.heap.size=e:=⟨_,rfl⟩
 rw[he]at HE ⊢
 clear hX hbe HRG HHN HSO HON he hnb p0 hcw HXM
 have k9:=(HE.out.cell 9).trans HX1.out.i.e9
 have k10:=(HE.out.cell 10).trans HX1.out.i.e10
 have k2:=(HE.out.cell 2).trans HX1.out.i.ci.a2
 have k5:=(HE.out.cell 5).trans HX1.out.i.ci.b2
 have k11:=(HE.out.cell 11).trans HX1.out.i.e11
 have kl:=HE.out.lt
 have y1:(x.T.length:Int)≤140737488355328:=by have:=HX1.out.i.tz;omega
 have y2:(x.R.length:Int)≤1954687338269:=by have:=HX1.out.i.rz;omega
 have y3:(x.ra.length:Int)≤1954687338269:=by have:=HX1.out.i.ci.za;omega
 have y4:(x.rb.length:Int)≤1954687338269:=by have:=HX1.out.i.ci.zb;omega
 have y5:(x.P.length:Int)≤4398046511104:=by have:=HX1.out.i.p.z;omega
 have hss':(s:Int)<2147483648:=by have:=HHB.out;omega
 obtain⟨S,hS⟩: ∃S:Nat,s+x.T.length+x.P.length+x.R.length+x.ra.length+x.rb.length=S:=⟨_,rfl⟩
 have HS:=zL8 hS
 have HSL:Hid (S≤1000000000000000):=zL8 (by omega)
 clear hS
 go_wp2_with fail
 clear k9 k10 k2 k5 k11 kl y1 y2 y3 y4
 go_loopg [5,10] (x.P.length+1) (fun gk nv iv wr=> ∃d u:Nat,nv= .int .i64 (u:Nat)∧iv= .int .i64 (d:Nat)∧gk=x.P.length+1 - d∧d≤x.P.length∧S≤u∧u≤2000000000000000∧(∀(j:Nat) (p:Pce),j<d→x.P[j]?=some p→p.T.length≤u)∧wr=X1)
 case atStart=>exact⟨0,S,congrArg (Value.int .i64) (by have:=HS.out;omega),rfl,rfl,Nat.zero_le _,zMA _,by have:=HSL.out;omega,fun j p hj=>absurd hj (by omega),rfl⟩
 case round=>
 obtain⟨d,u,rfl,rfl,hgk,hdm,hsu,huz,hpu,hwr⟩:=hrel
 have HGK2:=zL8 hgk
 have HDM:=zL8 hdm
 have HSU:=zL8 (And.intro hsu huz)
 have HPU:=zL8 hpu
 subst hwr
 clear hgk hdm hsu huz hpu
 have k11:=(HE.out.cell 11).trans HX1.out.i.e11
 have kl:=HE.out.lt
 obtain⟨s,hsu⟩: ∃s,u=s:=⟨_,rfl⟩
 rw[hsu]at HSU HPU ⊢
 clear hsu
 go_upto_region 16 with fail
 go_cut [112] (fun xb wc=>xb= .bool (decide (d<x.P.length∧s<2147483648))∧wr=wc)
 case first=>
  by_cases h1:d<x.P.length
  ·have h1':(d:Int)<(x.P.length:Int):=by omega
   by_cases h2:s<2147483648
   ·have h2':(s:Int)<2147483648:=by omega
    have hd:decide (d<x.P.length∧s<2147483648)=true:=zMJ ⟨h1,h2⟩
    go_wp2_with fail
    go_meet
    exact⟨by rw[hd],rfl⟩
   ·have h2': ¬(s:Int)<2147483648:=by omega
    have hd:decide (d<x.P.length∧s<2147483648)=false:=zMK fun e=>h2 e.2
    go_wp2_with fail
    go_meet
    exact⟨by rw[hd],rfl⟩
  ·have h1': ¬(d:Int)<(x.P.length:Int):=by omega
   have hd:decide (d<x.P.length∧s<2147483648)=false:=zMK fun e=>h1 e.1
   go_wp2_with fail
   go_meet
   exact⟨by rw[hd],rfl⟩
 case rest=>
 obtain⟨hx,hw⟩:=hcut
 subst hw
 by_cases hb:d<x.P.length∧s<2147483648
 ·rw[zMJ hb]at hx
  subst hx
  have h1':(d:Int)<(x.P.length:Int):=by omega
  obtain⟨nb,no,hoa,nal,hna⟩:=HX1.out.i.p.at_ (by omega)
  obtain⟨p,hp⟩: ∃p,x.P[d]?=some p:=⟨_,zMP hb.1⟩
  obtain⟨_,e2,_,e4⟩:=hna d p hp
  have e4':(p.T.length:Int)≤140737488355328:=by omega
  have hss'':(s:Int)<2147483648:=by omega
  rw[hoa]at k11
  have HHB2:=zL8 hb
  have HPP:=zL8 hp
  clear hna hp hoa hb e4
  go_wp2_with fail
  go_roundg (x.P.length+1 - (d+1))
  case measure=>have:=HGK2.out;have:=HHB2.out;omega
  case rel=>exact⟨d+1,s+p.T.length,by go_num,by go_num,rfl,by have:=HHB2.out;omega,by have:=HSU.out;omega,by have:=HHB2.out;omega,fun j p' hj hp'=>by
   by_cases hjd:j=d
   ·subst hjd
    rw[HPP.out]at hp'
    cases hp'
    omega
   ·have:=HPU.out j p' (by omega) hp'
    omega,rfl⟩
 rw[zMK hb]at hx
 subst hx
 have HNB:=zL8 hb
 clear hb k11 kl
 have HCQ:Hid (CtQ cs (i+1) s):=zL8 fun j y hj hy=>by
  by_cases hji:j=i
  ·subst hji
   rw[HXI.out]at hy
   cases hy
   by_cases hs2:2147483648≤s
   ·exact .inr hs2
   ·refine .inl ⟨by have:=HS.out;have:=HSU.out;omega,fun p hp=>?_⟩
    obtain⟨k,hk⟩:=List.mem_iff_getElem?.1 hp
    exact HPU.out k p (by have:=HNB.out;have:=HDM.out;have:=(zMF.1 hk).1;omega) hk
  ·exact HCT.out.mono (t:=s) (by have:=HS.out;have:=HSU.out;omega) j y (by omega) hy
 have k10:=(HE.out.cell 10).trans HX1.out.i.e10
 have kl:=HE.out.lt
 have HBY:=zL8 (zCY HX1.out.wr HX1.out.zr)
 go_wp2_with fail
 refine HBY.out.mono ?_;rintro en w1 ⟨⟨b1,rfl⟩,hb1⟩
 have HX2:=zL8 (HX1.out.below hb1)
 have HE2:=zL8 (HE.out.below hb1)
 have HBE2:=zL8 (HBE.out.trans (hb1.mono HBE.out.size))
 clear k10 kl hb1 HBY HX1 HE HBE
 cases b1 with
 |true=>
  go_wp2_with fail
  go_ret
  exact⟨⟨true,rfl,fun h=>by cases h⟩,HW0.out (HB.out.trans (HBE2.out.mono (by have:=HC1.out;omega)))⟩
 |false=>
 have k2:=(HE2.out.cell 2).trans HX2.out.i.ci.a2
 have kl:=HE2.out.lt
 have HBY:=zL8 (zCY HX2.out.wa HX2.out.za)
 go_wp2_with fail
 refine HBY.out.mono ?_;rintro en w2 ⟨⟨b2,rfl⟩,hb2⟩
 have HX3:=zL8 (HX2.out.below hb2)
 have HE3:=zL8 (HE2.out.below hb2)
 have HBE3:=zL8 (HBE2.out.trans (hb2.mono HBE2.out.size))
 clear k2 kl hb2 HBY HX2 HE2 HBE2
 cases b2 with
 |true=>
  go_wp2_with fail
  go_ret
  exact⟨⟨true,rfl,fun h=>by cases h⟩,HW0.out (HB.out.trans (HBE3.out.mono (by have:=HC1.out;omega)))⟩
 |false=>
 have k5:=(HE3.out.cell 5).trans HX3.out.i.ci.b2
 have kl:=HE3.out.lt
 have HBY:=zL8 (zCY HX3.out.wb HX3.out.zb)
 go_wp2_with fail
 refine HBY.out.mono ?_;rintro en w3 ⟨⟨b3,rfl⟩,hb3⟩
 have HBE4:=zL8 (HBE3.out.trans (hb3.mono HBE3.out.size))
 clear k5 kl hb3 HBY HX3 HE3 HBE3
 cases b3 with
 |true=>
  go_wp2_with fail
  go_ret
  exact⟨⟨true,rfl,fun h=>by cases h⟩,HW0.out (HB.out.trans (HBE4.out.mono (by have:=HC1.out;omega)))⟩
 |false=>
 go_wp2_with fail
 go_roundg (n+1 - (i+1))
 case measure=>have:=HGK.out;have:=HHB.out;omega
 case rel=>exact⟨i+1,s,rfl,by go_num,rfl,by have:=HHB.out;omega,HSU.out.2,HCQ.out,HBE4.out⟩
end
end
section
open Go.RowKit
def ZsO (cs:List Cx) (zs:List Cz):Prop:= ∀(i:Nat) (z:Cz),zs[i]?=some z→ ∃c,cs[i]?=some c∧ZOf c z
section
variable {w w':World} {oc ot of_:Option Addr} {n cc m ct k cf b g h:Nat} {cs:List Cx} {zs:List Cz} {ti:Nat→Int} {fi:Nat→ByteArray} {q:Bool}
theorem CmI.saysZ {o:Option Addr} (hi:CmI w o cs): ∃zs:List Cz,zs.length=cs.length∧ZsO cs zs:=by
 have hall: ∀i,i<cs.length→ ∃z:Cz,∃c,cs[i]?=some c∧ZOf c z:=fun i hl=>by
  obtain⟨c,hc⟩: ∃c,cs[i]?=some c:=⟨_,zMP hl⟩
  obtain⟨_,_,_,_,_,hm⟩:=hi i c hc
  obtain⟨z,h1,h2,h3,h4,h5,h6⟩:=hm.cz
  exact⟨z,c,hc,h1,h2,h3,h4,h5,h6⟩
 obtain⟨L,h1,h2⟩:=zBl hall
 exact⟨L,h1,h2⟩
theorem CxQ.s {c:Cx} (h:CxQ c 2147483647) (ht:c.T.length≤c.ct):CxS c:=
 ⟨by have:=h.a;omega,by have:=h.a;omega,by have:=h.a;omega,by have:=h.a;omega,ht,by have:=h.a;omega,fun p hp=>by have:=h.p p hp;omega⟩
theorem PgI.cx (hp:PgI w oc n cc ot m ct of_ k cf cs ti fi): ∀(i:Nat) (c:Cx),cs[i]?=some c→CxM w c:=fun i c hc=>by
 obtain⟨_,_,_,_,_,hm⟩:=hp.c i c hc
 exact hm
theorem PgI.rrs (hp:PgI w oc n cc ot m ct of_ k cf cs ti fi) (hs: ∀c∈cs,CxS c) (hl:zs.length=n) (hz:ZsO cs zs):RrS w oc n (cs.map (·.l)) (zs.map Cz.rq) where
 ll:=by rw[List.length_map,hp.cn]
 rl:=by rw[List.length_map,hl]
 m:=fun i l hi=>by
  rw[List.getElem?_map,Option.map_eq_some_iff]at hi
  obtain⟨c,hc,rfl⟩:=hi
  obtain⟨nb,no,h1,h2,h3,_⟩:=hp.c i c hc
  exact⟨nb,no,h1,h2,h3⟩
 v:=fun i l c hi hr=>by
  rw[List.getElem?_map,Option.map_eq_some_iff]at hi hr
  obtain⟨c0,hc,rfl⟩:=hi
  obtain⟨z,hz1,rfl⟩:=hr
  obtain⟨c1,hc1,ho⟩:=hz i z hz1
  rw[hc]at hc1
  cases hc1
  exact(hp.cx i _ hc).rr ho (hs _ (zMc hc))
theorem PgW.views (hw:PgW w b g h n m k cs ti fi) (hx: ∀(i:Nat) (c:Cx),cs[i]?=some c→CxM w c) (hn:cs.length=n) (hs: ∀c∈cs,CxS c) (hz:ZsO cs zs) (U:U8V w):
  ∃ls,ls.length=n∧CmS w (some ⟨b,0,none⟩) ls∧ ∀(i:Nat) (l:List Value) (c:Rq) (k:NdK),ls[i]?=some l→(zs.map Cz.rq)[i]?=some c→(cs.map Cx.nk)[i]?=some k→RvC w l c k:=by
 obtain⟨xs,hw⟩:=hw.c
 have hall: ∀i,i<cs.length→ ∃L:List Value,Sub xs (i*272) L∧ ∀c,cs[i]?=some c→ ∃ga gb gt gr gp,zBa w (b+1) c L ga gb gt gr gp:=fun i hl=>by
  obtain⟨c,hc⟩: ∃c,cs[i]?=some c:=⟨_,zMP hl⟩
  obtain⟨L,ga,gb,gt,gr,gp,e1,e2⟩:=hw.at_ i c (by omega) hc
  exact⟨L,e1,fun c' hc'=>by rw[hc]at hc';cases hc';exact⟨_,_,_,_,_,e2⟩⟩
 obtain⟨ls,h1,h2⟩:=zBl hall
 refine⟨ls,by rw[h1,hn],fun i l hi=>⟨b,0,rfl,hw.lt,by rw[Nat.zero_add];exact hw.row (h2 i l hi).1⟩,fun i l c k hi hr hk=>?_⟩
 rw[List.getElem?_map,Option.map_eq_some_iff]at hr hk
 obtain⟨z,hz1,rfl⟩:=hr
 obtain⟨c0,hc,rfl⟩:=hk
 obtain⟨c1,hc1,ho⟩:=hz i z hz1
 rw[hc]at hc1
 cases hc1
 obtain⟨_,_,_,_,_,e2⟩:=(h2 i l hi).2 c0 hc
 exact e2.rv (hx i _ hc) ho (hs _ (zMc hc)) U
theorem PgW.eqL (hw:PgW w b g h n m k cs ti fi) (hx: ∀(i:Nat) (c:Cx),cs[i]?=some c→CxM w c) (hz:ZsO cs zs):EqL w (some ⟨b,0,none⟩) zs:=fun i z hi=>by
 obtain⟨xs,hw⟩:=hw.c
 obtain⟨c,hc,ho⟩:=hz i z hi
 obtain⟨L,ga,gb,gt,gr,gp,e1,e2⟩:=hw.at_ i c (by have:=(zMF.1 hc).1;omega) hc
 exact⟨b,0,L,rfl,hw.lt,by rw[Nat.zero_add];exact hw.row e1,e2.cl,e2.eqW (hx i c hc) ho.a ho.b ho.t ho.r ho.f ho.p⟩
theorem zKo (hx: ∀(i:Nat) (c:Cx),cs[i]?=some c→CxM w c) (hs: ∀c∈cs,CxS c):NkR (cs.map Cx.nk):=fun k hk=>by
 obtain⟨c,hc,rfl⟩:=List.mem_map.1 hk
 obtain⟨i,hi⟩:=List.mem_iff_getElem?.1 hc
 have hm:=hx i c hi
 have h:=hs c hc
 exact⟨c.ra,c.rb,c.R,rfl,⟨h.a,h.b,h.r⟩,hm.wa.kb,hm.wb.kb,hm.wr.kb⟩
theorem PgW.resolve (hw:PgW w b g h n m k cs ti fi) (hx: ∀(i:Nat) (c:Cx),cs[i]?=some c→CxM w c) (hn:cs.length=n) (hl:zs.length=n) (hs: ∀c∈cs,CxS c) (hz:ZsO cs zs) (hnz:n*440≤140737488351232) (U:U8V w):
  ∀W,Below w.heap.size w W→Calls Tryz.prog 26 #[.slice (some ⟨b,0,none⟩) n (n+64),.bool q] W fun e W'=>RzR (zs.map Cz.rq) (cs.map Cx.nk) q W.heap.size e W'∧Below W.heap.size W W':=fun W hW=>by
 obtain⟨ls,h1,h2,h3⟩:=hw.views hx hn hs hz U
 exact zFm h1 (by rw[List.length_map,hl]) (by rw[List.length_map,hn]) (h2.below hW) (fun i l c k e1 e2 e3=>(h3 i l c k e1 e2 e3).below hW) hnz q
theorem PgI.rresolve (hp:PgI w oc n cc ot m ct of_ k cf cs ti fi) (hl:zs.length=n) (hs: ∀c∈cs,CxS c) (hz:ZsO cs zs):
  ∀W,Below w.heap.size w W→Calls Tryz.prog 87 #[.slice oc n cc,.bool q] W fun e W'=>zJ0 (zs.map Cz.rq) cs q W.heap.size e W'∧Below W.heap.size W W':=fun _ hW=>
 zED ((hp.below hW).rrs hs hl hz) (hp.below hW).c hp.cz hp.cl q
theorem PgW.good (hw:PgW w b g h n m k cs ti fi) (hx: ∀(i:Nat) (c:Cx),cs[i]?=some c→CxM w c) (hn:cs.length=n) (hl:zs.length=n) (hs: ∀c∈cs,CxS c) (hz:ZsO cs zs) (hnz:n*440≤140737488351232) (hmz:m*8≤140737488351232) (hkz:k*16≤140737488351232) (U:U8V w):
  ∀W,Below w.heap.size w W→Calls Tryz.prog 24 #[.agg #[.slice (some ⟨b,0,none⟩) n (n+64),.slice (some ⟨g,0,none⟩) m (m+64),.slice (some ⟨h,0,none⟩) k (k+64),.bool q]] W fun e W'=>(∃b,e= .returned (.bool b)∧(b=true↔GdP (zCR (zs.map Cz.rq)) (zAO (zs.map Cz.rq) []) m ti k fi))∧Below W.heap.size W W':=fun W hW=>
 zJY (fun V hV=>hw.resolve hx hn hl hs hz hnz U V (hW.trans (hV.mono hW.size))) (by rw[List.length_map,hl]) (by rw[List.length_map,hn]) (by omega) ((hw.t.rw).below hW) ((hw.f.rw).below hW) (by omega) (by omega)
theorem PgI.rgood (hp:PgI w oc n cc ot m ct of_ k cf cs ti fi) (hl:zs.length=n) (hs: ∀c∈cs,CxS c) (hz:ZsO cs zs):
  ∀W,Below w.heap.size w W→Calls Tryz.prog 32 #[.agg #[.slice oc n cc,.slice ot m ct,.slice of_ k cf,.bool q]] W fun e W'=>(∃b,e= .returned (.bool b)∧(b=true↔GdP (zFn (zs.map Cz.rq)) (zAO (zs.map Cz.rq) []) m ti k fi))∧Below W.heap.size W W':=fun W hW=>by
 have h:=hp.below hW
 exact zH3 (fun V hV=>hp.rresolve hl hs hz V (hW.trans (hV.mono hW.size))) h.c h.cx hz (by rw[List.length_map,hl]) hp.cn hl (by have:=hp.cz;omega) h.tr h.fr (by have:=hp.tz;omega) (by have:=hp.fz;omega)
theorem zJZ {o:Option (List Int)} {fs:List (List Nat)} (h:GdP o fs m ti k fi): ∃tn,o=some tn:=by
 obtain⟨tn,e,_⟩:=h
 exact⟨tn,e⟩
end
end
section
open Go.RowKit
section
variable {w:World}
theorem zDP {ol og:Option Addr} {ml cl fl cg:Nat} {fa er:Int} {la:Bool} :Calls Tryz.prog 5 #[.agg #[.slice ol ml cl,.slice og fl cg,.int .i64 fa,.int .i64 er,.bool la]] w fun e w'=>(∃wb,e= .returned (.pointer (some ⟨wb,0,none⟩))∧wb<w'.heap.size∧w'.cell? ⟨wb,21,none⟩=some (.slice none 0 0))∧Below w.heap.size w w':=by
 have hba:Below w.heap.size w (w.alloc (.cells #[.slice ol ml cl,.slice og fl cg,.int .i64 fa,.int .i64 er,.bool la] 31)):=(zL9 _ _).alloc (zMA _) _
 have hr:=zAL w #[.slice ol ml cl,.slice og fl cg,.int .i64 fa,.int .i64 er,.bool la] 31
 have r0:=hr 0
 have r1:=hr 1
 have r2:=hr 2
 have r3:=hr 3
 have r4:=hr 4
 have rl:=zAl w (.cells #[.slice ol ml cl,.slice og fl cg,.int .i64 fa,.int .i64 er,.bool la] 31)
 have HB:=zL8 hba
 clear hba hr
 go_enter Tryz.func5,Tryz.ntmps5
 go_upto_region 1 with fail
 obtain⟨W,hW⟩: ∃W,w.alloc (.cells #[.slice ol ml cl,.slice og fl cg,.int .i64 fa,.int .i64 er,.bool la] 31)=W:=⟨_,rfl⟩
 rw[hW]at HB r0 r1 r2 r3 r4 rl ⊢
 obtain⟨c,hcz⟩: ∃c,w.heap.size=c:=⟨_,rfl⟩
 have HW0:Hid (∀ {X:World},Below c w X→Below w.heap.size w X):=zL8 fun h=>by rw[hcz];exact h
 rw[hcz]at HB r0 r1 r2 r3 r4 rl ⊢
 clear hW hcz
 replace r0:W.cell? ⟨c,0,none⟩=some (.slice ol ml cl):=r0
 replace r1:W.cell? ⟨c,1,none⟩=some (.slice og fl cg):=r1
 replace r2:W.cell? ⟨c,2,none⟩=some (.int .i64 fa):=r2
 replace r3:W.cell? ⟨c,3,none⟩=some (.int .i64 er):=r3
 replace r4:W.cell? ⟨c,4,none⟩=some (.bool la):=r4
 have HRL:=zL8 rl
 go_wp2_with fail
 go_ret
 exact⟨⟨_,rfl,zAl _ _,zAL _ _ _ 21⟩,HW0.out (HB.out.alloc (Nat.le_of_lt HRL.out) _)⟩
variable {oc ot of_ ol og:Option Addr} {n cc m ct k cf ml cl fl cg:Nat} {cs:List Cx} {ti:Nat→Int} {fi:Nat→ByteArray} {LL:List Lin} {FL:List Nat}
theorem zHF (hp:PgI w oc n cc ot m ct of_ k cf cs ti fi) (htc: ∀c∈cs,c.T.length≤c.ct) (hl:LnM w ol LL) (hll:LL.length=ml) (hlz:ml*24≤140737488355328) (hf:FlM w og FL) (hfl:FL.length=fl) (hfz:fl*48≤140737488351232) (fa er:Int) (la q:Bool) (ht:zBn w) (hu:U8V w):
  Calls Tryz.prog 3 #[.agg #[.slice oc n cc,.slice ot m ct,.slice of_ k cf,.bool q],.agg #[.slice ol ml cl,.slice og fl cg,.int .i64 fa,.int .i64 er,.bool la]] w fun e w'=>e= .returned (.bool true)∧Below w.heap.size w w':=by
 have hp0:=PrB.new w (.slice oc n cc) (.slice ot m ct) (.slice of_ k cf) q
 have hb1:Below w.heap.size w (w.alloc (.cells #[.slice oc n cc,.slice ot m ct,.slice of_ k cf,.bool q] 26)):=(zL9 _ _).alloc (zMA _) _
 have e1:(w.alloc (.cells #[.slice oc n cc,.slice ot m ct,.slice of_ k cf,.bool q] 26)).heap.size=w.heap.size+1:=by simp
 have hrn:=zML (w.alloc (.cells #[.slice oc n cc,.slice ot m ct,.slice of_ k cf,.bool q] 26)) (.cells #[.slice ol ml cl,.slice og fl cg,.int .i64 fa,.int .i64 er,.bool la] 31)
 rw[e1]at hrn
 have hb2:Below (w.alloc (.cells #[.slice oc n cc,.slice ot m ct,.slice of_ k cf,.bool q] 26)).heap.size (w.alloc (.cells #[.slice oc n cc,.slice ot m ct,.slice of_ k cf,.bool q] 26)) ((w.alloc (.cells #[.slice oc n cc,.slice ot m ct,.slice of_ k cf,.bool q] 26)).alloc (.cells #[.slice ol ml cl,.slice og fl cg,.int .i64 fa,.int .i64 er,.bool la] 31)):=(zL9 _ _).alloc (zMA _) _
 have hba:=hb1.trans (hb2.mono hb1.size)
 have HL:=zL8 (hl.below hba)
 have HF:=zL8 (hf.below hba)
 have HI:=zL8 (hp.below hba)
 have HB:=zL8 hba
 have HP:=zL8 (hp0.below hb2)
 have HR:=zL8 hrn
 have HT:=zL8 (ht.below hba)
 have HU:=zL8 (hu.below hba)
 have HLL:=zL8 (And.intro hll (And.intro hlz (And.intro hfl hfz)))
 have HTC:=zL8 htc
 clear hp htc hl hll hlz hf hfl hfz ht hu hp0 hb1 e1 hrn hb2 hba
 go_enter Tryz.func3,Tryz.ntmps3
 go_upto_region 1 with fail
 obtain⟨W,hW⟩: ∃W,(w.alloc (.cells #[.slice oc n cc,.slice ot m ct,.slice of_ k cf,.bool q] 26)).alloc (.cells #[.slice ol ml cl,.slice og fl cg,.int .i64 fa,.int .i64 er,.bool la] 31)=W:=⟨_,rfl⟩
 rw[hW]at HL HF HI HB HP HR HT HU ⊢
 obtain⟨c,hcz⟩: ∃c,w.heap.size=c:=⟨_,rfl⟩
 have HW0:Hid (∀ {X:World},Below c w X→Below w.heap.size w X):=zL8 fun h=>by rw[hcz];exact h
 rw[hcz]at HB HP HR ⊢
 clear hW hcz
 have r0:W.cell? ⟨c+1,0,none⟩=some (.slice ol ml cl):=zMN _ _ 0 _ _ (0,0) HR.out
 have r1:W.cell? ⟨c+1,1,none⟩=some (.slice og fl cg):=zMN _ _ 1 _ _ (0,0) HR.out
 have r2:W.cell? ⟨c+1,2,none⟩=some (.int .i64 fa):=zMN _ _ 2 _ _ (0,0) HR.out
 have r3:W.cell? ⟨c+1,3,none⟩=some (.int .i64 er):=zMN _ _ 3 _ _ (0,0) HR.out
 have r4:W.cell? ⟨c+1,4,none⟩=some (.bool la):=zMN _ _ 4 _ _ (0,0) HR.out
 have rl:=zMf _ _ r0
 have p0:=HP.out.c0
 have p1:=HP.out.c1
 have p2:=HP.out.c2
 have p3:=HP.out.c3
 have pl:=HP.out.lt
 have HLG:=zL8 (zJS (cl:=cl) (cg:=cg) HI.out HL.out HLL.out.1 HLL.out.2.1 HF.out HLL.out.2.2.1 HLL.out.2.2.2 fa er la q)
 go_wp2_with fail
 refine HLG.out.mono ?_;rintro e w1 ⟨⟨b0,rfl,hq0⟩,hb⟩
 have HB1:=zL8 (HB.out.trans (hb.mono (Nat.le_of_lt pl)))
 have HP1:=zL8 (HP.out.below hb)
 have HI1:=zL8 (HI.out.below hb)
 have HR1:=zL8 ((hb.block (c+1) rl).trans HR.out)
 have HT1:=zL8 (HT.out.below hb)
 have HU1:=zL8 (HU.out.below hb)
 have HQ0:=zL8 hq0
 clear hb hq0 r0 r1 r2 r3 r4 rl p0 p1 p2 p3 pl HLG HL HF HI HB HP HR HT HU HLL
 cases b0 with
 |true=>
  go_wp2_with fail
  go_ret
  exact⟨rfl,HW0.out HB1.out⟩
 |false=>
 have HCS:Hid (∀x∈cs,CxS x):=zL8 fun x hx=>(HQ0.out rfl x hx).s (HTC.out x hx)
 clear HQ0
 have r0:w1.cell? ⟨c+1,0,none⟩=some (.slice ol ml cl):=zMN _ _ 0 _ _ (0,0) HR1.out
 have r1:w1.cell? ⟨c+1,1,none⟩=some (.slice og fl cg):=zMN _ _ 1 _ _ (0,0) HR1.out
 have r2:w1.cell? ⟨c+1,2,none⟩=some (.int .i64 fa):=zMN _ _ 2 _ _ (0,0) HR1.out
 have r3:w1.cell? ⟨c+1,3,none⟩=some (.int .i64 er):=zMN _ _ 3 _ _ (0,0) HR1.out
 have r4:w1.cell? ⟨c+1,4,none⟩=some (.bool la):=zMN _ _ 4 _ _ (0,0) HR1.out
 have rl:=zMf _ _ r0
 have HWD:=zL8 (zDP (w:=w1) (ol:=ol) (og:=og) (ml:=ml) (cl:=cl) (fl:=fl) (cg:=cg) (fa:=fa) (er:=er) (la:=la))
 go_wp2_with fail
 refine HWD.out.mono ?_;rintro e w2 ⟨⟨wb,rfl,hwl,hwc⟩,hb⟩
 have HB2:=zL8 (HB1.out.trans (hb.mono (Nat.le_of_lt HP1.out.lt)))
 have HP2:=zL8 (HP1.out.below hb)
 have HI2:=zL8 (HI1.out.below hb)
 have HR2:=zL8 ((hb.block (c+1) rl).trans HR1.out)
 have HT2:=zL8 (HT1.out.below hb)
 have HU2:=zL8 (HU1.out.below hb)
 have HWC2:=zL8 hwc
 clear hb hwl hwc r0 r1 r2 r3 r4 rl HWD HB1 HP1 HI1 HR1 HT1 HU1
 have p0:=HP2.out.c0
 have p1:=HP2.out.c1
 have p2:=HP2.out.c2
 have p3:=HP2.out.c3
 have pl:=HP2.out.lt
 have HWP:=zL8 (zC6 HI2.out HT2.out q)
 go_wp2_with fail
 refine HWP.out.mono ?_;rintro e w3 ⟨⟨b,g,h,rfl,_,hpw⟩,hb⟩
 have HB3:=zL8 (HB2.out.trans (hb.mono (Nat.le_of_lt pl)))
 have HP3:=zL8 (HP2.out.below hb)
 have HI3:=zL8 (HI2.out.below hb)
 have HR3:=zL8 ((hb.block (c+1) (zMG.1 HR2.out).1).trans HR2.out)
 have HT3:=zL8 (HT2.out.below hb)
 have HU3:=zL8 (HU2.out.below hb)
 have HWC3:=zL8 ((hb.cell (zMf _ _ HWC2.out)).trans HWC2.out)
 clear p0 p1 p2 p3 pl HWP HB2 HP2 HI2 HR2 HT2 HU2 HWC2 hb
 have hbe:Below w3.heap.size w3 (w3.alloc (.cells #[.slice (some ⟨b,0,none⟩) n (n+64),.slice (some ⟨g,0,none⟩) m (m+64),.slice (some ⟨h,0,none⟩) k (k+64),.bool q] 26)):=(zL9 _ _).alloc (zMA _) _
 have HW4:=zL8 (hpw.kb (.below hbe))
 have HB4:=zL8 (HB3.out.trans (hbe.mono (Nat.le_of_lt HP3.out.lt)))
 have HP4:=zL8 (HP3.out.below hbe)
 have HI4:=zL8 (HI3.out.below hbe)
 have HR4:=zL8 ((hbe.block (c+1) (zMG.1 HR3.out).1).trans HR3.out)
 have HT4:=zL8 (HT3.out.below hbe)
 have HU4:=zL8 (HU3.out.below hbe)
 have HWC4:=zL8 ((hbe.cell (zMf _ _ HWC3.out)).trans HWC3.out)
 have HQ4:=zL8 (PrB.new w3 (.slice (some ⟨b,0,none⟩) n (n+64)) (.slice (some ⟨g,0,none⟩) m (m+64)) (.slice (some ⟨h,0,none⟩) k (k+64)) q)
 clear hpw hbe HB3 HP3 HI3 HR3 HT3 HU3 HWC3
 go_upto_region 5 with fail
 obtain⟨X4,hX⟩: ∃X,w3.alloc (.cells #[.slice (some ⟨b,0,none⟩) n (n+64),.slice (some ⟨g,0,none⟩) m (m+64),.slice (some ⟨h,0,none⟩) k (k+64),.bool q] 26)=X:=⟨_,rfl⟩
 rw[hX]at HW4 HB4 HP4 HI4 HR4 HT4 HU4 HWC4 HQ4 ⊢
 obtain⟨d,hd⟩: ∃d,w3.heap.size=d:=⟨_,rfl⟩
 rw[hd]at HQ4 ⊢
 clear hX hd
 obtain⟨zs,hzl,hzs⟩:=HI4.out.c.saysZ
 rw[HI4.out.cn]at hzl
 have HZL:=zL8 hzl
 have HZS:=zL8 hzs
 clear hzl hzs
 have HZ:=zL8 (And.intro HI4.out.cn (And.intro HI4.out.cz (And.intro HI4.out.tz HI4.out.fz)))
 have HG:=zL8 (HW4.out.good (q:=q) HI4.out.cx HZ.out.1 HZL.out HCS.out HZS.out HZ.out.2.1 HZ.out.2.2.1 HZ.out.2.2.2 HU4.out)
 have HNW:=zL8 (zI6 (wb:=wb) HG.out (HW4.out.resolve (q:=q) HI4.out.cx HZ.out.1 HZL.out HCS.out HZS.out HZ.out.2.1 HU4.out) zJZ (by rw[List.length_map,HZL.out]) (by rw[List.length_map,HZ.out.1]) (zKo HI4.out.cx HCS.out))
 have q0:=HQ4.out.c0
 have q1:=HQ4.out.c1
 have q2:=HQ4.out.c2
 have q3:=HQ4.out.c3
 have ql:=HQ4.out.lt
 go_wp2_with fail
 refine HNW.out.mono ?_;rintro e w5 ⟨hout,hb⟩
 obtain⟨vm,ev,rfl,hmv⟩: ∃(vm:Option Addr) (ev:Int),e= .returned (.tuple #[.pointer vm,.int .i64 ev])∧(¬GdP (zCR (zs.map Cz.rq)) (zAO (zs.map Cz.rq) []) m ti k fi∧vm=none∧ev=72∨GdP (zCR (zs.map Cz.rq)) (zAO (zs.map Cz.rq) []) m ti k fi∧ev=0∧ ∃mb cb sb,vm=some ⟨mb,0,none⟩∧MaN w5 mb cb sb):=by
  rcases hout with ⟨h1,h2⟩|⟨h1,mb,cb,sb,h2,h3⟩
  ·exact⟨none,72,h2,.inl ⟨h1,rfl,rfl⟩⟩
  ·exact⟨_,0,h2,.inr ⟨h1,rfl,mb,cb,sb,rfl,h3⟩⟩
 have HMV:=zL8 hmv
 have HB5:=zL8 (HB4.out.trans (hb.mono (Nat.le_of_lt HP4.out.lt)))
 have HP5:=zL8 (HP4.out.below hb)
 have HI5:=zL8 (HI4.out.below hb)
 have HR5:=zL8 ((hb.block (c+1) (zMG.1 HR4.out).1).trans HR4.out)
 have HT5:=zL8 (HT4.out.below hb)
 have HWC5:=zL8 ((hb.cell (zMf _ _ HWC4.out)).trans HWC4.out)
 have HQ5:=zL8 (HQ4.out.below hb)
 have HW5:=zL8 (HW4.out.kb (.below hb))
 clear hout hmv hb q0 q1 q2 q3 ql HNW HG HB4 HP4 HI4 HR4 HT4 HU4 HWC4 HQ4 HW4
 go_upto_region 6 with fail
 have r0:w5.cell? ⟨c+1,0,none⟩=some (.slice ol ml cl):=zMN _ _ 0 _ _ (0,0) HR5.out
 have r1:w5.cell? ⟨c+1,1,none⟩=some (.slice og fl cg):=zMN _ _ 1 _ _ (0,0) HR5.out
 have r2:w5.cell? ⟨c+1,2,none⟩=some (.int .i64 fa):=zMN _ _ 2 _ _ (0,0) HR5.out
 have r3:w5.cell? ⟨c+1,3,none⟩=some (.int .i64 er):=zMN _ _ 3 _ _ (0,0) HR5.out
 have r4:w5.cell? ⟨c+1,4,none⟩=some (.bool la):=zMN _ _ 4 _ _ (0,0) HR5.out
 have rl:=zMf _ _ r0
 have p0:=HP5.out.c0
 have p1:=HP5.out.c1
 have p2:=HP5.out.c2
 have p3:=HP5.out.c3
 have pl:=HP5.out.lt
 have HD0:Hid (Below w5.heap.size w5 w5.drew):=zL8 (zL9 _ _).drew
 have HWD:=zL8 (zDP (w:=w5.drew) (ol:=ol) (og:=og) (ml:=ml) (cl:=cl) (fl:=fl) (cg:=cg) (fa:=fa) (er:=er) (la:=la))
 refine zAA (X:=none) 9 [([0,1],2),([],3)] [4,5,6,7,8] (by kernel_rfl) (by kernel_rfl) rfl (fun _ _ _ _ _ h=>h) ?_
 simp only[zAJ,zAC,zAG,zAD,zAB,List.getD_cons_zero,List.getD_cons_succ,List.drop_succ_cons,List.drop_nil]
 repeat (go_big_quiet_step (fail))
 refine wpQuiet_nil ?_
 go_wp2_with fail
 refine HWD.out.mono ?_;rintro e wa ⟨⟨wb2,rfl,_,_⟩,hba⟩
 have HBA:=zL8 hba
 have HIA:=zL8 ((HI5.out.below HD0.out).below hba)
 have HRN:=zL8 (zFo (q:=q) (HIA.out.rgood (q:=q) HZL.out HCS.out HZS.out) HIA.out (some ⟨wb2,0,none⟩))
 clear hba HWD
 dsimp only
 go_wp2_with fail
 refine⟨zAP.of_below HBA.out,?_⟩
 repeat (go_big_quiet_step (fail))
 refine wpQuiet_nil ?_
 go_wp2_with fail
 refine HRN.out.mono ?_;rintro e wz ⟨⟨bf,vf,rfl,hbf⟩,hbz⟩
 have HBZ:=zL8 hbz
 have HBF:=zL8 hbf
 obtain⟨ef,hef⟩: ∃x:Int,(if bf then(0:Int)else 72)=x:=⟨_,rfl⟩
 rw[hef]
 have HEF:=zL8 hef
 clear hbz hbf HRN hef
 dsimp only
 go_wp2_with fail
 refine⟨zAP.of_below HBZ.out,?_⟩
 repeat (go_big_quiet_step (fail))
 refine wpQuiet_nil ?_
 have HDZ:Hid (Below w5.heap.size w5 wz):=zL8 ((HD0.out.trans (HBA.out.mono (zMA _))).trans (HBZ.out.mono HBA.out.size))
 have HB6:=zL8 (HB5.out.trans (HDZ.out.mono (Nat.le_of_lt HP5.out.lt)))
 have HP6:=zL8 (HP5.out.below HDZ.out)
 have HI6:=zL8 (HI5.out.below HDZ.out)
 have HT6:=zL8 (HT5.out.below HDZ.out)
 have HWC6:=zL8 ((HDZ.out.cell (zMf _ _ HWC5.out)).trans HWC5.out)
 have HQ6:=zL8 (HQ5.out.below HDZ.out)
 have HW6:=zL8 (HW5.out.kb (.below HDZ.out))
 have HMV6:Hid (ev=(if bf then 0 else 72)∧(vm=none∧(if bf then(0:Int)else 72)=72∨(if bf then(0:Int)else 72)=0∧ ∃mb cb sb,vm=some ⟨mb,0,none⟩∧MaN wz mb cb sb)):=zL8 (by
  have hsame:=zJE (zs.map Cz.rq)
  have hbf:=HBF.out
  rw[←hsame]at hbf
  rcases HMV.out with ⟨h1,rfl,rfl⟩|⟨h1,rfl,mb,cb,sb,rfl,h2⟩
  ·have:bf=false:=by cases bf with
    |false=>rfl
    |true=>exact absurd (hbf.1 rfl) h1
   subst this
   exact⟨rfl,.inl ⟨rfl,rfl⟩⟩
  ·have:bf=true:=hbf.2 h1
   subst this
   exact⟨rfl,.inr ⟨rfl,mb,cb,sb,rfl,h2.below HDZ.out⟩⟩)
 rw[HEF.out]at HMV6
 obtain rfl:ev=ef:=HMV6.out.1
 have HMV7:=zL8 HMV6.out.2
 clear HEF HMV6 HBF HMV HBZ HBA HIA HD0 HDZ r0 r1 r2 r3 r4 rl p0 p1 p2 p3 pl HB5 HP5 HI5 HR5 HT5 HWC5 HQ5 HW5
 go_upto_region 7 with fail
 go_cut [62] (fun x wc=>x= .bool false∧Below wz.heap.size wz wc)
 case first=>
  have n1:(ev !=ev)=false:=by simp
  have hwc:=HWC6.out
  have hwl:=zMf _ _ hwc
  have HEQ:=zL8 (zCL (cc:=n+64) (ct:=m+64) (cf:=k+64) (cc2:=cc) (ct2:=ct) (cf2:=cf) (zs:=zs) (oc:=some ⟨b,0,none⟩) (oc2:=oc) ⟨HW6.out.eqL HI6.out.cx HZS.out,HW6.out.t.rw,HW6.out.f.rw⟩ ⟨HI6.out.c.eqL HZS.out,HI6.out.tr,HI6.out.fr⟩ HZL.out (by have:=HZ.out.2.1;omega) (by have:=HZ.out.2.2.1;omega) (by have:=HZ.out.2.2.1;omega) (by have:=HZ.out.2.2.2;omega) (by have:=HZ.out.2.2.2;omega) q)
  rcases HMV7.out with ⟨rfl,rfl⟩|⟨rfl,mb,cb,sb,rfl,_⟩
  all_goals (
   have p0:=HP6.out.c0
   have p1:=HP6.out.c1
   have p2:=HP6.out.c2
   have p3:=HP6.out.c3
   have pl:=HP6.out.lt
   have q0:=HQ6.out.c0
   have q1:=HQ6.out.c1
   have q2:=HQ6.out.c2
   have q3:=HQ6.out.c3
   have ql:=HQ6.out.lt
   go_wp2_with fail
   refine HEQ.out.mono ?_;rintro e wy ⟨⟨by1,rfl,hby⟩,hb⟩
   have HBY:=zL8 hb
   obtain rfl:by1=true:=hby.2 (by simp)
   have HSP:=zL8 (zCo (HW6.out.kb (.below hb)) (fun i x hx=>(HI6.out.cx i x hx).below hb) HZ.out.1 HZ.out.2.1 HZ.out.2.2.1 HZ.out.2.2.2 (HT6.out.below hb) q)
   have HQ7:=zL8 (HQ6.out.below hb)
   clear hb hby HEQ hwc hwl p0 p1 p2 p3 pl q0 q1 q2 q3 ql
   have q0:=HQ7.out.c0
   have q1:=HQ7.out.c1
   have q2:=HQ7.out.c2
   have q3:=HQ7.out.c3
   have ql:=HQ7.out.lt
   go_wp2_with fail
   refine HSP.out.mono ?_;rintro e wx ⟨rfl,hb⟩
   have HBX:=zL8 hb
   clear hb HSP q0 q1 q2 q3 ql
   go_wp2_with fail
   go_meet
   exact⟨rfl,HBY.out.trans (HBX.out.mono HBY.out.size)⟩)
 case rest=>
 obtain⟨hx,hbc⟩:=hcut
 subst hx
 have HBC:=zL8 hbc
 have HB8:=zL8 (HB6.out.trans (hbc.mono (Nat.le_of_lt HP6.out.lt)))
 have HMV8:Hid (vm=none∧ev=72∨ev=0∧ ∃mb cb sb,vm=some ⟨mb,0,none⟩∧MaN wc mb cb sb):=zL8 (by
  rcases HMV7.out with h|⟨h,mb,cb,sb,h1,h2⟩
  ·exact .inl h
  ·exact .inr ⟨h,mb,cb,sb,h1,h2.below hbc⟩)
 have HCW:Hid (c≤wc.heap.size):=zL8 (zMV (Nat.le_of_lt HP6.out.lt) hbc.size)
 clear hbc HBC HB6 HMV7 HP6 HI6 HT6 HWC6 HQ6 HW6
 go_upto_region 11 with fail
 have z0:=zAL wc #[.pointer none] 54 0
 have zl:=zAl wc (.cells #[.pointer none] 54)
 have hbz:Below wc.heap.size wc (wc.alloc (.cells #[.pointer none] 54)):=(zL9 _ _).alloc (zMA _) _
 obtain⟨V,hV⟩: ∃V,wc.alloc (.cells #[.pointer none] 54)=V:=⟨_,rfl⟩
 obtain⟨zb,hzb⟩: ∃z,wc.heap.size=z:=⟨_,rfl⟩
 have HB9:=zL8 (HB8.out.trans (hbz.mono HCW.out))
 have HMV9:Hid (vm=none∧ev=72∨ev=0∧ ∃mb cb sb,vm=some ⟨mb,0,none⟩∧MaN (wc.alloc (.cells #[.pointer none] 54)) mb cb sb):=zL8 (by
  rcases HMV8.out with h|⟨h,mb,cb,sb,h1,h2⟩
  ·exact .inl h
  ·exact .inr ⟨h,mb,cb,sb,h1,h2.below hbz⟩)
 have HCV:Hid (c≤V.heap.size):=zL8 (by rw[←hV];exact zMV HCW.out hbz.size)
 rw[hV,hzb]
 rw[hV]at HB9 HMV9
 rw[hV,hzb]at z0
 rw[hV,hzb]at zl
 clear hV hzb hbz HB8 HMV8 HCW
 replace z0:V.cell? ⟨zb,0,none⟩=some (.pointer none):=z0
 have HZ0:=zL8 z0
 clear z0 zl
 go_wp2_with fail
 refine(zKs).mono ?_;rintro e wq ⟨rfl,hwq⟩
 subst hwq
 go_wp2_with fail
 refine(zKr HZ0.out).mono ?_;rintro e wq ⟨rfl,hwq⟩
 subst hwq
 go_wp2_with fail
 refine(zLr).mono ?_;rintro e wq ⟨rfl,hwq⟩
 subst hwq
 go_wp2_with fail
 refine(zLq HZ0.out).mono ?_;rintro e wq ⟨rfl,hwq⟩
 subst hwq
 go_wp2_with fail
 refine(zKI).mono ?_;rintro e wq ⟨rfl,hwq⟩
 subst hwq
 go_wp2_with fail
 refine(zKH HZ0.out).mono ?_;rintro e wq ⟨rfl,hwq⟩
 subst hwq
 go_wp2_with fail
 refine(zIR).mono ?_;rintro e wq ⟨rfl,hwq⟩
 subst hwq
 go_wp2_with fail
 refine(zIQ HZ0.out).mono ?_;rintro e wq ⟨rfl,hwq⟩
 subst hwq
 go_wp2_with fail
 refine(zKx).mono ?_;rintro e wq ⟨rfl,hwq⟩
 subst hwq
 go_wp2_with fail
 refine(zKw HZ0.out).mono ?_;rintro e wq ⟨rfl,hwq⟩
 subst hwq
 go_wp2_with fail
 refine(zK0).mono ?_;rintro e wq ⟨rfl,hwq⟩
 subst hwq
 go_wp2_with fail
 refine(zKz HZ0.out).mono ?_;rintro e wq ⟨rfl,hwq⟩
 subst hwq
 go_wp2_with fail
 refine(zKu).mono ?_;rintro e wq ⟨rfl,hwq⟩
 subst hwq
 go_wp2_with fail
 refine(zKt HZ0.out).mono ?_;rintro e wq ⟨rfl,hwq⟩
 subst hwq
 go_upto_region 15 with fail
 rcases HMV9.out with ⟨rfl,_⟩|⟨_,mb,cb,sb,rfl,hman⟩
 ·have HWK:=zL8 (zDo (w:=V))
  go_wp2_with fail
  refine HWK.out.mono ?_;rintro e wy ⟨rfl,hb⟩
  have HBY:=zL8 hb
  clear hb HWK
  go_wp2_with fail
  go_ret
  exact⟨rfl,HW0.out (HB9.out.trans (HBY.out.mono HCV.out))⟩
 ·have HMN:=zL8 hman
  clear hman
  go_wp2_with fail
  refine(zLs HMN.out).mono ?_;rintro e wq ⟨rfl,hwq⟩
  subst hwq
  go_wp2_with fail
  refine(zKJ HMN.out).mono ?_;rintro e wq ⟨rfl,hwq⟩
  subst hwq
  go_wp2_with fail
  refine(zIS HMN.out).mono ?_;rintro e wy ⟨⟨o1,k1,rfl⟩,hb⟩
  have HM2:=zL8 (HMN.out.below hb)
  have HBY:=zL8 hb
  clear hb
  go_wp2_with fail
  refine(zKy HM2.out).mono ?_;rintro e wx ⟨⟨o2,k2,rfl⟩,hb⟩
  have HM3:=zL8 (HM2.out.below hb)
  have HBX:=zL8 hb
  clear hb
  go_wp2_with fail
  refine(zK1 HM3.out).mono ?_;rintro e wq ⟨rfl,hwq⟩
  subst hwq
  have HWK:=zL8 (zDo (w:=wx))
  go_wp2_with fail
  refine HWK.out.mono ?_;rintro e wv ⟨rfl,hb⟩
  have HBV:=zL8 hb
  clear hb HWK
  go_wp2_with fail
  go_ret
  exact⟨rfl,HW0.out (((HB9.out.trans (HBY.out.mono HCV.out)).trans (HBX.out.mono (zMV HCV.out HBY.out.size))).trans (HBV.out.mono (zMV HCV.out (zMV HBY.out.size HBX.out.size))))⟩
end
end
end Go.Proofs.YtfcemodgopdkkaaGreatDoor
