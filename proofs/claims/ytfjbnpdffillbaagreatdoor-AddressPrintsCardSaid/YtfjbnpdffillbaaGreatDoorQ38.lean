/- Parts: Gj Gt Ha. -/
import Derived.Test.YtfjbnpdffillbaaGreatDoorQ8
import Derived.Test.YtfjbnpdffillbaaGreatDoorQ21
import Derived.Test.YtfjbnpdffillbaaGreatDoorQ20
import Derived.Test.YtfjbnpdffillbaaGreatDoorQ23
import Derived.Test.YtfjbnpdffillbaaGreatDoorQ31
import Derived.Test.YtfjbnpdffillbaaGreatDoorQ37
import Derived.Test.YtfjbnpdffillbaaGreatDoorQ27
import Derived.Shelf.Small.Utf8
import Derived.Shelf.Small.Strs
import Derived.Test.YtfjbnpdffillbaaGreatDoorChecked
import Derived.WalkMore
import Derived.LoopN
namespace Go.Proofs.YtfjbnpdffillbaaGreatDoor
open Go.RowKit
theorem Src.below {w w':World} {v:Value} {m:Nat} {xs:List Value} (h:Src w v m xs) (hb:Below w.heap.size w w'):Src w' v m xs:=by
 rcases h with h|⟨a,c,h,hj⟩
 ·exact .inl h
 ·exact .inr ⟨a,c,h,fun j u hu=>(hb.cell (World.block_lt_of_cell? w _ (hj j u hu))).trans (hj j u hu)⟩
section
variable {w:World} {oa:Option Addr} {cap:Nat} {re:List Nd} {T:List Nat}
theorem NdW.src (h:NdW w oa cap re) (hl:re.length≤4294967296):Src w (.slice oa re.length cap) re.length (ndsC re):=by
 cases oa with
 |none=>
  obtain⟨rfl,rfl⟩:=h.no rfl
  exact .inl ⟨rfl,rfl,rfl⟩
 |some a=>exact NdV.srcAt (h.toV hl)
theorem ret_cell3 {fn:Func} {p:Tmp} (hf:fn.results= #[.cell p 54]) {Q:Ending→World→Prop} {a:Act} {w:World} {b:Nat} {len cp:Nat} {kk nn:Int} (hp:a.tmps.getD p undef= .pointer (some ⟨b,0,none⟩)) (hd:a.defers=[])
  (h:AdB w b (.int .i8 kk) (.int .i64 nn) (.slice oa len cp)) (hQ:Q (.returned (.agg #[.int .i8 kk,.int .i64 nn,.slice oa len cp])) w):bodyPost Tryz.prog fn Q .ret a w:=by
 refine bodyPost_ret (v:= .agg #[.int .i8 kk,.int .i64 nn,.slice oa len cp]) ?_ hd hQ
 have c0:=h.c0
 have c1:=h.c1
 have c2:=h.c2
 rw[results_cell1 hf,hp]
 simp[asAddr,go_sem,c0,c1,c2,Result.andThen]
set_option maxRecDepth 100000 in
set_option maxHeartbeats 1600000 in
theorem copyAddr_call (k n:Int) (hs:Src w (.slice oa re.length cap) re.length (ndsC re)) (hl:re.length*72≤140737488355328):
  Calls Tryz.prog 31 #[.agg #[.int .i8 k,.int .i64 n,.slice oa re.length cap]] w fun e w'=>
   (∃o c,e= .returned (.agg #[.int .i8 k,.int .i64 n,.slice o re.length c])∧Nds w' w.heap.size (.slice o re.length c) re)∧Below w.heap.size w w':=by
 have HC:=Lib.hid (fun W (h:Src W (.slice oa re.length cap) re.length (ndsC re))=>copyNodesS_call (w:=W) h hl)
 have HS:=Lib.hid hs
 have HA:=Lib.hid (AdB.new w (.int .i8 k) (.int .i64 n) (.slice oa re.length cap))
 have hb1:=(Below.refl w.heap.size w).alloc (Nat.le_refl _) (.cells #[.int .i8 k,.int .i64 n,.slice oa re.length cap] 54)
 have HB1:=Lib.hid hb1
 have hsz:(w.alloc (.cells #[.int .i8 k,.int .i64 n,.slice oa re.length cap] 54)).heap.size=w.heap.size+1:=by simp
 have hsrc1:Src (w.alloc (.cells #[.int .i8 k,.int .i64 n,.slice oa re.length cap] 54)) (.slice oa re.length cap) re.length (ndsC re):=by
  rcases hs with h|⟨a,c,h,hj⟩
  ·exact .inl h
  ·exact .inr ⟨a,c,h,fun j u hu=>lt_cell (hj j u hu) _⟩
 clear hs hb1
 go_enter Tryz.func31,Tryz.ntmps31
 go_upto_region 1 with fail
 obtain⟨W1,hW1⟩: ∃W,w.alloc (.cells #[.int .i8 k,.int .i64 n,.slice oa re.length cap] 54)=W:=⟨_,rfl⟩
 rw[hW1]at HA HB1 hsz hsrc1 ⊢
 have HA2:=Lib.hid (HA.out.below ((Below.refl _ _).alloc (Nat.le_refl _) (.cells #[.int .i8 0,.int .i64 0,.slice none 0 0] 54)))
 have HZ:=Lib.hid (AdB.new W1 (.int .i8 0) (.int .i64 0) (.slice none 0 0))
 have HB2:=Lib.hid (HB1.out.alloc HB1.out.size (.cells #[.int .i8 0,.int .i64 0,.slice none 0 0] 54))
 have hsrc2:Src (W1.alloc (.cells #[.int .i8 0,.int .i64 0,.slice none 0 0] 54)) (.slice oa re.length cap) re.length (ndsC re):=by
  rcases hsrc1 with h|⟨a,c,h,hj⟩
  ·exact .inl h
  ·exact .inr ⟨a,c,h,fun j u hu=>lt_cell (hj j u hu) _⟩
 have hsz2:(W1.alloc (.cells #[.int .i8 0,.int .i64 0,.slice none 0 0] 54)).heap.size=w.heap.size+1+1:=by simp[hsz]
 obtain⟨W2,hW2⟩: ∃W,W1.alloc (.cells #[.int .i8 0,.int .i64 0,.slice none 0 0] 54)=W:=⟨_,rfl⟩
 rw[hW2]at HA2 HZ HB2 hsrc2 hsz2 ⊢
 rw[hsz]at HZ
 clear hW1 hW2 HA HB1 hsrc1
 have k0:=HA2.out.c0
 have k1:=HA2.out.c1
 have k2:=HA2.out.c2
 have HX:=Lib.hid (HC.out W2 hsrc2)
 clear hsrc2
 go_wp2_with fail
 refine HX.out.mono ?_;rintro e w3 ⟨⟨v3,rfl,hn3⟩,hb3⟩
 obtain⟨o3,c3,rfl⟩:=hn3.form
 have HA3:=Lib.hid (HA2.out.below hb3)
 have HZ3:=Lib.hid (HZ.out.below hb3)
 have HB3:=Lib.hid (HB2.out.trans (hb3.mono HB2.out.size))
 have hblk:=hn3.lt
 have HN3:=Lib.hid hn3
 have HBK:=Lib.hid hblk
 clear hb3 hn3 hblk k0 k1 k2 HX HC HA2 HZ HB2
 have k0:=HA3.out.c0
 have k1:=HA3.out.c1
 have k2:=HA3.out.c2
 have f0:=HA3.out.fz
 have z0:=HZ3.out.c0
 have z1:=HZ3.out.c1
 have z2:=HZ3.out.c2
 have g0:=HZ3.out.fz
 have hne: ¬w.heap.size+1=w.heap.size:=by omega
 go_wp2_with fail
 refine ret_cell3 (p:=2) (b:=w.heap.size+1) rfl rfl rfl ((HZ3.out.other (by omega) _ _).set (.int .i8 k) (.int .i64 n) (.slice o3 re.length c3)) ⟨⟨o3,c3,rfl,?_⟩,?_⟩
 ·refine ownsRow_mono (ownsRow_of_block HN3.out fun g hg=>?_) (by omega)
  have:=(HBK.out g hg).1
  exact((Below.heap_setCell _ _ _ _ (by show g≠w.heap.size+1;omega)).trans ((Below.heap_setCell _ _ _ _ (by show g≠w.heap.size+1;omega)).trans ((Below.heap_setCell _ _ _ _ (by show g≠w.heap.size+1;omega)).trans (Below.heap_setCell _ _ _ _ (by show g≠w.heap.size;omega)))))
 ·exact(((HB3.out.setCell (Nat.le_refl _) _).setCell (by show w.heap.size≤w.heap.size+1;omega) _).setCell (by show w.heap.size≤w.heap.size+1;omega) _).setCell (by show w.heap.size≤w.heap.size+1;omega) _
end
end Go.Proofs.YtfjbnpdffillbaaGreatDoor
namespace Go.Proofs.YtfjbnpdffillbaaGreatDoor
open Go.RowKit
def NdU (w:World) (oa:Option Addr) (re:List Nd):Prop:=
 0<re.length→ ∃nb no,oa=some ⟨nb,no,none⟩∧nb<w.heap.size∧ ∀i,i<re.length→ ∀j,j<9→w.cell? ⟨nb,no+i*9+j,none⟩=(ndCells (re.getD i Nd.zero))[j]?
section
variable {w w':World} {oa ob:Option Addr} {re:List Nd} {ca cb:Nat}
theorem NdU.below (h:NdU w oa re) (hb:Below w.heap.size w w'):NdU w' oa re:=fun hp=>by
 obtain⟨nb,no,h1,h2,h3⟩:=h hp
 exact⟨nb,no,h1,Nat.lt_of_lt_of_le h2 hb.size,fun i hi j hj=>(hb.cell (p:=⟨nb,no+i*9+j,none⟩) h2).trans (h3 i hi j hj)⟩
theorem NdU.cells {nb no:Nat} (h: ∀i,i<re.length→ ∀j,j<9→w.cell? ⟨nb,no+i*9+j,none⟩=(ndCells (re.getD i Nd.zero))[j]?) {i:Nat} {x:Nd} (hx:re[i]?=some x):
  w.cell? ⟨nb,no+i*9,none⟩=some (.int .i8 x.op)∧w.cell? ⟨nb,no+i*9+1,none⟩=some (.int .u64 x.set.w0.toNat)∧w.cell? ⟨nb,no+i*9+2,none⟩=some (.int .u64 x.set.w1.toNat)∧w.cell? ⟨nb,no+i*9+3,none⟩=some (.int .u64 x.set.w2.toNat)∧w.cell? ⟨nb,no+i*9+4,none⟩=some (.int .u64 x.set.w3.toNat)∧
  w.cell? ⟨nb,no+i*9+5,none⟩=some (.int .i64 x.n)∧w.cell? ⟨nb,no+i*9+6,none⟩=some (.int .i64 x.min)∧w.cell? ⟨nb,no+i*9+7,none⟩=some (.int .i64 x.max)∧w.cell? ⟨nb,no+i*9+8,none⟩=some (.int .i64 x.kids):=by
 have hi:i<re.length:=(List.getElem?_eq_some_iff.1 hx).1
 have hg:re.getD i Nd.zero=x:=by simp[List.getD_eq_getElem?_getD,hx]
 have hc: ∀j,j<9→w.cell? ⟨nb,no+i*9+j,none⟩=(ndCells x)[j]?:=fun j hj=>by
  rw[←hg];exact h i hi j hj
 exact⟨hc 0 (by decide),hc 1 (by decide),hc 2 (by decide),hc 3 (by decide),hc 4 (by decide),hc 5 (by decide),hc 6 (by decide),hc 7 (by decide),hc 8 (by decide)⟩
theorem Nds.toU {base:Nat} {v:Value} (h:Nds w base v re): ∃oa cp,v= .slice oa re.length cp∧NdU w oa re:=by
 rcases h.2 with ⟨rfl,h0⟩|⟨g,cp,cur,rfl,hg1,hg2,hcp,_⟩
 ·exact⟨none,0,by rw[h0],fun h=>by omega⟩
 ·refine⟨_,_,rfl,fun hn=>⟨g,0,rfl,(Array.getElem?_eq_some_iff.1 hg2).1,fun i hi j hj=>?_⟩⟩
  have hc:=World.ownsRow.cellAt h (i*9+j) (by omega)
  rw[show 0+i*9+j=i*9+j by omega,hc,ndsC_at re i j hi hj]
set_option maxRecDepth 100000 in
set_option maxHeartbeats 1600000 in
theorem eqNodesU (ha:NdU w oa re) (hb:NdU w ob re) (z:re.length*72≤140737488355328):
  Calls Tryz.prog 56 #[.slice oa re.length ca,.slice ob re.length cb] w fun e w'=>e= .returned (.bool true)∧Below w.heap.size w w':=by
 have HA:=Lib.hid ha
 have HB:=Lib.hid hb
 have hla:(re.length:Int)≤1954687338269:=by omega
 clear ha hb z
 go_enter Tryz.func56,Tryz.ntmps56
 go_wp2_with fail
 go_loopg [5] re.length (fun n iv wr=> ∃d:Nat,iv= .int .i64 (d:Nat)∧n=re.length - d∧d≤re.length∧Below w.heap.size w wr)
 case atStart=>exact⟨0,rfl,by omega,by omega,Below.refl _ _⟩
 case round=>
  obtain⟨d,rfl,hg,hd,hbe⟩:=hrel
  have HG:=Lib.hid hg
  have HBE:=Lib.hid hbe
  clear hg
  by_cases hlt:d<re.length
  ·have hlt':(d:Int)<(re.length:Int):=by omega
   obtain⟨na,oo,rfl,nal0,hna⟩:=HA.out (by omega)
   obtain⟨nb,ob',rfl,nbl0,hnb⟩:=HB.out (by omega)
   obtain⟨x,hx⟩: ∃x,re[d]?=some x:=⟨_,List.getElem?_eq_getElem hlt⟩
   have hna2: ∀i,i<re.length→ ∀j,j<9→wr.cell? ⟨na,oo+i*9+j,none⟩=(ndCells (re.getD i Nd.zero))[j]?:=fun i hi j hj=>(hbe.cell (p:=⟨na,oo+i*9+j,none⟩) nal0).trans (hna i hi j hj)
   have hnb2: ∀i,i<re.length→ ∀j,j<9→wr.cell? ⟨nb,ob'+i*9+j,none⟩=(ndCells (re.getD i Nd.zero))[j]?:=fun i hi j hj=>(hbe.cell (p:=⟨nb,ob'+i*9+j,none⟩) nbl0).trans (hnb i hi j hj)
   obtain⟨n0,n1,n2,n3,n4,n5,n6,n7,n8⟩:=NdU.cells hna2 hx
   obtain⟨m0,m1,m2,m3,m4,m5,m6,m7,m8⟩:=NdU.cells hnb2 hx
   have nal:na<wr.heap.size:=Nat.lt_of_lt_of_le nal0 hbe.size
   have nbl:nb<wr.heap.size:=Nat.lt_of_lt_of_le nbl0 hbe.size
   have hq:=neq_ndV x x
   have HX:=Lib.hid hx
   clear hna hnb hna2 hnb2 hbe hx nal0 nbl0
   rw[show(!decide (x=x))=false by simp]at hq
   obtain⟨op,⟨x0,x1,x2,x3⟩,xn,xmin,xmax,xk⟩:=x
   simp only[ndV]at n0 n1 n2 n3 n4 n5 n6 n7 n8 m0 m1 m2 m3 m4 m5 m6 m7 m8 hq
   go_wp2_with fail
   refine wp_region_segs (X:=none) 9 [] [0,1,2,3,4,5,6,7,8] (by kernel_rfl) (by kernel_rfl) rfl (fun _ _ _ _ _ h=>h) ?_
   simp only[wpSegs,pickSegs_nil,pickOps_nil,pickOps_cons,List.getD_cons_zero,List.getD_cons_succ,List.drop_succ_cons,List.drop_nil]
   repeat (go_big_quiet_step (fail))
   refine wpQuiet_nil ?_
   go_wp2_with fail
   go_roundg (re.length - (d+1))
   case measure=>have:=HG.out;omega
   case rel=>exact⟨d+1,by go_num,rfl,by omega,HBE.out.drew⟩
  ·have hlt': ¬(d:Int)<(re.length:Int):=by omega
   have hde:d=re.length:=by omega
   subst hde
   go_wp2_with fail
   go_ret
   exact⟨rfl,HBE.out⟩
set_option maxRecDepth 100000 in
set_option maxHeartbeats 1600000 in
theorem eqAddrU (k n:Int) (ha:NdU w oa re) (hb:NdU w ob re) (z:re.length*72≤140737488355328):
  Calls Tryz.prog 16 #[.agg #[.int .i8 k,.int .i64 n,.slice oa re.length ca],.agg #[.int .i8 k,.int .i64 n,.slice ob re.length cb]] w fun e w'=>e= .returned (.bool true)∧Below w.heap.size w w':=by
 have hb1:=((Below.refl w.heap.size w).alloc (Nat.le_refl _) (.cells #[.int .i8 k,.int .i64 n,.slice oa re.length ca] 54)).alloc (by simp) (.cells #[.int .i8 k,.int .i64 n,.slice ob re.length cb] 54)
 have HE:=Lib.hid (eqNodesU (ca:=ca) (cb:=cb) (ha.below hb1) (hb.below hb1) z)
 have HB:=Lib.hid hb1
 clear ha hb hb1
 go_enter Tryz.func16,Tryz.ntmps16
 go_wp2_with fail
 refine HE.out.mono ?_;rintro e w1 ⟨rfl,hb1⟩
 have HB1:=Lib.hid (HB.out.trans (hb1.mono HB.out.size))
 clear hb1
 go_wp2_with fail
 go_ret
 exact⟨rfl,HB1.out⟩
end
end Go.Proofs.YtfjbnpdffillbaaGreatDoor
namespace Go.Proofs.YtfjbnpdffillbaaGreatDoor
open Go.RowKit
theorem num_big (a b:Int) {w:World} (ha:0≤a) (ha2:a≤1000) (hb:0≤b) (hb2:b≤281474976710656):
  Calls Tryz.prog 86 #[.int .i64 a,.int .i64 b] w fun e w'=>e= .returned (.int .i64 (1048576*a+b+1))∧w=w':=by
 go_enter Tryz.func86,Tryz.ntmps86
 go_wp2_with fail
 go_ret
 exact⟨rfl,rfl⟩
set_option maxRecDepth 100000 in
set_option maxHeartbeats 1600000 in
theorem wideNodesU {re:List Nd} {oa:Option Addr} {cap:Nat} {w:World} (hv:NdU w oa re) (hl:re.length≤1954687338269):
  Calls Tryz.prog 78 #[.slice oa re.length cap] w fun e w'=>(∃g,e= .returned (.slice (some ⟨g,0,none⟩) re.length (re.length+64))∧Nds w' w.heap.size (.slice (some ⟨g,0,none⟩) (re.length+64) (re.length+64)) (re++spareL re.length))∧Below w.heap.size w w':=by
 have HV:=Lib.hid hv
 have HL:=Lib.hid hl
 have hl1:(re.length:Int)≤1954687338269:=by omega
 clear hv hl
 obtain⟨i0,hi,hz0,hz1,hz2⟩:=info_parts (elNd).hi
 go_enter Tryz.func78,Tryz.ntmps78
 go_wp2_with (at_make;refine wpList_make_full _ rfl _ _ 52 rfl w.heap.size 78 i0 _ 9 Tryz.underlying52 hi hz0 hz1 .i64 .i64 ((re.length:Int)+64) ((re.length:Int)+64) (re.length+64) rfl rfl (by omega) (by omega) (by rw[hz2];have:=HL.out;omega) (by unfold maxLen;have:=HL.out;omega) (Nat.le_refl _) ?_)
 intro w1 hown hgr
 have hN1:Nds w1 w.heap.size (.slice (some ⟨w.heap.size,0,none⟩) (re.length+64) (re.length+64)) (soFar (re++spareL re.length) (re.length+64) 0):=by
  unfold Nds soFar
  rw[List.take_zero,List.nil_append,Nat.sub_zero,List.length_replicate,←made_zero]
  exact hown
 have HN1:=Lib.hid hN1
 have HB1:=Lib.hid ((Below.refl w.heap.size w).grown hgr (Nat.le_refl _) (fun k hk=>by cases hk))
 have HF:=Lib.hid (show(re++spareL re.length).length=re.length+64 by rw[List.length_append];simp[spareL])
 have hg1:w.heap.size<w1.heap.size:=(hN1.lt _ rfl).2
 clear hown hgr hN1 hi hz0 hz1 hz2
 go_wp2_with fail
 go_loopg [4] (re.length+64) (fun n iv wr=> ∃d:Nat,iv= .int .i64 (d:Nat)∧n=re.length+64 - d∧d≤re.length+64∧Nds wr w.heap.size (.slice (some ⟨w.heap.size,0,none⟩) (re.length+64) (re.length+64)) (soFar (re++spareL re.length) (re.length+64) d)∧Below w.heap.size w wr)
 case atStart=>exact⟨0,rfl,by omega,by omega,HN1.out,HB1.out⟩
 case round=>
  obtain⟨d,rfl,hg2,hd,hn,hb⟩:=hrel
  have HG:=Lib.hid hg2
  have HNN:=Lib.hid hn
  have HB:=Lib.hid hb
  have hgw:w.heap.size<wr.heap.size:=(hn.lt _ rfl).2
  have hsl:=soFar_length HF.out hd
  by_cases hlt:d<re.length+64
  ·have hlt':(d:Int)<(re.length:Int)+64:=by omega
   obtain⟨z0,z1,z2,z3,z4,z5,z6,z7,z8,zf⟩:=hn.nine hsl hlt (soFar_getD HF.out hlt)
   have HSL:=Lib.hid hsl
   clear hg2 hn hb hsl
   by_cases hin:d<re.length
   ·have hin':(d:Int)<(re.length:Int):=by omega
    obtain⟨x,hx⟩: ∃x,re[d]?=some x:=⟨_,List.getElem?_eq_getElem hin⟩
    have HX:=Lib.hid (show(re++spareL re.length)[d]?=some x by rw[List.getElem?_append_left hin];exact hx)
    obtain⟨nb,no,hoa,nbl,hnd⟩:=(HV.out.below HB.out) (by omega)
    obtain⟨n0,n1,n2,n3,n4,n5,n6,n7,n8⟩:=NdU.cells hnd hx
    subst hoa
    clear hnd hx
    go_wp2_with fail
    go_roundg (re.length+64 - (d+1))
    case measure=>have:=HG.out;omega
    case rel=>exact⟨d+1,by go_num,rfl,by omega,by rw[←soFar_set HF.out hlt HX.out];exact Nds.put HNN.out HSL.out hlt x,HB.out.trans (put9_below (Nat.le_refl _) d x)⟩
   ·have hin': ¬(d:Int)<(re.length:Int):=by omega
    have HX:=Lib.hid (show(re++spareL re.length)[d]?=some (spareN d)by
     rw[List.getElem?_append_right (by omega),spareL,List.getElem?_map,List.getElem?_range (by omega),Option.map_some,show re.length+(d - re.length)=d by omega])
    go_wp2_with fail
    refine(num_big 9 (d:Int) (by decide) (by decide) (by omega) (by omega)).mono ?_;rintro e w3 ⟨rfl,rfl⟩
    go_wp2_with fail
    go_roundg (re.length+64 - (d+1))
    case measure=>have:=HG.out;omega
    case rel=>exact⟨d+1,by go_num,rfl,by omega,by rw[←soFar_set HF.out hlt HX.out];exact Nds.put HNN.out HSL.out hlt (spareN d),HB.out.trans (put9_below (Nat.le_refl _) d (spareN d))⟩
  ·have hlt': ¬(d:Int)<(re.length:Int)+64:=by omega
   have hde:d=re.length+64:=by omega
   subst hde
   have HFin:=Lib.hid (show Nds wr w.heap.size (.slice (some ⟨w.heap.size,0,none⟩) (re.length+64) (re.length+64)) (re++spareL re.length)by
    have h:=HNN.out
    unfold soFar at h
    rw[List.take_of_length_le (by have:=HF.out;omega),Nat.sub_self,List.replicate_zero,List.append_nil]at h
    exact h)
   clear hg2 hn hb hsl
   go_wp2_with fail
   go_ret
   exact⟨⟨w.heap.size,rfl,HFin.out⟩,HB.out⟩
set_option maxRecDepth 100000 in
set_option maxHeartbeats 1600000 in
theorem spareNodesU {l:List Nd} {n g base:Nat} {w:World} (hn:Nds w base (.slice (some ⟨g,0,none⟩) (n+64) (n+64)) (l++spareL n)) (hl:l.length=n) (hb:n≤1954687338269):
  Calls Tryz.prog 29 #[.slice (some ⟨g,0,none⟩) n (n+64)] w fun e w'=>e= .returned (.bool true)∧Below w.heap.size w w':=by
 have HN:=Lib.hid hn
 have HL:=Lib.hid hl
 have hgw:g<w.heap.size:=(hn.lt _ rfl).2
 clear hn hl
 go_enter Tryz.func29,Tryz.ntmps29
 go_wp2_with fail
 go_loopg [4] 64 (fun m iv wr=> ∃d:Nat,iv= .int .i64 ((n+d:Nat):Int)∧m=64 - d∧d≤64∧Below w.heap.size w wr)
 case atStart=>exact⟨0,rfl,by omega,by omega,Below.refl _ _⟩
 case round=>
  obtain⟨d,rfl,hg,hd,hbe⟩:=hrel
  have HG:=Lib.hid hg
  have HB:=Lib.hid hbe
  have HNR:=Lib.hid (HN.out.below hbe)
  have hgr:g<wr.heap.size:=Nat.lt_of_lt_of_le hgw hbe.size
  clear hg hbe
  obtain⟨k,hk⟩: ∃k,k=n+d:=⟨_,rfl⟩
  rw[←hk]
  by_cases hlt:d<64
  ·have hlt':(k:Int)<(n:Int)+64:=by omega
   obtain⟨z0,z1,z2,z3,z4,z5,z6,z7,z8,_⟩:=HNR.out.nine (by rw[List.length_append,HL.out];simp[spareL]) (show k<n+64 by omega) (show(l++spareL n).getD k Nd.zero=spareN k by
    rw[List.getD_eq_getElem?_getD,List.getElem?_append_right (by have:=HL.out;omega),spareL,List.getElem?_map,List.getElem?_range (by have:=HL.out;omega),Option.map_some,HL.out,show n+(k - n)=k by omega]
    rfl)
   have z5':wr.cell? ⟨g,k*9+5,none⟩=some (.int .i64 (9437184+(k:Int)+1)):=z5
   have hq:=eql_nd_same ⟨0,Cls.zero,9437184+(k:Int)+1,-7,0,0⟩
   simp only[spareN,Cls.zero]at z0 z1 z2 z3 z4 z6 z7 z8
   have hq': ∀w,(binOp .eql 78 (.agg #[.int .i8 0,.int .u64 0,.int .u64 0,.int .u64 0,.int .u64 0,.int .i64 (9437184+(k:Int)+1),.int .i64 (-7),.int .i64 0,.int .i64 0]) (.agg #[.int .i8 0,.int .u64 0,.int .u64 0,.int .u64 0,.int .u64 0,.int .i64 (9437184+(k:Int)+1),.int .i64 (-7),.int .i64 0,.int .i64 0])).run Tryz.prog w= .ok (.bool true) w:=hq
   have HKK:=Lib.hid hk
   have hkb:(k:Int)≤1954687338400:=by omega
   clear hq z5 hk
   go_wp2_with fail
   refine wp_region_segs (X:=none) 9 [([0,1,2,3,4],5)] [6,7,8] (by kernel_rfl) (by kernel_rfl) rfl (fun _ _ _ _ _ h=>h) ?_
   simp only[wpSegs,pickSegs_nil,pickSegs_cons,pickOps_nil,pickOps_cons,List.getD_cons_zero,List.getD_cons_succ,List.drop_succ_cons,List.drop_nil]
   repeat (go_big_quiet_step (fail))
   refine wpQuiet_nil ?_
   go_wp2_with fail
   refine(num_big 9 (k:Int) (by decide) (by decide) (by omega) (by omega)).mono ?_;rintro e w3 ⟨rfl,rfl⟩
   go_wp2_with fail
   refine⟨Keeps.refl _,?_⟩
   repeat (go_big_quiet_step (fail))
   refine wpQuiet_nil ?_
   go_wp2_with fail
   go_roundg (64 - (d+1))
   case measure=>have:=HG.out;omega
   case rel=>exact⟨d+1,by have:=HKK.out;rw[show n+(d+1)=k+1 by omega];go_num,rfl,by omega,HB.out.drew⟩
  ·have hlt': ¬(k:Int)<(n:Int)+64:=by omega
   have HKK:=Lib.hid hk
   clear hk
   go_wp2_with fail
   go_ret
   exact⟨rfl,HB.out⟩
end Go.Proofs.YtfjbnpdffillbaaGreatDoor
