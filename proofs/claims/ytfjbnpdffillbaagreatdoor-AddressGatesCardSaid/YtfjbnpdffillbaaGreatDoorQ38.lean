/- Parts: Gj Gt Gn Gu Go Gp Gq Gs. -/
import Derived.Test.YtfjbnpdffillbaaGreatDoorQ0
import Derived.Test.YtfjbnpdffillbaaGreatDoorQ19
import Derived.Test.YtfjbnpdffillbaaGreatDoorQ23
import Derived.Test.YtfjbnpdffillbaaGreatDoorQ31
import Derived.Test.YtfjbnpdffillbaaGreatDoorQ37
import Derived.Test.YtfjbnpdffillbaaGreatDoorQ27
import Derived.Test.YtfjbnpdffillbaaGreatDoorQ15
namespace Go.Proofs.YtfjbnpdffillbaaGreatDoor
open Go.RowKit
theorem tenP_all {c:Nat} (h:c<256):TenP c:=by
 by_cases hc:c<128
 ·exact tenP_low hc
 ·exact tenP_high (by omega) h
theorem Src.below {w w':World} {v:Value} {m:Nat} {xs:List Value} (h:Src w v m xs) (hb:Below w.heap.size w w'):Src w' v m xs:=by
 rcases h with h|⟨a,c,h,hj⟩
 ·exact .inl h
 ·exact .inr ⟨a,c,h,fun j u hu=>(hb.cell (World.block_lt_of_cell? w _ (hj j u hu))).trans (hj j u hu)⟩
section
variable {w:World} {oa:Option Addr} {cap:Nat} {re:List Nd} {T:List Nat}
theorem NdW.src (h:NdW w oa cap re) (hl:re.length≤4294967296):Src w (.slice oa re.length cap) re.length (ndsC re):=by
 cases oa with
 |none=>
  obtain⟨rfl,rfl⟩:=h.no rfl
  exact .inl ⟨rfl,rfl,rfl⟩
 |some a=>exact NdV.srcAt (h.toV hl)
set_option maxRecDepth 100000 in
set_option maxHeartbeats 1600000 in
theorem copyBytes_call (hs:Src w (.slice oa T.length cap) T.length (u8s T)) (hl:T.length≤140737488355328):
  Calls Tryz.prog 12 #[.slice oa T.length cap] w fun e w'=>(∃v,e= .returned v∧w'.ownsRow w.heap.size 5 1 v T.length (u8s T))∧Below w.heap.size w w':=by
 have HS:=Lib.hid hs
 clear hs
 go_enter Tryz.func12,Tryz.ntmps12
 go_wp2_with (at_builtin;refine wpList_app elU8 rfl _ _ rfl w.heap.size (n:=0) (m:=T.length) (news:=u8s T) rfl (World.ownsRow_nil w w.heap.size _ _) rfl HS.out (by simp[u8s]) (u8s_one T) (by unfold maxLen;omega) (by omega) (Nat.le_refl _) ?_)
 intro v1 w1 hown hgr _
 have HO:=Lib.hid hown
 have HB:=Lib.hid ((Below.refl w.heap.size w).grown hgr (Nat.le_refl _) (fun k hk=>by cases hk))
 clear hown hgr
 go_wp2_with fail
 go_ret
 exact⟨⟨_,rfl,by have h:=HO.out;simpa using h⟩,HB.out⟩
theorem ret_cell3 {fn:Func} {p:Tmp} (hf:fn.results= #[.cell p 54]) {Q:Ending→World→Prop} {a:Act} {w:World} {b:Nat} {len cp:Nat} {kk nn:Int} (hp:a.tmps.getD p undef= .pointer (some ⟨b,0,none⟩)) (hd:a.defers=[])
  (h:AdB w b (.int .i8 kk) (.int .i64 nn) (.slice oa len cp)) (hQ:Q (.returned (.agg #[.int .i8 kk,.int .i64 nn,.slice oa len cp])) w):bodyPost Tryz.prog fn Q .ret a w:=by
 refine bodyPost_ret (v:= .agg #[.int .i8 kk,.int .i64 nn,.slice oa len cp]) ?_ hd hQ
 have c0:=h.c0
 have c1:=h.c1
 have c2:=h.c2
 rw[results_cell1 hf,hp]
 simp[asAddr,go_sem,c0,c1,c2,Result.andThen]
set_option maxRecDepth 100000 in
set_option maxHeartbeats 1600000 in
theorem copyAddr_call (k n:Int) (hs:Src w (.slice oa re.length cap) re.length (ndsC re)) (hl:re.length*72≤140737488355328):
  Calls Tryz.prog 31 #[.agg #[.int .i8 k,.int .i64 n,.slice oa re.length cap]] w fun e w'=>
   (∃o c,e= .returned (.agg #[.int .i8 k,.int .i64 n,.slice o re.length c])∧Nds w' w.heap.size (.slice o re.length c) re)∧Below w.heap.size w w':=by
 have HC:=Lib.hid (fun W (h:Src W (.slice oa re.length cap) re.length (ndsC re))=>copyNodesS_call (w:=W) h hl)
 have HS:=Lib.hid hs
 have HA:=Lib.hid (AdB.new w (.int .i8 k) (.int .i64 n) (.slice oa re.length cap))
 have hb1:=(Below.refl w.heap.size w).alloc (Nat.le_refl _) (.cells #[.int .i8 k,.int .i64 n,.slice oa re.length cap] 54)
 have HB1:=Lib.hid hb1
 have hsz:(w.alloc (.cells #[.int .i8 k,.int .i64 n,.slice oa re.length cap] 54)).heap.size=w.heap.size+1:=by simp
 have hsrc1:Src (w.alloc (.cells #[.int .i8 k,.int .i64 n,.slice oa re.length cap] 54)) (.slice oa re.length cap) re.length (ndsC re):=by
  rcases hs with h|⟨a,c,h,hj⟩
  ·exact .inl h
  ·exact .inr ⟨a,c,h,fun j u hu=>lt_cell (hj j u hu) _⟩
 clear hs hb1
 go_enter Tryz.func31,Tryz.ntmps31
 go_upto_region 1 with fail
 obtain⟨W1,hW1⟩: ∃W,w.alloc (.cells #[.int .i8 k,.int .i64 n,.slice oa re.length cap] 54)=W:=⟨_,rfl⟩
 rw[hW1]at HA HB1 hsz hsrc1 ⊢
 have HA2:=Lib.hid (HA.out.below ((Below.refl _ _).alloc (Nat.le_refl _) (.cells #[.int .i8 0,.int .i64 0,.slice none 0 0] 54)))
 have HZ:=Lib.hid (AdB.new W1 (.int .i8 0) (.int .i64 0) (.slice none 0 0))
 have HB2:=Lib.hid (HB1.out.alloc HB1.out.size (.cells #[.int .i8 0,.int .i64 0,.slice none 0 0] 54))
 have hsrc2:Src (W1.alloc (.cells #[.int .i8 0,.int .i64 0,.slice none 0 0] 54)) (.slice oa re.length cap) re.length (ndsC re):=by
  rcases hsrc1 with h|⟨a,c,h,hj⟩
  ·exact .inl h
  ·exact .inr ⟨a,c,h,fun j u hu=>lt_cell (hj j u hu) _⟩
 have hsz2:(W1.alloc (.cells #[.int .i8 0,.int .i64 0,.slice none 0 0] 54)).heap.size=w.heap.size+1+1:=by simp[hsz]
 obtain⟨W2,hW2⟩: ∃W,W1.alloc (.cells #[.int .i8 0,.int .i64 0,.slice none 0 0] 54)=W:=⟨_,rfl⟩
 rw[hW2]at HA2 HZ HB2 hsrc2 hsz2 ⊢
 rw[hsz]at HZ
 clear hW1 hW2 HA HB1 hsrc1
 have k0:=HA2.out.c0
 have k1:=HA2.out.c1
 have k2:=HA2.out.c2
 have HX:=Lib.hid (HC.out W2 hsrc2)
 clear hsrc2
 go_wp2_with fail
 refine HX.out.mono ?_;rintro e w3 ⟨⟨v3,rfl,hn3⟩,hb3⟩
 obtain⟨o3,c3,rfl⟩:=hn3.form
 have HA3:=Lib.hid (HA2.out.below hb3)
 have HZ3:=Lib.hid (HZ.out.below hb3)
 have HB3:=Lib.hid (HB2.out.trans (hb3.mono HB2.out.size))
 have hblk:=hn3.lt
 have HN3:=Lib.hid hn3
 have HBK:=Lib.hid hblk
 clear hb3 hn3 hblk k0 k1 k2 HX HC HA2 HZ HB2
 have k0:=HA3.out.c0
 have k1:=HA3.out.c1
 have k2:=HA3.out.c2
 have f0:=HA3.out.fz
 have z0:=HZ3.out.c0
 have z1:=HZ3.out.c1
 have z2:=HZ3.out.c2
 have g0:=HZ3.out.fz
 have hne: ¬w.heap.size+1=w.heap.size:=by omega
 go_wp2_with fail
 refine ret_cell3 (p:=2) (b:=w.heap.size+1) rfl rfl rfl ((HZ3.out.other (by omega) _ _).set (.int .i8 k) (.int .i64 n) (.slice o3 re.length c3)) ⟨⟨o3,c3,rfl,?_⟩,?_⟩
 ·refine ownsRow_mono (ownsRow_of_block HN3.out fun g hg=>?_) (by omega)
  have:=(HBK.out g hg).1
  exact((Below.heap_setCell _ _ _ _ (by show g≠w.heap.size+1;omega)).trans ((Below.heap_setCell _ _ _ _ (by show g≠w.heap.size+1;omega)).trans ((Below.heap_setCell _ _ _ _ (by show g≠w.heap.size+1;omega)).trans (Below.heap_setCell _ _ _ _ (by show g≠w.heap.size;omega)))))
 ·exact(((HB3.out.setCell (Nat.le_refl _) _).setCell (by show w.heap.size≤w.heap.size+1;omega) _).setCell (by show w.heap.size≤w.heap.size+1;omega) _).setCell (by show w.heap.size≤w.heap.size+1;omega) _
set_option maxRecDepth 100000 in
set_option maxHeartbeats 1600000 in
theorem eqAddr_same (k n:Int) {ob:Option Addr} {cb:Nat} (ha:NdV w oa re) (hb:NdV w ob re):
  Calls Tryz.prog 16 #[.agg #[.int .i8 k,.int .i64 n,.slice oa re.length cap],.agg #[.int .i8 k,.int .i64 n,.slice ob re.length cb]] w fun e w'=>e= .returned (.bool true)∧Below w.heap.size w w':=by
 have hb1:=((Below.refl w.heap.size w).alloc (Nat.le_refl _) (.cells #[.int .i8 k,.int .i64 n,.slice oa re.length cap] 54)).alloc (by simp) (.cells #[.int .i8 k,.int .i64 n,.slice ob re.length cb] 54)
 have HE:=Lib.hid (eqNodes_call (ca:=cap) (cb:=cb) (ha.below hb1) (hb.below hb1))
 have HB:=Lib.hid hb1
 rw[show decide (re=re)=true from decide_eq_true rfl]at HE
 clear ha hb hb1
 go_enter Tryz.func16,Tryz.ntmps16
 go_wp2_with fail
 refine HE.out.mono ?_;rintro e w1 ⟨rfl,hb1⟩
 have HB1:=Lib.hid (HB.out.trans (hb1.mono HB.out.size))
 clear hb1
 go_wp2_with fail
 go_ret
 exact⟨rfl,HB1.out⟩
end
end Go.Proofs.YtfjbnpdffillbaaGreatDoor
namespace Go.Proofs.YtfjbnpdffillbaaGreatDoor
open Go.RowKit
def NdU (w:World) (oa:Option Addr) (re:List Nd):Prop:=
 0<re.length→ ∃nb no,oa=some ⟨nb,no,none⟩∧nb<w.heap.size∧ ∀i,i<re.length→ ∀j,j<9→w.cell? ⟨nb,no+i*9+j,none⟩=(ndCells (re.getD i Nd.zero))[j]?
section
variable {w w':World} {oa ob:Option Addr} {re:List Nd} {ca cb:Nat}
theorem NdU.below (h:NdU w oa re) (hb:Below w.heap.size w w'):NdU w' oa re:=fun hp=>by
 obtain⟨nb,no,h1,h2,h3⟩:=h hp
 exact⟨nb,no,h1,Nat.lt_of_lt_of_le h2 hb.size,fun i hi j hj=>(hb.cell (p:=⟨nb,no+i*9+j,none⟩) h2).trans (h3 i hi j hj)⟩
theorem NdU.cells {nb no:Nat} (h: ∀i,i<re.length→ ∀j,j<9→w.cell? ⟨nb,no+i*9+j,none⟩=(ndCells (re.getD i Nd.zero))[j]?) {i:Nat} {x:Nd} (hx:re[i]?=some x):
  w.cell? ⟨nb,no+i*9,none⟩=some (.int .i8 x.op)∧w.cell? ⟨nb,no+i*9+1,none⟩=some (.int .u64 x.set.w0.toNat)∧w.cell? ⟨nb,no+i*9+2,none⟩=some (.int .u64 x.set.w1.toNat)∧w.cell? ⟨nb,no+i*9+3,none⟩=some (.int .u64 x.set.w2.toNat)∧w.cell? ⟨nb,no+i*9+4,none⟩=some (.int .u64 x.set.w3.toNat)∧
  w.cell? ⟨nb,no+i*9+5,none⟩=some (.int .i64 x.n)∧w.cell? ⟨nb,no+i*9+6,none⟩=some (.int .i64 x.min)∧w.cell? ⟨nb,no+i*9+7,none⟩=some (.int .i64 x.max)∧w.cell? ⟨nb,no+i*9+8,none⟩=some (.int .i64 x.kids):=by
 have hi:i<re.length:=(List.getElem?_eq_some_iff.1 hx).1
 have hg:re.getD i Nd.zero=x:=by simp[List.getD_eq_getElem?_getD,hx]
 have hc: ∀j,j<9→w.cell? ⟨nb,no+i*9+j,none⟩=(ndCells x)[j]?:=fun j hj=>by
  rw[←hg];exact h i hi j hj
 exact⟨hc 0 (by decide),hc 1 (by decide),hc 2 (by decide),hc 3 (by decide),hc 4 (by decide),hc 5 (by decide),hc 6 (by decide),hc 7 (by decide),hc 8 (by decide)⟩
theorem Nds.toU {base:Nat} {v:Value} (h:Nds w base v re): ∃oa cp,v= .slice oa re.length cp∧NdU w oa re:=by
 rcases h.2 with ⟨rfl,h0⟩|⟨g,cp,cur,rfl,hg1,hg2,hcp,_⟩
 ·exact⟨none,0,by rw[h0],fun h=>by omega⟩
 ·refine⟨_,_,rfl,fun hn=>⟨g,0,rfl,(Array.getElem?_eq_some_iff.1 hg2).1,fun i hi j hj=>?_⟩⟩
  have hc:=World.ownsRow.cellAt h (i*9+j) (by omega)
  rw[show 0+i*9+j=i*9+j by omega,hc,ndsC_at re i j hi hj]
set_option maxRecDepth 100000 in
set_option maxHeartbeats 1600000 in
theorem eqNodesU (ha:NdU w oa re) (hb:NdU w ob re) (z:re.length*72≤140737488355328):
  Calls Tryz.prog 56 #[.slice oa re.length ca,.slice ob re.length cb] w fun e w'=>e= .returned (.bool true)∧Below w.heap.size w w':=by
 have HA:=Lib.hid ha
 have HB:=Lib.hid hb
 have hla:(re.length:Int)≤1954687338269:=by omega
 clear ha hb z
 go_enter Tryz.func56,Tryz.ntmps56
 go_wp2_with fail
 go_loopg [5] re.length (fun n iv wr=> ∃d:Nat,iv= .int .i64 (d:Nat)∧n=re.length - d∧d≤re.length∧Below w.heap.size w wr)
 case atStart=>exact⟨0,rfl,by omega,by omega,Below.refl _ _⟩
 case round=>
  obtain⟨d,rfl,hg,hd,hbe⟩:=hrel
  have HG:=Lib.hid hg
  have HBE:=Lib.hid hbe
  clear hg
  by_cases hlt:d<re.length
  ·have hlt':(d:Int)<(re.length:Int):=by omega
   obtain⟨na,oo,rfl,nal0,hna⟩:=HA.out (by omega)
   obtain⟨nb,ob',rfl,nbl0,hnb⟩:=HB.out (by omega)
   obtain⟨x,hx⟩: ∃x,re[d]?=some x:=⟨_,List.getElem?_eq_getElem hlt⟩
   have hna2: ∀i,i<re.length→ ∀j,j<9→wr.cell? ⟨na,oo+i*9+j,none⟩=(ndCells (re.getD i Nd.zero))[j]?:=fun i hi j hj=>(hbe.cell (p:=⟨na,oo+i*9+j,none⟩) nal0).trans (hna i hi j hj)
   have hnb2: ∀i,i<re.length→ ∀j,j<9→wr.cell? ⟨nb,ob'+i*9+j,none⟩=(ndCells (re.getD i Nd.zero))[j]?:=fun i hi j hj=>(hbe.cell (p:=⟨nb,ob'+i*9+j,none⟩) nbl0).trans (hnb i hi j hj)
   obtain⟨n0,n1,n2,n3,n4,n5,n6,n7,n8⟩:=NdU.cells hna2 hx
   obtain⟨m0,m1,m2,m3,m4,m5,m6,m7,m8⟩:=NdU.cells hnb2 hx
   have nal:na<wr.heap.size:=Nat.lt_of_lt_of_le nal0 hbe.size
   have nbl:nb<wr.heap.size:=Nat.lt_of_lt_of_le nbl0 hbe.size
   have hq:=neq_ndV x x
   have HX:=Lib.hid hx
   clear hna hnb hna2 hnb2 hbe hx nal0 nbl0
   rw[show(!decide (x=x))=false by simp]at hq
   obtain⟨op,⟨x0,x1,x2,x3⟩,xn,xmin,xmax,xk⟩:=x
   simp only[ndV]at n0 n1 n2 n3 n4 n5 n6 n7 n8 m0 m1 m2 m3 m4 m5 m6 m7 m8 hq
   go_wp2_with fail
   refine wp_region_segs (X:=none) 9 [] [0,1,2,3,4,5,6,7,8] (by kernel_rfl) (by kernel_rfl) rfl (fun _ _ _ _ _ h=>h) ?_
   simp only[wpSegs,pickSegs_nil,pickOps_nil,pickOps_cons,List.getD_cons_zero,List.getD_cons_succ,List.drop_succ_cons,List.drop_nil]
   repeat (go_big_quiet_step (fail))
   refine wpQuiet_nil ?_
   go_wp2_with fail
   go_roundg (re.length - (d+1))
   case measure=>have:=HG.out;omega
   case rel=>exact⟨d+1,by go_num,rfl,by omega,HBE.out.drew⟩
  ·have hlt': ¬(d:Int)<(re.length:Int):=by omega
   have hde:d=re.length:=by omega
   subst hde
   go_wp2_with fail
   go_ret
   exact⟨rfl,HBE.out⟩
set_option maxRecDepth 100000 in
set_option maxHeartbeats 1600000 in
theorem eqAddrU (k n:Int) (ha:NdU w oa re) (hb:NdU w ob re) (z:re.length*72≤140737488355328):
  Calls Tryz.prog 16 #[.agg #[.int .i8 k,.int .i64 n,.slice oa re.length ca],.agg #[.int .i8 k,.int .i64 n,.slice ob re.length cb]] w fun e w'=>e= .returned (.bool true)∧Below w.heap.size w w':=by
 have hb1:=((Below.refl w.heap.size w).alloc (Nat.le_refl _) (.cells #[.int .i8 k,.int .i64 n,.slice oa re.length ca] 54)).alloc (by simp) (.cells #[.int .i8 k,.int .i64 n,.slice ob re.length cb] 54)
 have HE:=Lib.hid (eqNodesU (ca:=ca) (cb:=cb) (ha.below hb1) (hb.below hb1) z)
 have HB:=Lib.hid hb1
 clear ha hb hb1
 go_enter Tryz.func16,Tryz.ntmps16
 go_wp2_with fail
 refine HE.out.mono ?_;rintro e w1 ⟨rfl,hb1⟩
 have HB1:=Lib.hid (HB.out.trans (hb1.mono HB.out.size))
 clear hb1
 go_wp2_with fail
 go_ret
 exact⟨rfl,HB1.out⟩
end
end Go.Proofs.YtfjbnpdffillbaaGreatDoor
namespace Go.Proofs.YtfjbnpdffillbaaGreatDoor
open Go.RowKit
section
variable {w:World} {oa:Option Addr} {cap:Nat} {re:List Nd}
set_option maxRecDepth 100000 in
set_option maxHeartbeats 1600000 in
theorem cloneN_call (hs:Src w (.slice oa re.length cap) re.length (ndsC re)) (hl:re.length*72≤140737488355328):
  Calls Tryz.prog 91 #[.slice oa re.length cap] w fun e w'=>(∃v,e= .returned v∧Nds w' w.heap.size v re)∧Below w.heap.size w w':=by
 have q22: ∀(w:World) (a:Option Addr) (n c n' c':Nat),(binOp .eql 52 (.slice a n c) (.slice none n' c')).run Tryz.prog w= .ok (.bool a.isNone) w:=fun w a n c n' c'=>Lib.run_eql_slice_nil w _ _ a n c n' c' Tryz.underlying52
 cases oa with
 |none=>
  have h0:re=[]:=by
   rcases hs with ⟨_,h,_⟩|⟨a,c,h,_⟩
   ·exact List.eq_nil_of_length_eq_zero h
   ·cases h
  subst h0
  clear hs
  go_enter Tryz.func91,Tryz.ntmps91
  go_wp2_with fail
  go_ret
  exact⟨⟨_,rfl,Nds.nil _ _⟩,Below.refl _ _⟩
 |some a=>
  have hs1:Src (w.alloc (.cells #[] 78)) (.slice (some a) re.length cap) re.length (ndsC re):=by
   rcases hs with h|⟨a,c,h,hj⟩
   ·exact .inl h
   ·exact .inr ⟨a,c,h,fun j u hu=>lt_cell (hj j u hu) _⟩
  have HS:=Lib.hid hs1
  have HE:=Lib.hid (World.ownsRow_lit (base:=w.heap.size) (e:=78) (size:=9) w #[] 0 (Nat.le_refl _) (by decide) rfl)
  clear hs hs1
  go_enter Tryz.func91,Tryz.ntmps91
  go_wp2_with (at_builtin;refine wpList_app elNd rfl _ _ rfl w.heap.size (n:=0) (m:=re.length) (news:=ndsC re) rfl HE.out rfl HS.out (ndsC_length re) (ndsC_one re) (by unfold maxLen;omega) (by omega) (by simp) ?_)
  intro v1 w2 hm2 hgr2 hblk2
  have HM:=Lib.hid (show Nds w2 w.heap.size v1 re by unfold Nds;simpa using hm2)
  have HB:=Lib.hid (((Below.refl w.heap.size w).alloc (Nat.le_refl _) (.cells #[] 78)).grown hgr2 (by simp) (fun k hk=>by simp[Value.ownBlock]at hk;omega))
  clear hm2 hgr2 hblk2
  go_wp2_with fail
  go_ret
  exact⟨⟨_,rfl,HM.out⟩,HB.out⟩
end
structure TlS (w:World) (tb:Nat) (ro:Option Addr) (rc:Nat) (RL:List Bool):Prop where
 lt:tb<w.heap.size
 c0:w.cell? ⟨tb,0,none⟩=some (.slice ro RL.length rc)
 fz: ∀o,w.frozen? ⟨tb,o,none⟩=false
 row:0<RL.length→ ∃g o,ro=some ⟨g,o,none⟩∧g≠tb∧g<w.heap.size∧w.cell? ⟨g,o,none⟩=some (.bool (RL.getD 0 false))
def AskS (w:World) (tb lo:Nat):Option Ad→Prop
 |none=>w.cell? ⟨tb,1,none⟩=some (.slice none 0 0)
 |some a=> ∃ab cp oo oc,w.cell? ⟨tb,1,none⟩=some (.slice (some ⟨ab,0,none⟩) 1 cp)∧lo≤ab∧ab<w.heap.size∧w.cell? ⟨ab,0,none⟩=some (.int .i8 a.kind)∧w.cell? ⟨ab,1,none⟩=some (.int .i64 a.n)∧w.cell? ⟨ab,2,none⟩=some (.slice oo a.re.length oc)∧NdU w oo a.re∧(∀g o,oo=some ⟨g,o,none⟩→0<a.re.length→lo≤g)
section
variable {w w':World} {tb rc:Nat} {ro:Option Addr} {RL:List Bool}
theorem TlS.same (h:TlS w tb ro rc RL) (h1:w'.heap[tb]?=w.heap[tb]?) (h2: ∀g o,ro=some ⟨g,o,none⟩→g<w.heap.size→g≠tb→0<RL.length→w'.heap[g]?=w.heap[g]?) (hs:w.heap.size≤w'.heap.size):TlS w' tb ro rc RL where
 lt:=Nat.lt_of_lt_of_le h.lt hs
 c0:=(World.cell?_of_block (w:=w) (a:=⟨tb,0,none⟩) h1).trans h.c0
 fz:=fun o=>(World.frozen?_of_block (w:=w) (a:=⟨tb,o,none⟩) h1).trans (h.fz o)
 row:=fun hp=>by
  obtain⟨g,o,e1,e2,e3,e4⟩:=h.row hp
  exact⟨g,o,e1,e2,Nat.lt_of_lt_of_le e3 hs,(World.cell?_of_block (w:=w) (a:=⟨g,o,none⟩) (h2 g o e1 e3 e2 hp)).trans e4⟩
theorem TlS.below (h:TlS w tb ro rc RL) (hb:Below w.heap.size w w'):TlS w' tb ro rc RL:=h.same (hb.block _ h.lt) (fun g _ _ hg _ _=>hb.block g hg) hb.size
theorem AskS.same {A:Option Ad} {lo:Nat} (h:AskS w tb lo A) (h1:w'.heap[tb]?=w.heap[tb]?) (h2: ∀k,lo≤k→k<w.heap.size→w'.heap[k]?=w.heap[k]?) (hs:w.heap.size≤w'.heap.size):AskS w' tb lo A:=by
 cases A with
 |none=>exact(World.cell?_of_block (w:=w) (a:=⟨tb,1,none⟩) h1).trans h
 |some a=>
  obtain⟨ab,cp,oo,oc,e1,e2,e3,e4,e5,e6,e7,e8⟩:=h
  have hc: ∀j,w'.cell? ⟨ab,j,none⟩=w.cell? ⟨ab,j,none⟩:=fun j=>World.cell?_of_block (w:=w) (a:=⟨ab,j,none⟩) (h2 ab e2 e3)
  exact⟨ab,cp,oo,oc,(World.cell?_of_block (w:=w) (a:=⟨tb,1,none⟩) h1).trans e1,e2,Nat.lt_of_lt_of_le e3 hs,(hc 0).trans e4,(hc 1).trans e5,(hc 2).trans e6,
   fun hp=>by
    obtain⟨nb,no,n1,n2,n3⟩:=e7 hp
    exact⟨nb,no,n1,Nat.lt_of_lt_of_le n2 hs,fun i hi j hj=>(World.cell?_of_block (w:=w) (a:=⟨nb,no+i*9+j,none⟩) (h2 nb (e8 nb no n1 hp) n2)).trans (n3 i hi j hj)⟩,e8⟩
theorem AskS.below {A:Option Ad} {lo:Nat} (h:AskS w tb lo A) (ht:tb<w.heap.size) (hb:Below w.heap.size w w'):AskS w' tb lo A:=h.same (hb.block _ ht) (fun k _ hk=>hb.block k hk) hb.size
theorem AskS.mono {A:Option Ad} {lo lo':Nat} (h:AskS w tb lo A) (hl:lo'≤lo):AskS w tb lo' A:=by
 cases A with
 |none=>exact h
 |some a=>
  obtain⟨ab,cp,oo,oc,e1,e2,e3,e4,e5,e6,e7,e8⟩:=h
  exact⟨ab,cp,oo,oc,e1,Nat.le_trans hl e2,e3,e4,e5,e6,e7,fun g o e hp=>Nat.le_trans hl (e8 g o e hp)⟩
end
end Go.Proofs.YtfjbnpdffillbaaGreatDoor
namespace Go.Proofs.YtfjbnpdffillbaaGreatDoor
open Go.RowKit
theorem elPc:ElT Tryz.prog 87 185 2 32 (.agg #[.int .i64 0,.slice none 0 0]):=⟨Tryz.underlying87,by kernel_rfl,rfl,by decide⟩
def BtU (w:World) (ob:Option Addr) (len cap:Nat):Prop:= ∃T:List Nat,T.length=len∧Src w (.slice ob len cap) len (u8s T)∧len≤140737488355328
structure PcW (w:World) (oa:Option Addr) (n:Nat):Prop where
 z:n*32≤140737488355328
 at_:0<n→ ∃nb no,oa=some ⟨nb,no,none⟩∧nb<w.heap.size∧ ∀i,i<n→ ∃g ob lb cb,w.cell? ⟨nb,no+i*2,none⟩=some (.int .i64 g)∧w.cell? ⟨nb,no+i*2+1,none⟩=some (.slice ob lb cb)∧BtU w ob lb cb
section
variable {w w':World} {oa:Option Addr} {n cap:Nat}
theorem BtU.below {len:Nat} (h:BtU w oa len cap) (hb:Below w.heap.size w w'):BtU w' oa len cap:=by
 obtain⟨T,h1,h2,h3⟩:=h
 exact⟨T,h1,Src.below h2 hb,h3⟩
theorem PcW.below (h:PcW w oa n) (hb:Below w.heap.size w w'):PcW w' oa n:=⟨h.z,fun hp=>by
 obtain⟨nb,no,h1,h2,h3⟩:=h.at_ hp
 refine⟨nb,no,h1,Nat.lt_of_lt_of_le h2 hb.size,fun i hi=>?_⟩
 obtain⟨g,ob,lb,cb,e1,e2,e3⟩:=h3 i hi
 exact⟨g,ob,lb,cb,(hb.cell (p:=⟨nb,no+i*2,none⟩) h2).trans e1,(hb.cell (p:=⟨nb,no+i*2+1,none⟩) h2).trans e2,e3.below hb⟩⟩
structure PcB (w:World) (b:Nat) (k v:Value):Prop where
 lt:b<w.heap.size
 c0:w.cell? ⟨b,0,none⟩=some k
 c1:w.cell? ⟨b,1,none⟩=some v
 fz: ∀o,w.frozen? ⟨b,o,none⟩=false
theorem PcB.below {b:Nat} {k v:Value} (h:PcB w b k v) (hb:Below w.heap.size w w'):PcB w' b k v:=
 ⟨Nat.lt_of_lt_of_le h.lt hb.size,(hb.cell (p:=⟨b,0,none⟩) h.lt).trans h.c0,(hb.cell (p:=⟨b,1,none⟩) h.lt).trans h.c1,fun o=>(World.frozen?_of_block (w:=w) (a:=⟨b,o,none⟩) (hb.block b h.lt)).trans (h.fz o)⟩
theorem PcB.new (w:World) (k v:Value):PcB (w.alloc (.cells #[k,v] 185)) w.heap.size k v:=
 have hB:(w.alloc (.cells #[k,v] 185)).heap[w.heap.size]?=some (.cells #[k,v] 185 (0,0)):=heap_alloc_new w _
 ⟨by simp,(cell_of_row _ _ 0 _ _ (0,0) hB).trans rfl,(cell_of_row _ _ 1 _ _ (0,0) hB).trans rfl,fun o=>frozen_cls hB o⟩
theorem ret_cellP {fn:Func} {p:Tmp} (hf:fn.results= #[.cell p 185]) {Q:Ending→World→Prop} {a:Act} {w:World} {b:Nat} {len cp:Nat} {kk:Int} (hp:a.tmps.getD p undef= .pointer (some ⟨b,0,none⟩)) (hd:a.defers=[])
  (c0:w.cell? ⟨b,0,none⟩=some (.int .i64 kk)) (c1:w.cell? ⟨b,1,none⟩=some (.slice oa len cp)) (hQ:Q (.returned (.agg #[.int .i64 kk,.slice oa len cp])) w):bodyPost Tryz.prog fn Q .ret a w:=by
 refine bodyPost_ret (v:= .agg #[.int .i64 kk,.slice oa len cp]) ?_ hd hQ
 rw[results_cell1 hf,hp]
 simp[asAddr,go_sem,c0,c1,Result.andThen]
set_option maxRecDepth 100000 in
set_option maxHeartbeats 1600000 in
theorem copyPiece_call {len:Nat} (g:Int) (h:BtU w oa len cap):
  Calls Tryz.prog 124 #[.agg #[.int .i64 g,.slice oa len cap]] w fun e w'=>(∃o c,e= .returned (.agg #[.int .i64 g,.slice o len c]))∧Below w.heap.size w w':=by
 obtain⟨T,rfl,hs,hl⟩:=h
 have hb1:=((Below.refl w.heap.size w).alloc (Nat.le_refl _) (.cells #[.int .i64 g,.slice oa T.length cap] 185)).alloc (by simp) (.cells #[.int .i64 0,.slice none 0 0] 185)
 have HS:=Lib.hid (Src.below (Src.below hs hb1) ((Below.refl _ _).drew))
 have HB:=Lib.hid hb1
 have HP:=Lib.hid ((PcB.new w (.int .i64 g) (.slice oa T.length cap)).below ((Below.refl _ _).alloc (Nat.le_refl _) (.cells #[.int .i64 0,.slice none 0 0] 185)))
 have HZ:=Lib.hid (PcB.new (w.alloc (.cells #[.int .i64 g,.slice oa T.length cap] 185)) (.int .i64 0) (.slice none 0 0))
 have hsz:(w.alloc (.cells #[.int .i64 g,.slice oa T.length cap] 185)).heap.size=w.heap.size+1:=by simp
 rw[hsz]at HZ
 clear hs hb1 hsz
 go_enter Tryz.func124,Tryz.ntmps124
 go_upto_region 1 with fail
 obtain⟨W,hW⟩: ∃W,(w.alloc (.cells #[.int .i64 g,.slice oa T.length cap] 185)).alloc (.cells #[.int .i64 0,.slice none 0 0] 185)=W:=⟨_,rfl⟩
 rw[hW]at HS HB HP HZ ⊢
 clear hW
 have p0:=HP.out.c0
 have p1:=HP.out.c1
 have pl:=HP.out.lt
 refine wp_region_segs (X:=none) 6 [([0,1,2,3],4)] [5] (by kernel_rfl) (by kernel_rfl) rfl (fun _ _ _ _ _ h=>h) ?_
 simp only[wpSegs,pickSegs_nil,pickSegs_cons,pickOps_nil,pickOps_cons,List.getD_cons_zero,List.getD_cons_succ,List.drop_succ_cons,List.drop_zero]
 repeat (go_big_quiet_step (fail))
 refine wpQuiet_nil ?_
 go_wp2_with fail
 refine(copyBytes_call HS.out hl).mono ?_
 rintro e w2 ⟨⟨v2,rfl,hn2⟩,hb2⟩
 obtain⟨o2,c2,rfl⟩: ∃o c,v2= .slice o T.length c:=by
  rcases hn2.2 with ⟨rfl,h0⟩|⟨g,cp,cur,rfl,_⟩
  ·exact⟨none,0,by rw[h0]⟩
  ·exact⟨_,_,rfl⟩
 have HP2:=Lib.hid ((HP.out.below ((Below.refl _ _).drew)).below hb2)
 have HZ2:=Lib.hid ((HZ.out.below ((Below.refl _ _).drew)).below hb2)
 have HB2:=Lib.hid (HB.out.drew.trans (hb2.mono (by have:=HB.out.size;show w.heap.size≤W.heap.size;omega)))
 have HK:=Lib.hid hb2
 clear p0 p1 pl hb2 hn2
 have p0:=HP2.out.c0
 have p1:=HP2.out.c1
 have z0:=HZ2.out.c0
 have z1:=HZ2.out.c1
 have zl:=HZ2.out.lt
 have zf:=HZ2.out.fz
 go_wp2_with fail
 refine⟨Keeps.of_below HK.out,?_⟩
 repeat (go_big_quiet_step (fail))
 refine wpQuiet_nil ?_
 go_wp2_with fail
 refine ret_cellP (p:=2) (b:=w.heap.size+1) (oa:=o2) (len:=T.length) (cp:=c2) (kk:=g) rfl rfl rfl ?_ ?_ ⟨⟨o2,c2,rfl⟩,?_⟩
 ·exact(cell?_setCell_ne _ _ _ _ _ (by decide)).trans (World.cell?_setCell_same _ _ _ z0)
 ·exact World.cell?_setCell_same _ _ _ ((cell?_setCell_ne _ _ _ _ _ (by decide)).trans z1)
 ·exact(HB2.out.setCell (by show w.heap.size≤w.heap.size+1;omega) _).setCell (by show w.heap.size≤w.heap.size+1;omega) _
set_option maxRecDepth 100000 in
set_option maxHeartbeats 1600000 in
theorem copyPieces_call (h:PcW w oa n):
  Calls Tryz.prog 97 #[.slice oa n cap] w fun e w'=>(∃o m c,e= .returned (.slice o m c))∧Below w.heap.size w w':=by
 have HP:=Lib.hid h
 have hz:(n:Int)≤4398046511104:=by have:=h.z;omega
 clear h
 go_enter Tryz.func97,Tryz.ntmps97
 go_wp2_with fail
 go_loopg [3,4] n (fun g cv iv wr=> ∃(d:Nat) (xs:List Value),iv= .int .i64 (d:Nat)∧g=n - d∧d≤n∧wr.ownsRow w.heap.size 185 2 cv d xs∧Below w.heap.size w wr)
 case atStart=>exact⟨0,[],rfl,rfl,Nat.zero_le _,World.ownsRow_nil _ _ _ _,Below.refl _ _⟩
 case round=>
  obtain⟨d,xs,rfl,hg,hd,ho,hb⟩:=hrel
  have HG:=Lib.hid hg
  have HO:=Lib.hid ho
  have HB:=Lib.hid hb
  have HPW:=Lib.hid (HP.out.below hb)
  clear hg ho hb
  by_cases hlt:d<n
  ·have hlt':(d:Int)<(n:Int):=by omega
   obtain⟨nb,no,rfl,nl,hc⟩:=HPW.out.at_ (by omega)
   obtain⟨g,ob,lb,cb,e1,e2,e3⟩:=hc d hlt
   have HE:=Lib.hid (copyPiece_call g e3)
   clear hc e3
   go_wp2_with fail
   refine HE.out.mono ?_
   rintro e w2 ⟨⟨o2,c2,rfl⟩,hb2⟩
   have HO2:=Lib.hid (ownsRow_of_block HO.out fun g hg=>hb2.block g (World.ownsRow.lt HO.out g hg).2)
   have HB2:=Lib.hid (HB.out.trans (hb2.mono HB.out.size))
   have HLT:=Lib.hid hlt
   clear hb2 e1 e2 hlt
   go_wp2_with (at_builtin;refine wpList_app elPc rfl _ _ rfl w.heap.size (n:=d) (m:=1) (news:=[.int .i64 g,.slice o2 lb c2]) rfl (ownsRow_of_block HO2.out fun g hg=>heap_alloc_old _ _ (World.ownsRow.lt HO2.out g hg).2) rfl (Src.new w2 [.int .i64 g,.slice o2 lb c2] _ _ _) rfl (by simp[Value.oneCell']) (by unfold maxLen;omega) (by have:=HP.out.z;have:=HLT.out;omega) (by have:=HB2.out.size;simp;omega) ?_)
   intro v3 w3 hown3 hgr3 _
   have HO3:=Lib.hid hown3
   have HB3:=Lib.hid ((HB2.out.alloc HB2.out.size _).grown hgr3 (by have:=HB2.out.size;simp;omega) (fun k hk=>(World.ownsRow.lt HO2.out k hk).1))
   clear hown3 hgr3
   go_wp2_with fail
   go_roundg (n - (d+1))
   case measure=>have:=HG.out;have:=HLT.out;omega
   case rel=>exact⟨d+1,_,by go_num,rfl,HLT.out,HO3.out,HB3.out⟩
  ·obtain rfl:d=n:=by omega
   obtain⟨o,c,rfl⟩: ∃o c,u3= .slice o d c:=by
    rcases HO.out.2 with ⟨rfl,h0⟩|⟨g,cp,cur,rfl,_⟩
    ·exact⟨none,0,by rw[h0]⟩
    ·exact⟨_,_,rfl⟩
   go_wp2_with fail
   go_ret
   exact⟨⟨_,_,_,rfl⟩,HB.out⟩
end
end Go.Proofs.YtfjbnpdffillbaaGreatDoor
namespace Go.Proofs.YtfjbnpdffillbaaGreatDoor
open Go.RowKit
theorem put9_rbut {w w':World} {g:Nat} {eb:Option Nat} (h:RBut g eb w w') (i:Nat) (x:Nd):RBut g eb w (put9 w' g i x):=by
 unfold put9
 exact((((((((h.store _ _).store _ _).store _ _).store _ _).store _ _).store _ _).store _ _).store _ _).store _ _
theorem elAd:ElT Tryz.prog 97 54 3 40 (.agg #[.int .i8 0,.int .i64 0,.slice none 0 0]):=⟨Tryz.underlying97,by kernel_rfl,rfl,by decide⟩
section
variable {w:World} {tb rc:Nat} {ro:Option Addr} {RL:List Bool} {re:List Nd} {oc:Option Addr} {cc base:Nat}
set_option maxRecDepth 100000 in
set_option maxHeartbeats 6400000 in
theorem tell_call (k n:Int) (ht:TlS w tb ro rc RL) (hk:AskS w tb base none) (hn:Nds w base (.slice oc re.length cc) re) (htb:tb<base) (hb:base≤w.heap.size) (hrow: ∀g o,ro=some ⟨g,o,none⟩→0<RL.length→g<base) (hl:re.length*72≤140737488355328):
  Calls Tryz.prog 36 #[.pointer (some ⟨tb,0,none⟩),.agg #[.int .i8 k,.int .i64 n,.slice oc re.length cc]] w fun e w'=>
   e= .returned (.bool (RL.getD 0 false))∧NBut base tb w w'∧TlS w' tb ro rc RL∧AskS w' tb base (some ⟨k,n,re⟩):=by
 have hA:=Lib.hid (AdB.new w (.int .i8 k) (.int .i64 n) (.slice oc re.length cc))
 have hb1:=(Below.refl w.heap.size w).alloc (Nat.le_refl _) (.cells #[.int .i8 k,.int .i64 n,.slice oc re.length cc] 54)
 have HT:=Lib.hid (ht.below hb1)
 have HK:=Lib.hid (AskS.below (A:=none) hk ht.lt hb1)
 have HN:=Lib.hid (show Nds _ base _ re from hn.below hb1)
 have HB:=Lib.hid ((NBut.refl base tb w).below hb1 hb)
 have hsz:(w.alloc (.cells #[.int .i8 k,.int .i64 n,.slice oc re.length cc] 54)).heap.size=w.heap.size+1:=by simp
 have HLT0:=Lib.hid hn.lt
 clear ht hk hn hb1
 go_enter Tryz.func36,Tryz.ntmps36
 go_upto_region 1 with fail
 obtain⟨W,hW⟩: ∃W,w.alloc (.cells #[.int .i8 k,.int .i64 n,.slice oc re.length cc] 54)=W:=⟨_,rfl⟩
 rw[hW]at hA HT HK HN HB hsz ⊢
 clear hW
 have t1:W.cell? ⟨tb,1,none⟩=some (.slice none 0 0):=HK.out
 have tl:=HT.out.lt
 have a0:=hA.out.c0
 have a1:=hA.out.c1
 have a2:=hA.out.c2
 have al:=hA.out.lt
 have HSZ:=Lib.hid hsz
 clear hsz
 have HS:=Lib.hid (Src.below (Src.own HN.out) ((Below.refl W.heap.size W).drew))
 go_upto_region 2 with fail
 refine wp_region_segs (X:=none) 8 [([0,1,2,3,4,5],6),([],7)] [] (by kernel_rfl) (by kernel_rfl) rfl (fun _ _ _ _ _ h=>h) ?_
 simp only[wpSegs,pickSegs_nil,pickSegs_cons,pickOps_nil,pickOps_cons,List.getD_cons_zero,List.getD_cons_succ,List.drop_succ_cons,List.drop_zero]
 repeat (go_big_quiet_step (fail))
 refine wpQuiet_nil ?_
 go_wp2_with fail
 refine(copyAddr_call (w:=W.drew) (cap:=cc) k n HS.out hl).mono ?_
 rintro e w2 ⟨⟨o2,c2,rfl,hn2⟩,hb2⟩
 have HB2:=Lib.hid (HB.out.drew.below hb2 (by show base≤W.heap.size;have:=HB.out.size;omega))
 have HT2:=Lib.hid ((HT.out.below ((Below.refl W.heap.size W).drew)).below hb2)
 have HN2:=Lib.hid hn2
 have hs2:W.heap.size≤w2.heap.size:=hb2.size
 have HA2:=Lib.hid ((AdB.below hA ((Below.refl W.heap.size W).drew)).below hb2)
 have HNC:=Lib.hid (show Nds w2 base (.slice oc re.length cc) re from(Nds.below (HN.out.below ((Below.refl W.heap.size W).drew)) hb2))
 have t2:w2.cell? ⟨tb,1,none⟩=some (.slice none 0 0):=(hb2.cell (p:=⟨tb,1,none⟩) tl).trans t1
 go_wp2_with fail
 refine⟨Keeps.of_below hb2,?_⟩
 repeat (go_big_quiet_step (fail))
 refine wpQuiet_nil ?_
 go_wp2_with fail
 refine⟨keeps_alloc _ _,?_⟩
 repeat (go_big_quiet_step (fail))
 refine wpQuiet_nil ?_
 have f2:=HT2.out.fz
 have tl2:tb<w2.heap.size:=HT2.out.lt
 clear hb2 hn2
 go_wp2_with (at_builtin;refine wpList_app elAd rfl _ _ rfl w2.heap.size (n:=0) (m:=1) (news:=[.int .i8 k,.int .i64 n,.slice o2 re.length c2]) rfl (World.ownsRow_nil _ _ _ _) rfl (Src.new w2 [.int .i8 k,.int .i64 n,.slice o2 re.length c2] _ _ _) rfl (by simp[Value.oneCell']) (by decide) (by decide) (by simp) ?_)
 intro v3 w3 hown3 hgr3 _
 have hb3:Below w2.heap.size w2 w3:=((Below.refl w2.heap.size w2).alloc (Nat.le_refl _) _).grown hgr3 (by simp) (fun k hk=>by cases hk)
 obtain⟨ab,cp,rfl,hab,habl,hc⟩: ∃ab cp,v3= .slice (some ⟨ab,0,none⟩) 1 cp∧w2.heap.size≤ab∧ab<w3.heap.size∧ ∀j u,([.int .i8 k,.int .i64 n,.slice o2 re.length c2]:List Value)[j]?=some u→w3.cell? ⟨ab,j,none⟩=some u:=by
  have h0:=hown3
  rcases hown3.2 with ⟨_,h⟩|⟨g,cap,cur,rfl,hb,hg,_⟩
  ·simp at h
  ·exact⟨g,cap,rfl,hb,(Array.getElem?_eq_some_iff.1 hg).1,fun j u hu=>by
    have:=h0.cells (g:=g) rfl j u (by simpa using hu)
    rwa[add_none,Nat.zero_add]at this⟩
 have HB3:=Lib.hid (HB2.out.below hb3 (by have:=HB2.out.size;omega))
 have HT3:=Lib.hid (HT2.out.below hb3)
 have HN3:=Lib.hid (HN2.out.below hb3)
 have HNC3:=Lib.hid (Nds.below HNC.out hb3)
 have HA3:=Lib.hid (HA2.out.below hb3)
 have HC:=Lib.hid hc
 have t3:w3.cell? ⟨tb,1,none⟩=some (.slice none 0 0):=(hb3.cell (p:=⟨tb,1,none⟩) tl2).trans t2
 have f3:=HT3.out.fz
 have hs3:w2.heap.size≤w3.heap.size:=hb3.size
 have hWs:W.heap.size=w.heap.size+1:=HSZ.out
 have HSW:=Lib.hid hWs
 clear hown3 hgr3 hb3 hc t1 t2 f2 HB2 HT2 HN2 HNC HA2 hWs
 go_upto_region 3 with fail
 obtain⟨W4,hW4⟩: ∃W4,w3.setCell ⟨tb,1,none⟩ (.slice (some ⟨ab,0,none⟩) 1 cp)=W4:=⟨_,rfl⟩
 have hs4:W4.heap.size=w3.heap.size:=by rw[←hW4];simp[World.setCell]
 have hk4: ∀j,j≠tb→W4.heap[j]?=w3.heap[j]?:=fun j hj=>by rw[←hW4];exact Below.heap_setCell _ _ _ _ (by show j≠tb;exact hj)
 have c4:W4.cell? ⟨tb,1,none⟩=some (.slice (some ⟨ab,0,none⟩) 1 cp):=by rw[←hW4];exact World.cell?_setCell_same _ _ _ t3
 have c40:W4.cell? ⟨tb,0,none⟩=some (.slice ro RL.length rc):=by rw[←hW4];exact(cell?_setCell_ne _ _ _ _ _ (by decide)).trans HT3.out.c0
 have f4: ∀o,W4.frozen? ⟨tb,o,none⟩=false:=fun o=>by rw[←hW4];exact frozen_store _ _ _ _ (f3 o)
 have hb4:NBut base tb w W4:=by rw[←hW4];exact HB3.out.store (.inl rfl) _ _
 have hbs:base≤w.heap.size:=hb
 have hws:w.heap.size<W.heap.size:=al
 have hA4:=AdB.block HA3.out (hk4 w.heap.size (by omega)) (by omega)
 have hn4:Nds W4 W.heap.size (.slice o2 re.length c2) re:=HN3.out.block fun g hg=>hk4 g (by have:=(HN3.out.lt g hg).1;have h2:W.heap.size≤g:=this;omega)
 have hnc4:Nds W4 base (.slice oc re.length cc) re:=HNC3.out.block fun g hg=>hk4 g (by have:=(HNC3.out.lt g hg).1;omega)
 have hc4: ∀j u,([.int .i8 k,.int .i64 n,.slice o2 re.length c2]:List Value)[j]?=some u→W4.cell? ⟨ab,j,none⟩=some u:=fun j u hu=>(World.cell?_of_block (w:=w3) (a:=⟨ab,j,none⟩) (hk4 ab (by omega))).trans (HC.out j u hu)
 have ht4:TlS W4 tb ro rc RL:=⟨by have:=HT3.out.lt;omega,c40,f4,fun hp=>by
  obtain⟨g,o,e1,e2,e3,e4⟩:=HT3.out.row hp
  exact⟨g,o,e1,e2,by omega,(World.cell?_of_block (w:=w3) (a:=⟨g,o,none⟩) (hk4 g e2)).trans e4⟩⟩
 obtain⟨gb,hgb,hgb2⟩: ∃gb,(∀g,(Value.slice oc re.length cc).ownBlock=some g→g=gb)∧(base≤gb∧gb<w.heap.size∨gb=W4.heap.size):=by
  cases hoc:(Value.slice oc re.length cc).ownBlock with
  |none=>exact⟨_,fun g hg=>(by cases hg),.inr rfl⟩
  |some g=>exact⟨g,fun g' hg=>(by injection hg with hg;exact hg.symm),.inl (HLT0.out g hoc)⟩
 rw[hW4]
 have htb4:tb<W4.heap.size:=ht4.lt
 have hgt:tb≠gb:=by rcases hgb2 with h|h<;>omega
 have hgab:ab≠gb∧ab<W4.heap.size∧base≤ab:=by refine⟨?_,?_,?_⟩<;>rcases hgb2 with h|h<;>omega
 have HWB:Hid (base≤W4.heap.size∧base≤gb):=Lib.hid (by refine⟨?_,?_⟩<;>rcases hgb2 with h|h<;>omega)
 have FIN:Hid (∀wr,RBut gb none W4 wr→TlS wr tb ro rc RL∧AskS wr tb base (some ⟨k,n,re⟩)∧NBut base tb w wr):=Lib.hid (by
  intro wr hbr
  have hnr:Nds wr W.heap.size (.slice o2 re.length c2) re:=hn4.block fun g hg=>by
   have h1:=hn4.lt g hg
   exact hbr.block g h1.2 (by rcases hgb2 with h|h<;>omega) (by simp)
  obtain⟨oa,cq,he,hv⟩:=hnr.toU
  injection he with e1 e2 e3
  subst e1
  have hc: ∀j u,([.int .i8 k,.int .i64 n,.slice o2 re.length c2]:List Value)[j]?=some u→wr.cell? ⟨ab,j,none⟩=some u:=fun j u hu=>(hbr.cell (p:=⟨ab,j,none⟩) hgab.2.1 hgab.1 (by simp)).trans (hc4 j u hu)
  refine⟨⟨Nat.lt_of_lt_of_le htb4 hbr.size,(hbr.cell (p:=⟨tb,0,none⟩) htb4 hgt (by simp)).trans ht4.c0,fun o=>(World.frozen?_of_block (w:=W4) (a:=⟨tb,o,none⟩) (hbr.block tb htb4 hgt (by simp))).trans (ht4.fz o),fun hp=>?_⟩,
   ⟨ab,cp,o2,c2,(hbr.cell (p:=⟨tb,1,none⟩) htb4 hgt (by simp)).trans c4,hgab.2.2,Nat.lt_of_lt_of_le hgab.2.1 hbr.size,hc 0 _ rfl,hc 1 _ rfl,hc 2 _ rfl,hv,fun g o ho hp=>?_⟩,
   hb4.trans (.of_rbut hbr HWB.out.1 (.inr HWB.out.2) (by simp))⟩
  ·obtain⟨g,o,e1,e2,e3,e4⟩:=ht4.row hp
   have:=hrow g o e1 hp
   exact⟨g,o,e1,e2,Nat.lt_of_lt_of_le e3 hbr.size,(hbr.cell (p:=⟨g,o,none⟩) e3 (by show g≠gb;have:=HWB.out.2;omega) (by simp)).trans e4⟩
  ·subst ho
   have:=(hnr.lt g rfl).1
   omega)
 have HA4:=Lib.hid hA4
 have HNC4:=Lib.hid hnc4
 have HGB:=Lib.hid hgb
 have HGB2:=Lib.hid (show w.heap.size<W4.heap.size∧gb≠w.heap.size from⟨hA4.lt,by have:=hA4.lt;rcases hgb2 with h|h<;>omega⟩)
 have hll:(re.length:Int)≤1954687338269:=by omega
 clear hgb2 hrow hW4 hs4 hk4 c40 f4 hb4 hA4 hn4 hnc4 hc4 ht4 hgb t3 f3 HT3 HN3 HNC3 HA3 HC HB3 c4 htb4 hgt hgab HWB
 clear hs2 hab hs3 hws tl2 tl al habl hb htb hbs HLT0 HN hA HS HB HK HT HSZ HSW a0 a1
 clear a2 hl
 go_wp2_with fail
 go_loopg [6] re.length (fun g iv wr=> ∃(d:Nat) (L:List Nd),iv= .int .i64 (d:Nat)∧g=re.length - d∧d≤re.length∧L.length=re.length∧Nds wr base (.slice oc re.length cc) L∧RBut gb none W4 wr)
 case atStart=>exact⟨0,re,rfl,rfl,Nat.zero_le _,rfl,HNC4.out,RBut.refl _ _ _⟩
 case round=>
  obtain⟨d,L,rfl,hg,hd,hL,hnr,hbr⟩:=hrel
  have HG:=Lib.hid hg
  have HBR:=Lib.hid hbr
  have HNR:=Lib.hid hnr
  have HD:=Lib.hid hd
  have HAR:=Lib.hid (HA4.out.block (hbr.block _ HGB2.out.1 (Ne.symm HGB2.out.2) (by simp)) hbr.size)
  have a2:=HAR.out.c2
  have HLL:=Lib.hid hL
  clear hg hnr hbr hL
  by_cases hlt:d<re.length
  ·have hlt':(d:Int)<(re.length:Int):=by omega
   have HLT:=Lib.hid hlt
   obtain⟨g,hog⟩: ∃g,oc=some ⟨g,0,none⟩:=by
    rcases HNR.out.2 with ⟨_,h0⟩|⟨g,cap',cur,h1,_⟩
    ·have:=HLL.out;omega
    ·injection h1 with h1;exact⟨g,h1⟩
   subst hog
   have HGG:=Lib.hid (HGB.out g rfl)
   obtain⟨z0,z1,z2,z3,z4,z5,z6,z7,z8,zf⟩:=HNR.out.nine HLL.out hlt rfl
   clear hlt
   go_upto_region 5 with fail
   obtain⟨W5,hW5⟩: ∃W5,put9 wr g d ⟨77,⟨0,0,0,0⟩,0,0,0,0⟩=W5:=⟨_,rfl⟩
   have HN5:=Lib.hid (hW5▸Nds.put HNR.out HLL.out HLT.out ⟨77,⟨0,0,0,0⟩,0,0,0,0⟩)
   have HB5:=Lib.hid (hW5▸put9_rbut (HGG.out▸HBR.out) d ⟨77,⟨0,0,0,0⟩,0,0,0,0⟩)
   unfold put9 at hW5
   clear z0 z1 z2 z3 z4 z5 z6 z7 z8 zf a2 HAR
   have e5:=hW5
   simp only[show(((0:BitVec 64).toNat:Nat):Int)=0 from rfl]at e5
   rw[e5]
   clear hW5 e5
   go_wp2_with fail
   go_roundg (re.length - (d+1))
   case measure=>have:=HG.out;have:=HLT.out;omega
   case rel=>exact⟨d+1,L.set d ⟨77,⟨0,0,0,0⟩,0,0,0,0⟩,by go_num,rfl,HLT.out,by rw[List.length_set];exact HLL.out,HN5.out,by have h:=HB5.out;rwa[HGG.out]at h⟩
  ·obtain rfl:d=re.length:=by omega
   obtain⟨FT,FA,FB⟩:=FIN.out wr HBR.out
   have HFT:=Lib.hid FT
   have HFA:=Lib.hid FA
   have HFB:=Lib.hid FB
   have c0:=FT.c0
   clear FT FA FB hd hlt
   by_cases hp:0<RL.length
   ·obtain⟨g0,o0,rfl,e2,e3,e4⟩:=HFT.out.row hp
    obtain⟨bv,hbv⟩: ∃bv,RL.getD 0 false=bv:=⟨_,rfl⟩
    rw[hbv]at e4
    have HBV:=Lib.hid hbv
    clear e2 hbv
    have hp':(0:Int)<(RL.length:Int):=by omega
    go_wp2_with fail
    go_ret
    exact⟨by rw[HBV.out];rfl,HFB.out,HFT.out,HFA.out⟩
   ·have h0:RL=[]:=List.eq_nil_of_length_eq_zero (by omega)
    subst h0
    go_wp2_with fail
    go_ret
    exact⟨rfl,HFB.out,HFT.out,HFA.out⟩
end
end Go.Proofs.YtfjbnpdffillbaaGreatDoor
namespace Go.Proofs.YtfjbnpdffillbaaGreatDoor
open Go.RowKit
def askA (k x:Int) (re:List Nd):Option Ad:=if k=3 then some ⟨k,x,re⟩else none
section
variable {w:World} {tb rc:Nat} {ro:Option Addr} {RL:List Bool} {re:List Nd} {o:Option Addr} {c:Nat}
set_option maxRecDepth 100000 in
set_option maxHeartbeats 3200000 in
theorem select_tell {lb sb hb:Nat} {line:Int} {last:Bool} (k x:Int) (ht:TlS w tb ro rc RL) (ha:AskS w tb w.heap.size none) (hs:Src w (.slice o re.length c) re.length (ndsC re)) (hl:re.length*72≤140737488355328)
  (h1:w.cell? ⟨lb,0,none⟩=some (.int .i64 line)) (h2:w.cell? ⟨sb,0,none⟩=some (.bool last)) (h3:w.cell? ⟨hb,0,none⟩=some (.func (.func 36) #[.pointer (some ⟨tb,0,none⟩)] #[])):
  Calls Tryz.prog 90 #[.agg #[.int .i8 k,.int .i64 x,.slice o re.length c],.pointer (some ⟨lb,0,none⟩),.pointer (some ⟨sb,0,none⟩),.pointer (some ⟨hb,0,none⟩)] w fun e w'=>
   e= .returned (.bool (selS k x line last (RL.getD 0 false)))∧NBut w.heap.size tb w w'∧TlS w' tb ro rc RL∧AskS w' tb w.heap.size (askA k x re):=by
 by_cases hk:k=3
 ·subst hk
  have HE:Hid (selS 3 x line last (RL.getD 0 false)=RL.getD 0 false):=Lib.hid rfl
  have HA:Hid (askA 3 x re=some ⟨3,x,re⟩):=Lib.hid rfl
  rw[HE.out,HA.out]
  obtain⟨bv,hbv⟩: ∃bv,RL.getD 0 false=bv:=⟨_,rfl⟩
  rw[hbv]
  have HBV:=Lib.hid hbv
  have hA:=Lib.hid (AdB.new w (.int .i8 3) (.int .i64 x) (.slice o re.length c))
  have hb1:=(Below.refl w.heap.size w).alloc (Nat.le_refl _) (.cells #[.int .i8 3,.int .i64 x,.slice o re.length c] 54)
  have HT:=Lib.hid (ht.below hb1)
  have HK:=Lib.hid (AskS.below (A:=none) ha ht.lt hb1)
  have HS:=Lib.hid (Src.below hs hb1)
  have hbl:=World.block_lt_of_cell? w _ h3
  have H3:=Lib.hid ((hb1.cell (p:=⟨hb,0,none⟩) hbl).trans h3)
  have HRW:Hid (∀g o,ro=some ⟨g,o,none⟩→0<RL.length→g<w.heap.size):=Lib.hid (by
   intro g o e hp
   obtain⟨g',o',e1,e2,e3,_⟩:=ht.row hp
   rw[e]at e1
   injection e1 with e1
   injection e1 with e1
   omega)
  have HTL:=Lib.hid ht.lt
  have HHL:=Lib.hid hbl
  clear ht ha hs h1 h2 h3 hb1 hbv hbl
  go_enter Tryz.func90,Tryz.ntmps90
  go_upto_region 1 with fail
  obtain⟨W,hW⟩: ∃W,w.alloc (.cells #[.int .i8 3,.int .i64 x,.slice o re.length c] 54)=W:=⟨_,rfl⟩
  have HWS:Hid (W.heap.size=w.heap.size+1):=Lib.hid (by rw[←hW];simp)
  have HB:Hid (Below w.heap.size w W):=Lib.hid (by rw[←hW];exact(Below.refl w.heap.size w).alloc (Nat.le_refl _) _)
  rw[hW]at hA HT HK HS H3 ⊢
  clear hW
  have a0:=hA.out.c0
  have a2:=hA.out.c2
  have al:=hA.out.lt
  go_upto_region 7 with fail
  go_wp2_with fail
  refine(cloneN_call HS.out hl).mono ?_
  rintro e w2 ⟨⟨v2,rfl,hn2⟩,hb2⟩
  obtain⟨o2,c2,rfl⟩:=hn2.form
  have HN2:=Lib.hid hn2
  have HB2:=Lib.hid (HB.out.trans (hb2.mono (by have:=HWS.out;omega)))
  have HT2:=Lib.hid (HT.out.below hb2)
  have HK2:=Lib.hid (AskS.below (A:=none) HK.out HT.out.lt hb2)
  have HA2:=Lib.hid (hA.out.below hb2)
  have H32:=Lib.hid ((hb2.cell (p:=⟨hb,0,none⟩) (by have:=HHL.out;have:=HWS.out;show hb<W.heap.size;omega)).trans H3.out)
  have b2:=HA2.out.c2
  have bl:=HA2.out.lt
  have bf:=HA2.out.fz
  clear hb2 hn2 a0 a2 al hA
  go_upto_region 8 with fail
  have HA3:=Lib.hid (HA2.out.set2 (.slice o2 re.length c2))
  obtain⟨W3,hW3⟩: ∃W3,w2.setCell ⟨w.heap.size,2,none⟩ (.slice o2 re.length c2)=W3:=⟨_,rfl⟩
  have HH3:Hid (∀j,j≠w.heap.size→W3.heap[j]?=w2.heap[j]?):=Lib.hid (fun j hj=>by rw[←hW3];exact Below.heap_setCell _ _ _ _ (by show j≠w.heap.size;exact hj))
  have HS3:Hid (W3.heap.size=w2.heap.size):=Lib.hid (by rw[←hW3];simp[World.setCell])
  rw[hW3]at HA3 ⊢
  have HB3:Hid (Below w.heap.size w W3):=Lib.hid (by rw[←hW3];exact HB2.out.setCell (p:=⟨w.heap.size,2,none⟩) (Nat.le_refl _) _)
  clear hW3 b2 bl bf
  have c0:=HA3.out.c0
  have c1:=HA3.out.c1
  have c2':=HA3.out.c2
  have cl:=HA3.out.lt
  have f3:W3.cell? ⟨hb,0,none⟩=some (.func (.func 36) #[.pointer (some ⟨tb,0,none⟩)] #[]):=(World.cell?_of_block (w:=w2) (a:=⟨hb,0,none⟩) (HH3.out hb (by have:=HHL.out;show hb≠w.heap.size;omega))).trans H32.out
  have HN3:=Lib.hid (HN2.out.block fun g hg=>HH3.out g (by have h1:=(HN2.out.lt g hg).1;have:=HWS.out;omega))
  have HT3:Hid (TlS W3 tb ro rc RL):=Lib.hid (HT2.out.same (HH3.out tb (by have:=HTL.out;omega)) (fun g o e _ _ hp=>HH3.out g (by have:=HRW.out g o e hp;omega)) (by have:=HS3.out;omega))
  have HK3:Hid (AskS W3 tb w.heap.size none):=Lib.hid ((World.cell?_of_block (w:=w2) (a:=⟨tb,1,none⟩) (HH3.out tb (by have:=HTL.out;omega))).trans HK2.out)
  go_wp2_with fail
  refine(tell_call (base:=w.heap.size) 3 x HT3.out HK3.out (HN3.out.mono (by have:=HWS.out;omega)) HTL.out (by have:=HA3.out.lt;omega) HRW.out hl).mono ?_
  rintro e w4 ⟨rfl,h1,h2,h3⟩
  have HR:=Lib.hid (show NBut w.heap.size tb w w4 from(NBut.of_below HB3.out (Nat.le_refl _)).trans h1)
  have HR2:=Lib.hid h2
  have HR3:=Lib.hid h3
  rw[HBV.out]
  clear h1 h2 h3
  go_wp2_with fail
  go_ret
  exact⟨rfl,HR.out,HR2.out,HR3.out⟩
 ·have HA:Hid (askA k x re=none):=Lib.hid (if_neg hk)
  have HS:Hid (selS k x line last (RL.getD 0 false)=selS k x line last false):=Lib.hid (by unfold selS;rw[if_neg hk,if_neg hk])
  refine(select_plain (hb:=hb) k x o re.length c hk h1 h2).mono ?_
  rintro e w' ⟨rfl,hb⟩
  rw[HA.out,HS.out]
  exact⟨rfl,NBut.of_below hb (Nat.le_refl _),ht.below hb,AskS.below (A:=none) ha ht.lt hb⟩
end
end Go.Proofs.YtfjbnpdffillbaaGreatDoor
namespace Go.Proofs.YtfjbnpdffillbaaGreatDoor
open Go.RowKit
def askedA (ka na:Int) (ra:List Nd) (kb nb:Int) (rb:List Nd) (opened:Bool):Option Ad:=if ka=0 then none else if kb=0 then askA ka na ra else if opened then askA kb nb rb else askA ka na ra
structure SqS (w:World) (gb bb n:Nat) (op:Nat→Bool) (ka na:Int) (oa:Option Addr) (la ca:Nat) (kb nb:Int) (ob:Option Addr) (lb cb:Nat) (nt:Bool) (line:Int) (last:Bool) (tb rc:Nat) (ro:Option Addr) (RL:List Bool) (W:World) (A:Option Ad):Prop where
 k:TkS W w.heap.size ka na oa la ca kb nb ob lb cb nt line last
 g:GtS W gb bb n op
 t:TlS W tb ro rc RL
 a:AskS W tb w.heap.size A
 r:RBut bb (some tb) w W
 h:W.cell? ⟨w.heap.size+1+1+1,0,none⟩=some (.func (.func 36) #[.pointer (some ⟨tb,0,none⟩)] #[])
 tl:tb<w.heap.size
 gl:gb<w.heap.size
 bl:bb<w.heap.size
 n1:tb≠gb
 n2:tb≠bb
 n3: ∀g o,ro=some ⟨g,o,none⟩→0<RL.length→g≠bb
section
variable {w:World} {gb bb n:Nat} {op:Nat→Bool} {ka na:Int} {oa:Option Addr} {la ca:Nat} {kb nb:Int} {ob:Option Addr} {lb cb:Nat} {nt:Bool} {line:Int} {last:Bool} {cs:Array Value} {tb rc:Nat} {ro:Option Addr} {RL:List Bool} {W W':World} {A:Option Ad}
theorem SqS.below (h:SqS w gb bb n op ka na oa la ca kb nb ob lb cb nt line last tb rc ro RL W A) (hb:Below W.heap.size W W'):SqS w gb bb n op ka na oa la ca kb nb ob lb cb nt line last tb rc ro RL W' A where
 k:=h.k.below hb
 g:=h.g.below hb
 t:=h.t.below hb
 a:=h.a.below h.t.lt hb
 r:=h.r.below hb
 h:=(hb.cell (p:=⟨w.heap.size+1+1+1,0,none⟩) h.k.lt).trans h.h
 tl:=h.tl
 gl:=h.gl
 bl:=h.bl
 n1:=h.n1
 n2:=h.n2
 n3:=h.n3
theorem SqS.tell (h:SqS w gb bb n op ka na oa la ca kb nb ob lb cb nt line last tb rc ro RL W none) (hb:NBut W.heap.size tb W W') (ht:TlS W' tb ro rc RL) (ha:AskS W' tb W.heap.size A):SqS w gb bb n op ka na oa la ca kb nb ob lb cb nt line last tb rc ro RL W' A:=
 have h0:=h.tl
 have h1:=h.k.lt
 {k:=h.k.same (hb.block _ (by omega) (by omega)) (hb.block _ (by omega) (by omega)) (hb.block _ (by omega) (by omega)) hb.size
  g:=h.g.block (hb.block _ h.g.lt (Ne.symm h.n1)) (hb.block _ h.g.ltb (Ne.symm h.n2)) hb.size
  t:=ht
  a:=ha.mono h.r.size
  r:=⟨hb.os.trans h.r.os,hb.tape.trans h.r.tape,hb.output.trans h.r.output,Nat.le_trans h.r.size hb.size,fun k hk e1 e2=>(hb.block k (Nat.lt_of_lt_of_le hk h.r.size) (fun e=>e2 (by rw[e]))).trans (h.r.block k hk e1 e2)⟩
  h:=(World.cell?_of_block (w:=W) (a:=⟨w.heap.size+1+1+1,0,none⟩) (hb.block (w.heap.size+1+1+1) (by omega) (by omega))).trans h.h
  tl:=h.tl,gl:=h.gl,bl:=h.bl,n1:=h.n1,n2:=h.n2,n3:=h.n3 }
theorem SqS.set (h:SqS w gb bb n op ka na oa la ca kb nb ob lb cb nt line last tb rc ro RL W A) {i:Nat} (hi:i<n) (x:Bool):
  GtS (W.setCell ⟨bb,i,none⟩ (.bool x)) gb bb n (fun j=>if j=i then x else op j)∧RBut bb (some tb) w (W.setCell ⟨bb,i,none⟩ (.bool x))∧TlS (W.setCell ⟨bb,i,none⟩ (.bool x)) tb ro rc RL∧AskS (W.setCell ⟨bb,i,none⟩ (.bool x)) tb w.heap.size A:=
 ⟨h.g.set hi x,h.r.store _ _,h.t.same (Below.heap_setCell _ _ _ _ (by show tb≠bb;exact h.n2)) (fun g o e _ _ hp=>Below.heap_setCell _ _ _ _ (by show g≠bb;exact h.n3 g o e hp)) (by simp[World.setCell]),
  h.a.same (Below.heap_setCell _ _ _ _ (by show tb≠bb;exact h.n2)) (fun k hk _=>Below.heap_setCell _ _ _ _ (by show k≠bb;have:=h.bl;omega)) (by simp[World.setCell])⟩
theorem SqS.stay (h:SqS w gb bb n op ka na oa la ca kb nb ob lb cb nt line last tb rc ro RL W A) (i:Nat):GtS W gb bb n (fun j=>if j=i then op i else op j)∧RBut bb (some tb) w W∧TlS W tb ro rc RL∧AskS W tb w.heap.size A:=⟨h.g.same i,h.r,h.t,h.a⟩
theorem SqS.new (hc:CmdV cs ka na oa la ca kb nb ob lb cb nt) (hg:GtS w gb bb n op) (ht:TlS w tb ro rc RL) (ha:AskS w tb w.heap.size none) (n1:tb≠gb) (n2:tb≠bb) (n3: ∀g o,ro=some ⟨g,o,none⟩→0<RL.length→g≠bb) (line:Int) (last:Bool):
  SqS w gb bb n op ka na oa la ca kb nb ob lb cb nt line last tb rc ro RL (tkW w cs line last (.func (.func 36) #[.pointer (some ⟨tb,0,none⟩)] #[])) none:=
 have hb:=tkW_below w cs line last (.func (.func 36) #[.pointer (some ⟨tb,0,none⟩)] #[])
 have hh:=tkW_heap w cs line last (.func (.func 36) #[.pointer (some ⟨tb,0,none⟩)] #[])
 {k:=TkS.new hc w line last _,g:=hg.below hb,t:=ht.below hb,a:=ha.below ht.lt hb,r:= .of_below hb,h:=cell_of_one hh.2.2.2.1,tl:=ht.lt,gl:=hg.lt,bl:=hg.ltb,n1:=n1,n2:=n2,n3:=n3 }
theorem SqS.select {re:List Nd} {c:Nat} {o:Option Addr} (h:SqS w gb bb n op ka na oa la ca kb nb ob lb cb nt line last tb rc ro RL W none) (k x:Int) (hs:Src W (.slice o re.length c) re.length (ndsC re)) (hl:re.length*72≤140737488355328):
  Calls Tryz.prog 90 #[.agg #[.int .i8 k,.int .i64 x,.slice o re.length c],.pointer (some ⟨w.heap.size+1,0,none⟩),.pointer (some ⟨w.heap.size+1+1,0,none⟩),.pointer (some ⟨w.heap.size+1+1+1,0,none⟩)] W fun e w'=>
   e= .returned (.bool (selS k x line last (RL.getD 0 false)))∧SqS w gb bb n op ka na oa la ca kb nb ob lb cb nt line last tb rc ro RL w' (askA k x re):=by
 refine(select_tell k x h.t h.a hs hl h.k.l h.k.t h.h).mono ?_
 rintro e w' ⟨rfl,h1,h2,h3⟩
 exact⟨rfl,h.tell h1 h2 h3⟩
set_option maxRecDepth 100000 in
set_option maxHeartbeats 6400000 in
theorem takes_tell {ra rb:List Nd} (hc:CmdV cs ka na oa ra.length ca kb nb ob rb.length cb nt) (hg:GtS w gb bb n op) {i:Nat} (hi:i<n) (ht:TlS w tb ro rc RL) (ha:AskS w tb w.heap.size none) (n1:tb≠gb) (n2:tb≠bb) (n3: ∀g o,ro=some ⟨g,o,none⟩→0<RL.length→g≠bb)
  (hsa:Src w (.slice oa ra.length ca) ra.length (ndsC ra)) (hla:ra.length*72≤140737488355328) (hsb:Src w (.slice ob rb.length cb) rb.length (ndsC rb)) (hlb:rb.length*72≤140737488355328) (line:Int) (last:Bool):
  Calls Tryz.prog 35 #[.pointer (some ⟨gb,0,none⟩),.int .i64 (i:Nat),.agg cs,.int .i64 line,.bool last,.func (.func 36) #[.pointer (some ⟨tb,0,none⟩)] #[]] w fun e w'=>
   e= .returned (.tuple #[.bool (takesS ka na kb nb nt line last (op i) (RL.getD 0 false)).1,.bool (takesS ka na kb nb nt line last (op i) (RL.getD 0 false)).2.1])∧
    GtS w' gb bb n (fun j=>if j=i then(takesS ka na kb nb nt line last (op i) (RL.getD 0 false)).2.2 else op j)∧RBut bb (some tb) w w'∧TlS w' tb ro rc RL∧AskS w' tb w.heap.size (askedA ka na ra kb nb rb (op i)):=by
 have hmf: ∀(fn:Fn) (first cap:Array Value) (w:World),(Instr.makeFunc fn first cap).run Tryz.prog w= .ok (.func fn first cap) w:=fun _ _ _ _=>rfl
 have HK:=Lib.hid (SqS.new hc hg ht ha n1 n2 n3 line last)
 have HSRA:=Lib.hid (Src.below hsa (tkW_below w cs line last (.func (.func 36) #[.pointer (some ⟨tb,0,none⟩)] #[])))
 have HSRB:=Lib.hid (Src.below hsb (tkW_below w cs line last (.func (.func 36) #[.pointer (some ⟨tb,0,none⟩)] #[])))
 have hbl:=hg.ltb
 have hgl:=hg.lt
 have hin:(i:Int)<(n:Int):=by omega
 have hnl:=hg.nl
 have hnge: ¬(n:Int)≤(i:Int):=by omega
 obtain⟨r,hr⟩: ∃r,takesS ka na kb nb nt line last (op i) (RL.getD 0 false)=r:=⟨_,rfl⟩
 obtain⟨A,hA⟩: ∃A,askedA ka na ra kb nb rb (op i)=A:=⟨_,rfl⟩
 rw[hr,hA]
 have HR:=Lib.hid hr
 have HA:=Lib.hid hA
 have HI:=Lib.hid hi
 have HC:=Lib.hid hc
 have HLA:=Lib.hid hla
 have HLB:=Lib.hid hlb
 clear hc hg hr hi hA ht ha n1 n2 n3 hsa hsb hla hlb
 go_enter Tryz.func35,Tryz.ntmps35
 go_upto_region 1 with fail
 have hW:(((w.alloc (.cells cs 91)).alloc (.cells #[.int .i64 line] 3)).alloc (.cells #[.bool last] 4)).alloc (.cells #[.func (.func 36) #[.pointer (some ⟨tb,0,none⟩)] #[]] 102)=tkW w cs line last (.func (.func 36) #[.pointer (some ⟨tb,0,none⟩)] #[]):=rfl
 rw[hW]
 clear hW
 obtain⟨W,hW⟩: ∃W,tkW w cs line last (.func (.func 36) #[.pointer (some ⟨tb,0,none⟩)] #[])=W:=⟨_,rfl⟩
 rw[hW]at HK HSRA HSRB ⊢
 clear hW
 obtain⟨c,hcz⟩: ∃c,w.heap.size=c:=⟨_,rfl⟩
 have HCZ:=Lib.hid hcz
 have g0:=HK.out.g.c0
 have g1:=HK.out.g.op i HI.out
 have g2:=HK.out.g.fz
 have gl:=HK.out.g.lt
 have gbl:=HK.out.g.ltb
 have a0:=HK.out.k.a0
 have a1:=HK.out.k.a1
 have a2:=HK.out.k.a2
 have b0:=HK.out.k.b0
 have b1:=HK.out.k.b1
 have b2:=HK.out.k.b2
 have kn:=HK.out.k.n
 have kl:=HK.out.k.lt
 have HSA:=Lib.hid (HK.out.select ka na HSRA.out HLA.out)
 rw[hcz]at hbl hgl a0 a1 a2 b0 b1 b2 kn kl ⊢
 rw[hcz]at HSA
 clear hcz
 by_cases ha0:ka=0
 ·subst ha0
  have HE:Hid (r=(true !=nt,false,op i)):=Lib.hid (by rw[←HR.out];rfl)
  have HAE:Hid (A=none):=Lib.hid (by rw[←HA.out];rfl)
  go_wp2_with fail
  go_ret2
  rw[HE.out,HAE.out]
  obtain rfl:=HCZ.out
  exact⟨by cases nt<;>rfl,HK.out.stay i⟩
 have qa0:(ka==0)=false:=beq_eq_false_iff_ne.2 ha0
 have HA0:=Lib.hid ha0
 clear ha0
 obtain⟨sa,hsa⟩: ∃sa,selS ka na line last (RL.getD 0 false)=sa:=⟨_,rfl⟩
 rw[hsa]at HSA
 have HSE:=Lib.hid hsa
 clear hsa
 by_cases hb0:kb=0
 ·subst hb0
  have HE:Hid (r=(sa !=nt,false,op i)):=Lib.hid (by rw[←HR.out,←HSE.out];unfold takesS;rw[if_neg HA0.out,if_pos rfl])
  have HAE:Hid (A=askA ka na ra):=Lib.hid (by rw[←HA.out];unfold askedA;rw[if_neg HA0.out,if_pos rfl])
  go_wp2_with fail
  refine HSA.out.mono ?_;rintro e w1 ⟨rfl,hk1⟩
  have HK1:=Lib.hid hk1
  have kn1:=HK1.out.k.n
  rw[HCZ.out]at kn1
  clear hk1
  go_wp2_with fail
  go_ret2
  rw[HE.out,HAE.out]
  obtain rfl:=HCZ.out
  exact⟨by cases nt<;>cases sa<;>rfl,HK1.out.stay i⟩
 have qb0:(kb==0)=false:=beq_eq_false_iff_ne.2 hb0
 have HB0:=Lib.hid hb0
 clear hb0
 obtain⟨oi,hoi⟩: ∃oi,op i=oi:=⟨_,rfl⟩
 rw[hoi]at g1 HR HA
 have HOI:=Lib.hid hoi
 clear hoi
 have HPB:=Lib.hid (past_call kb nb ob rb.length cb HK.out.k.l)
 rw[HCZ.out]at HPB
 cases oi with
 |true=>
  obtain⟨pb,hpb⟩: ∃pb,(kb==1&&decide (nb≤line))=pb:=⟨_,rfl⟩
  rw[hpb]at HPB
  have HPE:=Lib.hid hpb
  clear hpb
  have HE0:Hid (r=(true !=nt,(if kb=1 then decide (nb≤line)else selS kb nb line last (RL.getD 0 false)),!(if kb=1 then decide (nb≤line)else selS kb nb line last (RL.getD 0 false)))):=Lib.hid (by rw[←HR.out];unfold takesS;rw[if_neg HA0.out,if_neg HB0.out,if_pos rfl])
  have HAE:Hid (A=askA kb nb rb):=Lib.hid (by rw[←HA.out];unfold askedA;rw[if_neg HA0.out,if_neg HB0.out,if_pos rfl])
  cases pb with
  |true=>
   have hp:=HPE.out
   simp only[Bool.and_eq_true,beq_iff_eq,decide_eq_true_eq]at hp
   have HE:Hid (r=(true !=nt,true,false)):=Lib.hid (by rw[HE0.out,if_pos hp.1,decide_eq_true hp.2];rfl)
   have HAF:Hid (A=none):=Lib.hid (by rw[HAE.out,hp.1];rfl)
   clear hp
   go_wp2_with fail
   refine HPB.out.mono ?_;rintro e w1 ⟨rfl,hb1⟩
   have HKz:=Lib.hid (HK.out.below hb1)
   have knz:=HKz.out.k.n
   have b0z:=HKz.out.k.b0
   have b1z:=HKz.out.k.b1
   have klz:=HKz.out.k.lt
   have g0z:=HKz.out.g.c0
   have g1z:=HKz.out.g.op i HI.out
   have g2z:=HKz.out.g.fz
   rw[HCZ.out]at knz b0z b1z klz
   clear hb1
   go_wp2_with fail
   go_ret2
   rw[HE.out,HAF.out]
   obtain rfl:=HCZ.out
   exact⟨by cases nt<;>rfl,HKz.out.set HI.out _⟩
  |false=>
   by_cases hb1':kb=1
   ·have hp:=HPE.out
    rw[hb1']at hp
    have HE:Hid (r=(true !=nt,false,true)):=Lib.hid (by
     rw[HE0.out,if_pos hb1']
     have hp2:decide (nb≤line)=false:=hp
     rw[hp2];rfl)
    have HAF:Hid (A=none):=Lib.hid (by rw[HAE.out,hb1'];rfl)
    clear hp
    subst hb1'
    go_wp2_with fail
    refine HPB.out.mono ?_;rintro e w1 ⟨rfl,hb1⟩
    have HKz:=Lib.hid (HK.out.below hb1)
    have knz:=HKz.out.k.n
    have b0z:=HKz.out.k.b0
    have b1z:=HKz.out.k.b1
    have klz:=HKz.out.k.lt
    have g0z:=HKz.out.g.c0
    have g1z:=HKz.out.g.op i HI.out
    have g2z:=HKz.out.g.fz
    rw[HCZ.out]at knz b0z b1z klz
    clear hb1
    go_wp2_with fail
    go_ret2
    rw[HE.out,HAF.out]
    obtain rfl:=HCZ.out
    exact⟨by cases nt<;>rfl,HKz.out.set HI.out _⟩
   ·have qb1:(kb==1)=false:=beq_eq_false_iff_ne.2 hb1'
    have qn1:(kb !=1)=true:=bne_iff_ne.2 hb1'
    have HB1':=Lib.hid hb1'
    clear hb1'
    go_wp2_with fail
    refine HPB.out.mono ?_;rintro e w1 ⟨rfl,hb1⟩
    have HK0:=Lib.hid (HK.out.below hb1)
    have HSB:=Lib.hid (HK0.out.select kb nb (Src.below HSRB.out hb1) HLB.out)
    obtain⟨sb,hsb⟩: ∃sb,selS kb nb line last (RL.getD 0 false)=sb:=⟨_,rfl⟩
    rw[hsb]at HSB
    have HE:Hid (r=(true !=nt,sb,!sb)):=Lib.hid (by rw[HE0.out,if_neg HB1'.out,hsb])
    have b0':=HK0.out.k.b0
    have b1':=HK0.out.k.b1
    have b2':=HK0.out.k.b2
    have kl0:=HK0.out.k.lt
    rw[HCZ.out]at b0' b1' b2' kl0 HSB
    clear hb1 hsb
    go_wp2_with fail
    refine HSB.out.mono ?_;rintro e w2 ⟨rfl,hb2⟩
    have HKz:=Lib.hid (hb2)
    have knz:=HKz.out.k.n
    have b0z:=HKz.out.k.b0
    have b1z:=HKz.out.k.b1
    have klz:=HKz.out.k.lt
    have g0z:=HKz.out.g.c0
    have g1z:=HKz.out.g.op i HI.out
    have g2z:=HKz.out.g.fz
    rw[HCZ.out]at knz b0z b1z klz
    clear hb2
    go_wp2_with fail
    go_ret2
    rw[HE.out,HAE.out]
    obtain rfl:=HCZ.out
    exact⟨by cases nt<;>rfl,HKz.out.set HI.out _⟩
 |false=>
  have HAE:Hid (A=askA ka na ra):=Lib.hid (by rw[←HA.out];unfold askedA;rw[if_neg HA0.out,if_neg HB0.out,if_neg (by decide)])
  cases sa with
  |false=>
   have HE:Hid (r=(false !=nt,false,false)):=Lib.hid (by rw[←HR.out];unfold takesS;rw[if_neg HA0.out,if_neg HB0.out,if_neg (by decide),HSE.out];rfl)
   go_wp2_with fail
   refine HSA.out.mono ?_;rintro e w1 ⟨rfl,hk1⟩
   have HK1:=Lib.hid hk1
   have kn1:=HK1.out.k.n
   rw[HCZ.out]at kn1
   clear hk1
   go_wp2_with fail
   go_ret2
   rw[HE.out,HAE.out]
   obtain rfl:=HCZ.out
   exact⟨by cases nt<;>rfl,by have h:=HK1.out.stay i;rw[HOI.out]at h;exact h⟩
  |true=>
   have HE0:Hid (r=(true !=nt,(kb==1&&decide (nb≤line)||kb==2&&last),!(kb==1&&decide (nb≤line)||kb==2&&last))):=Lib.hid (by rw[←HR.out];unfold takesS;rw[if_neg HA0.out,if_neg HB0.out,if_neg (by decide),HSE.out,if_pos rfl])
   clear HPB
   go_wp2_with fail
   refine HSA.out.mono ?_;rintro e w1 ⟨rfl,hk1⟩
   have HK1:=Lib.hid hk1
   have b0':=HK1.out.k.b0
   have b1':=HK1.out.k.b1
   have b2':=HK1.out.k.b2
   have kl1:=HK1.out.k.lt
   have HPB:=Lib.hid (past_call kb nb ob rb.length cb HK1.out.k.l)
   rw[HCZ.out]at b0' b1' b2' kl1 HPB
   obtain⟨pb,hpb⟩: ∃pb,(kb==1&&decide (nb≤line))=pb:=⟨_,rfl⟩
   rw[hpb]at HPB HE0
   have HPE:=Lib.hid hpb
   clear hpb hk1
   cases pb with
   |true=>
    have HE:Hid (r=(true !=nt,true,false)):=Lib.hid HE0.out
    have HAF:=HAE
    go_wp2_with fail
    refine HPB.out.mono ?_;rintro e w2 ⟨rfl,hb2⟩
    have HKz:=Lib.hid (HK1.out.below hb2)
    have knz:=HKz.out.k.n
    have b0z:=HKz.out.k.b0
    have b1z:=HKz.out.k.b1
    have klz:=HKz.out.k.lt
    have g0z:=HKz.out.g.c0
    have g1z:=HKz.out.g.op i HI.out
    have g2z:=HKz.out.g.fz
    rw[HCZ.out]at knz b0z b1z klz
    clear hb2
    go_wp2_with fail
    go_ret2
    rw[HE.out,HAF.out]
    obtain rfl:=HCZ.out
    exact⟨by cases nt<;>rfl,HKz.out.set HI.out _⟩
   |false=>
    by_cases hk2:kb=2
    ·have HE:Hid (r=(true !=nt,last,!last)):=Lib.hid (by rw[HE0.out,hk2];rfl)
     have HAF:=HAE
     subst hk2
     go_wp2_with fail
     refine HPB.out.mono ?_;rintro e w2 ⟨rfl,hb2⟩
     have kt2:=(HK1.out.below hb2).k.t
     have b0'':=(HK1.out.below hb2).k.b0
     rw[HCZ.out]at kt2 b0''
     have HKz:=Lib.hid (HK1.out.below hb2)
     have knz:=HKz.out.k.n
     have b0z:=HKz.out.k.b0
     have b1z:=HKz.out.k.b1
     have klz:=HKz.out.k.lt
     have g0z:=HKz.out.g.c0
     have g1z:=HKz.out.g.op i HI.out
     have g2z:=HKz.out.g.fz
     rw[HCZ.out]at knz b0z b1z klz
     clear hb2
     go_wp2_with fail
     go_ret2
     rw[HE.out,HAF.out]
     obtain rfl:=HCZ.out
     exact⟨by cases nt<;>rfl,HKz.out.set HI.out _⟩
    ·have qk2:(kb==2)=false:=beq_eq_false_iff_ne.2 hk2
     have HE:Hid (r=(true !=nt,false,true)):=Lib.hid (by rw[HE0.out,qk2];rfl)
     have HAF:=HAE
     clear hk2
     go_wp2_with fail
     refine HPB.out.mono ?_;rintro e w2 ⟨rfl,hb2⟩
     have b0'':=(HK1.out.below hb2).k.b0
     rw[HCZ.out]at b0''
     have HKz:=Lib.hid (HK1.out.below hb2)
     have knz:=HKz.out.k.n
     have b0z:=HKz.out.k.b0
     have b1z:=HKz.out.k.b1
     have klz:=HKz.out.k.lt
     have g0z:=HKz.out.g.c0
     have g1z:=HKz.out.g.op i HI.out
     have g2z:=HKz.out.g.fz
     rw[HCZ.out]at knz b0z b1z klz
     clear hb2
     go_wp2_with fail
     go_ret2
     rw[HE.out,HAF.out]
     obtain rfl:=HCZ.out
     exact⟨by cases nt<;>rfl,HKz.out.set HI.out _⟩
end
end Go.Proofs.YtfjbnpdffillbaaGreatDoor
namespace Go.Proofs.YtfjbnpdffillbaaGreatDoor
open Go.RowKit
section
variable {w:World} {ta tb la lb:Nat}
set_option maxRecDepth 100000 in
set_option maxHeartbeats 3200000 in
theorem alike_none (ha:AskS w ta la none) (hb:AskS w tb lb none):
  Calls Tryz.prog 39 #[.pointer (some ⟨ta,0,none⟩),.pointer (some ⟨tb,0,none⟩)] w fun e w'=>e= .returned (.bool true)∧Below w.heap.size w w':=by
 have h1:w.cell? ⟨ta,1,none⟩=some (.slice none 0 0):=ha
 have h2:w.cell? ⟨tb,1,none⟩=some (.slice none 0 0):=hb
 have hl1:=World.block_lt_of_cell? w _ h1
 have hl2:=World.block_lt_of_cell? w _ h2
 clear ha hb
 go_enter Tryz.func39,Tryz.ntmps39
 go_wp2_with fail
 refine wp_region_segs (X:=none) 11 [] [0,1,2,3,4,5,6,7,8,9,10] (by kernel_rfl) (by kernel_rfl) rfl (fun _ _ _ _ _ h=>h) ?_
 simp only[wpSegs,pickSegs_nil,pickOps_nil,pickOps_cons,List.getD_cons_zero,List.getD_cons_succ,List.drop_succ_cons,List.drop_nil]
 repeat (go_big_quiet_step (fail))
 refine wpQuiet_nil ?_
 go_wp2_with fail
 refine wp_loop_rounds 1 ?_
 rw[rounds_succ]
 go_wp2_with fail
 go_ret
 exact⟨rfl,(Below.refl _ _).drew⟩
set_option maxRecDepth 100000 in
set_option maxHeartbeats 3200000 in
theorem alike_some {a:Ad} (ha:AskS w ta la (some a)) (hb:AskS w tb lb (some a)) (hta:ta<w.heap.size) (htb:tb<w.heap.size) (hz:a.re.length*72≤140737488355328):
  Calls Tryz.prog 39 #[.pointer (some ⟨ta,0,none⟩),.pointer (some ⟨tb,0,none⟩)] w fun e w'=>e= .returned (.bool true)∧Below w.heap.size w w':=by
 obtain⟨k,n,re⟩:=a
 obtain⟨ab,cp,oo,oc,h1,_,h3,h4,h5,h6,h7,_⟩:=ha
 obtain⟨bb,dp,po,pc,k1,_,k3,k4,k5,k6,k7,_⟩:=hb
 have HD:=Lib.hid ((Below.refl w.heap.size w).drew.drew)
 have HE:=Lib.hid (eqAddrU k n (ca:=oc) (cb:=pc) (h7.below HD.out) (k7.below HD.out) hz)
 clear h7 k7
 go_enter Tryz.func39,Tryz.ntmps39
 go_wp2_with fail
 refine wp_region_segs (X:=none) 11 [] [0,1,2,3,4,5,6,7,8,9,10] (by kernel_rfl) (by kernel_rfl) rfl (fun _ _ _ _ _ h=>h) ?_
 simp only[wpSegs,pickSegs_nil,pickOps_nil,pickOps_cons,List.getD_cons_zero,List.getD_cons_succ,List.drop_succ_cons,List.drop_nil]
 repeat (go_big_quiet_step (fail))
 refine wpQuiet_nil ?_
 go_wp2_with fail
 refine wp_loop_rounds 2 ?_
 rw[rounds_succ]
 go_wp2_with fail
 refine wp_region_segs (X:=none) 14 [] [0,1,2,3,4,5,6,7,8,9,10,11,12,13] (by kernel_rfl) (by kernel_rfl) rfl (fun _ _ _ _ _ h=>h) ?_
 simp only[wpSegs,pickSegs_nil,pickOps_nil,pickOps_cons,List.getD_cons_zero,List.getD_cons_succ,List.drop_succ_cons,List.drop_zero]
 repeat (go_big_quiet_step (fail))
 refine wpQuiet_nil ?_
 go_wp2_with fail
 refine HE.out.mono ?_
 rintro e w1 ⟨rfl,hb⟩
 have HB:=Lib.hid (HD.out.trans hb)
 have r1:=(HB.out.cell (p:=⟨ta,1,none⟩) hta).trans h1
 have r2:=(HB.out.cell (p:=⟨tb,1,none⟩) htb).trans k1
 have l1:ta<w1.heap.size:=Nat.lt_of_lt_of_le hta hb.size
 have l2:tb<w1.heap.size:=Nat.lt_of_lt_of_le htb hb.size
 clear hb h1 k1 h3 h4 h5 h6 k3 k4 k5 k6
 go_wp2_with fail
 rw[rounds_succ]
 go_wp2_with fail
 go_ret
 exact⟨rfl,HB.out⟩
theorem alike_same {A:Option Ad} (ha:AskS w ta la A) (hb:AskS w tb lb A) (hta:ta<w.heap.size) (htb:tb<w.heap.size) (hz: ∀x,A=some x→x.re.length*72≤140737488355328):
  Calls Tryz.prog 39 #[.pointer (some ⟨ta,0,none⟩),.pointer (some ⟨tb,0,none⟩)] w fun e w'=>e= .returned (.bool true)∧Below w.heap.size w w':=by
 cases A with
 |none=>exact alike_none ha hb
 |some a=>exact alike_some ha hb hta htb (hz a rfl)
end
end Go.Proofs.YtfjbnpdffillbaaGreatDoor
