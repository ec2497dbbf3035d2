/- Parts: Kg Kh. -/
import Derived.Test.YtfjbnpdffillbaaGreatDoorQ27
import Derived.Test.YtfjbnpdffillbaaGreatDoorQ20
set_option maxHeartbeats 3200000
set_option maxRecDepth 100000
namespace Go.Proofs.YtfjbnpdffillbaaGreatDoor
section
open Go.RowKit
structure zMw (w:World):Prop where
 ap:zLb w
 tz:zFw w
 pw:zGz w
theorem zMw.below {w w':World} (h:zMw w) (hb:Below w.heap.size w w'):zMw w':=⟨h.ap.below hb,h.tz.below hb,h.pw.below hb⟩
structure SpE where
 be:Nat
 br:Nat
 bx:Nat
 bv:Nat
 ere:Bool
 oa:Option Addr
 cap:Nat
 re:List Nd
 w0:World
abbrev bm (l:List Nat):List Mk:=l.map mk
structure SpS (w:World) (E:SpE) (out:List Nat) (at_:Nat) (ok:Bool) (ov:Value):Prop where
 tb:zMw E.w0
 nd:NdV E.w0 E.oa E.re
 b0:Below E.w0.heap.size E.w0 w
 lbe:E.w0.heap.size≤E.be
 lbr:E.w0.heap.size≤E.br
 ebe:E.be<E.bx
 ebr:E.br<E.bx
 exv:E.bx<E.bv
 lt:E.bv<w.heap.size
 xe:w.cell? ⟨E.be,0,none⟩=some (.bool E.ere)
 xr:w.cell? ⟨E.br,0,none⟩=some (.slice E.oa E.re.length E.cap)
 xv:w.cell? ⟨E.bv,0,none⟩=some (.pointer (some ⟨E.bx,0,none⟩))
 c0:w.cell? ⟨E.bx,0,none⟩=some (.slice E.oa E.re.length E.cap)
 c1:w.cell? ⟨E.bx,1,none⟩=some (.bool E.ere)
 c2:w.cell? ⟨E.bx,2,none⟩=some ov
 c3:w.cell? ⟨E.bx,3,none⟩=some (.int .i64 at_)
 c4:w.cell? ⟨E.bx,4,none⟩=some (.bool ok)
 c5:w.cell? ⟨E.bx,5,none⟩=some (.func (.func 113) #[] #[.pointer (some ⟨E.bv,0,none⟩)])
 c6:w.cell? ⟨E.bx,6,none⟩=some (.func (.func 114) #[] #[.pointer (some ⟨E.be,0,none⟩),.pointer (some ⟨E.bv,0,none⟩)])
 c7:w.cell? ⟨E.bx,7,none⟩=some (.func (.func 115) #[] #[.pointer (some ⟨E.bv,0,none⟩),.pointer (some ⟨E.br,0,none⟩)])
 fz: ∀o,w.frozen? ⟨E.bx,o,none⟩=false
 own:Mks w (E.bv+1) ov (bm out)
section
variable {w w':World} {E:SpE} {out:List Nat} {at_:Nat} {ok:Bool} {ov:Value}
theorem SpS.tabs (h:SpS w E out at_ ok ov):zMw w:=h.tb.below h.b0
theorem SpS.nds (h:SpS w E out at_ ok ov):NdV w E.oa E.re:=h.nd.below h.b0
theorem SpS.block (h:SpS w E out at_ ok ov) (hb: ∀g,ov.ownBlock=some g→w'.heap[g]?=w.heap[g]?) (h0:Below E.w0.heap.size w w') (h1:w'.heap[E.be]?=w.heap[E.be]?) (h2:w'.heap[E.br]?=w.heap[E.br]?) (h3:w'.heap[E.bx]?=w.heap[E.bx]?) (h4:w'.heap[E.bv]?=w.heap[E.bv]?):SpS w' E out at_ ok ov where
 tb:=h.tb
 nd:=h.nd
 b0:=h.b0.trans h0
 lbe:=h.lbe
 lbr:=h.lbr
 ebe:=h.ebe
 ebr:=h.ebr
 exv:=h.exv
 lt:=zPi h.lt h0.size
 xe:=(zPj (w:=w) (a:=⟨E.be,0,none⟩) h1).trans h.xe
 xr:=(zPj (w:=w) (a:=⟨E.br,0,none⟩) h2).trans h.xr
 xv:=(zPj (w:=w) (a:=⟨E.bv,0,none⟩) h4).trans h.xv
 c0:=(zPj (w:=w) (a:=⟨E.bx,0,none⟩) h3).trans h.c0
 c1:=(zPj (w:=w) (a:=⟨E.bx,1,none⟩) h3).trans h.c1
 c2:=(zPj (w:=w) (a:=⟨E.bx,2,none⟩) h3).trans h.c2
 c3:=(zPj (w:=w) (a:=⟨E.bx,3,none⟩) h3).trans h.c3
 c4:=(zPj (w:=w) (a:=⟨E.bx,4,none⟩) h3).trans h.c4
 c5:=(zPj (w:=w) (a:=⟨E.bx,5,none⟩) h3).trans h.c5
 c6:=(zPj (w:=w) (a:=⟨E.bx,6,none⟩) h3).trans h.c6
 c7:=(zPj (w:=w) (a:=⟨E.bx,7,none⟩) h3).trans h.c7
 fz:=fun o=>(zPk (w:=w) (a:=⟨E.bx,o,none⟩) h3).trans (h.fz o)
 own:=h.own.block hb
theorem SpS.w0lt (h:SpS w E out at_ ok ov):E.w0.heap.size≤E.bx:=by have:=h.lbe;have:=h.ebe;omega
theorem SpS.xlt (h:SpS w E out at_ ok ov):E.bx<w.heap.size:=by have:=h.exv;have:=h.lt;omega
theorem SpS.below (h:SpS w E out at_ ok ov) (hb:Below w.heap.size w w'):SpS w' E out at_ ok ov:=by
 have h1:=h.lbe;have h2:=h.ebe;have h3:=h.ebr;have h4:=h.exv;have h5:=h.lt
 exact h.block (fun g hg=>hb.block g (h.own.lt g hg).2) (hb.mono h.b0.size) (hb.block _ (by omega)) (hb.block _ (by omega)) (hb.block _ (by omega)) (hb.block _ (by omega))
theorem SpS.drew (h:SpS w E out at_ ok ov):SpS w.drew E out at_ ok ov:=h.below (zPg _ _).drew
theorem SpS.alloc (h:SpS w E out at_ ok ov) (o:Obj):SpS (w.alloc o) E out at_ ok ov:=h.below ((zPg _ _).alloc (zPh _) _)
theorem SpS.store (h:SpS w E out at_ ok ov) (o:Nat) (v:Value):Below E.w0.heap.size w (w.setCell ⟨E.bx,o,none⟩ v):=(zPg _ w).setCell (p:=⟨E.bx,o,none⟩) h.w0lt v
theorem zBN (w:World) (b o c p:Nat) (v:Value) (h:c≠b):(w.setCell ⟨b,o,none⟩ v).cell? ⟨c,p,none⟩=w.cell? ⟨c,p,none⟩:=
 zPj (zPp w ⟨b,o,none⟩ v c h)
theorem SpS.set (h:SpS w E out at_ ok ov) (o:Nat) (v:Value) {out':List Nat} {at':Nat} {ok':Bool} {ov':Value} (ho:2≤o∧o≤4)
  (h2:(if o=2 then v else ov)=ov') (h3:(if o=3 then v else .int .i64 at_)= .int .i64 at') (h4:(if o=4 then v else .bool ok)= .bool ok') (hm:Mks w (E.bv+1) ov' (bm out')):SpS (w.setCell ⟨E.bx,o,none⟩ v) E out' at' ok' ov':=by
 have hne: ∀j,j≠o→(w.setCell ⟨E.bx,o,none⟩ v).cell? ⟨E.bx,j,none⟩=w.cell? ⟨E.bx,j,none⟩:=fun j hj=>zAG _ _ _ _ _ hj
 have hsame: ∀u,w.cell? ⟨E.bx,o,none⟩=some u→(w.setCell ⟨E.bx,o,none⟩ v).cell? ⟨E.bx,o,none⟩=some v:=fun u hu=>zPy _ _ _ hu
 have q1:=h.ebe;have q2:=h.ebr;have q3:=h.exv
 exact {
  tb:=h.tb
  nd:=h.nd
  b0:=h.b0.trans (h.store o v)
  lbe:=h.lbe
  lbr:=h.lbr
  ebe:=h.ebe
  ebr:=h.ebr
  exv:=h.exv
  lt:=by simpa [World.setCell]using h.lt
  xe:=(zBN _ _ _ _ _ _ (by omega)).trans h.xe
  xr:=(zBN _ _ _ _ _ _ (by omega)).trans h.xr
  xv:=(zBN _ _ _ _ _ _ (by omega)).trans h.xv
  c0:=(hne 0 (by omega)).trans h.c0
  c1:=(hne 1 (by omega)).trans h.c1
  c2:=by
   by_cases e:o=2
   ·subst e;rw[hsame _ h.c2];rw[if_pos rfl]at h2;rw[h2]
   ·rw[hne 2 (fun e'=>e e'.symm),h.c2];rw[if_neg e]at h2;rw[h2]
  c3:=by
   by_cases e:o=3
   ·subst e;rw[hsame _ h.c3];rw[if_pos rfl]at h3;rw[h3]
   ·rw[hne 3 (fun e'=>e e'.symm),h.c3];rw[if_neg e]at h3;rw[h3]
  c4:=by
   by_cases e:o=4
   ·subst e;rw[hsame _ h.c4];rw[if_pos rfl]at h4;rw[h4]
   ·rw[hne 4 (fun e'=>e e'.symm),h.c4];rw[if_neg e]at h4;rw[h4]
  c5:=(hne 5 (by omega)).trans h.c5
  c6:=(hne 6 (by omega)).trans h.c6
  c7:=(hne 7 (by omega)).trans h.c7
  fz:=fun p=>zAP _ _ _ _ (h.fz p)
  own:=ownsRow_setCell_below hm (by show E.bx<E.bv+1;omega) _ }
theorem SpS.setAt (h:SpS w E out at_ ok ov) (j:Nat):SpS (w.setCell ⟨E.bx,3,none⟩ (.int .i64 j)) E out j ok ov:=h.set 3 _ (by omega) rfl rfl rfl h.own
theorem SpS.setOk (h:SpS w E out at_ ok ov) (b:Bool):SpS (w.setCell ⟨E.bx,4,none⟩ (.bool b)) E out at_ b ov:=h.set 4 _ (by omega) rfl rfl rfl h.own
theorem SpS.setOut (h:SpS w E out at_ ok ov) (hg:w.grownBy w' ov.ownBlock) {ov':Value} {out':List Nat} (hm:Mks w' (E.bv+1) ov' (bm out')):SpS (w'.setCell ⟨E.bx,2,none⟩ ov') E out' at_ ok ov':=by
 have q1:=h.ebe;have q2:=h.ebr;have q3:=h.exv;have q4:=h.lt;have q5:=h.lbe
 have hn: ∀k,k≤E.bv→w'.heap[k]?=w.heap[k]?:=fun k hk=>hg.block k (by omega) (fun e=>by have:=(h.own.lt k e.symm).1;omega)
 have nbe:=hn E.be (by omega);have nbr:=hn E.br (by omega);have nbx:=hn E.bx (by omega);have nbv:=hn E.bv (by omega)
 have hB:Below E.w0.heap.size w w':=(zPg _ w).grown hg (h.b0.size) (fun k hk=>by have:=(h.own.lt k hk).1;omega)
 exact {
  tb:=h.tb
  nd:=h.nd
  b0:=(h.b0.trans hB).trans ((zPg _ w').setCell (p:=⟨E.bx,2,none⟩) h.w0lt _)
  lbe:=h.lbe
  lbr:=h.lbr
  ebe:=h.ebe
  ebr:=h.ebr
  exv:=h.exv
  lt:=by have:=hg.size;simp[World.setCell];omega
  xe:=(zBN _ _ _ _ _ _ (by omega)).trans ((zPj (w:=w) (a:=⟨E.be,0,none⟩) nbe).trans h.xe)
  xr:=(zBN _ _ _ _ _ _ (by omega)).trans ((zPj (w:=w) (a:=⟨E.br,0,none⟩) nbr).trans h.xr)
  xv:=(zBN _ _ _ _ _ _ (by omega)).trans ((zPj (w:=w) (a:=⟨E.bv,0,none⟩) nbv).trans h.xv)
  c0:=(zAG _ _ _ _ _ (by decide)).trans ((zPj (w:=w) (a:=⟨E.bx,0,none⟩) nbx).trans h.c0)
  c1:=(zAG _ _ _ _ _ (by decide)).trans ((zPj (w:=w) (a:=⟨E.bx,1,none⟩) nbx).trans h.c1)
  c2:=zPy _ _ _ ((zPj (w:=w) (a:=⟨E.bx,2,none⟩) nbx).trans h.c2)
  c3:=(zAG _ _ _ _ _ (by decide)).trans ((zPj (w:=w) (a:=⟨E.bx,3,none⟩) nbx).trans h.c3)
  c4:=(zAG _ _ _ _ _ (by decide)).trans ((zPj (w:=w) (a:=⟨E.bx,4,none⟩) nbx).trans h.c4)
  c5:=(zAG _ _ _ _ _ (by decide)).trans ((zPj (w:=w) (a:=⟨E.bx,5,none⟩) nbx).trans h.c5)
  c6:=(zAG _ _ _ _ _ (by decide)).trans ((zPj (w:=w) (a:=⟨E.bx,6,none⟩) nbx).trans h.c6)
  c7:=(zAG _ _ _ _ _ (by decide)).trans ((zPj (w:=w) (a:=⟨E.bx,7,none⟩) nbx).trans h.c7)
  fz:=fun p=>zAP _ _ _ _ ((zPk (w:=w) (a:=⟨E.bx,p,none⟩) nbx).trans (h.fz p))
  own:=ownsRow_setCell_below hm (by show E.bx<E.bv+1;omega) _ }
structure SpB (w:World) (E:SpE) (ov:Value) (w':World) (ov':Value):Prop where
 but:zAr E.bx ov.ownBlock w w'
 new:zAo w ov.ownBlock ov'.ownBlock
theorem SpB.refl (w:World) (E:SpE) (ov:Value):SpB w E ov w ov:=⟨zAr.refl _ _ _,zAo.refl _ _⟩
theorem SpB.trans {w1 w2:World} {ov1 ov2:Value} (h:SpB w E ov w1 ov1) (k:SpB w1 E ov1 w2 ov2):SpB w E ov w2 ov2:=⟨h.but.trans h.new k.but,h.new.trans h.but.size k.new⟩
theorem SpB.below {w1 w2:World} {ov1:Value} (h:SpB w E ov w1 ov1) (k:Below w1.heap.size w1 w2):SpB w E ov w2 ov1:=⟨h.but.below k,h.new⟩
theorem SpB.of_below {w2:World} (k:Below w.heap.size w w2):SpB w E ov w2 ov:=(SpB.refl w E ov).below k
theorem SpB.store {w1:World} {ov1:Value} (h:SpB w E ov w1 ov1) (o:Nat) (v:Value):SpB w E ov (w1.setCell ⟨E.bx,o,none⟩ v) ov1:=⟨h.but.store o v,h.new⟩
theorem SpB.cell {w1:World} {ov1:Value} (h:SpB w E ov w1 ov1) {b o:Nat} (hb:b<w.heap.size) (h1:b≠E.bx) (h2:some b≠ov.ownBlock):w1.cell? ⟨b,o,none⟩=w.cell? ⟨b,o,none⟩:=h.but.cell (p:=⟨b,o,none⟩) hb h1 h2
theorem SpB.grown {w1:World} {ov1:Value} (hg:w.grownBy w1 ov.ownBlock) (hk:ov1.ownBlock=ov.ownBlock∨ov1.ownBlock=some w.heap.size) (o:Nat) (v:Value):SpB w E ov (w1.setCell ⟨E.bx,o,none⟩ v) ov1:=
 ⟨(zAr.store ⟨hg.os,hg.tape,hg.output,hg.size,fun k hk _ h2=>hg.block k hk h2⟩ o v),by
  rcases hk with h|h
  ·exact .inl h
  ·exact .inr fun g hg=>by rw[h]at hg;cases hg;exact zPh _⟩
theorem SpS.ovlt (h:SpS w E out at_ ok ov): ∀g,ov.ownBlock=some g→E.bv<g∧g<w.heap.size:=fun g hg=>by have:=h.own.lt g hg;exact⟨by omega,this.2⟩
end
@[go_sem] theorem zNd (w g:World) (v:Value) (b o:Nat) (s:Option Nat) (h:b<w.heap.size) (hne:v.ownBlock≠some b):(wgr v.ownBlock w g).cell? ⟨b,o,s⟩=w.cell? ⟨b,o,s⟩:=(zBu w g).cell _ h hne
@[go_sem] theorem zKZ (w g:World) (v:Value) (b o:Nat) (s:Option Nat) (h:b<w.heap.size) (hne:v.ownBlock≠some b):(wgr v.ownBlock w.drew g).cell? ⟨b,o,s⟩=w.cell? ⟨b,o,s⟩:=(zBu w.drew g).cell _ h hne
theorem zGc {w w':World} {row:Option Nat} (h:w.grownBy w' row):zAJ row w w':=⟨h.size,fun a ha hne=>zPj (h.block a.block ha (fun e=>hne e.symm))⟩
def SpP (w:World) (E:SpE) (ov:Value) (R:List Nat→Nat→Bool→Prop):Ending→World→Prop:=fun e w'=>
 e= .returned (.tuple #[])∧ ∃out at_ ok ov',SpS w' E out at_ ok ov'∧SpB w E ov w' ov'∧R out at_ ok
theorem zLw {w:World} {E:SpE} {out:List Nat} {at_:Nat} {ok:Bool} {ov:Value} (h:SpS w E out at_ ok ov) (s:ByteArray) (hs:s.size≤4096) (hl:out.length≤100000):
  Calls Tryz.prog 113 #[.string s,.pointer (some ⟨E.bv,0,none⟩)] w (SpP w E ov fun out' at' ok'=>out'=out++zAW s∧at'=at_∧ok'=(ok&&decide ((out++zAW s).length≤4096))):=by
 have H:=zPf h
 have hs1:(s.size:Int)≤4096:=by omega
 clear h
 go_enter Tryz.func113,Tryz.ntmps113
 go_wp2_with fail
 go_loopg [3,6] s.size (fun n _ iv wr=> ∃(d:Nat) (ov':Value),iv= .int .i64 (d:Nat)∧n=s.size - d∧d≤s.size∧SpS wr E (out++(zAW s).take d) at_ ok ov'∧SpB w E ov wr ov')
 case atStart=>exact⟨0,ov,rfl,by omega,by omega,by simpa using H.out,SpB.refl _ _ _⟩
 case round=>
  obtain⟨d,o1,rfl,hg,hd,hS,hB⟩:=hrel
  have HG:=zPf hg
  have HS:=zPf hS
  have HB:=zPf hB
  have hxv:=hS.xv
  have hc2:=hS.c2
  have hvl:=hS.lt
  have hxl:=hS.xlt
  have hfz:=hS.fz 2
  clear hg hS hB
  by_cases hlt:d<s.size
  ·have hlt':(d:Int)<(s.size:Int):=by omega
   have hnx:o1.ownBlock≠some E.bx:=fun e=>by have:=HS.out.ovlt _ e;have:=HS.out.exv;omega
   have hnv:o1.ownBlock≠some E.bv:=fun e=>by have:=HS.out.ovlt _ e;omega
   have hln:(out++(zAW s).take d).length≤110000:=by simp only[List.length_append,List.length_take];omega
   generalize hcur:out++(zAW s).take d=cur at HS hln
   have HLN:=zPf hln
   have HCUR:=zPf hcur
   clear hln hcur
   go_wp2_with fail
   refine zAA (X:=(o1.ownBlock)) 13 [([0,1,2,3,4,5,6,7,8],9),([],10)] [11,12] (by kernel_rfl) (by kernel_rfl) rfl (fun _ _ _ _ _ h=>h) ?_
   simp only[zAI,zAC,zAF,zAD,zAB,List.getD_cons_zero,List.getD_cons_succ,List.drop_succ_cons,List.drop_zero]
   repeat (go_big_quiet_step (fail))
   refine wpQuiet_nil ?_
   go_wp2_with fail
   refine⟨zAa (zAR _ _),?_⟩
   repeat (go_big_quiet_step (fail))
   refine wpQuiet_nil ?_
   have hb1:Below wr.heap.size wr (wr.alloc (.cells #[.int .u8 (s[d].toNat:Nat),.bool false] 131)).drew:=((zPg _ wr).alloc (zPh _) _).drew
   have HM1:=zPf (HS.out.own.below hb1)
   have hba:=zPf (show E.bv+1≤(wr.alloc (.cells #[.int .u8 (s[d].toNat:Nat),.bool false] 131)).drew.heap.size by show E.bv+1≤(wr.alloc _).heap.size;simp;omega)
   have HS1:=zPf (HS.out.below hb1)
   have HB1:=zPf (HB.out.below hb1)
   have hsz1:=zPf (show(wr.alloc (.cells #[.int .u8 (s[d].toNat:Nat),.bool false] 131)).drew.heap.size=wr.heap.size+1 by show(wr.alloc _).heap.size=_;simp)
   clear hb1
   go_wp2_with (at_builtin;refine zBA rfl _ _ rfl (E.bv+1) rfl HM1.out (ys:=[mk s[d].toNat]) rfl (Src.new wr (zDW [mk s[d].toNat]) _ _ _) (by have:=HLN.out;simp only[bm,List.length_map,List.length_cons,List.length_nil];omega) hba.out ?_)
   intro v2 w2 hm2 hgr2 hblk2
   have HM2:=zPf (show Mks w2 (E.bv+1) v2 (bm (cur++[s[d].toNat]))by rw[bm,List.map_append];exact hm2)
   have HS2:=zPf (HS1.out.setOut hgr2 HM2.out)
   have HB2:=zPf (HB1.out.trans (SpB.grown (E:=E) hgr2 (by rw[hsz1.out];exact hblk2) 2 v2))
   have hxv2:=(zPj (a:=⟨E.bv,0,none⟩) (hgr2.block E.bv (by rw[hsz1.out];omega) (fun e=>hnv e.symm))).trans HS1.out.xv
   have HK:=zPf (zGc hgr2)
   have hvl2:E.bv<w2.heap.size:=zPi (by rw[hsz1.out];omega) hgr2.size
   have hfz2:w2.frozen? ⟨E.bx,2,none⟩=false:=(zPk (a:=⟨E.bx,2,none⟩) (hgr2.block E.bx (by rw[hsz1.out];omega) (fun e=>hnx e.symm))).trans (HS1.out.fz 2)
   have hc22:w2.cell? ⟨E.bx,2,none⟩=some o1:=(zPj (a:=⟨E.bx,2,none⟩) (hgr2.block E.bx (by rw[hsz1.out];omega) (fun e=>hnx e.symm))).trans HS1.out.c2
   obtain⟨oo,cc,rfl⟩: ∃oo cc,v2= .slice oo (cur.length+1) cc:=by
    obtain⟨oo,cc,h⟩:=HM2.out.form
    exact⟨oo,cc,by rw[h];simp[bm]⟩
   clear hm2 hgr2 hblk2
   go_wp2_with fail
   refine⟨HK.out,?_⟩
   repeat (go_big_quiet_step (fail))
   refine wpQuiet_nil ?_
   go_wp2_with fail
   go_roundg (s.size - (d+1))
   case measure=>have:=HG.out;omega
   case rel=>
    refine⟨d+1,_,by go_num,rfl,by omega,?_,HB2.out⟩
    have e:out++(zAW s).take (d+1)=cur++[s[d].toNat]:=by
     have h1:=zDC s d hlt
     have h2:d<(zAW s).length:=by rw[zAh];exact hlt
     rw[zPo,zPw h2,Option.getD_some]at h1
     rw[←HCUR.out,List.take_add_one,zPw h2,h1]
     simp
    rw[e]
    exact HS2.out
  ·have hlt': ¬(d:Int)<(s.size:Int):=by omega
   have hde:d=s.size:=by omega
   subst hde
   have htk:out++(zAW s).take s.size=out++zAW s:=by rw[←zAh,List.take_length]
   rw[htk]at HS
   have hlen:(out++zAW s).length≤110000:=by rw[zPz,zAh];omega
   generalize hcc:out++zAW s=cur at HS hlen
   have HCC:=zPf hcc
   clear hcc
   obtain⟨oo,cc,rfl⟩: ∃oo cc,o1= .slice oo cur.length cc:=by
    obtain⟨oo,cc,h⟩:=HS.out.own.form
    exact⟨oo,cc,by rw[h];simp[bm]⟩
   have hc4:=HS.out.c4
   have hf4:=HS.out.fz 4
   have hln2:(cur.length:Int)≤110000:=by omega
   clear hlen htk
   cases ok with
   |false=>
    go_wp2_with fail
    refine zAA (X:=none) 15 [] [0,1,2,3,4,5,6,7,8,9,10,11,12,13,14] (by kernel_rfl) (by kernel_rfl) rfl (fun _ _ _ _ _ h=>h) ?_
    simp only[zAI,zAC,zAD,zAB,List.getD_cons_zero,List.getD_cons_succ,List.drop_succ_cons,List.drop_zero]
    repeat (go_big_quiet_step (fail))
    refine wpQuiet_nil ?_
    go_wp2_with fail
    go_end0
    exact⟨rfl,_,_,_,_,HS.out.drew.setOk false,((HB.out).below (zPg _ _).drew).store 4 _,HCC.out.symm,rfl,rfl⟩
   |true=>
    by_cases hq:cur.length≤4096
    ·have hq':decide ((cur.length:Int)≤4096)=true:=zPq (by omega)
     have HQ:=zPf hq
     go_wp2_with fail
     refine zAA (X:=none) 15 [] [0,1,2,3,4,5,6,7,8,9,10,11,12,13,14] (by kernel_rfl) (by kernel_rfl) rfl (fun _ _ _ _ _ h=>h) ?_
     simp only[zAI,zAC,zAD,zAB,List.getD_cons_zero,List.getD_cons_succ,List.drop_succ_cons,List.drop_zero]
     repeat (go_big_quiet_step (fail))
     refine wpQuiet_nil ?_
     go_wp2_with fail
     go_end0
     exact⟨rfl,_,_,_,_,HS.out.drew.setOk true,((HB.out).below (zPg _ _).drew).store 4 _,HCC.out.symm,rfl,by rw[HCC.out,zPq HQ.out];rfl⟩
    ·have hq':decide ((cur.length:Int)≤4096)=false:=zPr (by omega)
     have HQ:=zPf hq
     go_wp2_with fail
     refine zAA (X:=none) 15 [] [0,1,2,3,4,5,6,7,8,9,10,11,12,13,14] (by kernel_rfl) (by kernel_rfl) rfl (fun _ _ _ _ _ h=>h) ?_
     simp only[zAI,zAC,zAD,zAB,List.getD_cons_zero,List.getD_cons_succ,List.drop_succ_cons,List.drop_zero]
     repeat (go_big_quiet_step (fail))
     refine wpQuiet_nil ?_
     go_wp2_with fail
     go_end0
     exact⟨rfl,_,_,_,_,HS.out.drew.setOk false,((HB.out).below (zPg _ _).drew).store 4 _,HCC.out.symm,rfl,by rw[HCC.out,zPr HQ.out];rfl⟩
theorem SpP.mono {w:World} {E:SpE} {ov:Value} {R R':List Nat→Nat→Bool→Prop} {e:Ending} {w':World} (h:SpP w E ov R e w') (hr: ∀o a b,R o a b→R' o a b):SpP w E ov R' e w':=by
 obtain⟨h1,o,a,b,v,h2,h3,h4⟩:=h
 exact⟨h1,o,a,b,v,h2,h3,hr _ _ _ h4⟩
theorem zBI {w:World} {E:SpE} {out:List Nat} {at_:Nat} {ok:Bool} {ov:Value} (h:SpS w E out at_ ok ov) (s:ByteArray) (n:List Nat) (hn:zAW s=n) (hl:out.length≤100000) (hs:n.length≤4096):
  Calls Tryz.prog 113 #[.string s,.pointer (some ⟨E.bv,0,none⟩)] w (SpP w E ov fun out' at' ok'=>out'=out++n∧at'=at_∧ok'=(ok&&decide ((out++n).length≤4096))):=by
 subst hn
 exact zLw h s (by rw[←zAh];exact hs) hl
theorem zDI {w:World} {E:SpE} {out:List Nat} {at_:Nat} {ok:Bool} {ov:Value} (h:SpS w E out at_ ok ov) (b:UInt8) (hl:out.length≤90000):
  Calls Tryz.prog 114 #[.string ⟨#[b]⟩,.pointer (some ⟨E.be,0,none⟩),.pointer (some ⟨E.bv,0,none⟩)] w (SpP w E ov fun out' at' ok'=>out'=out++zA7 E.ere b.toNat∧at'=at_∧ok'=(ok&&decide ((out++zA7 E.ere b.toNat).length≤4096))):=by
 have H:=zPf h
 have hxe:=h.xe
 have hxv:=h.xv
 have hc5:=h.c5
 have hvl:=h.lt
 have hel:E.be<w.heap.size:=by have:=h.ebe;have:=h.exv;omega
 have hxl:=h.xlt
 clear h
 cases hE:E.ere with
 |true=>
  rw[hE]at hxe
  have HE:=zPf hE
  clear hE
  go_enter Tryz.func114,Tryz.ntmps114
  go_wp2_with fail
  refine(zBI H.out ⟨#[b]⟩ [b.toNat] rfl (by omega) (by simp)).mono ?_
  rintro e w1 ⟨rfl,o1,a1,k1,v1,hs1,hb1,hr1⟩
  have HS1:=zPf hs1
  have HB1:=zPf hb1
  have HR1:=zPf hr1
  clear hs1 hb1 hr1
  go_wp2_with fail
  go_end0
  exact⟨rfl,_,_,_,_,HS1.out,HB1.out,HR1.out⟩
 |false=>
  rw[hE]at hxe
  have HE:=zPf hE
  clear hE
  go_enter Tryz.func114,Tryz.ntmps114
  go_wp2_with fail
  refine(zBI H.out _ [92] rfl (by omega) (by simp)).mono ?_
  rintro e w1 ⟨rfl,o1,a1,k1,v1,hs1,hb1,rfl,rfl,rfl⟩
  have HS1:=zPf hs1
  have HB1:=zPf hb1
  have hxv:=hs1.xv
  have hc5:=hs1.c5
  have hvl:=hs1.lt
  have hxl:=hs1.xlt
  clear hs1 hb1
  go_wp2_with fail
  refine(zBI HS1.out ⟨#[b]⟩ [b.toNat] rfl (by simp;omega) (by simp)).mono ?_
  rintro e w2 ⟨rfl,o2,a2,k2,v2,hs2,hb2,rfl,rfl,rfl⟩
  have HS2:=zPf hs2
  have HB2:=zPf (HB1.out.trans hb2)
  clear hs2 hb2
  go_wp2_with fail
  go_end0
  refine⟨rfl,_,_,_,_,HS2.out,HB2.out,by simp[zA7],rfl,?_⟩
  cases ok with
  |false=>rfl
  |true=>
   by_cases hq:out.length+2≤4096
   ·have h1:out.length+1≤4096:=by omega
    simp[zA7,hq,h1]
   ·simp[zA7,hq]
end
section
open Go.RowKit
section
variable {w:World} {E:SpE} {out:List Nat} {at_:Nat} {ok:Bool} {ov:Value}
theorem SpS.hand (h:SpS w E out at_ ok ov):w.cell? ⟨E.bx,5,none⟩=some (.func (.func 113) #[] #[.pointer (some ⟨E.bv,0,none⟩)])∧w.cell? ⟨E.bx,6,none⟩=some (.func (.func 114) #[] #[.pointer (some ⟨E.be,0,none⟩),.pointer (some ⟨E.bv,0,none⟩)])∧w.cell? ⟨E.bx,7,none⟩=some (.func (.func 115) #[] #[.pointer (some ⟨E.bv,0,none⟩),.pointer (some ⟨E.br,0,none⟩)])∧E.bx<w.heap.size:=
 ⟨h.c5,h.c6,h.c7,h.xlt⟩
end
theorem zIY (w:World) (bx:Nat) (c:Cls) (S:ByteArray) (W:World) (hW:W=((w.alloc (.cells #[.pointer (some ⟨bx,0,none⟩)] 190)).alloc (.cells (zAS c) 76)).alloc (.cells #[.string S] 9)):
  Below w.heap.size w W∧W.cell? ⟨w.heap.size,0,none⟩=some (.pointer (some ⟨bx,0,none⟩))∧zBn W (w.heap.size+1) c∧W.cell? ⟨w.heap.size+2,0,none⟩=some (.string S)∧W.heap.size=w.heap.size+3:=by
 have hC:=(zBn.new (w.alloc (.cells #[.pointer (some ⟨bx,0,none⟩)] 190)) c).below ((zPg _ _).alloc (zPh _) (.cells #[.string S] 9))
 rw[World.size_alloc]at hC
 subst hW
 exact⟨(((zPg _ w).alloc (zPh _) _).alloc (by simp) _).alloc (by simp;omega) _,by simp[go_sem],hC,by simp[go_sem],by simp⟩
theorem zLs {w:World} {E:SpE} {out:List Nat} {at_:Nat} {ok:Bool} {ov:Value} (h:SpS w E out at_ ok ov) (c:Cls) (hc:c.els.length≠1) (hl:out.length≤90000):
  Calls Tryz.prog 146 #[.pointer (some ⟨E.bx,0,none⟩),zBE c] w (SpP w E ov fun out' at' ok'=>out'=out++zJb E.ere c∧at'=at_∧ok'=(ok&&decide ((out++zJb E.ere c).length≤4096))):=by
 have H:=zPf h
 have c1:=h.c1
 have hxl:=h.xlt
 have hvl:=h.lt
 have HSB:=zPf (show zJb E.ere c=if c.els.length=256 then [46]else zB8 c by
  unfold zJb
  split
  ·rfl
  ·rename_i h1
   match hh:c.els with
   |[]=>rfl
   |[b]=>rw[hh]at hc;simp at hc
   |_::_::_=>rfl)
 have HCE:=zPf hc
 have hx1:E.bx<w.heap.size+1:=by omega
 have hx2:E.bx<w.heap.size+1+1:=by omega
 clear h hc
 go_enter Tryz.func146,Tryz.ntmps146
 go_upto_if 9 with fail
 go_cut [] (fun wd=>Below w.heap.size w wd∧wd.cell? ⟨w.heap.size,0,none⟩=some (.pointer (some ⟨E.bx,0,none⟩))∧zBn wd (w.heap.size+1) c)
 case first=>
  have HQ:=zPf (fun S=>zIY w E.bx c S _ rfl)
  cases E.ere with
  |true=>
   go_wp2_with fail
   go_meet
   have h:=HQ.out (⟨#[46,91,42,94,36,92]⟩++⟨#[40,41,43,63,123,124]⟩)
   exact⟨h.1,h.2.1,h.2.2.1⟩
  |false=>
   go_wp2_with fail
   go_meet
   have h:=HQ.out ⟨#[46,91,42,94,36,92]⟩
   exact⟨h.1,h.2.1,h.2.2.1⟩
 case rest=>
 obtain⟨hb,hx,hcb⟩:=hcut
 have HB:=zPf hb
 have HS:=zPf (H.out.below hb)
 have HC:=zPf hcb
 have hxs:=hcb.lt
 have hxs0:w.heap.size<wc.heap.size:=by omega
 obtain⟨z0,z1,z2,z3,_⟩:=hcb.cells
 clear hb hcb hx1 hx2 c1
 go_wp2_with fail
 refine(zIW c).mono ?_;rintro e w1 ⟨rfl,hb1⟩
 have HB1:=zPf (HB.out.trans (hb1.mono HB.out.size))
 have HS1:=zPf (HS.out.below hb1)
 have HC1:=zPf (HC.out.below hb1)
 have hx1:=(hb1.cell (p:=⟨w.heap.size,0,none⟩) hxs0).trans hx
 have hls:=zPi hxs0 hb1.size
 have hc5:=HS1.out.c5
 have hxl1:=HS1.out.xlt
 have hn1:((c.els.length:Int)==1)=false:=zPl.2 (by have:=HCE.out;omega)
 clear hb1 hx z0 z1 z2 z3
 by_cases hq:c.els.length=256
 ·have hq':((c.els.length:Int)==256)=true:=beq_iff_eq.2 (by omega)
  have HE:=zPf (show zJb E.ere c=[46]by rw[HSB.out,if_pos hq])
  clear hq
  go_wp2_with fail
  refine(zBI HS1.out _ [46] rfl (by omega) (by simp)).mono ?_
  rintro e w2 ⟨rfl,o2,a2,k2,v2,hs2,hb2,hr2⟩
  have HS2:=zPf hs2
  have HB2:=zPf ((SpB.of_below (E:=E) (ov:=ov) (HB1.out.mono (zPh _))).trans hb2)
  have HR2:=zPf hr2
  clear hs2 hb2 hr2
  go_wp2_with fail
  go_end0
  exact⟨rfl,_,_,_,_,HS2.out,HB2.out,by rw[HE.out];exact HR2.out⟩
 ·have hq':((c.els.length:Int)==256)=false:=zPl.2 (by omega)
  have HE:=zPf (show zJb E.ere c=zB8 c by rw[HSB.out,if_neg hq])
  clear hq
  go_upto_region 15 with fail
  obtain⟨z0,z1,z2,z3,_⟩:=HC1.out.cells
  have hc2:=HS1.out.c2
  have hlc:=HC1.out.lt
  have hox:ov.ownBlock≠some E.bx:=fun e=>by have:=H.out.ovlt _ e;have:=H.out.exv;omega
  have hob:ov.ownBlock≠some w.heap.size:=fun e=>by have:=H.out.ovlt _ e;omega
  have hoc:ov.ownBlock≠some (w.heap.size+1):=fun e=>by have:=H.out.ovlt _ e;omega
  clear hc5 hn1 hq' hxs hxs0
  refine zAA (X:=(ov.ownBlock)) 10 [([0,1,2,3,4,5],6),([],7)] [8,9] (by kernel_rfl) (by kernel_rfl) rfl (fun _ _ _ _ _ h=>h) ?_
  simp only[zAI,zAC,zAF,zAD,zAB,List.getD_cons_zero,List.getD_cons_succ,List.drop_succ_cons,List.drop_zero]
  repeat (go_big_quiet_step (fail))
  refine wpQuiet_nil ?_
  go_wp2_with fail
  refine(zLR c (w:=w1.drew) HS1.out.drew.tabs.ap HS1.out.drew.tabs.tz).mono ?_;rintro e w2 ⟨⟨v2,rfl,hm2⟩,hb2⟩
  have HS2:=zPf (HS1.out.drew.below hb2)
  have HB2:=zPf ((SpB.of_below (E:=E) (ov:=ov) (HB1.out.mono (zPh _))).below ((zPg _ _).drew) |>.below hb2)
  have hx2:=(hb2.cell (p:=⟨w.heap.size,0,none⟩) hls).trans hx1
  have hls2:=zPi hls hb2.size
  have HK2:=zPf (zAJ.of_below (X:=ov.ownBlock) hb2)
  have HR2:=zPf (Src.own hm2)
  have HLB:=zPf (zDe c)
  have hbase:=zPf (show E.bv+1≤w2.heap.size from HS2.out.lt)
  clear hb2 hm2
  go_wp2_with fail
  refine⟨HK2.out,?_⟩
  repeat (go_big_quiet_step (fail))
  refine wpQuiet_nil ?_
  go_wp2_with (at_builtin;refine zBA rfl _ _ rfl (E.bv+1) rfl HS2.out.own (ys:=(zB8 c).map mk) rfl HR2.out (by have:=HLB.out;simp only[bm,List.length_map];omega) hbase.out ?_)
  intro v3 w3 hm3 hgr3 hblk3
  have HM3:=zPf (show Mks w3 (E.bv+1) v3 (bm (out++zB8 c))by rw[bm,List.map_append];exact hm3)
  have HS3:=zPf (HS2.out.setOut hgr3 HM3.out)
  have HB3:=zPf (HB2.out.trans (SpB.grown (E:=E) hgr3 hblk3 2 v3))
  have HK3:=zPf (zGc hgr3)
  have hxl3:E.bx<w3.heap.size:=zPi HS2.out.xlt hgr3.size
  have hfz3:w3.frozen? ⟨E.bx,2,none⟩=false:=(zPk (a:=⟨E.bx,2,none⟩) (hgr3.block E.bx HS2.out.xlt (fun e=>hox e.symm))).trans (HS2.out.fz 2)
  have hc23:w3.cell? ⟨E.bx,2,none⟩=some ov:=(zPj (a:=⟨E.bx,2,none⟩) (hgr3.block E.bx HS2.out.xlt (fun e=>hox e.symm))).trans HS2.out.c2
  have hx3:=(zPj (a:=⟨w.heap.size,0,none⟩) (hgr3.block w.heap.size hls2 (fun e=>hob e.symm))).trans hx2
  have hls3:=zPi hls2 hgr3.size
  obtain⟨oo,cc,rfl⟩: ∃oo cc,v3= .slice oo (out.length+(zB8 c).length) cc:=by
   obtain⟨oo,cc,h⟩:=HM3.out.form
   exact⟨oo,cc,by rw[h];simp[bm]⟩
  clear hm3 hgr3 hblk3
  go_wp2_with fail
  refine⟨HK3.out,?_⟩
  repeat (go_big_quiet_step (fail))
  refine wpQuiet_nil ?_
  go_upto_region 16 with fail
  have hx4:=(zBN w3 E.bx 2 w.heap.size 0 (.slice oo (out.length+(zB8 c).length) cc) (by omega)).trans hx3
  have hls4:w.heap.size<(w3.setCell ⟨E.bx,2,none⟩ (.slice oo (out.length+(zB8 c).length) cc)).heap.size:=by simpa [World.setCell]using hls3
  generalize w3.setCell ⟨E.bx,2,none⟩ (.slice oo (out.length+(zB8 c).length) cc)=W4 at HS3 HB3 hx4 hls4 ⊢
  have hc2:=HS3.out.c2
  have hc4:=HS3.out.c4
  have hf4:=HS3.out.fz 4
  have hxl4:=HS3.out.xlt
  have hlen:(out++zB8 c).length=out.length+(zB8 c).length:=zPz
  clear hx1 hls hxl1 z0 z1 z2 z3 hlc hox hob hoc hx2 hls2 hxl3 hfz3 hc23 hx3 hls3 HM3 HK3
  cases ok with
  |false=>
   clear hlen
   refine zAA (X:=none) 15 [] [0,1,2,3,4,5,6,7,8,9,10,11,12,13,14] (by kernel_rfl) (by kernel_rfl) rfl (fun _ _ _ _ _ h=>h) ?_
   simp only[zAI,zAC,zAD,zAB,List.getD_cons_zero,List.getD_cons_succ,List.drop_succ_cons,List.drop_zero]
   repeat (go_big_quiet_step (fail))
   refine wpQuiet_nil ?_
   go_wp2_with fail
   go_end0
   exact⟨rfl,_,_,_,_,HS3.out.drew.setOk false,((HB3.out).below (zPg _ _).drew).store 4 _,by rw[HE.out],rfl,rfl⟩
  |true=>
   by_cases hq:(out++zB8 c).length≤4096
   ·have hq':decide ((out.length:Int)+((zB8 c).length:Int)≤4096)=true:=zPq (by omega)
    have HQ:=zPf hq
    clear hq hlen
    refine zAA (X:=none) 15 [] [0,1,2,3,4,5,6,7,8,9,10,11,12,13,14] (by kernel_rfl) (by kernel_rfl) rfl (fun _ _ _ _ _ h=>h) ?_
    simp only[zAI,zAC,zAD,zAB,List.getD_cons_zero,List.getD_cons_succ,List.drop_succ_cons,List.drop_zero]
    repeat (go_big_quiet_step (fail))
    refine wpQuiet_nil ?_
    go_wp2_with fail
    go_end0
    exact⟨rfl,_,_,_,_,HS3.out.drew.setOk true,((HB3.out).below (zPg _ _).drew).store 4 _,by rw[HE.out],rfl,by rw[HE.out,zPq HQ.out];rfl⟩
   ·have hq':decide ((out.length:Int)+((zB8 c).length:Int)≤4096)=false:=zPr (by omega)
    have HQ:=zPf hq
    clear hq hlen
    refine zAA (X:=none) 15 [] [0,1,2,3,4,5,6,7,8,9,10,11,12,13,14] (by kernel_rfl) (by kernel_rfl) rfl (fun _ _ _ _ _ h=>h) ?_
    simp only[zAI,zAC,zAD,zAB,List.getD_cons_zero,List.getD_cons_succ,List.drop_succ_cons,List.drop_zero]
    repeat (go_big_quiet_step (fail))
    refine wpQuiet_nil ?_
    go_wp2_with fail
    go_end0
    exact⟨rfl,_,_,_,_,HS3.out.drew.setOk false,((HB3.out).below (zPg _ _).drew).store 4 _,by rw[HE.out],rfl,by rw[HE.out,zPr HQ.out];rfl⟩
end
end Go.Proofs.YtfjbnpdffillbaaGreatDoor
