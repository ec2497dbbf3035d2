/- Parts: Xs Xt. -/
import Derived.Test.YtfcemodgopdkkaaGreatDoorQ31
import Derived.Test.YtfcemodgopdkkaaGreatDoorQ39
set_option maxHeartbeats 12800000
set_option maxRecDepth 100000
namespace Go.Proofs.YtfcemodgopdkkaaGreatDoor
section
open Go.RowKit
def CmI (w:World) (o:Option Addr) (cs:List Cx):Prop:= ∀i c,cs[i]?=some c→ ∃nb no,o=some ⟨nb,no,none⟩∧nb<w.heap.size∧w.rangeAt nb (no+i*272) c.l∧CxM w c
def EqL (w:World) (o:Option Addr) (zs:List Cz):Prop:= ∀i z,zs[i]?=some z→ ∃nb no L,o=some ⟨nb,no,none⟩∧nb<w.heap.size∧w.rangeAt nb (no+i*272) L∧zBc L∧EqW w L z
structure ZOf (c:Cx) (z:Cz):Prop where
 a:z.a=⟨c.ka,c.na,c.ra⟩
 b:z.b=⟨c.kb,c.nb,c.rb⟩
 t:z.tx=c.T
 r:z.re=c.R
 f:z.fi=c.P.map (fun p=>⟨p.k,p.T⟩)
 p:ShP c.l z
def CpL (w:World) (base:Nat) (v:Value) (cs:List Cx):Prop:= ∃xs,w.ownsRow base 71 272 v cs.length xs∧ ∀i c,cs[i]?=some c→ ∃L,Sub xs (i*272) L∧CpC w base c L
section
variable {w w':World} {o:Option Addr} {cs:List Cx} {zs:List Cz} {base:Nat} {v v':Value} {c:Cx} {L:List Value}
theorem CmI.below (h:CmI w o cs) (hb:Below w.heap.size w w'):CmI w' o cs:=fun i c hc=>by
 obtain⟨nb,no,h1,h2,h3,h4⟩:=h i c hc
 exact⟨nb,no,h1,zMB h2 hb.size,fun j v hv=>(hb.cell (p:=⟨nb,no+i*272+j,none⟩) h2).trans (h3 j v hv),h4.below hb⟩
theorem EqL.below (h:EqL w o zs) (hb:Below w.heap.size w w'):EqL w' o zs:=fun i c hc=>by
 obtain⟨nb,no,L,h1,h2,h3,h4,h5⟩:=h i c hc
 exact⟨nb,no,L,h1,zMB h2 hb.size,fun j v hv=>(hb.cell (p:=⟨nb,no+i*272+j,none⟩) h2).trans (h3 j v hv),h4,h5.below hb⟩
theorem CmI.eqL (h:CmI w o cs) (hz: ∀(i:Nat) (z:Cz),zs[i]?=some z→ ∃c,cs[i]?=some c∧ZOf c z):EqL w o zs:=fun i z hi=>by
 obtain⟨c,hc,h0⟩:=hz i z hi
 obtain⟨nb,no,h1,h2,h3,h4⟩:=h i c hc
 exact⟨nb,no,c.l,h1,h2,h3,h4.i.ci.cl,h4.eqW h0.a h0.b h0.t h0.r h0.f h0.p⟩
theorem CpC.styt {t:TypeId} (h:CpC w base c L) (k:zCl t w w') (h1:127≠t) (h2:5≠t) (h3:73≠t):CpC w' base c L:=
 ⟨h.cl,h.same,h.a.imp fun _ e=>e.imp fun _ e=>⟨e.1,zAc e.2 h1 k⟩,h.b.imp fun _ e=>e.imp fun _ e=>⟨e.1,zAc e.2 h1 k⟩,h.t.imp fun _ e=>e.imp fun _ e=>⟨e.1,zAc e.2 h2 k⟩,h.r.imp fun _ e=>e.imp fun _ e=>⟨e.1,zAc e.2 h1 k⟩,h.p.imp fun _ e=>e.imp fun _ e=>⟨e.1,by
  obtain⟨xs,e1,e2⟩:=e.2
  refine⟨xs,zAc e1 h3 k,fun i p hi=>?_⟩
  obtain⟨e3,t',e4,o',c',e5,e6⟩:=e2 i p hi
  exact⟨e3,t',e4,o',c',e5,zAc e6 h2 k⟩⟩⟩
theorem CpC.mono {base':Nat} (h:CpC w base c L) (hb:base'≤base):CpC w base' c L:=
 ⟨h.cl,h.same,h.a.imp fun _ e=>e.imp fun _ e=>⟨e.1,zAH e.2 hb⟩,h.b.imp fun _ e=>e.imp fun _ e=>⟨e.1,zAH e.2 hb⟩,h.t.imp fun _ e=>e.imp fun _ e=>⟨e.1,zAH e.2 hb⟩,h.r.imp fun _ e=>e.imp fun _ e=>⟨e.1,zAH e.2 hb⟩,h.p.imp fun _ e=>e.imp fun _ e=>⟨e.1,by
  obtain⟨xs,e1,e2⟩:=e.2
  refine⟨xs,zAH e1 hb,fun i p hi=>?_⟩
  obtain⟨e3,t',e4,o',c',e5,e6⟩:=e2 i p hi
  exact⟨e3,t',e4,o',c',e5,zAH e6 hb⟩⟩⟩
theorem CpL.kb (h:CpL w base v cs) (k:Kb base w w'):CpL w' base v cs:=by
 obtain⟨xs,h1,h2⟩:=h
 refine⟨xs,zAQ h1 k,fun i c hc=>?_⟩
 obtain⟨L,e1,e2⟩:=h2 i c hc
 exact⟨L,e1,e2.kb k⟩
theorem CpL.mono {base':Nat} (h:CpL w base v cs) (hb:base'≤base):CpL w base' v cs:=by
 obtain⟨xs,h1,h2⟩:=h
 refine⟨xs,zAH h1 hb,fun i c hc=>?_⟩
 obtain⟨L,e1,e2⟩:=h2 i c hc
 exact⟨L,e1,e2.mono hb⟩
theorem CpL.styt {t:TypeId} (h:CpL w base v cs) (k:zCl t w w') (h0:71≠t) (h1:127≠t) (h2:5≠t) (h3:73≠t):CpL w' base v cs:=by
 obtain⟨xs,e1,e2⟩:=h
 refine⟨xs,zAc e1 h0 k,fun i c hc=>?_⟩
 obtain⟨L,e3,e4⟩:=e2 i c hc
 exact⟨L,e3,e4.styt k h1 h2 h3⟩
theorem zKA {size n:Nat} {g k:Nat} {e:TypeId} {xs:List Value} (h:w.ownsRow base e size (.slice (some ⟨g,0,none⟩) n k) n xs) {o:Nat} (hL:Sub xs o L) (hl:o+L.length≤n*size):w.rangeAt g o L:=fun j v hv=>by
 have hj:=(zMF.1 hv).1
 rw[zMX h _ (by omega)]
 exact hL j v hv
theorem CpL.eqL {k n:Nat} (h:CpL w base (.slice o n k) cs) (hn:n=cs.length) (hi: ∀(i:Nat) (c:Cx),cs[i]?=some c→ ∃w',CxM w' c) (hz: ∀(i:Nat) (z:Cz),zs[i]?=some z→ ∃c,cs[i]?=some c∧ZOf c z):EqL w o zs:=fun i z hi'=>by
 obtain⟨c,hc,h0⟩:=hz i z hi'
 subst hn
 obtain⟨xs,h1,h2⟩:=h
 obtain⟨L,e1,e2⟩:=h2 i c hc
 have hil:=(zMF.1 hc).1
 obtain⟨_,g,rfl,hg,_⟩:=zAZ h1 (by omega)
 obtain⟨w',hw⟩:=hi i c hc
 refine⟨g,0,L,rfl,hg,?_,e2.cl,e2.eqW hw h0.a h0.b h0.t h0.r h0.f h0.p⟩
 rw[Nat.zero_add]
 exact zKA h1 e1 (by rw[e2.cl.len];omega)
theorem zCj {n cap:Nat} (h:CmI w o cs) (hn:cs.length=n) (hz:n*440≤140737488351232):
  Calls Tryz.prog 88 #[.slice o n cap] w fun e w'=>(∃o2 k2,e= .returned (.slice o2 n k2)∧CpL w' w.heap.size (.slice o2 n k2) cs)∧Below w.heap.size w w':=by
 have H:=zL8 h
 have HN:=zL8 hn
 have HZ:=zL8 hz
 have hnz:(n:Int)≤319857928070:=by omega
 clear h hn hz
 go_enter Tryz.func88,Tryz.ntmps88
 go_wp2_with fail
 go_loopg [3,4] n (fun g cv iv wr=> ∃(d:Nat) (xs:List Value),iv= .int .i64 (d:Nat)∧g=n - d∧d≤n∧wr.ownsRow w.heap.size 71 272 cv d xs∧Hid (∀i c,i<d→cs[i]?=some c→ ∃L,Sub xs (i*272) L∧CpC wr w.heap.size c L)∧Below w.heap.size w wr)
 case atStart=>exact⟨0,[],rfl,rfl,Nat.zero_le _,zMO _ _ _ _,zL8 fun i c hi=>by omega,zL9 _ _⟩
 case round=>
 obtain⟨d,xs,rfl,hg,hd,ho,HX,hb⟩:=hrel
 have HG:=zL8 hg
 have HO:=zL8 ho
 have HB:=zL8 hb
 clear hg ho hb
 by_cases hlt:d<n
 ·have hlt':(d:Int)<(n:Int):=by omega
  obtain⟨c,hc⟩: ∃c,cs[d]?=some c:=⟨_,zMP (by rw[HN.out];exact hlt)⟩
  obtain⟨nb,no,rfl,hnb,hrg,hcm⟩:=(H.out.below HB.out) d c hc
  have HC:=zL8 hc
  have HRG:=zL8 hrg
  have HCI:Hid ((Tryz.prog.info? 71).map (·.size)=some c.l.length):=zL8 (by rw[hcm.i.ci.cl.len];exact zAd)
  have HE:=zL8 (zJg hcm)
  clear hc hrg hcm
  go_wp2_with (refine wpList_load_mid rfl 71 _ rfl nb (no+d*272) rfl c.l _ HRG.out Tryz.underlying71 rfl HCI.out ?_)
  refine HE.out.mono ?_;rintro e w2 ⟨⟨L,rfl,hL⟩,hb2⟩
  have HL:=zL8 (hL.mono HB.out.size)
  have HO2:=zL8 (zAQ HO.out (.below hb2))
  have HX2:Hid (∀i c,i<d→cs[i]?=some c→ ∃L,Sub xs (i*272) L∧CpC w2 w.heap.size c L):=zL8 fun i c hi hc=>by
   obtain⟨L,e1,e2⟩:=HX.out i c hi hc
   exact⟨L,e1,e2.kb (.below hb2)⟩
  have HB2:=zL8 (HB.out.trans (hb2.mono HB.out.size))
  clear hb2 hL HX HO HB HE
  have HCLL:=zL8 HL.out.cl
  have hba:Below w2.heap.size w2 (w2.alloc (.cells L.toArray 71)):=(zL9 _ _).alloc (zMA _) _
  have HO3:=zL8 (zAQ HO2.out (.below hba))
  have HL3:=zL8 (HL.out.kb (.below hba))
  have HX3:Hid (∀i c,i<d→cs[i]?=some c→ ∃L',Sub xs (i*272) L'∧CpC (w2.alloc (.cells L.toArray 71)) w.heap.size c L'):=zL8 fun i c hi hc=>by
   obtain⟨L,e1,e2⟩:=HX2.out i c hi hc
   exact⟨L,e1,e2.kb (.below hba)⟩
  have HB3:=zL8 (HB2.out.trans (hba.mono HB2.out.size))
  clear hba HO2 HL HX2 HB2
  go_wp2_with (first|refine zB7 rfl _ rfl rfl HCLL.out ?_|(at_builtin;refine zAN zK8 rfl _ _ rfl w.heap.size (n:=d) (m:=1) (xs:=xs) (news:=L) rfl HO3.out rfl (Src.new w2 L _ _ _) (by rw[HL3.out.cl.len]) HL3.out.cl.one (by have:=HZ.out;unfold maxLen;omega) (by have:=HZ.out;omega) (by have:=HB3.out.size;omega) ?_))
  intro v3 w3 hown3 hgr3 _
  have hst:zCl 71 (w2.alloc (.cells L.toArray 71)) w3:=zCl.grown HO3.out hgr3
  have HB4:=zL8 (HB3.out.grown hgr3 HB3.out.size (fun k hk=>(World.ownsRow.lt HO3.out k hk).1))
  have hxl:xs.length=d*272:=HO3.out.1
  have HX4:Hid (∀i c,i<d+1→cs[i]?=some c→ ∃L',Sub (xs++L) (i*272) L'∧CpC w3 w.heap.size c L'):=zL8 fun i c' hi hc=>by
   by_cases e:i<d
   ·obtain⟨L',e1,e2⟩:=HX3.out i c' e hc
    refine⟨L',fun j x hj=>?_,e2.styt hst (by decide) (by decide) (by decide)⟩
    have hj2:=(zMF.1 hj).1
    rw[e2.cl.len]at hj2
    rw[zMT (by omega)]
    exact e1 j x hj
   ·obtain rfl:i=d:=by omega
    rw[HC.out]at hc
    cases hc
    refine⟨L,fun j x hj=>?_,HL3.out.styt hst (by decide) (by decide) (by decide)⟩
    rw[zMU (by omega),hxl,show i*272+j - i*272=j by omega]
    exact hj
  have HO4:=zL8 hown3
  clear hown3 hgr3 hst hxl
  go_wp2_with fail
  go_roundg (n - (d+1))
  case measure=>have:=HG.out;omega
  case rel=>exact⟨d+1,_,by go_num,rfl,by omega,HO4.out,HX4,HB4.out⟩
 ·obtain rfl:d=n:=by omega
  obtain⟨o2,k2,rfl⟩:=zAI HO.out
  go_wp2_with fail
  go_ret
  exact⟨⟨_,_,rfl,xs,by rw[HN.out];exact HO.out,fun i c hc=>HX.out i c (by have:=(zMF.1 hc).1;rw[HN.out]at this;exact this) hc⟩,HB.out⟩
theorem zF7 {n ca cb:Nat} {ob:Option Addr} (ha:EqL w o zs) (hb:EqL w ob zs) (hn:zs.length=n) (hz:n≤319857928070):
  Calls Tryz.prog 37 #[.slice o n ca,.slice ob n cb] w fun e w'=>e= .returned (.bool true)∧Below w.heap.size w w':=by
 have HA:=zL8 ha
 have HB:=zL8 hb
 have HN:=zL8 hn
 have hnz:(n:Int)≤319857928070:=by omega
 clear ha hb hn
 go_enter Tryz.func37,Tryz.ntmps37
 go_wp2_with fail
 go_loopg [5] n (fun k iv wr=> ∃d:Nat,iv= .int .i64 (d:Nat)∧k=n - d∧d≤n∧Below w.heap.size w wr)
 case atStart=>exact⟨0,rfl,by omega,by omega,zL9 _ _⟩
 case round=>
 obtain⟨d,rfl,hg,hd,hbe⟩:=hrel
 have HG:=zL8 hg
 have HBE:=zL8 hbe
 clear hg
 by_cases hlt:d<n
 ·have hlt':(d:Int)<(n:Int):=by omega
  obtain⟨z,hz'⟩: ∃z,zs[d]?=some z:=⟨_,zMP (by rw[HN.out];exact hlt)⟩
  have hbd:Below w.heap.size w wr.drew:=hbe.drew
  obtain⟨na,oo,L,rfl,nal,hrg,hcl,hew⟩:=(HA.out.below hbe) d z hz'
  obtain⟨nb,ob',M,rfl,nbl,hrg2,hcl2,hew2⟩:=(HB.out.below hbe) d z hz'
  have HRG:=zL8 hrg
  have HRG2:=zL8 hrg2
  have HCI:Hid ((Tryz.prog.info? 71).map (·.size)=some L.length):=zL8 (by rw[hcl.len];exact zAd)
  have HCJ:Hid ((Tryz.prog.info? 71).map (·.size)=some M.length):=zL8 (by rw[hcl2.len];exact zAd)
  have hdr:Below wr.heap.size wr wr.drew:=(zL9 _ _).drew
  have HE:=zL8 (zK6 hcl hcl2 (hew.below hdr) (hew2.below hdr))
  clear hrg hrg2 hcl hcl2 hew hew2 hbe hz' hdr hbd
  go_wp2_with fail
  refine zAA (X:=none) 8 [] [0,1,2,3,4,5,6,7] (by kernel_rfl) (by kernel_rfl) rfl (fun _ _ _ _ _ h=>h) ?_
  simp only[zAJ,zAC,zAD,zAB,List.getD_cons_zero,List.getD_cons_succ,List.drop_succ_cons,List.drop_zero]
  go_big_quiet_step (fail)
  go_big_quiet_step (fail)
  go_big_quiet_step (fail)
  go_big_quiet_want
  refine zB0 71 _ rfl na (oo+d*272) rfl L _ HRG.out nal Tryz.underlying71 rfl HCI.out ?_
  go_big_quiet_on
  simp only[Act.put,List.setIfInBounds_toArray,List.set_cons_succ,List.set_cons_zero]
  go_big_quiet_step (fail)
  go_big_quiet_step (fail)
  go_big_quiet_step (fail)
  go_big_quiet_want
  refine zB0 71 _ rfl nb (ob'+d*272) rfl M _ HRG2.out nbl Tryz.underlying71 rfl HCJ.out ?_
  go_big_quiet_on
  simp only[Act.put,List.setIfInBounds_toArray,List.set_cons_succ,List.set_cons_zero]
  refine wpQuiet_nil ?_
  go_wp2_with fail
  refine HE.out.mono ?_;rintro e w2 ⟨rfl,hb2⟩
  have HB2:=zL8 (HBE.out.drew.trans (hb2.mono (by have:=HBE.out.size;show _≤wr.heap.size;omega)))
  clear hb2
  go_wp2_with fail
  go_roundg (n - (d+1))
  case measure=>have:=HG.out;omega
  case rel=>exact⟨d+1,by go_num,rfl,by omega,HB2.out⟩
 ·have hlt': ¬(d:Int)<(n:Int):=by omega
  clear hbe
  go_wp2_with fail
  go_ret
  exact⟨rfl,HBE.out⟩
end
end
section
open Go.RowKit
theorem zJn {w g:World} {oa:Option Addr} {T:List Nat} (h:zBU w oa T):zBU (wgr none w.drew g) oa T:=fun hp=>by
 obtain⟨b,o,h1,h2⟩:=h hp
 exact⟨b,o,h1,fun j hj=>(zDm w g b (o+j) none (zMf _ _ (h2 j hj))).trans (h2 j hj)⟩
def zJ0 (rs:List Rq) (cs:List Cx) (q:Bool) (base:Nat) (e:Ending) (w':World):Prop:=
 (zFn rs=none∧ ∃er at_:Int,er≠0∧e= .returned (.tuple #[.agg #[.slice none 0 0,.slice none 0 0,.slice none 0 0,.bool false],.int .i64 er,.int .i64 at_]))∨
 ∃tn,zFn rs=some tn∧tn.length=rs.length∧ ∃oC kC vt vf,e= .returned (.tuple #[.agg #[.slice oC rs.length kC,vt,vf,.bool q],.int .i64 0,.int .i64 0])∧CpL w' base (.slice oC rs.length kC) cs∧w'.ownsRow base 3 1 vt rs.length (tn.map (.int .i64))∧w'.ownsRow base 9 1 vf (zAO rs []).length ((zAO rs []).map zI2)
theorem zJ0.bad {rs:List Rq} {cs:List Cx} {q:Bool} {base:Nat} {w':World} {er at_:Int} (h:zFn rs=none) (he:er≠0):zJ0 rs cs q base (.returned (.tuple #[.agg #[.slice none 0 0,.slice none 0 0,.slice none 0 0,.bool false],.int .i64 er,.int .i64 at_])) w':= .inl ⟨h,er,at_,he,rfl⟩
structure zJz (w1 w:World) (d:Nat) (vC vt vf:Value) (q:Bool) (tn:List Int) (fs:List (List Nat)):Prop where
 B:Below d w1 w
 qr:PrB w d vC vt vf q
 tr:w.ownsRow (d+1) 3 1 vt tn.length (tn.map (.int .i64))
 fl:w.ownsRow (d+1) 9 1 vf fs.length (fs.map zI2)
section
variable {w1 w w':World} {d:Nat} {vC vt vf:Value} {q:Bool} {tn:List Int} {fs:List (List Nat)}
theorem zJz.below (h:zJz w1 w d vC vt vf q tn fs) (hb:Below w.heap.size w w'):zJz w1 w' d vC vt vf q tn fs:=
 ⟨h.B.trans (hb.mono (Nat.le_of_lt h.qr.lt)),h.qr.below hb,zAQ h.tr (.below hb),zAQ h.fl (.below hb)⟩
theorem PrB.set1 {v0 v1 v2:Value} (h:PrB w d v0 v1 v2 q) (x:Value):PrB (w.setCell ⟨d,1,none⟩ x) d v0 x v2 q:=
 ⟨by simpa [World.setCell]using h.lt,(zAF _ _ _ _ _ (by decide)).trans h.c0,zMR _ _ _ h.c1,(zAF _ _ _ _ _ (by decide)).trans h.c2,(zAF _ _ _ _ _ (by decide)).trans h.c3,fun o=>(World.frozen?_setCell _ _ _ _).trans (h.fz o)⟩
end
theorem zGJ {rs:List Rq} {i:Nat} {c:Rq} (hc:rs[i]?=some c):r1S rs (rs.drop i) i=(okR rs i c&&r1S rs (rs.drop (i+1)) (i+1)):=by
 obtain⟨h1,h2⟩:=zMF.1 hc
 rw[List.drop_eq_getElem_cons h1,h2,r1S]
theorem zEG {rs:List Rq} {i:Nat} {c:Rq} (hc:rs[i]?=some c):r2S rs (rs.drop i) i=(!(c.nm==123&&decide (zAW (rs.drop i) i 0<0))&&r2S rs (rs.drop (i+1)) (i+1)):=by
 obtain⟨h1,h2⟩:=zMF.1 hc
 have e:=List.drop_eq_getElem_cons h1
 rw[h2]at e
 have:r2S rs (c::rs.drop (i+1)) i=(!(c.nm==123&&decide (zAW (rs.drop i) i 0<0))&&r2S rs (rs.drop (i+1)) (i+1)):=rfl
 rw[←e]at this
 exact this
theorem zGI {rs:List Rq} {i:Nat} {c:Rq} (hc:rs[i]?=some c):r3S rs (rs.drop i) i=if toR rs i c= -2 then none else(r3S rs (rs.drop (i+1)) (i+1)).map (toR rs i c:: ·):=by
 obtain⟨h1,h2⟩:=zMF.1 hc
 rw[List.drop_eq_getElem_cons h1,h2,r3S]
section
variable {w:World} {o:Option Addr} {n cap:Nat} {rs:List Rq} {cs:List Cx}
theorem zED (h:RrS w o n (cs.map (·.l)) rs) (hi:CmI w o cs) (hz:n*440≤140737488351232) (hcap:n≤cap) (q:Bool):
  Calls Tryz.prog 87 #[.slice o n cap,.bool q] w fun e w'=>zJ0 rs cs q w.heap.size e w'∧Below w.heap.size w w':=by
 have hnz:(n:Int)≤319857928070:=by omega
 have hnz2:n≤319857928070:=by omega
 have HRL:=zL8 h.rl
 have HCL:Hid (cs.length=n):=zL8 (by have:=h.ll;simpa using this)
 have HZ:=zL8 hz
 have HCAP:=zL8 hcap
 have hba:Below w.heap.size w (w.alloc (.cells #[.slice none 0 0,.slice none 0 0,.slice none 0 0,.bool false] 26)):=(zL9 _ _).alloc (zMA _) _
 have H:=zL8 (h.below hba)
 have HI:=zL8 (hi.below hba)
 have HP:=zL8 (PrB.new w (.slice none 0 0) (.slice none 0 0) (.slice none 0 0) false)
 have HB:=zL8 hba
 have H0:=zL8 h
 clear h hi hba hz hcap
 go_enter Tryz.func87,Tryz.ntmps87
 go_upto_region 1 with fail
 obtain⟨W,hW⟩: ∃W,w.alloc (.cells #[.slice none 0 0,.slice none 0 0,.slice none 0 0,.bool false] 26)=W:=⟨_,rfl⟩
 rw[hW]at HB HP H HI ⊢
 clear hW
 obtain⟨c,hcz⟩: ∃c,w.heap.size=c:=⟨_,rfl⟩
 rw[hcz]at HP HB ⊢
 have HCZ:=zL8 hcz
 clear hcz
 have HNB:Hid (∀(i:Nat) (x:Rq),rs[i]?=some x→ ∃nb no at_,o=some ⟨nb,no,none⟩∧nb<c∧W.cell? ⟨nb,no+i*272+8,none⟩=some (.int .i64 at_)):=zL8 fun i x hx=>by
  have hil:=(zMF.1 hx).1
  rw[HRL.out]at hil
  obtain⟨l,x',nb,no,_,_,e1,e2,e3,e4,_⟩:=H0.out.at_ hil
  obtain⟨a,ha⟩:=e4.at_
  rw[←HCZ.out]
  exact⟨nb,no,a,e1,e2,((by rw[HCZ.out];exact HB.out:Below w.heap.size w W).cell (p:=⟨nb,no+i*272+8,none⟩) e2).trans (e3 8 _ ha)⟩
 go_wp2_with fail
 go_loopg [5,6,7] n (fun k ev av iv wr=>ev= .int .i64 0∧av= .int .i64 0∧ ∃i:Nat,iv= .int .i64 (i:Nat)∧k=n - i∧i≤n∧Hid (r1S rs (rs.drop i) i=r1S rs rs 0)∧Below W.heap.size W wr)
 case atStart=>exact⟨rfl,rfl,0,rfl,rfl,by omega,zL8 rfl,zL9 _ _⟩
 case round=>
 obtain⟨rfl,rfl,i,rfl,hg,hin,HR1,hb⟩:=hrel
 have HG:=zL8 hg
 have HBR:=zL8 hb
 clear hg hb
 by_cases hlt:i<n
 ·have hlt':(i:Int)<(n:Int):=by omega
  obtain⟨x,hx⟩: ∃x,rs[i]?=some x:=⟨_,zMP (by rw[HRL.out];exact hlt)⟩
  have HX:=zL8 hx
  have HFA:=zL8 (zFl (cap:=cap) (H.out.below HBR.out) hlt hx hnz2 HCAP.out)
  clear hx
  go_wp2_with fail
  refine HFA.out.mono ?_;rintro e w2 ⟨⟨er,rfl,her⟩,hb2⟩
  have HB2:=zL8 (HBR.out.trans (hb2.mono HBR.out.size))
  clear hb2
  cases hok:okR rs i x with
  |true=>
   rw[hok,beq_iff_eq]at her
   subst her
   have HR2:Hid (r1S rs (rs.drop (i+1)) (i+1)=r1S rs rs 0):=zL8 (by rw[←HR1.out,zGJ HX.out,hok,Bool.true_and])
   clear hok
   go_wp2_with fail
   go_roundg (n - (i+1))
   case measure=>have:=HG.out;omega
   case rel=>exact⟨rfl,rfl,i+1,by go_num,rfl,by omega,HR2,HB2.out⟩
  |false=>
   rw[hok,zME]at her
   have hne:(er !=0)=true:=bne_iff_ne.2 her
   have HER:=zL8 her
   have HRB:Hid (zFn rs=none):=zL8 (by
    have h1:=HR1.out
    rw[zGJ HX.out,hok,Bool.false_and]at h1
    rw[zFn,←h1]
    rfl)
   clear hok her
   go_wp2_with fail
   obtain⟨nbF,noF,atF,hoF,hnbF,hatF⟩:=HNB.out _ _ HX.out
   first|(subst hoF)|(cases hoF)
   have hpl:=HP.out.below HB2.out
   have z0:=hpl.c0
   have z1:=hpl.c1
   have z2:=hpl.c2
   have z3:=hpl.c3
   have zl:=hpl.lt
   have zf:=hpl.fz
   have c8:=(HB2.out.cell (p:=⟨nbF,noF+i*272+8,none⟩) (by have:=HP.out.lt;show nbF<W.heap.size;omega)).trans hatF
   have hnl:nbF<w2.heap.size:=by omega
   have hne1: ¬c=nbF:=by omega
   have HPL:=zL8 hpl
   have HNF:=zL8 hnbF
   clear hatF hnbF hpl
   refine zAA (X:=some c) 10 [([0,1,2,3,4,5,6],7)] [8,9] (by kernel_rfl) (by kernel_rfl) rfl (fun _ _ _ _ _ h=>h) ?_
   simp only[zAJ,zAC,zAG,zAD,zAB,List.getD_cons_zero,List.getD_cons_succ,List.drop_succ_cons,List.drop_nil]
   repeat (go_big_quiet_step (fail))
   refine wpQuiet_nil ?_
   go_wp2_with fail
   refine⟨zBS ((((zAP.of_setCell _).trans (zAP.of_setCell _)).trans (zAP.of_setCell _)).trans (zAP.of_setCell _)),?_⟩
   repeat (go_big_quiet_step (fail))
   refine wpQuiet_nil ?_
   go_wp2_with fail
   refine zAn (p:=4) (q:=5) (r:=6) Tryz.results87 rfl rfl rfl rfl ((HPL.out.put (.slice none 0 0) (.slice none 0 0) (.slice none 0 0) false).same rfl (zMA _)) ⟨zJ0.bad HRB.out HER.out,?_⟩
   rw[HCZ.out]
   have hbf:Below c w w2:=HB.out.trans (HB2.out.mono (Nat.le_of_lt HP.out.lt))
   exact((((hbf.setCell (p:=⟨c,0,none⟩) (zMA _) _).setCell (p:=⟨c,1,none⟩) (zMA _) _).setCell (p:=⟨c,2,none⟩) (zMA _) _).setCell (p:=⟨c,3,none⟩) (zMA _) _).drew
 obtain rfl:i=n:=by omega
 have HR1':Hid (r1S rs rs 0=true):=zL8 (by
  rw[←HR1.out,List.drop_of_length_le (by rw[HRL.out];exact zMA _)]
  rfl)
 rename World=>X
 go_wp2_with fail
 go_loopg [5,6,9] i (fun k ev av iv wr=>ev= .int .i64 0∧av= .int .i64 0∧ ∃j:Nat,iv= .int .i64 (j:Nat)∧k=i - j∧j≤i∧Hid (r2S rs (rs.drop j) j=r2S rs rs 0)∧Below W.heap.size W wr)
 case atStart=>exact⟨rfl,rfl,0,rfl,rfl,by omega,zL8 rfl,HBR.out⟩
 case round=>
 obtain⟨rfl,rfl,j,rfl,hg,hin2,HR2,hb⟩:=hrel
 have HG2:=zL8 hg
 have HBS:=zL8 hb
 clear hg hb HBR
 by_cases hlt:j<i
 ·have hlt':(j:Int)<(i:Int):=by omega
  obtain⟨l,x,nb,no,hl,hx,rfl,hnb,hrg,hv,c7⟩:=(H.out.below HBS.out).at_ hlt
  have HX:=zL8 hx
  clear hl hx hrg hv
  by_cases h123:x.nm=123
  ·have q1:((x.nm:Int)==123)=true:=by rw[beq_iff_eq];omega
   have HCLO:=zL8 (zC0 (cap:=cap) (H.out.below HBS.out) hlt hnz2)
   have hcb:=zC3 rs j hlt HRL.out
   obtain⟨cf,hcf⟩: ∃cf,zAW (rs.drop j) j 0=cf:=⟨_,rfl⟩
   rw[hcf]at HCLO hcb
   by_cases hn:cf<0
   ·have hn2:decide (cf<0)=true:=zMJ hn
    have HRB:Hid (zFn rs=none):=zL8 (by
     have h1:=HR2.out
     rw[zEG HX.out,h123,hcf,hn2]at h1
     rw[zFn,←h1]
     simp)
    clear hcf hcb h123
    go_wp2_with fail
    refine HCLO.out.mono ?_;rintro e w2 ⟨rfl,rfl⟩
    go_wp2_with fail
    obtain⟨nbF,noF,atF,hoF,hnbF,hatF⟩:=HNB.out _ _ HX.out
    first|(subst hoF)|(cases hoF)
    have hpl:=HP.out.below HBS.out
    have z0:=hpl.c0
    have z1:=hpl.c1
    have z2:=hpl.c2
    have z3:=hpl.c3
    have zl:=hpl.lt
    have zf:=hpl.fz
    have c8:=(HBS.out.cell (p:=⟨nb,no+j*272+8,none⟩) (by have:=HP.out.lt;show nb<W.heap.size;omega)).trans hatF
    have hnl:nb<wr.heap.size:=by omega
    have hne1: ¬c=nb:=by omega
    have HPL:=zL8 hpl
    have HNF:=zL8 hnbF
    clear hatF hnbF hpl
    refine zAA (X:=some c) 9 [([0,1,2,3,4,5],6)] [7,8] (by kernel_rfl) (by kernel_rfl) rfl (fun _ _ _ _ _ h=>h) ?_
    simp only[zAJ,zAC,zAG,zAD,zAB,List.getD_cons_zero,List.getD_cons_succ,List.drop_succ_cons,List.drop_nil]
    repeat (go_big_quiet_step (fail))
    refine wpQuiet_nil ?_
    go_wp2_with fail
    refine⟨zBS ((((zAP.of_setCell _).trans (zAP.of_setCell _)).trans (zAP.of_setCell _)).trans (zAP.of_setCell _)),?_⟩
    repeat (go_big_quiet_step (fail))
    refine wpQuiet_nil ?_
    go_wp2_with fail
    refine zAn (p:=4) (q:=5) (r:=6) Tryz.results87 rfl rfl rfl rfl ((HPL.out.put (.slice none 0 0) (.slice none 0 0) (.slice none 0 0) false).same rfl (zMA _)) ⟨zJ0.bad HRB.out (by decide),?_⟩
    rw[HCZ.out]
    have hbf:Below c w wr:=HB.out.trans (HBS.out.mono (Nat.le_of_lt HP.out.lt))
    exact((((hbf.setCell (p:=⟨c,0,none⟩) (zMA _) _).setCell (p:=⟨c,1,none⟩) (zMA _) _).setCell (p:=⟨c,2,none⟩) (zMA _) _).setCell (p:=⟨c,3,none⟩) (zMA _) _).drew
   ·have hn2:decide (cf<0)=false:=zMK hn
    have HR3:Hid (r2S rs (rs.drop (j+1)) (j+1)=r2S rs rs 0):=zL8 (by rw[←HR2.out,zEG HX.out,h123,hcf,hn2];simp)
    clear hcf hcb h123
    go_wp2_with fail
    refine HCLO.out.mono ?_;rintro e w2 ⟨rfl,rfl⟩
    go_wp2_with fail
    go_roundg (i - (j+1))
    case measure=>have:=HG2.out;omega
    case rel=>exact⟨rfl,rfl,j+1,by go_num,rfl,by omega,HR3,HBS.out⟩
  ·have q1:((x.nm:Int)==123)=false:=by simp;omega
   have HR3:Hid (r2S rs (rs.drop (j+1)) (j+1)=r2S rs rs 0):=zL8 (by rw[←HR2.out,zEG HX.out];simp[h123])
   clear h123
   go_wp2_with fail
   go_roundg (i - (j+1))
   case measure=>have:=HG2.out;omega
   case rel=>exact⟨rfl,rfl,j+1,by go_num,rfl,by omega,HR3,HBS.out⟩
 obtain rfl:j=i:=by omega
 have HR2':Hid (r2S rs rs 0=true):=zL8 (by
  rw[←HR2.out,List.drop_of_length_le (by rw[HRL.out];exact zMA _)]
  rfl)
 have HR3:Hid (zFn rs=r3S rs rs 0):=zL8 (by rw[zFn,HR1'.out,HR2'.out];rfl)
 rename World=>Y
 clear hlt hin hin2
 have HCC:=zL8 (zCj (cap:=cap) (HI.out.below HBS.out) HCL.out HZ.out)
 go_wp2_with fail
 refine HCC.out.mono ?_;rintro e w1 ⟨⟨oC,kC,rfl,hcp⟩,hb1⟩
 have HB1:=zL8 (HBS.out.trans (hb1.mono HBS.out.size))
 have HCP:=zL8 (hcp.mono (show c+1≤Y.heap.size by have:=HBS.out.size;have:=HP.out.lt;omega))
 clear hcp hb1
 obtain⟨d,hd⟩: ∃d,w1.heap.size=d:=⟨_,rfl⟩
 have HDZ:=zL8 hd
 have HS1:Hid (zJz w1 (w1.alloc (.cells #[.slice oC j kC,.slice none 0 0,.slice none 0 0,.bool q] 26)) d (.slice oC j kC) (.slice none 0 0) (.slice none 0 0) q [] []):=zL8 (by
  rw[←hd]
  exact⟨(zL9 _ _).alloc (zMA _) _,PrB.new _ _ _ _ _,zMO _ _ _ _,zMO _ _ _ _⟩)
 have HCD:Hid (W.heap.size≤d):=zL8 (by rw[←hd];exact HB1.out.size)
 go_upto_region 13 with fail
 obtain⟨V,hV⟩: ∃V,w1.alloc (.cells #[.slice oC j kC,.slice none 0 0,.slice none 0 0,.bool q] 26)=V:=⟨_,rfl⟩
 rw[hV]at HS1 ⊢
 try rw[hd]
 clear hV hd HBS
 go_wp2_with fail
 go_loopg [5,6,11] j (fun gk ev av iv wr=>ev= .int .i64 0∧av= .int .i64 0∧ ∃(k:Nat) (tn:List Int) (vt vf:Value),iv= .int .i64 (k:Nat)∧gk=j - k∧k≤j∧Hid (tn.length=k∧r3S rs rs 0=(r3S rs (rs.drop k) k).map (tn++ ·))∧zJz w1 wr d (.slice oC j kC) vt vf q tn (zAO (rs.take k) []))
 case atStart=>exact⟨rfl,rfl,0,[],_,_,rfl,rfl,by omega,zL8 ⟨rfl,by cases h:r3S rs (rs.drop 0) 0<;>simp_all⟩,HS1.out⟩
 case round=>
 obtain⟨rfl,rfl,k,tn,vt,vf,rfl,hg,hin3,HTN,hs⟩:=hrel
 have HG3:=zL8 hg
 have HS:=zL8 hs
 have HBW:Hid (Below W.heap.size W wr):=zL8 (HB1.out.trans (hs.B.mono HCD.out))
 clear hg hs HS1
 obtain⟨ot_,kt,hvt⟩:=zAI HS.out.tr
 rw[HTN.out.1]at hvt
 subst hvt
 obtain⟨of_,kf,hvf⟩:=zAI HS.out.fl
 subst hvf
 have HFB:Hid (∀a∈zAO (rs.take k) [],∀b∈a,b<256):=zL8 fun a ha b hb=>by
  rcases zCt _ _ _ ha with h|⟨c',h1,rfl⟩
  ·simp at h
  ·obtain⟨i',hj'⟩:=List.mem_iff_getElem?.1 (List.mem_of_mem_take h1)
   have hjl:=(zMF.1 hj').1
   rw[HRL.out]at hjl
   obtain⟨l',x',_,_,hl',hx',_,_,_,hv',_⟩:=H.out.at_ hjl
   rw[hj']at hx'
   cases hx'
   exact hv'.tl b hb
 have hfsl:(zAO (rs.take k) []).length≤k:=by
  have h1:=zBm (rs.take k) []
  rw[List.length_nil,List.length_take,Nat.zero_add]at h1
  omega
 have HFSL:=zL8 hfsl
 by_cases hlt:k<j
 case neg=>
  obtain rfl:k=j:=by omega
  have HRT:Hid (zFn rs=some tn):=zL8 (by
   rw[HR3.out,HTN.out.2,List.drop_of_length_le (by rw[HRL.out];exact zMA _)]
   simp[r3S])
  have HFT:Hid (zAO (rs.take k) []=zAO rs []):=zL8 (by rw[List.take_of_length_le (by rw[HRL.out];exact zMA _)])
  rw[HFT.out]at HS
  have d0:=HS.out.qr.c0
  have d1:=HS.out.qr.c1
  have d2:=HS.out.qr.c2
  have d3:=HS.out.qr.c3
  have hdl:=HS.out.qr.lt
  have hpp:=HP.out.below HBW.out
  have p0:=hpp.c0
  have p1:=hpp.c1
  have p2:=hpp.c2
  have p3:=hpp.c3
  have pl:=hpp.lt
  have pz:=hpp.fz
  have HPP:=zL8 hpp
  clear hpp
  go_wp2_with fail
  have hpf:=HPP.out.put (.slice oC k kC) (.slice ot_ k kt) (.slice of_ (zAO rs []).length kf) q
  have hcd:c<d:=zMB HP.out.lt HCD.out
  have hk:Kb (d+1) wr ((((wr.setCell ⟨c,0,none⟩ (.slice oC k kC)).setCell ⟨c,1,none⟩ (.slice ot_ k kt)).setCell ⟨c,2,none⟩ (.slice of_ (zAO rs []).length kf)).setCell ⟨c,3,none⟩ (.bool q)):=
   (((Kb.set (by omega) _ _).trans (Kb.set (by omega) _ _)).trans (Kb.set (by omega) _ _)).trans (Kb.set (by omega) _ _)
  have hk2:Kb (c+1) wr ((((wr.setCell ⟨c,0,none⟩ (.slice oC k kC)).setCell ⟨c,1,none⟩ (.slice ot_ k kt)).setCell ⟨c,2,none⟩ (.slice of_ (zAO rs []).length kf)).setCell ⟨c,3,none⟩ (.bool q)):=
   (((Kb.set (by omega) _ _).trans (Kb.set (by omega) _ _)).trans (Kb.set (by omega) _ _)).trans (Kb.set (by omega) _ _)
  have hcp:CpL wr (c+1) (.slice oC k kC) cs:=HCP.out.kb (.below (by rw[HDZ.out];exact HS.out.B))
  have hm:w.heap.size≤d+1:=by rw[HCZ.out];omega
  have htl:=HTN.out.1
  refine zAn (p:=4) (q:=5) (r:=6) Tryz.results87 rfl rfl rfl rfl hpf ⟨.inr ⟨tn,HRT.out,by rw[HRL.out];exact htl,oC,kC,_,_,by rw[HRL.out];rfl,by rw[HRL.out];exact(hcp.kb hk2).mono (by rw[HCZ.out];omega),?_,zAH (zAQ HS.out.fl hk) hm⟩,?_⟩
  ·have h:=zAH (zAQ HS.out.tr hk) hm
   rw[htl]at h
   rw[HRL.out]
   exact h
  ·rw[HCZ.out]
   have hbf:Below c w wr:=HB.out.trans (HBW.out.mono (Nat.le_of_lt HP.out.lt))
   exact(((hbf.setCell (p:=⟨c,0,none⟩) (zMA _) _).setCell (p:=⟨c,1,none⟩) (zMA _) _).setCell (p:=⟨c,2,none⟩) (zMA _) _).setCell (p:=⟨c,3,none⟩) (zMA _) _
 have hlt':(k:Int)<(j:Int):=by omega
 obtain⟨l,x,nb,no,hl,hx,rfl,hnb,hrg,hv,c7⟩:=H.out.at_ hlt
 have HX:=zL8 hx
 have HV:=zL8 hv
 have HTO:=zL8 (zJB (cap:=cap) (H.out.below HBW.out) hlt hx hnz2)
 have HRGX:Hid (∀ {X:World},Below W.heap.size W X→X.rangeAt nb (no+k*272) l):=zL8 fun hb i v hi=>(hb.cell (p:=⟨nb,no+k*272+i,none⟩) hnb).trans (hrg i v hi)
 have HNB2:=zL8 hnb
 have HTL:=zL8 hv.tl
 obtain⟨ot,ct,h9,_,htz,htc⟩:=hv.tx
 have HT9:=zL8 h9
 have HTXX:Hid (∀ {X:World},Below W.heap.size W X→zBU X ot x.tx):=zL8 fun hb=>by
  obtain⟨o',c',h9',h1,_⟩:=(HV.out.below hb).tx
  have e9:=HT9.out
  rw[h9']at e9
  cases e9
  exact h1
 clear hl hrg hv c7 hx hnb h9 htz htc
 obtain⟨tv,htv⟩: ∃tv,toR rs k x=tv:=⟨_,rfl⟩
 rw[htv]at HTO
 have HTV:=zL8 htv
 clear htv
 go_wp2_with fail
 refine HTO.out.mono ?_;rintro e w2 ⟨rfl,hb2⟩
 have HS2:=zL8 (HS.out.below hb2)
 have HBW2:=zL8 (HBW.out.trans (hb2.mono HBW.out.size))
 clear hb2 HTO HS
 by_cases hm2:tv= -2
 case pos=>
  have q2:(tv== -2)=true:=by rw[beq_iff_eq];exact hm2
  have HRB:Hid (zFn rs=none):=zL8 (by
   rw[HR3.out,HTN.out.2,zGI HX.out,HTV.out,if_pos hm2]
   rfl)
  clear hm2
  go_wp2_with fail
  obtain⟨nbF,noF,atF,hoF,hnbF,hatF⟩:=HNB.out _ _ HX.out
  first|(subst hoF)|(cases hoF)
  have hpl:=HP.out.below HBW2.out
  have z0:=hpl.c0
  have z1:=hpl.c1
  have z2:=hpl.c2
  have z3:=hpl.c3
  have zl:=hpl.lt
  have zf:=hpl.fz
  have c8:=(HBW2.out.cell (p:=⟨nb,no+k*272+8,none⟩) (by have:=HP.out.lt;show nb<W.heap.size;omega)).trans hatF
  have hnl:nb<w2.heap.size:=by omega
  have hne1: ¬c=nb:=by omega
  have HPL:=zL8 hpl
  have HNF:=zL8 hnbF
  clear hatF hnbF hpl
  refine zAA (X:=some c) 9 [([0,1,2,3,4,5],6)] [7,8] (by kernel_rfl) (by kernel_rfl) rfl (fun _ _ _ _ _ h=>h) ?_
  simp only[zAJ,zAC,zAG,zAD,zAB,List.getD_cons_zero,List.getD_cons_succ,List.drop_succ_cons,List.drop_nil]
  repeat (go_big_quiet_step (fail))
  refine wpQuiet_nil ?_
  go_wp2_with fail
  refine⟨zBS ((((zAP.of_setCell _).trans (zAP.of_setCell _)).trans (zAP.of_setCell _)).trans (zAP.of_setCell _)),?_⟩
  repeat (go_big_quiet_step (fail))
  refine wpQuiet_nil ?_
  go_wp2_with fail
  refine zAn (p:=4) (q:=5) (r:=6) Tryz.results87 rfl rfl rfl rfl ((HPL.out.put (.slice none 0 0) (.slice none 0 0) (.slice none 0 0) false).same rfl (zMA _)) ⟨zJ0.bad HRB.out (by decide),?_⟩
  rw[HCZ.out]
  have hbf:Below c w w2:=HB.out.trans (HBW2.out.mono (Nat.le_of_lt HP.out.lt))
  exact((((hbf.setCell (p:=⟨c,0,none⟩) (zMA _) _).setCell (p:=⟨c,1,none⟩) (zMA _) _).setCell (p:=⟨c,2,none⟩) (zMA _) _).setCell (p:=⟨c,3,none⟩) (zMA _) _).drew
 have q2:(tv== -2)=false:=by rw[zME];exact hm2
 have HTN2:Hid ((tn++[tv]).length=k+1∧r3S rs rs 0=(r3S rs (rs.drop (k+1)) (k+1)).map ((tn++[tv])++ ·)):=zL8 ⟨by rw[zMS,HTN.out.1];rfl,by
  rw[HTN.out.2,zGI HX.out,HTV.out,if_neg hm2]
  cases r3S rs (rs.drop (k+1)) (k+1)<;>simp⟩
 have hba:Below w2.heap.size w2 (w2.alloc (.cells #[.int .i64 tv] 3)):=(zL9 _ _).alloc (zMA _) _
 have HS3:=zL8 (HS2.out.below hba)
 have HO3:Hid ((w2.alloc (.cells #[.int .i64 tv] 3)).ownsRow (d+1) 3 1 (.slice ot_ k kt) k (tn.map (.int .i64))):=zL8 (by
  have h:=HS3.out.tr
  rwa[HTN.out.1]at h)
 have d1:=HS2.out.qr.c1
 have hdl:=HS2.out.qr.lt
 have HKJ:Hid (k<319857928070):=zL8 (by omega)
 have HBA:=zL8 (HBW2.out.trans (hba.mono HBW2.out.size))
 clear hba hm2
 go_wp2_with (at_builtin;refine zAN zEO rfl _ _ rfl (d+1) (n:=k) (m:=1) (news:=[.int .i64 tv]) rfl HO3.out rfl (Src.new w2 [.int .i64 tv] _ _ _) rfl (by simp[Value.oneCell']) (by have:=HKJ.out;unfold maxLen;omega) (by have:=HKJ.out;omega) (by have:=HS3.out.qr.lt;omega) ?_)
 intro v4 w4 ho4 hg4 _
 obtain⟨o4,k4,rfl⟩:=zAI ho4
 have hst:zCl 3 (w2.alloc (.cells #[.int .i64 tv] 3)) w4:=zCl.grown HO3.out hg4
 have hdl3:=HS3.out.qr.lt
 have hb4:Below (d+1) (w2.alloc (.cells #[.int .i64 tv] 3)) w4:=(zL9 _ _).grown hg4 (by omega) (fun k hk=>(World.ownsRow.lt HO3.out k hk).1)
 have HQ4:=zL8 (HS3.out.qr.same (hb4.block d (by omega)) hb4.size)
 have HBB4:=zL8 (HS3.out.B.trans (hb4.mono (by omega)))
 have HO4:Hid (w4.ownsRow (d+1) 3 1 (.slice o4 (k+1) k4) (k+1) ((tn++[tv]).map (.int .i64))):=zL8 (by
  rw[List.map_append]
  first
   |exact ho4
   |simpa using ho4)
 have HF4:=zL8 (zAc HS3.out.fl (by decide) hst)
 have HBW4:=zL8 (HBA.out.trans (hb4.mono (by have:=HCD.out;omega)))
 clear hst hb4 ho4 hg4 HO3 HS3 hdl3 d1 hdl HS2 HBA HBW2
 have d1:=HQ4.out.c1
 have dz:=HQ4.out.fz 1
 have hdl:=HQ4.out.lt
 have HS5:Hid (zJz w1 (w4.setCell ⟨d,1,none⟩ (.slice o4 (k+1) k4)) d (.slice oC j kC) (.slice o4 (k+1) k4) (.slice of_ (zAO (rs.take k) []).length kf) q (tn++[tv]) (zAO (rs.take k) [])):=zL8 ⟨HBB4.out.setCell (p:=⟨d,1,none⟩) (zMA _) _,HQ4.out.set1 _,by
  rw[HTN2.out.1]
  exact zAQ HO4.out (Kb.set (by omega) _ _),zAQ HF4.out (Kb.set (by omega) _ _)⟩
 have HBW5:=zL8 (HBW4.out.setCell (p:=⟨d,1,none⟩) HCD.out (.slice o4 (k+1) k4))
 go_upto_region 20 with fail
 obtain⟨w5,hw5⟩: ∃X,w4.setCell ⟨d,1,none⟩ (.slice o4 (k+1) k4)=X:=⟨_,rfl⟩
 rw[hw5]at HS5 HBW5 ⊢
 clear hw5 d1 dz hdl HQ4 HBB4 HO4 HF4 HBW4
 obtain⟨fs,hfs⟩: ∃fs,zAO (rs.take k) []=fs:=⟨_,rfl⟩
 rw[hfs]at HS5 HFB HFSL hfsl
 have HFSE:=zL8 hfs
 clear hfs
 go_wp2_with fail
 go_loopg [13,14] fs.length (fun g2 kv iv wr=> ∃m:Nat,iv= .int .i64 (m:Nat)∧kv= .bool ((fs.take m).contains x.tx)∧g2=fs.length - m∧m≤fs.length∧zJz w1 wr d (.slice oC j kC) (.slice o4 (k+1) k4) (.slice of_ fs.length kf) q (tn++[tv]) fs∧Below W.heap.size W wr)
 case atStart=>exact⟨0,rfl,by simp,rfl,by omega,HS5.out,HBW5.out⟩
 case round=>
  obtain⟨m,rfl,rfl,hg4,hm,hs,hb⟩:=hrel
  have HG4:=zL8 hg4
  have HSM:=zL8 hs
  have HBM:=zL8 hb
  clear hg4 hs hb HS5 HBW5
  by_cases hlm:m<fs.length
  ·have hlm':(m:Int)<(fs.length:Int):=by omega
   obtain⟨gf,a,hma,rfl,hgf,cf⟩:=zHn HSM.out.fl hlm
   have hab:=HFB.out a (zMc hma)
   have HTK:Hid ((fs.take (m+1)).contains x.tx=((fs.take m).contains x.tx||decide (x.tx=a))):=zL8 (by
    rw[List.take_add_one,hma]
    simp only[Option.toList_some,List.contains_eq_mem,List.mem_append,List.mem_singleton]
    exact Bool.decide_or _ _)
   have HSD:=zL8 (HSM.out.below ((zL9 _ _).drew))
   have HBD:=zL8 HBM.out.drew
   have d2:=HSM.out.qr.c2
   have hdl:=HSM.out.qr.lt
   have c9:wr.cell? ⟨nb,no+k*272+9,none⟩=some (.slice ot x.tx.length ct):=HRGX.out HBM.out 9 _ HT9.out
   have hnl:nb<wr.heap.size:=zMB HNB2.out HBM.out.size
   have hcv: ∀g,(convert 46 9 (.slice ot x.tx.length ct)).run Tryz.prog (wgr none wr.drew g)= .ok (.string (zBN x.tx)) (wgr none wr.drew g):=fun g=>zBP (zJn (HTXX.out HBM.out))
   by_cases hkn:(fs.take m).contains x.tx=true
   ·rw[hkn]
    rw[hkn,Bool.true_or]at HTK
    clear hkn hma hab
    go_wp2_with fail
    refine zAA (X:=none) 16 [] [0,1,2,3,4,5,6,7,8,9,10,11,12,13,14,15] (by kernel_rfl) (by kernel_rfl) rfl (fun _ _ _ _ _ h=>h) ?_
    simp only[zAJ,zAC,zAD,zAB,List.getD_cons_zero,List.getD_cons_succ,List.drop_succ_cons,List.drop_nil]
    repeat (go_big_quiet_step (fail))
    refine wpQuiet_nil ?_
    go_wp2_with fail
    go_roundg (fs.length - (m+1))
    case measure=>have:=HG4.out;omega
    case rel=>exact⟨m+1,by go_num,by rw[HTK.out],rfl,by omega,HSD.out,HBD.out⟩
   ·have hkn':(fs.take m).contains x.tx=false:=by simpa using hkn
    rw[hkn']
    rw[hkn',Bool.false_or]at HTK
    clear hkn hkn' hma
    by_cases he:x.tx=a
    ·rw[zMJ he]at HTK
     rw[←he]at cf
     clear he hab
     obtain⟨y,hy⟩: ∃y,zBN x.tx=y:=⟨_,rfl⟩
     rw[hy]at cf hcv
     clear hy
     go_wp2_with fail
     refine zAA (X:=none) 16 [] [0,1,2,3,4,5,6,7,8,9,10,11,12,13,14,15] (by kernel_rfl) (by kernel_rfl) rfl (fun _ _ _ _ _ h=>h) ?_
     simp only[zAJ,zAC,zAD,zAB,List.getD_cons_zero,List.getD_cons_succ,List.drop_succ_cons,List.drop_nil]
     repeat (go_big_quiet_step (fail))
     refine wpQuiet_nil ?_
     go_wp2_with fail
     go_roundg (fs.length - (m+1))
     case measure=>have:=HG4.out;omega
     case rel=>exact⟨m+1,by go_num,by rw[HTK.out],rfl,by omega,HSD.out,HBD.out⟩
    ·have hn:=zCa (fun e=>he ((zCA HTL.out hab).1 e))
     have hn2:=zCa (fun e=>he ((zCA HTL.out hab).1 e.symm))
     rw[zMK he]at HTK
     clear he hab
     obtain⟨y,hy⟩: ∃y,zBN x.tx=y:=⟨_,rfl⟩
     obtain⟨z,hz⟩: ∃z,zBN a=z:=⟨_,rfl⟩
     rw[hy]at hcv hn hn2
     rw[hz]at cf hn hn2
     clear hy hz
     go_wp2_with fail
     refine zAA (X:=none) 16 [] [0,1,2,3,4,5,6,7,8,9,10,11,12,13,14,15] (by kernel_rfl) (by kernel_rfl) rfl (fun _ _ _ _ _ h=>h) ?_
     simp only[zAJ,zAC,zAD,zAB,List.getD_cons_zero,List.getD_cons_succ,List.drop_succ_cons,List.drop_nil]
     repeat (go_big_quiet_step (fail))
     refine wpQuiet_nil ?_
     go_wp2_with fail
     go_roundg (fs.length - (m+1))
     case measure=>have:=HG4.out;omega
     case rel=>exact⟨m+1,by go_num,by rw[HTK.out],rfl,by omega,HSD.out,HBD.out⟩
  ·obtain rfl:m=fs.length:=by omega
   have hlm': ¬(fs.length:Int)<(fs.length:Int):=by omega
   rw[List.take_length]
   have HFS:Hid (zAO (rs.take (k+1)) []=if x.wrC&& !(fs.contains x.tx)then fs++[x.tx]else fs):=zL8 (by rw[zDH HX.out,zCW,HFSE.out])
   rename World=>w6
   have HRG6:=zL8 (HRGX.out HBM.out)
   have HCI:Hid ((Tryz.prog.info? 71).map (·.size)=some l.length):=zL8 (by rw[HV.out.cl.len];exact zAd)
   have HWR:=zL8 (zDO (HV.out.below HBM.out))
   have hnl:nb<w6.heap.size:=zMB HNB2.out HBM.out.size
   have d2:=HSM.out.qr.c2
   have hdl:=HSM.out.qr.lt
   obtain⟨kn,hkn⟩: ∃kn,fs.contains x.tx=kn:=⟨_,rfl⟩
   rw[hkn]at HFS ⊢
   clear hkn
   go_wp2_with (refine wpList_load_mid rfl 71 _ rfl nb (no+k*272) rfl l _ HRG6.out Tryz.underlying71 rfl HCI.out ?_)
   refine HWR.out.mono ?_;rintro e w7 ⟨rfl,hb7⟩
   have HS7:=zL8 (HSM.out.below hb7)
   have HB7:=zL8 (HBM.out.trans (hb7.mono HBM.out.size))
   clear hb7 hnl HSM HBM HWR HRG6 d2 hdl
   by_cases hw:(x.wrC&& !kn)=true
   case neg=>
    have hw':(x.wrC&& !kn)=false:=by simpa using hw
    have HFE:Hid (zAO (rs.take (k+1)) []=fs):=zL8 (by rw[HFS.out,hw'];rfl)
    have HW0:=zL8 hw'
    clear hw hw'
    cases hwr:x.wrC with
    |false=>
     go_wp2_with fail
     go_roundg (j - (k+1))
     case measure=>have:=HG3.out;omega
     case rel=>exact⟨rfl,rfl,k+1,tn++[tv],_,_,by go_num,rfl,by omega,HTN2,by rw[HFE.out];exact HS7.out⟩
    |true=>
     have hkn:kn=true:=by have h:=HW0.out;rw[hwr]at h;simpa using h
     subst hkn
     go_wp2_with fail
     go_roundg (j - (k+1))
     case measure=>have:=HG3.out;omega
     case rel=>exact⟨rfl,rfl,k+1,tn++[tv],_,_,by go_num,rfl,by omega,HTN2,by rw[HFE.out];exact HS7.out⟩
   have hw2:x.wrC=true∧kn=false:=by simpa using hw
   have HFE:Hid (zAO (rs.take (k+1)) []=fs++[x.tx]):=zL8 (by rw[HFS.out,hw];rfl)
   rw[hw2.1]
   obtain⟨_,rfl⟩:=hw2
   clear hw
   have c9:w7.cell? ⟨nb,no+k*272+9,none⟩=some (.slice ot x.tx.length ct):=HRGX.out HB7.out 9 _ HT9.out
   have hnl:nb<w7.heap.size:=zMB HNB2.out HB7.out.size
   have hcv: ∀g,(convert 46 9 (.slice ot x.tx.length ct)).run Tryz.prog (wgr none w7.drew g)= .ok (.string (zBN x.tx)) (wgr none w7.drew g):=fun g=>zBP (zJn (HTXX.out HB7.out))
   have d2:=HS7.out.qr.c2
   have hdl:=HS7.out.qr.lt
   have HSD:=zL8 (HS7.out.below ((zL9 _ _).drew))
   have HBD:=zL8 HB7.out.drew
   go_upto_region 26 with fail
   refine zAA (X:=none) 9 [([0,1,2,3,4,5,6,7],8)] [] (by kernel_rfl) (by kernel_rfl) rfl (fun _ _ _ _ _ h=>h) ?_
   simp only[zAJ,zAC,zAG,zAD,zAB,List.getD_cons_zero,List.getD_cons_succ,List.drop_succ_cons,List.drop_zero]
   repeat (go_big_quiet_step (fail))
   refine wpQuiet_nil ?_
   have hba:Below w7.heap.size w7 (w7.alloc (.cells #[.string (zBN x.tx)] 9)):=(zL9 _ _).alloc (zMA _) _
   have HS8:=zL8 ((HS7.out.below hba).below ((zL9 _ _).drew))
   have HO8:=zL8 HS8.out.fl
   have HFSK:=zL8 hfsl
   clear hba c9 hnl hcv d2 hdl
   have hdl8:=HS8.out.qr.lt
   go_wp2_with fail
   refine⟨zA5 _ _,?_⟩
   repeat (go_big_quiet_step (fail))
   refine wpQuiet_nil ?_
   go_wp2_with (at_builtin;refine zAN zJb rfl _ _ rfl (d+1) (n:=fs.length) (m:=1) (news:=[.string (zBN x.tx)]) rfl HO8.out rfl (zEY (Src.new w7 [.string (zBN x.tx)] _ _ _) ((zL9 _ _).drew)) rfl (by simp[Value.oneCell']) (by have:=HFSK.out;have:=HKJ.out;unfold maxLen;omega) (by have:=HFSK.out;have:=HKJ.out;omega) (by omega) ?_)
   intro v9 w9 ho9 hg9 _
   obtain⟨o9,k9,rfl⟩:=zAI ho9
   have hst:zCl 9 (w7.alloc (.cells #[.string (zBN x.tx)] 9)).drew w9:=zCl.grown HO8.out hg9
   have hb9:Below (d+1) (w7.alloc (.cells #[.string (zBN x.tx)] 9)).drew w9:=(zL9 _ _).grown hg9 (by omega) (fun k hk=>(World.ownsRow.lt HO8.out k hk).1)
   have HQ9:=zL8 (HS8.out.qr.same (hb9.block d (by omega)) hb9.size)
   have HBB9:=zL8 (HS8.out.B.trans (hb9.mono (by omega)))
   have HO9:Hid (w9.ownsRow (d+1) 9 1 (.slice o9 (fs.length+1) k9) (fs++[x.tx]).length ((fs++[x.tx]).map zI2)):=zL8 (by
    rw[zMS,List.map_append]
    exact ho9)
   have HT9:=zL8 (zAc HS8.out.tr (by decide) hst)
   clear hst hb9 ho9 hg9 HO8 HS8 hdl8
   have d2:=HQ9.out.c2
   have dz:=HQ9.out.fz 2
   have hdl:=HQ9.out.lt
   have HSX:Hid (zJz w1 (w9.setCell ⟨d,2,none⟩ (.slice o9 (fs.length+1) k9)) d (.slice oC j kC) (.slice o4 (k+1) k4) (.slice o9 (fs.length+1) k9) q (tn++[tv]) (fs++[x.tx])):=zL8 ⟨HBB9.out.setCell (p:=⟨d,2,none⟩) (zMA _) _,HQ9.out.set2 _,zAQ HT9.out (Kb.set (by omega) _ _),zAQ HO9.out (Kb.set (by omega) _ _)⟩
   go_wp2_with fail
   go_roundg (j - (k+1))
   case measure=>have:=HG3.out;omega
   case rel=>exact⟨rfl,rfl,k+1,tn++[tv],_,_,by go_num,rfl,by omega,HTN2,by rw[HFE.out];exact HSX.out⟩
end
end
end Go.Proofs.YtfcemodgopdkkaaGreatDoor
