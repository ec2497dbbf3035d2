/- Parts: Xg Xh. -/
import Derived.Test.YtfcemodgopdkkaaGreatDoorQ26
import Derived.Test.YtfcemodgopdkkaaGreatDoorQ29
import Derived.Test.YtfcemodgopdkkaaGreatDoorQ10
import Derived.Test.YtfcemodgopdkkaaGreatDoorQ18
import Derived.Test.YtfcemodgopdkkaaGreatDoorQ30
import Derived.Test.YtfcemodgopdkkaaGreatDoorQ8
import Derived.Laws.CopyOwn
set_option maxHeartbeats 3200000
set_option maxRecDepth 100000
namespace Go.Proofs.YtfcemodgopdkkaaGreatDoor
section
open Go.RowKit
section
variable {w w' W:World} {base b:Nat}
def ByO (w:World) (base:Nat) (v:Value) (T:List Nat):Prop:= ∃o c,v= .slice o T.length c∧w.ownsRow base 5 1 v T.length (u8s T)
theorem ByO.kb {v:Value} {T:List Nat} (h:ByO w base v T) (k:Kb base w w'):ByO w' base v T:=by
 obtain⟨o,c,e,h⟩:=h
 exact⟨o,c,e,zAQ h k⟩
theorem zGM {o:Option Addr} {c:Nat} {T:List Nat} (h:w.ownsRow base 5 1 (.slice o T.length c) T.length (u8s T)):zBU w o T:=fun hp=>by
 obtain⟨_,g,rfl,_,hcell,_⟩:=zAZ h hp
 refine⟨g,0,rfl,fun i hi=>?_⟩
 obtain⟨u,hu1,hu2⟩:=hcell i (by omega)
 rw[Nat.zero_add,hu2,←hu1]
 simp[u8s,hi,List.getD_eq_getElem?_getD]
def PcN (w:World) (base:Nat) (v:Value) (P:List Pc):Prop:= ∃xs,w.ownsRow base 73 2 v P.length xs∧ ∀i p,P[i]?=some p→xs[i*2]?=some (.int .i64 p.k)∧ ∃t,xs[i*2+1]?=some t∧ByO w base t p.t
theorem PcN.kb {v:Value} {P:List Pc} (h:PcN w base v P) (k:Kb base w w'):PcN w' base v P:=by
 obtain⟨xs,h1,h2⟩:=h
 refine⟨xs,zAQ h1 k,fun i p hi=>?_⟩
 obtain⟨e1,t,e2,e3⟩:=h2 i p hi
 exact⟨e1,t,e2,e3.kb k⟩
theorem PcN.pcE {o:Option Addr} {c:Nat} {P:List Pc} (h:PcN w base (.slice o P.length c) P):PcE w o P:=by
 obtain⟨xs,h1,h2⟩:=h
 refine⟨zCD h1,fun hp=>?_⟩
 obtain⟨_,g,rfl,hg,hcell,_⟩:=zAZ h1 hp
 refine⟨g,0,rfl,hg,fun i p hi=>?_⟩
 have hil:=(zMF.1 hi).1
 obtain⟨e1,t,e2,o2,c2,rfl,e3⟩:=h2 i p hi
 obtain⟨u,hu1,hu2⟩:=hcell (i*2) (by omega)
 obtain⟨u',hu3,hu4⟩:=hcell (i*2+1) (by omega)
 rw[e1]at hu1
 rw[e2]at hu3
 cases hu1
 cases hu3
 rw[Nat.zero_add]
 exact⟨hu2,o2,c2,hu4,zGM e3,zCD e3⟩
theorem zIr {ob:Option Addr} {cb:Nat} {T T':List Nat} (h:BtM w ob T) (hs:Src w (.slice ob T.length cb) T.length (u8s T')) (hl:T'.length=T.length):T'=T:=by
 refine List.ext_getElem? fun i=>?_
 by_cases hi:i<T.length
 ·obtain⟨g,o,rfl,_,h3⟩:=h (by omega)
  rcases hs with ⟨h0,_⟩|⟨a,c,he,hj⟩
  ·cases h0
  ·cases he
   have e1:=h3 i T[i] (zMP hi)
   have hi':i<T'.length:=by omega
   have e2:=hj i (.int .u8 (T'[i]:Nat)) (by simp[u8s,List.getElem?_eq_getElem hi'])
   rw[zAq,e1]at e2
   rw[zMP hi,zMP hi']
   have:(T[i]:Int)=(T'[i]:Int):=by injection e2 with e2;injection e2
   rw[show T'[i]=T[i]by omega]
 ·rw[zMj (by omega),zMj (by omega)]
end
section
variable {w w':World} {oa:Option Addr} {n cap:Nat}
theorem zHU {T:List Nat} (g:Int) (hs:Src w (.slice oa T.length cap) T.length (u8s T)) (hl:T.length≤140737488355328):
  Calls Tryz.prog 197 #[.agg #[.int .i64 g,.slice oa T.length cap]] w fun e w'=>(∃o c,e= .returned (.agg #[.int .i64 g,.slice o T.length c])∧ByO w' w.heap.size (.slice o T.length c) T)∧Below w.heap.size w w':=by
 have hb1:=((zL9 w.heap.size w).alloc (zMA _) (.cells #[.int .i64 g,.slice oa T.length cap] 73)).alloc (by simp) (.cells #[.int .i64 0,.slice none 0 0] 73)
 have HS:=zL8 (Src.below (Src.below hs hb1) ((zL9 _ _).drew))
 have HB:=zL8 hb1
 have HP:=zL8 ((PcB.new w (.int .i64 g) (.slice oa T.length cap)).below ((zL9 _ _).alloc (zMA _) (.cells #[.int .i64 0,.slice none 0 0] 73)))
 have HZ:=zL8 (PcB.new (w.alloc (.cells #[.int .i64 g,.slice oa T.length cap] 73)) (.int .i64 0) (.slice none 0 0))
 have hsz:(w.alloc (.cells #[.int .i64 g,.slice oa T.length cap] 73)).heap.size=w.heap.size+1:=by simp
 rw[hsz]at HZ
 clear hs hb1 hsz
 go_enter Tryz.func197,Tryz.ntmps197
 go_upto_region 1 with fail
 obtain⟨W,hW⟩: ∃W,(w.alloc (.cells #[.int .i64 g,.slice oa T.length cap] 73)).alloc (.cells #[.int .i64 0,.slice none 0 0] 73)=W:=⟨_,rfl⟩
 rw[hW]at HS HB HP HZ ⊢
 clear hW
 have p0:=HP.out.c0
 have p1:=HP.out.c1
 have pl:=HP.out.lt
 refine zAA (X:=none) 6 [([0,1,2,3],4)] [5] (by kernel_rfl) (by kernel_rfl) rfl (fun _ _ _ _ _ h=>h) ?_
 simp only[zAJ,zAC,zAG,zAD,zAB,List.getD_cons_zero,List.getD_cons_succ,List.drop_succ_cons,List.drop_zero]
 repeat (go_big_quiet_step (fail))
 refine wpQuiet_nil ?_
 go_wp2_with fail
 refine(zBh HS.out hl).mono ?_
 rintro e w2 ⟨⟨v2,rfl,hn2⟩,hb2⟩
 obtain⟨o2,c2,rfl⟩: ∃o c,v2= .slice o T.length c:=by
  rcases hn2.2 with ⟨rfl,h0⟩|⟨g,cp,cur,rfl,_⟩
  ·exact⟨none,0,by rw[h0]⟩
  ·exact⟨_,_,rfl⟩
 have HP2:=zL8 ((HP.out.below ((zL9 _ _).drew)).below hb2)
 have HZ2:=zL8 ((HZ.out.below ((zL9 _ _).drew)).below hb2)
 have HB2:=zL8 (HB.out.drew.trans (hb2.mono (by have:=HB.out.size;show w.heap.size≤W.heap.size;omega)))
 have HK:=zL8 hb2
 have HN:=zL8 (zAH hn2 (show w.heap.size+1+1≤W.drew.heap.size by have:=HZ.out.lt;show _≤W.heap.size;omega))
 clear p0 p1 pl hb2 hn2
 have p0:=HP2.out.c0
 have p1:=HP2.out.c1
 have z0:=HZ2.out.c0
 have z1:=HZ2.out.c1
 have zl:=HZ2.out.lt
 have zf:=HZ2.out.fz
 go_wp2_with fail
 refine⟨zAP.of_below HK.out,?_⟩
 repeat (go_big_quiet_step (fail))
 refine wpQuiet_nil ?_
 go_wp2_with fail
 refine zEr (p:=2) (b:=w.heap.size+1) (oa:=o2) (len:=T.length) (cp:=c2) (kk:=g) rfl rfl rfl ?_ ?_ ⟨⟨o2,c2,rfl,o2,c2,rfl,?_⟩,?_⟩
 ·exact(zAF _ _ _ _ _ (by decide)).trans (zMR _ _ _ z0)
 ·exact zMR _ _ _ ((zAF _ _ _ _ _ (by decide)).trans z1)
 ·exact zAH (zAQ HN.out ((Kb.set (by omega) _ _).trans (Kb.set (by omega) _ _))) (by omega)
 ·exact(HB2.out.setCell (by show w.heap.size≤w.heap.size+1;omega) _).setCell (by show w.heap.size≤w.heap.size+1;omega) _
theorem zF9 {P:List Pce} (h:PcW w oa P.length) (ho:PcO w oa P):
  Calls Tryz.prog 169 #[.slice oa P.length cap] w fun e w'=>(∃o c,e= .returned (.slice o P.length c)∧PcN w' w.heap.size (.slice o P.length c) (P.map fun p=>(⟨p.k,p.T⟩:Pc)))∧Below w.heap.size w w':=by
 have HP:=zL8 h
 have HO:=zL8 ho
 have hz:(P.length:Int)≤4398046511104:=by have:=h.z;omega
 clear h ho
 go_enter Tryz.func169,Tryz.ntmps169
 go_wp2_with fail
 go_loopg [3,4] P.length (fun g cv iv wr=> ∃(d:Nat) (xs:List Value),iv= .int .i64 (d:Nat)∧g=P.length - d∧d≤P.length∧(wr.ownsRow w.heap.size 73 2 cv d xs∧ ∀i p,i<d→P[i]?=some p→xs[i*2]?=some (.int .i64 p.k)∧ ∃t,xs[i*2+1]?=some t∧ByO wr w.heap.size t p.T)∧Below w.heap.size w wr)
 case atStart=>exact⟨0,[],rfl,rfl,Nat.zero_le _,⟨zMO _ _ _ _,fun i p hi=>by omega⟩,zL9 _ _⟩
 case round=>
  obtain⟨d,xs,rfl,hg,hd,ho,hb⟩:=hrel
  have HG:=zL8 hg
  have HX:=zL8 ho
  have HB:=zL8 hb
  have HPW:=zL8 (HP.out.below hb)
  have HPO:=zL8 (HO.out.below hb)
  clear hg ho hb
  by_cases hlt:d<P.length
  ·have hlt':(d:Int)<(P.length:Int):=by omega
   obtain⟨p,hp⟩: ∃p,P[d]?=some p:=⟨_,zMP hlt⟩
   obtain⟨nb,no,rfl,nl,hc⟩:=HPW.out.at_ (by omega)
   obtain⟨g,ob,lb,cb,e1,e2,T',hT',hsT,hzT,_⟩:=hc d hlt
   obtain⟨nb2,no2,he,_,hc2⟩:=HPO.out.at_ (by omega)
   cases he
   obtain⟨f1,f2,f3,f4⟩:=hc2 d p hp
   rw[e1]at f1
   rw[e2]at f2
   simp only[Option.some.injEq,Value.int.injEq,true_and,Value.slice.injEq]at f1 f2
   obtain⟨rfl,rfl,rfl⟩:=f2
   subst f1
   obtain rfl:=zIr f3 hsT hT'
   have HE:=zL8 (zHU p.k hsT f4)
   have HPP:=zL8 hp
   clear hc hc2 f3 f4 hsT hzT hT' hp
   go_wp2_with fail
   refine HE.out.mono ?_
   rintro e w2 ⟨⟨o2,c2,rfl,ht2⟩,hb2⟩
   have HT2:=zL8 (show ByO w2 w.heap.size (.slice o2 p.T.length c2) p.T from by
    obtain⟨o,c,e,h⟩:=ht2
    exact⟨o,c,e,zAH h HB.out.size⟩)
   have HX2:=zL8 (show w2.ownsRow w.heap.size 73 2 u3 d xs∧ ∀i q,i<d→P[i]?=some q→xs[i*2]?=some (.int .i64 q.k)∧ ∃t,xs[i*2+1]?=some t∧ByO w2 w.heap.size t q.T from
    ⟨zAQ HX.out.1 (.below hb2),fun i q hi hq=>by
     obtain⟨q1,t,q2,q3⟩:=HX.out.2 i q hi hq
     exact⟨q1,t,q2,q3.kb (.below hb2)⟩⟩)
   have HB2:=zL8 (HB.out.trans (hb2.mono HB.out.size))
   have HLT:=zL8 hlt
   clear hb2 e1 e2 hlt ht2
   have hk0:zAb w2 (w2.alloc (.cells #[.int .i64 p.k,.slice o2 p.T.length c2] 73)) (fun _=>False):=zAb.alloc _ _ _
   have HK0:=zL8 hk0
   clear hk0
   go_wp2_with (at_builtin;refine zAN zLh rfl _ _ rfl w.heap.size (n:=d) (m:=1) (news:=[.int .i64 p.k,.slice o2 p.T.length c2]) rfl (HK0.out.row HX2.out.1 fun _ _ h=>h) rfl (Src.new w2 [.int .i64 p.k,.slice o2 p.T.length c2] _ _ _) rfl (by simp[Value.oneCell']) (by unfold maxLen;omega) (by have:=HP.out.z;have:=HLT.out;omega) (by have:=HB2.out.size;simp;omega) ?_)
   intro v3 w3 hown3 hgr3 _
   have HB3:=zL8 ((HB2.out.alloc HB2.out.size _).grown hgr3 (by have:=HB2.out.size;simp;omega) (fun k hk=>(World.ownsRow.lt HX2.out.1 k hk).1))
   have hkt: ∀ {t:Value} {T:List Nat},ByO w2 w.heap.size t T→ByO w3 w.heap.size t T:=fun {t T} ht=>by
    obtain⟨o,c,e,h⟩:=ht
    have h1:=HK0.out.row h fun _ _ h=>h
    exact⟨o,c,e,(zAb.of_grown hgr3).row h1 fun b hb hh=>zJD h1 (HK0.out.row HX2.out.1 fun _ _ h=>h) (by decide) b hb hh⟩
   have hxl:xs.length=d*2:=HX2.out.1.1
   have HX3:=zL8 (show w3.ownsRow w.heap.size 73 2 v3 (d+1) (xs++[.int .i64 p.k,.slice o2 p.T.length c2])∧ ∀i q,i<d+1→P[i]?=some q→(xs++[.int .i64 p.k,.slice o2 p.T.length c2])[i*2]?=some (.int .i64 q.k)∧ ∃t,(xs++[.int .i64 p.k,.slice o2 p.T.length c2])[i*2+1]?=some t∧ByO w3 w.heap.size t q.T from
    ⟨hown3,fun i q hi hq=>by
     by_cases e:i<d
     ·obtain⟨q1,t,q2,q3⟩:=HX2.out.2 i q e hq
      rw[zMT (by omega),zMT (by omega)]
      exact⟨q1,t,q2,hkt q3⟩
     ·obtain rfl:i=d:=by omega
      rw[HPP.out]at hq
      cases hq
      rw[zMU (by omega),zMU (by omega),hxl,Nat.sub_self,show i*2+1 - i*2=1 by omega]
      exact⟨rfl,_,rfl,hkt HT2.out⟩⟩)
   clear hown3 hgr3 hkt hxl
   go_wp2_with fail
   go_roundg (P.length - (d+1))
   case measure=>have:=HG.out;have:=HLT.out;omega
   case rel=>exact⟨d+1,_,by go_num,rfl,HLT.out,HX3.out,HB3.out⟩
  ·obtain rfl:d=P.length:=by omega
   obtain⟨o,c,rfl⟩: ∃o c,u3= .slice o P.length c:=by
    rcases HX.out.1.2 with ⟨rfl,h0⟩|⟨g,cp,cur,rfl,_⟩
    ·exact⟨none,0,by rw[h0]⟩
    ·exact⟨_,_,rfl⟩
   go_wp2_with fail
   go_ret
   refine⟨⟨_,_,rfl,xs,by rw[List.length_map];exact HX.out.1,fun i q hq=>?_⟩,HB.out⟩
   rw[List.getElem?_map]at hq
   cases hpi:P[i]? with
   |none=>rw[hpi]at hq;cases hq
   |some q'=>
    rw[hpi]at hq
    cases hq
    exact HX.out.2 i q' (zMF.1 hpi).1 hpi
end
end
section
open Go.RowKit
structure Stb (base:Nat) (G:World→Prop) (w:World):Prop where
 at_:G w
 st: ∀w w',G w→Kb base w w'→G w'
section
variable {w w':World} {base:Nat} {G F:World→Prop}
theorem Stb.kb (h:Stb base G w) (k:Kb base w w'):Stb base G w':=⟨h.st _ _ h.at_ k,h.st⟩
theorem Stb.and (h:Stb base G w) (f:F w) (fs: ∀w w',F w→Kb base w w'→F w'):Stb base (fun w=>G w∧F w) w:=⟨⟨h.at_,f⟩,fun _ _ h1 k=>⟨h.st _ _ h1.1 k,fs _ _ h1.2 k⟩⟩
theorem Nds.kb {v:Value} {re:List Nd} (h:Nds w base v re) (k:Kb base w w'):Nds w' base v re:=zAQ h k
structure CpC (w:World) (base:Nat) (c:Cx) (L:List Value):Prop where
 cl:zBc L
 same: ∀j,j≠2→j≠5→j≠9→j≠10→j≠11→L[j]?=c.l[j]?
 a: ∃o k,L[2]?=some (.slice o c.ra.length k)∧Nds w base (.slice o c.ra.length k) c.ra
 b: ∃o k,L[5]?=some (.slice o c.rb.length k)∧Nds w base (.slice o c.rb.length k) c.rb
 t: ∃o k,L[9]?=some (.slice o c.T.length k)∧w.ownsRow base 5 1 (.slice o c.T.length k) c.T.length (u8s c.T)
 r: ∃o k,L[10]?=some (.slice o c.R.length k)∧Nds w base (.slice o c.R.length k) c.R
 p: ∃o k,L[11]?=some (.slice o c.P.length k)∧PcN w base (.slice o c.P.length k) (c.P.map fun p:Pce=>(⟨p.k,p.T⟩:Pc))
variable {c:Cx} {L:List Value}
theorem CpC.kb (h:CpC w base c L) (k:Kb base w w'):CpC w' base c L:=
 ⟨h.cl,h.same,h.a.imp fun _ e=>e.imp fun _ e=>⟨e.1,e.2.kb k⟩,h.b.imp fun _ e=>e.imp fun _ e=>⟨e.1,e.2.kb k⟩,h.t.imp fun _ e=>e.imp fun _ e=>⟨e.1,zAQ e.2 k⟩,h.r.imp fun _ e=>e.imp fun _ e=>⟨e.1,e.2.kb k⟩,h.p.imp fun _ e=>e.imp fun _ e=>⟨e.1,e.2.kb k⟩⟩
theorem zFw {o:Option Addr} {re:List Nd} {k:Nat} (h:Nds w base (.slice o re.length k) re):NdU w o re:=by
 obtain⟨o2,k2,he,h2⟩:=h.toU
 cases he
 exact h2
theorem CpC.eqW (h:CpC w base c L) (hi:CxM w' c) {z:Cz} (ha:z.a=⟨c.ka,c.na,c.ra⟩) (hb:z.b=⟨c.kb,c.nb,c.rb⟩) (ht:z.tx=c.T) (hr:z.re=c.R) (hf:z.fi=c.P.map (fun p=>⟨p.k,p.T⟩)) (hp:ShP c.l z):EqW w L z:=by
 have hp2:=hp.same h.same
 obtain⟨oA,kA,a1,a2⟩:=h.a
 obtain⟨oB,kB,b1,b2⟩:=h.b
 obtain⟨oT,kT,t1,t2⟩:=h.t
 obtain⟨oR,kR,r1,r2⟩:=h.r
 obtain⟨oP,kP,p1,p2⟩:=h.p
 exact
 {a0:=by rw[ha];exact(h.same 0 (by decide) (by decide) (by decide) (by decide) (by decide)).trans hi.i.ci.a0
  a1:=by rw[ha];exact(h.same 1 (by decide) (by decide) (by decide) (by decide) (by decide)).trans hi.i.ci.a1
  a2:=by rw[ha];exact⟨_,_,a1,zFw a2,zCD a2⟩
  b0:=by rw[hb];exact(h.same 3 (by decide) (by decide) (by decide) (by decide) (by decide)).trans hi.i.ci.b0
  b1:=by rw[hb];exact(h.same 4 (by decide) (by decide) (by decide) (by decide) (by decide)).trans hi.i.ci.b1
  b2:=by rw[hb];exact⟨_,_,b1,zFw b2,zCD b2⟩
  nt:=hp2.nt
  nm:=hp2.nm
  p:=hp2.p
  tx:=by rw[ht];exact⟨_,_,t1,zGM t2,zCD t2⟩
  re:=by rw[hr];exact⟨_,_,r1,zFw r2,zCD r2⟩
  fi:=by rw[hf,List.length_map];exact⟨_,_,p1,(show PcN w base (.slice oP (c.P.map fun p:Pce=>(⟨p.k,p.T⟩:Pc)).length kP) _ by rw[List.length_map];exact p2).pcE⟩
  ct:=hp2.ct
  al:=hp2.al
  pr:=hp2.pr
  wr:=hp2.wr
  tb:=hp2.tb }
end
section
variable {w w':World} {c:Cx}
theorem zJg (h:CxM w c):
  Calls Tryz.prog 135 #[.agg c.l.toArray] w fun e w'=>(∃L,e= .returned (.agg L.toArray)∧CpC w' w.heap.size c L)∧Below w.heap.size w w':=by
 obtain⟨ot,nt',ct,e9,T',hT',hsT,hzT,_⟩:=h.i.ci.tx
 have hq9:=h.i.e9
 rw[e9]at hq9
 simp only[Option.some.injEq,Value.slice.injEq]at hq9
 obtain⟨rfl,rfl,rfl⟩:=hq9
 obtain rfl:=zIr h.i.t hsT hT'
 obtain⟨of_,nf,cf,e11,hpw⟩:=h.i.ci.fi
 have hq11:=h.i.e11
 rw[e11]at hq11
 simp only[Option.some.injEq,Value.slice.injEq]at hq11
 obtain⟨rfl,rfl,rfl⟩:=hq11
 have HST:=zL8 hsT
 have HPW:=zL8 hpw
 have hb1:=((zL9 w.heap.size w).alloc (zMA _) (.cells c.l.toArray 71)).alloc (by simp) (.cells Tryz.zeroCells71 71)
 have HD0:=zL8 ((zBE.new h.i.ci.cl w).below ((zL9 _ _).alloc (zMA _) (.cells Tryz.zeroCells71 71)))
 have HY0:=zL8 (zBE.zero (w.alloc (.cells c.l.toArray 71)))
 have hsz:(w.alloc (.cells c.l.toArray 71)).heap.size=w.heap.size+1:=by simp
 rw[hsz]at HY0
 have HE0:=zL8 hb1
 have H0:=zL8 h
 clear h hb1 hsz hsT hpw e9 e11 hzT hT'
 go_enter Tryz.func135,Tryz.ntmps135
 go_upto_region 1 with fail
 obtain⟨W0,hW⟩: ∃W,(w.alloc (.cells c.l.toArray 71)).alloc (.cells Tryz.zeroCells71 71)=W:=⟨_,rfl⟩
 rw[hW]at HD0 HY0 HE0 ⊢
 clear hW
 obtain⟨b,hbz⟩: ∃b,w.heap.size=b:=⟨_,rfl⟩
 rw[hbz]at HD0 HY0 ⊢
 have HBZ:=zL8 hbz
 clear hbz
 have HG0:Hid (Stb (b+1+1) (fun _=>True) W0):=zL8 ⟨trivial,fun _ _ _ _=>trivial⟩
 have k0:W0.cell? ⟨b,0,none⟩=some (.int .i8 c.ka):=(HD0.out.cell 0).trans (by simpa using H0.out.i.ci.a0)
 have k1:W0.cell? ⟨b,1,none⟩=some (.int .i64 c.na):=(HD0.out.cell 1).trans (by simpa using H0.out.i.ci.a1)
 have k2:W0.cell? ⟨b,2,none⟩=some (.slice c.oa c.ra.length c.ca):=(HD0.out.cell 2).trans (by simpa using H0.out.i.ci.a2)
 have kl:=HD0.out.lt
 have HX:=zL8 (zCk (cap:=c.ca) c.ka c.na (Src.below H0.out.i.ci.sa HE0.out) H0.out.i.ci.za)
 go_wp2_with fail
 refine HX.out.mono ?_;rintro e v1 ⟨⟨o1,c1,rfl,hn⟩,hb⟩
 have hy:b+1+1≤W0.heap.size:=HY0.out.lt
 have HN1:=zL8 ((HG0.out.kb (.below hb)).and (F:=fun W=>Nds W (b+1+1) (.slice o1 c.ra.length c1) c.ra) (hn.mono hy) (fun _ _ h k=>h.kb k))
 have HC1:=zL8 (HD0.out.below hb)
 have HZ1:=zL8 (HY0.out.below hb)
 have HB1:=zL8 (HE0.out.trans (hb.mono HE0.out.size))
 clear k0 k1 k2 kl hb HX HD0 HY0 HE0 HG0 hn hy
 have k0:v1.cell? ⟨b,0,none⟩=some (.int .i8 c.ka):=(HC1.out.cell 0).trans (by simpa using H0.out.i.ci.a0)
 have k1:v1.cell? ⟨b,1,none⟩=some (.int .i64 c.na):=(HC1.out.cell 1).trans (by simpa using H0.out.i.ci.a1)
 have k2:v1.cell? ⟨b,2,none⟩=some (.slice c.oa c.ra.length c.ca):=(HC1.out.cell 2).trans (by simpa using H0.out.i.ci.a2)
 have kl:=HC1.out.lt
 have kf:=HC1.out.fz
 go_upto_region 2 with fail
 obtain⟨W1,hW⟩: ∃W,(((v1.setCell ⟨b,0,none⟩ (.int .i8 c.ka)).setCell ⟨b,1,none⟩ (.int .i64 c.na)).setCell ⟨b,2,none⟩ (.slice o1 c.ra.length c1))=W:=⟨_,rfl⟩
 have HD1:Hid (zBE W1 b (((c.l.set 0 (.int .i8 c.ka)).set 1 (.int .i64 c.na)).set 2 (.slice o1 c.ra.length c1))):=zL8 (by rw[←hW];exact(((HC1.out.set 0 (v:= .int .i8 c.ka) rfl).set 1 (v:= .int .i64 c.na) rfl).set 2 (v:= .slice o1 c.ra.length c1) rfl))
 have HY1:Hid (zBE W1 (b+1) Tryz.zeroCells71.toList):=zL8 (by rw[←hW];exact(((HZ1.out.other (by omega) _ _).other (by omega) _ _).other (by omega) _ _))
 have HE1:Hid (Below w.heap.size w W1):=zL8 (by rw[←hW];exact(((HB1.out.setCell (p:=⟨b,0,none⟩) (by rw[←HBZ.out];exact zMA _) _).setCell (p:=⟨b,1,none⟩) (by rw[←HBZ.out];exact zMA _) _).setCell (p:=⟨b,2,none⟩) (by rw[←HBZ.out];exact zMA _) _))
 have HG1:=zL8 (HN1.out.kb (w':=W1) (by rw[←hW];exact(((Kb.set (by omega) _ _).trans (Kb.set (by omega) _ _)).trans (Kb.set (by omega) _ _))))
 rw[hW]
 clear hW k0 k1 k2 kl kf HC1 HZ1 HB1 HN1
 have k3:W1.cell? ⟨b,3,none⟩=some (.int .i8 c.kb):=(HD1.out.cell 3).trans (by simpa using H0.out.i.ci.b0)
 have k4:W1.cell? ⟨b,4,none⟩=some (.int .i64 c.nb):=(HD1.out.cell 4).trans (by simpa using H0.out.i.ci.b1)
 have k5:W1.cell? ⟨b,5,none⟩=some (.slice c.ob c.rb.length c.cb):=(HD1.out.cell 5).trans (by simpa using H0.out.i.ci.b2)
 have kl:=HD1.out.lt
 have HX:=zL8 (zCk (cap:=c.cb) c.kb c.nb (Src.below H0.out.i.ci.sb HE1.out) H0.out.i.ci.zb)
 go_wp2_with fail
 refine HX.out.mono ?_;rintro e v2 ⟨⟨o2,c2,rfl,hn⟩,hb⟩
 have hy:b+1+1≤W1.heap.size:=HY1.out.lt
 have HN2:=zL8 ((HG1.out.kb (.below hb)).and (F:=fun W=>Nds W (b+1+1) (.slice o2 c.rb.length c2) c.rb) (hn.mono hy) (fun _ _ h k=>h.kb k))
 have HC2:=zL8 (HD1.out.below hb)
 have HZ2:=zL8 (HY1.out.below hb)
 have HB2:=zL8 (HE1.out.trans (hb.mono HE1.out.size))
 clear k3 k4 k5 kl hb HX HD1 HY1 HE1 HG1 hn hy
 have k3:v2.cell? ⟨b,3,none⟩=some (.int .i8 c.kb):=(HC2.out.cell 3).trans (by simpa using H0.out.i.ci.b0)
 have k4:v2.cell? ⟨b,4,none⟩=some (.int .i64 c.nb):=(HC2.out.cell 4).trans (by simpa using H0.out.i.ci.b1)
 have k5:v2.cell? ⟨b,5,none⟩=some (.slice c.ob c.rb.length c.cb):=(HC2.out.cell 5).trans (by simpa using H0.out.i.ci.b2)
 have kl:=HC2.out.lt
 have kf:=HC2.out.fz
 go_upto_region 3 with fail
 obtain⟨W2,hW⟩: ∃W,(((v2.setCell ⟨b,3,none⟩ (.int .i8 c.kb)).setCell ⟨b,4,none⟩ (.int .i64 c.nb)).setCell ⟨b,5,none⟩ (.slice o2 c.rb.length c2))=W:=⟨_,rfl⟩
 have HD2:Hid (zBE W2 b ((((((c.l.set 0 (.int .i8 c.ka)).set 1 (.int .i64 c.na)).set 2 (.slice o1 c.ra.length c1)).set 3 (.int .i8 c.kb)).set 4 (.int .i64 c.nb)).set 5 (.slice o2 c.rb.length c2))):=zL8 (by rw[←hW];exact(((HC2.out.set 3 (v:= .int .i8 c.kb) rfl).set 4 (v:= .int .i64 c.nb) rfl).set 5 (v:= .slice o2 c.rb.length c2) rfl))
 have HY2:Hid (zBE W2 (b+1) Tryz.zeroCells71.toList):=zL8 (by rw[←hW];exact(((HZ2.out.other (by omega) _ _).other (by omega) _ _).other (by omega) _ _))
 have HE2:Hid (Below w.heap.size w W2):=zL8 (by rw[←hW];exact(((HB2.out.setCell (p:=⟨b,3,none⟩) (by rw[←HBZ.out];exact zMA _) _).setCell (p:=⟨b,4,none⟩) (by rw[←HBZ.out];exact zMA _) _).setCell (p:=⟨b,5,none⟩) (by rw[←HBZ.out];exact zMA _) _))
 have HG2:=zL8 (HN2.out.kb (w':=W2) (by rw[←hW];exact(((Kb.set (by omega) _ _).trans (Kb.set (by omega) _ _)).trans (Kb.set (by omega) _ _))))
 rw[hW]
 clear hW k3 k4 k5 kl kf HC2 HZ2 HB2 HN2
 have k9:W2.cell? ⟨b,9,none⟩=some (.slice c.ot c.T.length c.ct):=(HD2.out.cell 9).trans (by simpa using H0.out.i.e9)
 have kl:=HD2.out.lt
 have HX:=zL8 (zBh (Src.below HST.out HE2.out) H0.out.i.tz)
 go_wp2_with fail
 refine HX.out.mono ?_;rintro e v3 ⟨⟨x3,rfl,hn⟩,hb⟩
 obtain⟨o3,c3,rfl⟩: ∃o k,x3= .slice o c.T.length k:=by
  rcases hn.2 with ⟨rfl,h0⟩|⟨g,cp,cur,rfl,_⟩
  ·exact⟨none,0,by rw[h0]⟩
  ·exact⟨_,_,rfl⟩
 have hy:b+1+1≤W2.heap.size:=HY2.out.lt
 have HN3:=zL8 ((HG2.out.kb (.below hb)).and (F:=fun W=>W.ownsRow (b+1+1) 5 1 (.slice o3 c.T.length c3) c.T.length (u8s c.T)) (zAH hn hy) (fun _ _ h k=>zAQ h k))
 have HC3:=zL8 (HD2.out.below hb)
 have HZ3:=zL8 (HY2.out.below hb)
 have HB3:=zL8 (HE2.out.trans (hb.mono HE2.out.size))
 clear k9 kl hb HX HD2 HY2 HE2 HG2 hn hy
 have k9:v3.cell? ⟨b,9,none⟩=some (.slice c.ot c.T.length c.ct):=(HC3.out.cell 9).trans (by simpa using H0.out.i.e9)
 have kl:=HC3.out.lt
 have kf:=HC3.out.fz
 go_upto_region 4 with fail
 obtain⟨W3,hW⟩: ∃W,(v3.setCell ⟨b,9,none⟩ (.slice o3 c.T.length c3))=W:=⟨_,rfl⟩
 have HD3:Hid (zBE W3 b (((((((c.l.set 0 (.int .i8 c.ka)).set 1 (.int .i64 c.na)).set 2 (.slice o1 c.ra.length c1)).set 3 (.int .i8 c.kb)).set 4 (.int .i64 c.nb)).set 5 (.slice o2 c.rb.length c2)).set 9 (.slice o3 c.T.length c3))):=zL8 (by rw[←hW];exact(HC3.out.set 9 (v:= .slice o3 c.T.length c3) rfl))
 have HY3:Hid (zBE W3 (b+1) Tryz.zeroCells71.toList):=zL8 (by rw[←hW];exact(HZ3.out.other (by omega) _ _))
 have HE3:Hid (Below w.heap.size w W3):=zL8 (by rw[←hW];exact(HB3.out.setCell (p:=⟨b,9,none⟩) (by rw[←HBZ.out];exact zMA _) _))
 have HG3:=zL8 (HN3.out.kb (w':=W3) (by rw[←hW];exact(Kb.set (by omega) _ _)))
 rw[hW]
 clear hW k9 kl kf HC3 HZ3 HB3 HN3
 have k10:W3.cell? ⟨b,10,none⟩=some (.slice c.oe c.R.length c.ce):=(HD3.out.cell 10).trans (by simpa using H0.out.i.e10)
 have kl:=HD3.out.lt
 have HX:=zL8 (zB4 (Src.below H0.out.wr.srcZ HE3.out) H0.out.i.rz)
 go_wp2_with fail
 refine HX.out.mono ?_;rintro e v4 ⟨⟨x4,rfl,hn⟩,hb⟩
 obtain⟨o4,c4,rfl⟩: ∃o k,x4= .slice o c.R.length k:=by
  obtain⟨o,k,e,_⟩:=hn.toU
  exact⟨o,k,e⟩
 have hy:b+1+1≤W3.heap.size:=HY3.out.lt
 have HN4:=zL8 ((HG3.out.kb (.below hb)).and (F:=fun W=>Nds W (b+1+1) (.slice o4 c.R.length c4) c.R) (hn.mono hy) (fun _ _ h k=>h.kb k))
 have HC4:=zL8 (HD3.out.below hb)
 have HZ4:=zL8 (HY3.out.below hb)
 have HB4:=zL8 (HE3.out.trans (hb.mono HE3.out.size))
 clear k10 kl hb HX HD3 HY3 HE3 HG3 hn hy
 have k10:v4.cell? ⟨b,10,none⟩=some (.slice c.oe c.R.length c.ce):=(HC4.out.cell 10).trans (by simpa using H0.out.i.e10)
 have kl:=HC4.out.lt
 have kf:=HC4.out.fz
 go_upto_region 5 with fail
 obtain⟨W4,hW⟩: ∃W,(v4.setCell ⟨b,10,none⟩ (.slice o4 c.R.length c4))=W:=⟨_,rfl⟩
 have HD4:Hid (zBE W4 b ((((((((c.l.set 0 (.int .i8 c.ka)).set 1 (.int .i64 c.na)).set 2 (.slice o1 c.ra.length c1)).set 3 (.int .i8 c.kb)).set 4 (.int .i64 c.nb)).set 5 (.slice o2 c.rb.length c2)).set 9 (.slice o3 c.T.length c3)).set 10 (.slice o4 c.R.length c4))):=zL8 (by rw[←hW];exact(HC4.out.set 10 (v:= .slice o4 c.R.length c4) rfl))
 have HY4:Hid (zBE W4 (b+1) Tryz.zeroCells71.toList):=zL8 (by rw[←hW];exact(HZ4.out.other (by omega) _ _))
 have HE4:Hid (Below w.heap.size w W4):=zL8 (by rw[←hW];exact(HB4.out.setCell (p:=⟨b,10,none⟩) (by rw[←HBZ.out];exact zMA _) _))
 have HG4:=zL8 (HN4.out.kb (w':=W4) (by rw[←hW];exact(Kb.set (by omega) _ _)))
 rw[hW]
 clear hW k10 kl kf HC4 HZ4 HB4 HN4
 have k11:W4.cell? ⟨b,11,none⟩=some (.slice c.op c.P.length c.cp):=(HD4.out.cell 11).trans (by simpa using H0.out.i.e11)
 have kl:=HD4.out.lt
 have HX:=zL8 (zF9 (cap:=c.cp) (HPW.out.below HE4.out) (H0.out.i.p.below HE4.out))
 go_wp2_with fail
 refine HX.out.mono ?_;rintro e v5 ⟨⟨o5,c5,rfl,hn⟩,hb⟩
 have hy:b+1+1≤W4.heap.size:=HY4.out.lt
 have HN5:=zL8 ((HG4.out.kb (.below hb)).and (F:=fun W=>PcN W (b+1+1) (.slice o5 c.P.length c5) (c.P.map fun p:Pce=>(⟨p.k,p.T⟩:Pc))) (by obtain⟨xs,h1,h2⟩:=hn;exact⟨xs,zAH h1 hy,fun i p hi=>by obtain⟨e1,t,e2,o,k,e3,e4⟩:=h2 i p hi;exact⟨e1,t,e2,o,k,e3,zAH e4 hy⟩⟩) (fun _ _ h k=>h.kb k))
 have HC5:=zL8 (HD4.out.below hb)
 have HZ5:=zL8 (HY4.out.below hb)
 have HB5:=zL8 (HE4.out.trans (hb.mono HE4.out.size))
 clear k11 kl hb HX HD4 HY4 HE4 HG4 hn hy
 have k11:v5.cell? ⟨b,11,none⟩=some (.slice c.op c.P.length c.cp):=(HC5.out.cell 11).trans (by simpa using H0.out.i.e11)
 have kl:=HC5.out.lt
 have kf:=HC5.out.fz
 go_upto_region 6 with fail
 obtain⟨W5,hW⟩: ∃W,(v5.setCell ⟨b,11,none⟩ (.slice o5 c.P.length c5))=W:=⟨_,rfl⟩
 have HD5:Hid (zBE W5 b (((((((((c.l.set 0 (.int .i8 c.ka)).set 1 (.int .i64 c.na)).set 2 (.slice o1 c.ra.length c1)).set 3 (.int .i8 c.kb)).set 4 (.int .i64 c.nb)).set 5 (.slice o2 c.rb.length c2)).set 9 (.slice o3 c.T.length c3)).set 10 (.slice o4 c.R.length c4)).set 11 (.slice o5 c.P.length c5))):=zL8 (by rw[←hW];exact(HC5.out.set 11 (v:= .slice o5 c.P.length c5) rfl))
 have HY5:Hid (zBE W5 (b+1) Tryz.zeroCells71.toList):=zL8 (by rw[←hW];exact(HZ5.out.other (by omega) _ _))
 have HE5:Hid (Below w.heap.size w W5):=zL8 (by rw[←hW];exact(HB5.out.setCell (p:=⟨b,11,none⟩) (by rw[←HBZ.out];exact zMA _) _))
 have HG5:=zL8 (HN5.out.kb (w':=W5) (by rw[←hW];exact(Kb.set (by omega) _ _)))
 rw[hW]
 clear hW k11 kl kf HC5 HZ5 HB5 HN5
 obtain⟨LL,hLL⟩: ∃LL,(((((((((c.l.set 0 (.int .i8 c.ka)).set 1 (.int .i64 c.na)).set 2 (.slice o1 c.ra.length c1)).set 3 (.int .i8 c.kb)).set 4 (.int .i64 c.nb)).set 5 (.slice o2 c.rb.length c2)).set 9 (.slice o3 c.T.length c3)).set 10 (.slice o4 c.R.length c4)).set 11 (.slice o5 c.P.length c5))=LL:=⟨_,rfl⟩
 rw[hLL]at HD5
 have HLL:=zL8 hLL
 clear hLL
 have HSZ:=zL8 (zBE.info HD5.out.cl)
 have HSO:Hid (Tryz.zeroCells71.toList.toArray.size=LL.toArray.size):=zL8 (by rw[List.size_toArray,List.size_toArray,zAo,HD5.out.cl.len])
 have HON:Hid (LL.toArray.all (·.oneCell')=true):=zL8 (by rw[←Array.all_toList,List.all_eq_true];simpa using HD5.out.cl.one)
 go_wp2_with (first|refine wpList_load_row rfl 71 _ rfl b rfl _ _ (0,0) _ HD5.out.heap Tryz.underlying71 rfl HSZ.out ?_|refine wpList_store_row rfl 71 _ _ rfl (b+1) _ rfl rfl _ _ HY5.out.heap HSZ.out HSO.out HON.out ?_)
 have HR:zBE (W5.setRow (b+1) LL.toArray) (b+1) LL:=⟨setRow_heap _ _ _ _ _ _ HY5.out.heap,HD5.out.cl⟩
 have HGF:=HG5.out.kb (Kb.row (show b+1<b+1+1 by omega) LL.toArray)
 obtain⟨⟨⟨⟨⟨_,g1⟩,g2⟩,g3⟩,g4⟩,g5⟩:=HGF.at_
 have hlen:=H0.out.i.ci.cl.len
 have hm:w.heap.size≤b+1+1:=by rw[HBZ.out];omega
 refine zEs (p:=2) rfl rfl rfl HR ⟨⟨LL,rfl,HD5.out.cl,?_,⟨o1,c1,?_,g1.mono hm⟩,⟨o2,c2,?_,g2.mono hm⟩,⟨o3,c3,?_,zAH g3 hm⟩,⟨o4,c4,?_,g4.mono hm⟩,⟨o5,c5,?_,?_⟩⟩,below_setRow HE5.out (by rw[HBZ.out];omega) _⟩
 ·intro j h2 h5 h9 h10 h11
  rw[←HLL.out]
  by_cases j0:j=0
  ·subst j0;rw[H0.out.i.ci.a0];simp[hlen]
  by_cases j1:j=1
  ·subst j1;rw[H0.out.i.ci.a1];simp[hlen]
  by_cases j3:j=3
  ·subst j3;rw[H0.out.i.ci.b0];simp[hlen]
  by_cases j4:j=4
  ·subst j4;rw[H0.out.i.ci.b1];simp[hlen]
  simp only[List.getElem?_set]
  rw[if_neg (by omega),if_neg (by omega),if_neg (by omega),if_neg (by omega),if_neg (by omega),if_neg (by omega),if_neg (by omega),if_neg (by omega),if_neg (by omega)]
 ·rw[←HLL.out];simp[hlen]
 ·rw[←HLL.out];simp[hlen]
 ·rw[←HLL.out];simp[hlen]
 ·rw[←HLL.out];simp[hlen]
 ·rw[←HLL.out];simp[hlen]
 ·obtain⟨xs,h1,h2⟩:=g5
  exact⟨xs,zAH h1 hm,fun i p hi=>by
   obtain⟨e1,t,e2,o,k,e3,e4⟩:=h2 i p hi
   exact⟨e1,t,e2,o,k,e3,zAH e4 hm⟩⟩
end
end
end Go.Proofs.YtfcemodgopdkkaaGreatDoor
