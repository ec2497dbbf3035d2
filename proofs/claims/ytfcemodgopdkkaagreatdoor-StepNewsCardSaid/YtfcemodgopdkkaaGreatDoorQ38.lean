/- Parts: Xm. -/
import Derived.Test.YtfcemodgopdkkaaGreatDoorQ32
import Derived.Test.YtfcemodgopdkkaaGreatDoorQ37
import Derived.Test.YtfcemodgopdkkaaGreatDoorQ30
import Derived.Test.YtfcemodgopdkkaaGreatDoorQ8
namespace Go.Proofs.YtfcemodgopdkkaaGreatDoor
open Go.RowKit
def zI2 (T:List Nat):Value:= .string (zBN T)
structure NdK where
 n2:Nat
 n5:Nat
 n10:Nat
 s2:List Value
 s5:List Value
 s10:List Value
def Sub (xs:List Value) (o:Nat) (L:List Value):Prop:= ∀j v,L[j]?=some v→xs[o+j]?=some v
structure RvC (w:World) (l:List Value) (c:Rq) (k:NdK):Prop where
 cl:zBc l
 nm:l[7]?=some (.int .u8 (c.nm:Nat))
 nl:c.nm<256
 at_: ∃a:Int,l[8]?=some (.int .i64 a)
 wr:l[15]?=some (.bool c.wr)
 tx: ∃o cap,l[9]?=some (.slice o c.tx.length cap)∧zBU w o c.tx∧c.tx.length≤4294967296∧c.tx.length≤cap
 tl: ∀b∈c.tx,b<256
 clo: ∃v2 v5 v10,zLF w l v2 v5 v10 k.n2 k.n5 k.n10 k.s2 k.s5 k.s10
 sh: ∀W,Below w.heap.size w W→Calls Tryz.prog 59 #[.agg l.toArray] W fun e W'=>e= .returned (.bool c.ok)∧Below W.heap.size W W'
def CmO (w:World) (base:Nat) (v:Value) (ks:List NdK):Prop:= ∃xs,w.ownsRow base 71 272 v ks.length xs∧ ∀i k,ks[i]?=some k→ ∃L u2 u5 u10,zBc L∧Sub xs (i*272) L∧L[2]?=some u2∧L[5]?=some u5∧L[10]?=some u10∧
 w.ownsRow base 127 9 u2 k.n2 k.s2∧w.ownsRow base 127 9 u5 k.n5 k.s5∧w.ownsRow base 127 9 u10 k.n10 k.s10
section
variable {w w':World} {base:Nat} {v v' vl vc vf vo:Value} {l:List Value} {c:Rq} {k:NdK} {ks:List NdK}
theorem zLF.below {v2 v5 v10:Value} {n2 n5 n10:Nat} {s2 s5 s10:List Value} (h:zLF w l v2 v5 v10 n2 n5 n10 s2 s5 s10) (hb:Below w.heap.size w w'):zLF w' l v2 v5 v10 n2 n5 n10 s2 s5 s10:=
 {h with
  n2:=h.n2.below hb
  n5:=h.n5.below hb
  n10:=h.n10.below hb
  tx:=by obtain⟨oa,T,cap,h1,h2,h3⟩:=h.tx;exact⟨oa,T,cap,h1,zBO h2 hb,h3⟩
  fi:=by obtain⟨of_,n,cap,h1,h2,h3⟩:=h.fi;exact⟨of_,n,cap,h1,h2,h3.below hb⟩ }
theorem RvC.below (h:RvC w l c k) (hb:Below w.heap.size w w'):RvC w' l c k:=
 {h with
  tx:=by obtain⟨o,cap,h1,h2,h3⟩:=h.tx;exact⟨o,cap,h1,zBO h2 hb,h3⟩
  clo:=by obtain⟨v2,v5,v10,h1⟩:=h.clo;exact⟨v2,v5,v10,h1.below hb⟩
  sh:=fun W hW=>h.sh W (hb.trans (hW.mono hb.size)) }
theorem CmO.nil (w:World) (base:Nat):CmO w base (.slice none 0 0) []:=⟨[],zMO _ _ _ _,fun i k h=>by simp at h⟩
theorem CmO.kb (h:CmO w base v ks) (b:Kb base w w'):CmO w' base v ks:=by
 obtain⟨xs,h1,h2⟩:=h
 refine⟨xs,zAQ h1 b,fun i k hk=>?_⟩
 obtain⟨L,u2,u5,u10,e1,e2,e3,e4,e5,e6,e7,e8⟩:=h2 i k hk
 exact⟨L,u2,u5,u10,e1,e2,e3,e4,e5,zAQ e6 b,zAQ e7 b,zAQ e8 b⟩
theorem CmO.mono {base':Nat} (h:CmO w base v ks) (hb:base'≤base):CmO w base' v ks:=by
 obtain⟨xs,h1,h2⟩:=h
 refine⟨xs,zAH h1 hb,fun i k hk=>?_⟩
 obtain⟨L,u2,u5,u10,e1,e2,e3,e4,e5,e6,e7,e8⟩:=h2 i k hk
 exact⟨L,u2,u5,u10,e1,e2,e3,e4,e5,zAH e6 hb,zAH e7 hb,zAH e8 hb⟩
theorem CmO.stay {t:TypeId} (h:CmO w base v ks) (b:zCl t w w') (h1:71≠t) (h2:127≠t):CmO w' base v ks:=by
 obtain⟨xs,h3,h4⟩:=h
 refine⟨xs,zAc h3 h1 b,fun i k hk=>?_⟩
 obtain⟨L,u2,u5,u10,e1,e2,e3,e4,e5,e6,e7,e8⟩:=h4 i k hk
 exact⟨L,u2,u5,u10,e1,e2,e3,e4,e5,zAc e6 h2 b,zAc e7 h2 b,zAc e8 h2 b⟩
theorem CmO.snoc {xs L:List Value} {u2 u5 u10:Value} (h: ∀i k,ks[i]?=some k→ ∃L u2 u5 u10,zBc L∧Sub xs (i*272) L∧L[2]?=some u2∧L[5]?=some u5∧L[10]?=some u10∧
   w.ownsRow base 127 9 u2 k.n2 k.s2∧w.ownsRow base 127 9 u5 k.n5 k.s5∧w.ownsRow base 127 9 u10 k.n10 k.s10) (hl:xs.length=ks.length*272) (st:zCl 71 w w')
  (ho:w'.ownsRow base 71 272 v' (ks.length+1) (xs++L)) (cl:zBc L) (g2:L[2]?=some u2) (g5:L[5]?=some u5) (g10:L[10]?=some u10) (n2:w.ownsRow base 127 9 u2 k.n2 k.s2) (n5:w.ownsRow base 127 9 u5 k.n5 k.s5) (n10:w.ownsRow base 127 9 u10 k.n10 k.s10):CmO w' base v' (ks++[k]):=by
 refine⟨xs++L,by rw[zMS];exact ho,fun i k' hk=>?_⟩
 rcases zBp hk with hk|⟨rfl,rfl⟩
 ·have hi:=(zMF.1 hk).1
  obtain⟨L',u2',u5',u10',e1,e2,e3,e4,e5,e6,e7,e8⟩:=h i k' hk
  refine⟨L',u2',u5',u10',e1,fun j x hj=>?_,e3,e4,e5,zAc e6 (by decide) st,zAc e7 (by decide) st,zAc e8 (by decide) st⟩
  have hj2:=(zMF.1 hj).1
  rw[e1.len]at hj2
  rw[zMT (by omega)]
  exact e2 j x hj
 ·refine⟨L,u2,u5,u10,cl,fun j x hj=>?_,g2,g5,g10,zAc n2 (by decide) st,zAc n5 (by decide) st,zAc n10 (by decide) st⟩
  rw[zMU (by omega),hl,show ks.length*272+j - ks.length*272=j by omega]
  exact hj
structure RzF (w:World) (c g d mp:Nat) (vl vc vf:Value) (n:Nat) (q:Bool) (tn:List Int) (la:List (List Nat × Nat)):Prop where
 b0:w.cell? ⟨c,0,none⟩=some vl
 pr:PrB w (c+1) (.slice none 0 0) (.slice none 0 0) (.slice none 0 0) false
 qr:PrB w d vc (.slice (some ⟨g,0,none⟩) n n) vf q
 tl:tn.length=n
 tr:w.ownsRow c 3 1 (.slice (some ⟨g,0,none⟩) n n) n (tn.map (.int .i64))
 lm:MpL w mp la
 o1:c+1<g
 o2:g<d
 o3:d<mp
variable {g d mp cc n:Nat} {q:Bool} {tn:List Int} {la:List (List Nat × Nat)} {fs:List (List Nat)} {op:List Nat}
theorem RzF.lt (h:RzF w cc g d mp vl vc vf n q tn la):mp<w.heap.size:=h.lm.lt
theorem RzF.fix (h:RzF w cc g d mp vl vc vf n q tn la) (hb: ∀k,k≤mp→w'.heap[k]?=w.heap[k]?) (hs:w.heap.size≤w'.heap.size):RzF w' cc g d mp vl vc vf n q tn la:=by
 have:=h.o1
 have:=h.o2
 have:=h.o3
 exact⟨(zMC (a:=⟨cc,0,none⟩) (hb cc (by omega))).trans h.b0,h.pr.same (hb _ (by omega)) hs,h.qr.same (hb _ (by omega)) hs,h.tl,zAK h.tr fun k hk=>by
  cases hk
  exact hb g (by omega),h.lm.block (hb mp (zMA _)),h.o1,h.o2,h.o3⟩
theorem RzF.below (h:RzF w cc g d mp vl vc vf n q tn la) (hb:Below w.heap.size w w'):RzF w' cc g d mp vl vc vf n q tn la:=h.fix (fun k hk=>hb.block k (Nat.lt_of_le_of_lt hk h.lt)) hb.size
theorem RzF.over (h:RzF w cc g d mp vl vc vf n q tn la) (hb:Below (mp+1) w w'):RzF w' cc g d mp vl vc vf n q tn la:=h.fix (fun k hk=>hb.block k (by omega)) hb.size
theorem RzF.setTo (h:RzF w cc g d mp vl vc vf n q tn la) (i:Nat) (x:Int):RzF (w.setCell ⟨g,i,none⟩ (.int .i64 x)) cc g d mp vl vc vf n q (tn.set i x) la:=by
 have:=h.o1
 have:=h.o2
 have:=h.o3
 have hb: ∀k,k≠g→(w.setCell ⟨g,i,none⟩ (.int .i64 x)).heap[k]?=w.heap[k]?:=fun k hk=>zMI _ _ _ _ hk
 have hs:w.heap.size≤(w.setCell ⟨g,i,none⟩ (.int .i64 x)).heap.size:=by simp[World.setCell]
 have ht:=(zMW h.tr i (.int .i64 x)).1
 rw[show(tn.map (Value.int .i64)).set i (.int .i64 x)=(tn.set i x).map (.int .i64)by rw[List.map_set]]at ht
 exact⟨(zMC (a:=⟨cc,0,none⟩) (hb cc (by omega))).trans h.b0,h.pr.same (hb _ (by omega)) hs,h.qr.same (hb _ (by omega)) hs,by rw[List.length_set];exact h.tl,ht,h.lm.block (hb mp (by omega)),h.o1,h.o2,h.o3⟩
theorem RzF.setD (h:RzF w cc g d mp vl vc vf n q tn la) (j:Nat) (x:Value) (hp:PrB (w.setCell ⟨d,j,none⟩ x) d v (.slice (some ⟨g,0,none⟩) n n) v' q):RzF (w.setCell ⟨d,j,none⟩ x) cc g d mp vl v v' n q tn la:=by
 have:=h.o1
 have:=h.o2
 have:=h.o3
 have hb: ∀k,k≠d→(w.setCell ⟨d,j,none⟩ x).heap[k]?=w.heap[k]?:=fun k hk=>zMI _ _ _ _ hk
 have hs:w.heap.size≤(w.setCell ⟨d,j,none⟩ x).heap.size:=by simp[World.setCell]
 exact⟨(zMC (a:=⟨cc,0,none⟩) (hb cc (by omega))).trans h.b0,h.pr.same (hb _ (by omega)) hs,hp,h.tl,zAK h.tr fun k hk=>by
  cases hk
  exact hb g (by omega),h.lm.block (hb mp (by omega)),h.o1,h.o2,h.o3⟩
theorem RzF.setC (h:RzF w cc g d mp vl vc vf n q tn la) (x:Value):RzF (w.setCell ⟨d,0,none⟩ x) cc g d mp vl x vf n q tn la:=h.setD 0 x (h.qr.set0 x)
theorem PrB.set2 {v0 v1 v2:Value} (h:PrB w d v0 v1 v2 q) (x:Value):PrB (w.setCell ⟨d,2,none⟩ x) d v0 v1 x q:=
 ⟨by simpa [World.setCell]using h.lt,(zAF _ _ _ _ _ (by decide)).trans h.c0,(zAF _ _ _ _ _ (by decide)).trans h.c1,zMR _ _ _ h.c2,(zAF _ _ _ _ _ (by decide)).trans h.c3,fun o=>(World.frozen?_setCell _ _ _ _).trans (h.fz o)⟩
theorem RzF.setF (h:RzF w cc g d mp vl vc vf n q tn la) (x:Value):RzF (w.setCell ⟨d,2,none⟩ x) cc g d mp vl vc x n q tn la:=h.setD 2 x (h.qr.set2 x)
theorem RzF.ins (h:RzF w cc g d mp vl vc vf n q tn la) {t:List Nat} (ht: ∀b∈t,b<256) (k:Nat):RzF (zHM w mp t k la) cc g d mp vl vc vf n q tn (la++[(t,k)]):=by
 have:=h.o1
 have:=h.o2
 have:=h.o3
 have hb: ∀j,j≠mp→(zHM w mp t k la).heap[j]?=w.heap[j]?:=fun j hj=>zCF h.lm hj
 have hs:w.heap.size≤(zHM w mp t k la).heap.size:=Nat.le_of_eq zDb.symm
 exact⟨(zMC (a:=⟨cc,0,none⟩) (hb cc (by omega))).trans h.b0,h.pr.same (hb _ (by omega)) hs,h.qr.same (hb _ (by omega)) hs,h.tl,zAK h.tr fun k hk=>by
  cases hk
  exact hb g (by omega),h.lm.ins ht,h.o1,h.o2,h.o3⟩
theorem RzF.at_ (h:RzF w cc g d mp vl vc vf n q tn la) {i:Nat} (hi:i<n): ∃x:Int,w.cell? ⟨g,i,none⟩=some (.int .i64 x):=by
 have:=zMX h.tr i (by omega)
 rw[List.getElem?_map,zMP (by rw[h.tl];exact hi)]at this
 exact⟨_,this⟩
structure RzL (w:World) (base:Nat) (vc vf vo:Value) (ks:List NdK) (fs:List (List Nat)) (op:List Nat):Prop where
 cm:CmO w base vc ks
 fl:w.ownsRow base 9 1 vf fs.length (fs.map zI2)
 op:Ins w base vo (op.reverse.map fun j:Nat=>(j:Int))
theorem RzL.kb (h:RzL w base vc vf vo ks fs op) (b:Kb base w w'):RzL w' base vc vf vo ks fs op:=⟨h.cm.kb b,zAQ h.fl b,zAQ h.op b⟩
theorem RzL.below (h:RzL w base vc vf vo ks fs op) (b:Below w.heap.size w w'):RzL w' base vc vf vo ks fs op:=h.kb (.below b)
end
end Go.Proofs.YtfcemodgopdkkaaGreatDoor
