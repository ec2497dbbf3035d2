/- Parts: Vj. -/
import Derived.Test.YtmaagpbjahjmhaaGreatDoorQ14
import Derived.Test.YtmaagpbjahjmhaaGreatDoorQ15
import Derived.Test.YtmaagpbjahjmhaaGreatDoorQ16
import Derived.Shelf.Unicode.DecodeSlow
set_option maxHeartbeats 800000
set_option maxRecDepth 100000
namespace Go.Proofs.YtmaagpbjahjmhaaGreatDoor
open Go.RowKit
structure Gl (w:World) (x y:Addr):Prop where
 g0:w.cell? ⟨0,0,none⟩=some (.iface 324 (.pointer (some x)))
 g1:w.cell? ⟨1,0,none⟩=some (.iface 324 (.pointer (some y)))
 hx: ∃cx tx,w.heap[x.block]?=some (.cells cx tx (0,0))
 hy: ∃cy ty,w.heap[y.block]?=some (.cells cy ty (0,0))
 ne:x≠y
 g2: ∃m:Int,w.cell? ⟨2,0,none⟩=some (.int .i64 m)
 tb:Lib.Utf8Tabs 3 4 w
theorem Gl.kept {w w':World} {x y:Addr} (h:Gl w x y) {S:Nat→Prop} (k:zAU w w' S) {n:Nat} (h1:4<n) (hx:x.block<n) (hy:y.block<n) (hS: ∀k,k<n→ ¬S k):Gl w' x y:=
 have up: ∀ {b:Nat} {o:Obj},b<n→w.heap[b]?=some o→w'.heap[b]?=some o:=fun hb ho=>(k.block _ (zQz.1 ho).1 (hS _ hb)).trans ho
 ⟨(k.cell (p:=⟨0,0,none⟩) (zRO w _ h.g0) (hS _ (by show 0<n;omega))).trans h.g0,(k.cell (p:=⟨1,0,none⟩) (zRO w _ h.g1) (hS _ (by show 1<n;omega))).trans h.g1,
  h.hx.imp fun _ e=>e.imp fun _ e=>up hx e,h.hy.imp fun _ e=>e.imp fun _ e=>up hy e,h.ne,
  h.g2.imp fun _ e=>(k.cell (p:=⟨2,0,none⟩) (zRO w _ e) (hS _ (by show 2<n;omega))).trans e,
  fun c hc=>(k.cell (p:=⟨3,c,none⟩) (zRO w _ (h.tb.1 c hc)) (hS _ (by show 3<n;omega))).trans (h.tb.1 c hc),
  fun i hi=>⟨(k.cell (p:=⟨4,2*i,none⟩) (zRO w _ (h.tb.2 i hi).1) (hS _ h1)).trans (h.tb.2 i hi).1,(k.cell (p:=⟨4,2*i+1,none⟩) (zRO w _ (h.tb.2 i hi).2) (hS _ h1)).trans (h.tb.2 i hi).2⟩⟩
structure PE where
 rb:Nat
 wb:Nat
 cb:Nat
 ere:Bool
 oa:Option Addr
 cap:Nat
 T:List Nat
 x:Addr
 y:Addr
def PE.W (E:PE) (k:Nat):Prop:=k=E.wb∨k=E.cb
structure RS (E:PE) (w:World) (i:Nat) (l:List Value):Prop where
 v:WdS w E.wb E.oa E.cap E.T i
 r:w.heap[E.rb]?=some (.cells #[.pointer (some ⟨E.wb,0,none⟩),.bool E.ere] 77 (0,0))
 c:w.heap[E.cb]?=some (.cells l.toArray 36 (0,0))
 cl:zEq l
 g:Gl w E.x E.y
 wr:E.wb≠E.rb
 wc:E.wb≠E.cb
 rc:E.rb≠E.cb
 tc:0<E.T.length→ ∀g,E.oa=some ⟨g,0,none⟩→g≠E.cb
 lo: ∃n,4<n∧E.x.block<n∧E.y.block<n∧n≤E.wb∧n≤E.cb
section
variable {w w' w1:World} {E:PE} {i j:Nat} {l:List Value}
theorem zAU.nbut (h:zBU w.heap.size E.wb w w'):zAU w w' E.W:=⟨h.os,h.tape,h.output,h.size,fun k hk hn=>h.block k hk fun e=>hn (.inl e)⟩
theorem zAU.bel {S:Nat→Prop} (h:Below w.heap.size w w'):zAU w w' S:=⟨h.os,h.tape,h.output,h.size,fun k hk _=>h.block k hk⟩
theorem zAU.put (E:PE) (w:World) (o:Nat) (v:Value):zAU w (w.setCell ⟨E.cb,o,none⟩ v) E.W:=(zAU.setCell w ⟨E.cb,o,none⟩ v).mono fun _ _ e=> .inr e
theorem zAU.tr {S:Nat→Prop} (h:zAU w w1 S) (h2:zAU w1 w' S):zAU w w' S:=h.trans h2 fun _ _ e=>e
theorem RS.lts (h:RS E w i l):E.rb<w.heap.size∧E.wb<w.heap.size∧E.cb<w.heap.size:=⟨(zQz.1 h.r).1,h.v.lt,(zQz.1 h.c).1⟩
theorem RS.gl (h:RS E w i l) (k:zAU w w' E.W):Gl w' E.x E.y:=by
 obtain⟨n,h1,hx,hy,hw,hc⟩:=h.lo
 exact h.g.kept k h1 hx hy fun k hk e=>by rcases e with e|e<;>omega
theorem RS.below (h:RS E w i l) (hb:Below w.heap.size w w'):RS E w' i l:=
 {h with v:=h.v.below hb,r:=(hb.block E.rb h.lts.1).trans h.r,c:=(hb.block E.cb h.lts.2.2).trans h.c,g:=h.gl (zAU.bel hb) }
theorem RS.words (h:RS E w i l) (hb:zBU w.heap.size E.wb w w') (hv:WdS w' E.wb E.oa E.cap E.T j):RS E w' j l:=
 {h with v:=hv,r:=(hb.block E.rb h.lts.1 (Ne.symm h.wr)).trans h.r,c:=(hb.block E.cb h.lts.2.2 (Ne.symm h.wc)).trans h.c,g:=h.gl (zAU.nbut hb) }
theorem RS.r0 (h:RS E w i l):w.cell? ⟨E.rb,0,none⟩=some (.pointer (some ⟨E.wb,0,none⟩)):=(zQ6 _ _ 0 _ _ (0,0) h.r).trans rfl
theorem RS.r1 (h:RS E w i l):w.cell? ⟨E.rb,1,none⟩=some (.bool E.ere):=(zQ6 _ _ 1 _ _ (0,0) h.r).trans rfl
theorem RS.cc (h:RS E w i l) {k:Nat} {v:Value} (e:l[k]?=some v):w.cell? ⟨E.cb,k,none⟩=some v:=(zQ6 _ _ k _ _ (0,0) h.c).trans (by simpa using e)
theorem RS.cf (h:RS E w i l) (k:Nat):w.frozen? ⟨E.cb,k,none⟩=false:=zAF h.c k
theorem RS.set (h:RS E w i l) (k:Nat) {v:Value} (hv:v.oneCell'=true):RS E (w.setCell ⟨E.cb,k,none⟩ v) i (l.set k v):=
 {h with
  v:=h.v.store (Ne.symm h.wc) h.tc k v
  r:=(zQ1 _ _ _ _ (by show E.rb≠E.cb;exact h.rc)).trans h.r
  c:=by
   simp only[World.setCell,Array.getElem?_modify,h.c,if_true,Option.map_some]
   simp
  cl:=h.cl.set k hv
  g:=h.gl (zAU.put E w k v) }
def Pan (E:PE) (w:World) (l:List Value) (er p:Nat) (e:Ending):Prop:=
 ∃(fb:Nat) (a:Int) (z:Addr),e= .panicked [{ v:= .iface 78 (.pointer (some ⟨fb,0,none⟩)),recovered:=false }]∧
  w.heap[fb]?=some (.cells #[.int .i64 er,.int .i64 a,.iface 324 (.pointer (some z))] 83 (0,0))∧((z=E.x∧l[8]?=some (.int .i64 p))∨(z=E.y∧a=p))
def Res (E:PE) (w:World) (r:Except (Nat × Nat) Nat) (l:List Value) (e:Ending) (w':World):Prop:=
 zAU w w' E.W∧match r with
 | .ok j=>e= .returned (.tuple #[])∧RS E w' j l
 | .error p=> ∃l' j,Pan E w' l' p.1 p.2 e∧RS E w' j l'
theorem zA8 (h:RS E w i l) (hl:l[8]?=some (.int .i64 j)) {er:Nat} (he:er≠0):
  Calls Tryz.prog 103 #[.int .i64 er] w fun e w'=>Pan E w' l er j e∧Below w.heap.size w w':=by
 have g0:=h.g.g0
 have hne:((er:Int) !=0)=true:=bne_iff_ne.2 (by omega)
 have HL:=zQr hl
 clear h he hl
 go_enter Tryz.func103,Tryz.ntmps103
 go_wp2_with fail
 refine⟨rfl,?_⟩
 exact⟨⟨w.heap.size,0,E.x,rfl,zQ4 w _,.inl ⟨rfl,HL.out⟩⟩,(zQs _ _).alloc (zQt _) _⟩
theorem zGE:Calls Tryz.prog 103 #[.int .i64 0] w fun e w'=>e= .returned (.tuple #[])∧w=w':=by
 go_enter Tryz.func103,Tryz.ntmps103
 go_wp2_with fail
 go_end0
 exact⟨rfl,rfl⟩
theorem zFp (h:RS E w i l) (er p:Nat):
  Calls Tryz.prog 101 #[.int .i64 er,.int .i64 p] w fun e w'=>Pan E w' l er p e∧Below w.heap.size w w':=by
 have g1:=h.g.g1
 clear h
 go_enter Tryz.func101,Tryz.ntmps101
 go_wp2_with fail
 refine⟨rfl,?_⟩
 exact⟨⟨w.heap.size,p,E.y,rfl,zQ4 w _,.inr ⟨rfl,rfl⟩⟩,(zQs _ _).alloc (zQt _) _⟩
def zPW (T:List Nat) (i:Nat):Except (Nat × Nat) Nat:=if (zHd T i).1≠0 then .error (zHd T i)else .ok (zHd T i).2
theorem zF0 (h:RS E w i l):Calls Tryz.prog 93 #[.pointer (some ⟨E.rb,0,none⟩),.pointer (some ⟨E.cb,0,none⟩)] w (Res E w (zPW E.T i) l):=by
 have r0:=h.r0
 have H:=zQr h
 obtain⟨r,hr⟩: ∃r,zHd E.T i=r:=⟨_,rfl⟩
 obtain⟨R,hR⟩: ∃R,zPW E.T i=R:=⟨_,rfl⟩
 rw[hR]
 unfold zPW at hR
 rw[hr]at hR
 have HR:=zQr hr
 obtain⟨er,p⟩:=r
 simp only at hR
 clear h hr
 by_cases h0:er=0
 ·subst h0
  rw[if_neg (by omega)]at hR
  subst hR
  go_enter Tryz.func93,Tryz.ntmps93
  go_wp2_with fail
  refine(zHk H.out.v).mono ?_;rintro e w1 ⟨rfl,hv1,hb1⟩
  rw[HR.out]at hv1 ⊢
  have H1:=zQr (H.out.words hb1 hv1)
  have K1:=zQr (zAU.nbut (E:=E) hb1)
  clear hv1 hb1 r0
  go_wp2_with fail
  go_end0
  exact⟨K1.out,rfl,H1.out⟩
 ·rw[if_pos h0]at hR
  subst hR
  have hne:((er:Int) !=0)=true:=bne_iff_ne.2 (by omega)
  clear h0
  go_enter Tryz.func93,Tryz.ntmps93
  go_wp2_with fail
  refine(zHk H.out.v).mono ?_;rintro e w1 ⟨rfl,hv1,hb1⟩
  rw[HR.out]at hv1 ⊢
  have H1:=zQr (H.out.words hb1 hv1)
  have K1:=zQr (zAU.nbut (E:=E) hb1)
  clear hv1 hb1 r0
  have r0:=H1.out.r0
  go_wp2_with fail
  refine(zFX H1.out.v).mono ?_;rintro e w2 ⟨rfl,rfl⟩
  go_wp2_with fail
  refine(zFp H1.out er p).mono ?_;rintro e w3 ⟨hp,hb3⟩
  have HP:=zQr hp
  have H3:=zQr (H1.out.below hb3)
  have K3:=zQr (K1.out.tr (zAU.bel hb3))
  obtain⟨fb,a,z,rfl,hp'⟩:=hp
  clear hb3 hp'
  go_wp2_with fail
  refine⟨rfl,?_⟩
  exact⟨K3.out,_,_,HP.out,H3.out⟩
theorem zIE (h:RS E w i l):Calls Tryz.prog 140 #[.pointer (some ⟨E.rb,0,none⟩)] w fun e w'=>
  (∃v,e= .returned v∧w'.ownsRow w.heap.size 5 1 v (zIs E.T (zAk zAL E.T i) (zDZ E.T (zAk zAL E.T i))).length (u8s (zIs E.T (zAk zAL E.T i) (zDZ E.T (zAk zAL E.T i)))))∧
   zAU w w' E.W∧RS E w' (zDZ E.T (zAk zAL E.T i)) l:=by
 have r0:=h.r0
 have H:=zQr h
 obtain⟨j,hj⟩: ∃j,zAk zAL E.T i=j:=⟨_,rfl⟩
 rw[hj]
 have HJ:=zQr hj
 clear h hj
 go_enter Tryz.func140,Tryz.ntmps140
 go_wp2_with fail
 refine(zDq H.out.v).mono ?_;rintro e w1 ⟨⟨_,rfl⟩,hv1,hb1⟩
 rw[HJ.out]at hv1
 have H1:=zQr (H.out.words hb1 hv1)
 have K1:=zQr (zAU.nbut (E:=E) hb1)
 clear hv1 hb1 r0
 have r0:=H1.out.r0
 go_wp2_with fail
 refine(zHh H1.out.v).mono ?_;rintro e w2 ⟨⟨v,rfl,hr2⟩,hv2,hb2⟩
 have H2:=zQr (H1.out.words hb2 hv2)
 have K2:=zQr (K1.out.tr (zAU.nbut hb2))
 have HR2:=zQr (zAR hr2 K1.out.size)
 clear hr2 hv2 hb2 r0
 go_wp2_with fail
 go_ret
 exact⟨⟨_,rfl,HR2.out⟩,K2.out,H2.out⟩
end
end Go.Proofs.YtmaagpbjahjmhaaGreatDoor
