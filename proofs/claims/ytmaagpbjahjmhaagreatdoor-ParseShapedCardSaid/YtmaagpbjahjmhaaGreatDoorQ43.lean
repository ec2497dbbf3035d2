/- Parts: Yr Yt Yw Zj Zk Zl. -/
import Derived.Test.YtmaagpbjahjmhaaGreatDoorQ40
import Derived.Test.YtmaagpbjahjmhaaGreatDoorQ41
import Derived.Test.YtmaagpbjahjmhaaGreatDoorQ37
import Derived.Test.YtmaagpbjahjmhaaGreatDoorQ42
import Derived.Test.YtmaagpbjahjmhaaGreatDoorQ13
import Derived.Test.YtmaagpbjahjmhaaGreatDoorQ35
import Derived.Test.YtmaagpbjahjmhaaGreatDoorQ32
import Derived.Test.YtmaagpbjahjmhaaGreatDoorQ36
import Derived.Test.YtmaagpbjahjmhaaGreatDoorQ25
import Derived.Test.YtmaagpbjahjmhaaGreatDoorQ38
set_option maxHeartbeats 12800000
set_option maxRecDepth 100000
namespace Go.Proofs.YtmaagpbjahjmhaaGreatDoor
section
open Go.RowKit Go.Shelf
theorem Nos.mono {w:World} {base base':Nat} {v:Value} {re:List Nd} (h:Nos w base v re) (hb:base'≤base):Nos w base' v re:=by
 obtain⟨o,c,rfl,h1⟩:=h
 exact⟨o,c,rfl,zAR h1 hb⟩
theorem CmM.mono {w:World} {base base':Nat} {l:List Value} {c:Cm} (h:CmM w base l c) (hb:base'≤base):CmM w base' l c:=
 {h with a:=⟨h.a.1,h.a.2.1,h.a.2.2.imp fun _ e=>⟨e.1,e.2.mono hb⟩⟩,b:=⟨h.b.1,h.b.2.1,h.b.2.2.imp fun _ e=>⟨e.1,e.2.mono hb⟩⟩,tx:=h.tx.imp fun _ e=>⟨e.1,e.2.mono hb⟩,re:=h.re.imp fun _ e=>⟨e.1,e.2.mono hb⟩,fi:=h.fi.imp fun _ e=>⟨e.1,e.2.mono hb⟩ }
theorem Cms.mono {w:World} {base base':Nat} {v:Value} {L:List Cm} (h:Cms w base v L) (hb:base'≤base):Cms w base' v L:=by
 obtain⟨o,c,ls,rfl,h1,h2,h3,h4⟩:=h
 exact⟨o,c,ls,rfl,h1,zAR h2 hb,h3,fun i l c hl hc=>(h4 i l c hl hc).mono hb⟩
@[reducible] def noP (Q:Exit→Act→World→Prop):Exit→Act→World→Prop:=fun e a w=>match e with
 | .panic _=>False
 |e=>Q e a w
theorem zO4 {Q:Exit→Act→World→Prop} (e:Exit) (a:Act) (w:World) (h:noP Q e a w):Q e a w:=by
 cases e<;>first|exact h|exact h.elim
def PaR (base:Nat) (T:List Nat) (r:Rd (List Cm)) (e:Ending) (w':World):Prop:=
 match r with
 | .error p=>e= .returned (.tuple #[.slice none 0 0,.bool false,.int .i64 (p.1:Nat),.int .i64 (p.2:Nat)])
 | .ok L=> ∃v,e= .returned (.tuple #[v,.bool (zDN T),.int .i64 0,.int .i64 0])∧Cms w' base v L
theorem zEZ {tmps:Array Value} {W:World} {b:Nat} {oa:Option Addr} {n cp:Nat} {q:Bool} {e i:Int} (t4:tmps.getD 4 undef= .pointer (some ⟨b,0,none⟩)) (t5:tmps.getD 5 undef= .pointer (some ⟨b+1,0,none⟩)) (t6:tmps.getD 6 undef= .pointer (some ⟨b+1+1,0,none⟩)) (t7:tmps.getD 7 undef= .pointer (some ⟨b+1+1+1,0,none⟩))
  (h:V4 W b (.slice oa n cp) (.bool q) (.int .i64 e) (.int .i64 i)):
  (results Tryz.f8 tmps).run Tryz.prog W= .ok (.tuple #[.slice oa n cp,.bool q,.int .i64 e,.int .i64 i]) W:=by
 simp only[Array.getD_eq_getD_getElem?]at t4 t5 t6 t7
 have c4:=h.c4
 have c5:=h.c5
 have c6:=h.c6
 have c7:=h.c7
 simp[results,Tryz.results8,go_sem,t4,t5,t6,t7,c4,c5,c6,c7]
theorem V4.new (w:World) (x y z u:Value):V4 ((((w.alloc (.cells #[x] 24)).alloc (.cells #[y] 4)).alloc (.cells #[z] 25)).alloc (.cells #[u] 3)) w.heap.size x y z u∧Below w.heap.size w ((((w.alloc (.cells #[x] 24)).alloc (.cells #[y] 4)).alloc (.cells #[z] 25)).alloc (.cells #[u] 3)):=by
 have s1:(w.alloc (.cells #[x] 24)).heap.size=w.heap.size+1:=by simp
 have s2:((w.alloc (.cells #[x] 24)).alloc (.cells #[y] 4)).heap.size=w.heap.size+1+1:=by simp
 have s3:(((w.alloc (.cells #[x] 24)).alloc (.cells #[y] 4)).alloc (.cells #[z] 25)).heap.size=w.heap.size+1+1+1:=by simp
 have h4:((((w.alloc (.cells #[x] 24)).alloc (.cells #[y] 4)).alloc (.cells #[z] 25)).alloc (.cells #[u] 3)).heap[w.heap.size]?=some (.cells #[x] 24 (0,0)):=
  (zQ5 _ _ (by omega)).trans ((zQ5 _ _ (by omega)).trans ((zQ5 _ _ (by omega)).trans (zQ4 _ _)))
 have h5:((((w.alloc (.cells #[x] 24)).alloc (.cells #[y] 4)).alloc (.cells #[z] 25)).alloc (.cells #[u] 3)).heap[w.heap.size+1]?=some (.cells #[y] 4 (0,0)):=
  (zQ5 _ _ (by omega)).trans ((zQ5 _ _ (by omega)).trans (by rw[←s1];exact zQ4 _ _))
 have h6:((((w.alloc (.cells #[x] 24)).alloc (.cells #[y] 4)).alloc (.cells #[z] 25)).alloc (.cells #[u] 3)).heap[w.heap.size+1+1]?=some (.cells #[z] 25 (0,0)):=
  (zQ5 _ _ (by omega)).trans (by rw[←s2];exact zQ4 _ _)
 have h7:((((w.alloc (.cells #[x] 24)).alloc (.cells #[y] 4)).alloc (.cells #[z] 25)).alloc (.cells #[u] 3)).heap[w.heap.size+1+1+1]?=some (.cells #[u] 3 (0,0)):=by
  rw[←s3];exact zQ4 _ _
 exact⟨⟨(zQ6 _ _ 0 _ _ (0,0) h4).trans rfl,(zQ6 _ _ 0 _ _ (0,0) h5).trans rfl,(zQ6 _ _ 0 _ _ (0,0) h6).trans rfl,(zQ6 _ _ 0 _ _ (0,0) h7).trans rfl,frozen_of_row _ _ _ _ _ h4,frozen_of_row _ _ _ _ _ h5,frozen_of_row _ _ _ _ _ h6,frozen_of_row _ _ _ _ _ h7⟩,
  ((((zQs _ _).alloc (zQt _) _).alloc (by omega) _).alloc (by omega) _).alloc (by omega) _⟩
def O4 (w:World) (b:Nat):Prop:= ∀k,b≤k→k≤b+1+1+1→ ∃cs e,w.heap[k]?=some (.cells cs e (0,0))∧e≠83
theorem O4.new (w:World) (x y z u:Value):O4 ((((w.alloc (.cells #[x] 24)).alloc (.cells #[y] 4)).alloc (.cells #[z] 25)).alloc (.cells #[u] 3)) w.heap.size:=fun k h1 h2=>by
 have s1:(w.alloc (.cells #[x] 24)).heap.size=w.heap.size+1:=by simp
 have s2:((w.alloc (.cells #[x] 24)).alloc (.cells #[y] 4)).heap.size=w.heap.size+1+1:=by simp
 have s3:(((w.alloc (.cells #[x] 24)).alloc (.cells #[y] 4)).alloc (.cells #[z] 25)).heap.size=w.heap.size+1+1+1:=by simp
 rcases(show k=w.heap.size∨k=w.heap.size+1∨k=w.heap.size+1+1∨k=w.heap.size+1+1+1 by omega)with rfl|rfl|rfl|rfl
 ·exact⟨_,_,(zQ5 _ _ (by omega)).trans ((zQ5 _ _ (by omega)).trans ((zQ5 _ _ (by omega)).trans (zQ4 _ _))),by decide⟩
 ·exact⟨_,_,(zQ5 _ _ (by omega)).trans ((zQ5 _ _ (by omega)).trans (by rw[←s1];exact zQ4 _ _)),by decide⟩
 ·exact⟨_,_,(zQ5 _ _ (by omega)).trans (by rw[←s2];exact zQ4 _ _),by decide⟩
 ·exact⟨_,_,(by rw[←s3];exact zQ4 _ _),by decide⟩
theorem O4.keep {w w':World} {b:Nat} (h:O4 w b) (hb: ∀k,b≤k→k≤b+1+1+1→w'.heap[k]?=w.heap[k]?):O4 w' b:=fun k h1 h2=>by
 obtain⟨cs,e,h3,h4⟩:=h k h1 h2
 exact⟨cs,e,(hb k h1 h2).trans h3,h4⟩
theorem O4.store {w:World} {b:Nat} (h:O4 w b) (c o:Nat) (v:Value):O4 (w.setCell ⟨c,o,none⟩ v) b:=fun k h1 h2=>by
 obtain⟨cs,e,h3,h4⟩:=h k h1 h2
 by_cases hk:k=c
 ·subst hk
  exact⟨cs.setIfInBounds o v,e,(by simp only[World.setCell,Array.getElem?_modify,h3,if_true,Option.map_some];rfl),h4⟩
 ·exact⟨cs,e,(zQ1 _ _ _ _ hk).trans h3,h4⟩
theorem O4.off {w:World} {b fb:Nat} {cs:Array Value} (h:O4 w b) (hf:w.heap[fb]?=some (.cells cs 83 (0,0))):fb≠b∧fb≠b+1∧fb≠b+1+1∧fb≠b+1+1+1:=by
 have key: ∀k,b≤k→k≤b+1+1+1→fb≠k:=fun k h1 h2 e=>by
  subst e
  obtain⟨cs2,e2,h3,h4⟩:=h fb h1 h2
  rw[hf]at h3
  cases h3
  exact h4 rfl
 exact⟨key _ (by omega) (by omega),key _ (by omega) (by omega),key _ (by omega) (by omega),key _ (by omega) (by omega)⟩
structure PrS (E:PE) (w:World) (b base mb i:Nat) (l:List Value) (L:List Cm) (o:Option Addr) (cp:Nat):Prop where
 v:V4 w b (.slice o L.length cp) (.bool false) (.int .i64 0) (.int .i64 0)
 o4:O4 w b
 r:RS E w i l
 m:MpS w mb nmL
 c:Cms w base (.slice o L.length cp) L
 bb:b+1+1+1<E.wb∧b+1+1+1<E.cb
 mm:E.wb<mb∧E.cb<mb∧mb<base
 bs:base≤w.heap.size
 tb:E.rb<base∧(0<E.T.length→ ∀g,E.oa=some ⟨g,0,none⟩→g<base∧g≠b)
 gb:4<b∧E.x.block<b∧E.y.block<b∧b<E.rb
section
variable {E:PE} {w w':World} {b base mb i j:Nat} {l l':List Value} {L:List Cm} {o:Option Addr} {cp:Nat}
theorem PrS.hS (h:PrS E w b base mb i l L o cp): ∀k,base≤k→ ¬E.W k:=fun k hk e=>by
 have:=h.mm
 rcases e with e|e<;>omega
theorem PrS.kept (h:PrS E w b base mb i l L o cp) (k:zAU w w' E.W) (hr:RS E w' j l'):PrS E w' b base mb j l' L o cp where
 v:=h.v.keep fun n h1 h2=>k.block n (by have:=h.v.lt;omega) fun e=>by
  have:=h.bb
  rcases e with e|e<;>omega
 o4:=h.o4.keep fun n h1 h2=>k.block n (by have:=h.v.lt;omega) fun e=>by
  have:=h.bb
  rcases e with e|e<;>omega
 r:=hr
 m:=h.m.block (k.block mb (by have:=h.mm;have:=h.bs;omega) fun e=>by
  have:=h.mm
  rcases e with e|e<;>omega)
 c:=h.c.kept k h.hS
 bb:=h.bb
 mm:=h.mm
 bs:=zRE h.bs k.size
 tb:=h.tb
 gb:=h.gb
theorem RS.low (h:RS E w i l) (hb:Below base w w') (h1:E.rb<base∧E.wb<base∧E.cb<base) (ht:0<E.T.length→ ∀g,E.oa=some ⟨g,0,none⟩→g<base):RS E w' i l:=
 {h with
  v:=h.v.block (hb.block _ h1.2.1) (fun hp g hg _=>hb.block g (ht hp g hg)) hb.size
  r:=(hb.block _ h1.1).trans h.r
  c:=(hb.block _ h1.2.2).trans h.c
  g:=by
   obtain⟨n,h4,hx,hy,hw,hc⟩:=h.lo
   exact h.g.kept (S:=fun k=>base≤k) ⟨hb.os,hb.tape,hb.output,hb.size,fun k _ hk=>hb.block k (by omega)⟩ h4 hx hy fun k hk e=>by omega }
theorem PrS.more (h:PrS E w b base mb i l L o cp) {c:Cm} {o6:Option Addr} {c6:Nat} {w6:World} (hb:Below base w w6) (hc:Cms w6 base (.slice o6 (L++[c]).length c6) (L++[c])):
  PrS E (w6.setCell ⟨b,0,none⟩ (.slice o6 (L++[c]).length c6)) b base mb i l (L++[c]) o6 c6:=by
 have h1:=h.mm
 have h2:=h.bb
 have h3:=h.tb
 have h4:=h.gb
 have hlow:=h.r.low hb ⟨h3.1,by omega,by omega⟩ fun hp g hg=>(h3.2 hp g hg).1
 exact {
  v:=(h.v.keep fun k _ hk=>hb.block k (by omega)).set0 _
  o4:=(h.o4.keep fun k _ hk=>hb.block k (by omega)).store b 0 _
  r:= { hlow with
   v:=hlow.v.store (by omega) (fun hp g hg=>(h3.2 hp g hg).2) 0 _
   r:=(zQ1 _ _ _ _ (by show E.rb≠b;omega)).trans hlow.r
   c:=(zQ1 _ _ _ _ (by show E.cb≠b;omega)).trans hlow.c
   g:=hlow.g.kept (zAU.setCell w6 ⟨b,0,none⟩ (.slice o6 (L++[c]).length c6)) h4.1 h4.2.1 h4.2.2.1 fun k hk e=>by have e':k=b:=e;omega }
  m:=(h.m.block (hb.block mb (by omega))).block (zQ1 _ _ _ _ (by show mb≠b;omega))
  c:=hc.kept (zAU.setCell w6 ⟨b,0,none⟩ (.slice o6 (L++[c]).length c6)) fun k hk e=>by have e':k=b:=e;omega
  bb:=h2
  mm:=h1
  bs:=by have:=h.bs;have:=hb.size;simpa [World.setCell]using zRE h.bs hb.size
  tb:=h3
  gb:=h4 }
theorem PrS.leave (h:PrS E w b base mb i l L o cp) {e:Ending} {p:Nat × Nat} (hr:Res E w (.error p) l' e w'): ∃(fb:Nat) (a:Int) (z:Addr) (j:Nat) (l2:List Value),e= .panicked [{ v:= .iface 78 (.pointer (some ⟨fb,0,none⟩)),recovered:=false }]∧
  w'.heap[fb]?=some (.cells #[.int .i64 p.1,.int .i64 a,.iface 324 (.pointer (some z))] 83 (0,0))∧((z=E.x∧l2[8]?=some (.int .i64 p.2))∨(z=E.y∧a=p.2))∧PrS E w' b base mb j l2 L o cp:=by
 obtain⟨k,l2,j,⟨fb,a,z,rfl,h1,h2⟩,h3⟩:=hr
 exact⟨fb,a,z,j,l2,rfl,h1,h2,h.kept k h3⟩
end
section
variable {w:World} {ere:Bool} {oa:Option Addr} {T:List Nat} {cap:Nat} {x y:Addr}
theorem zJT (hT:65536<T.length):
  Calls Tryz.prog 8 #[.slice oa T.length cap,.bool ere] w fun e w'=>PaR w.heap.size T (zFV ere T) e w'∧Below w.heap.size w w':=by
 have hL':(65536:Int)<(T.length:Int):=by omega
 have HP:Hid (zFV ere T= .error (2,65536)):=by rw[Hid,zFV,if_pos hT]
 clear hT
 go_enter_defers Tryz.func8,Tryz.ntmps8
 go_wp2_with fail
 have hv:=V4.new w (.slice none 0 0) (.bool false) (.int .i64 2) (.int .i64 65536)
 exact⟨_,zEZ rfl rfl rfl rfl hv.1,by rw[HP.out];rfl,hv.2⟩
theorem zIF (hT:T.length≤65536) (h:zD2 w oa T) (hu: ∀b∈T,b<256) (hcap:T.length≤cap) (hnil:oa=none→cap=0) (hs: ∀g o s,oa≠some ⟨g,o,some s⟩) (G:Gl w x y) (hx:x.block<w.heap.size) (hy:y.block<w.heap.size) (h4:4<w.heap.size):
  Calls Tryz.prog 8 #[.slice oa T.length cap,.bool ere] w fun e w'=>PaR w.heap.size T (zFV ere T) e w'∧Below w.heap.size w w':=by
 have hmf: ∀(fn:Fn) (first cap:Array Value) (w:World),(Instr.makeFunc fn first cap).run Tryz.prog w= .ok (.func fn first cap) w:=fun _ _ _ _=>rfl
 have hL': ¬(65536:Int)<(T.length:Int):=by omega
 obtain⟨R,hR⟩: ∃R,zFV ere T=R:=⟨_,rfl⟩
 rw[hR]
 rw[zOM hT]at hR
 have HR:=zQr hR
 have HTX:=zQr h
 have HU:=zQr hu
 have HCP:=zQr hcap
 have HNI:=zQr hnil
 have HSP:=zQr hs
 have HGL:=zQr G
 have HXB:=zQr hx
 have HYB:=zQr hy
 have H4:=zQr h4
 have HTL:=zQr hT
 have huT: ∀j,T.getD j 0<256:=fun j=>by
  by_cases hj:j<T.length
  ·rw[zQ0,zQ8 hj];exact hu _ (List.getElem_mem hj)
  ·rw[zQ0,zRR (by omega)];decide
 have HUT:=zQr huT
 clear h hu hcap hnil hs G hx hy h4 hT hR huT
 go_enter_defers Tryz.func8,Tryz.ntmps8
 go_wp2_with fail
 have hv:=V4.new w (.slice none 0 0) (.bool false) (.int .i64 0) (.int .i64 0)
 have ho:=O4.new w (.slice none 0 0) (.bool false) (.int .i64 0) (.int .i64 0)
 revert hv ho
 generalize (((w.alloc (.cells #[.slice none 0 0] 24)).alloc (.cells #[.bool false] 4)).alloc (.cells #[.int .i64 0] 25)).alloc (.cells #[.int .i64 0] 3)=W3
 intro hv ho
 obtain⟨b,hb⟩: ∃b,w.heap.size=b:=⟨_,rfl⟩
 have HBQ:=zQr hb
 have HV3:=zQr hv.1
 have HB3:=zQr hv.2
 rw[hb]at HV3 ho
 rw[hb]
 clear hv hb
 refine(zLo (HTX.out.below HB3.out) (by have:=HTL.out;omega) HSP.out HUT.out).mono ?_
 rintro e W4 ⟨wb,ob,cb,rfl,hwb,hv4,hb4⟩
 have HWB:=zQr hwb
 have HW4:=zQr hv4
 have HB4:=zQr hb4
 clear hwb hv4 hb4
 have HO3:=zQr ho
 clear ho
 have hsz3:b+1+1+1<W3.heap.size:=HV3.out.lt
 have hz4:=HB4.out.size
 have hwl:=HW4.out.lt
 have hr5:((W4.alloc (.cells #[.pointer (some ⟨wb,0,none⟩),.bool ere] 77)).alloc (.cells Tryz.zeroCells36 36)).heap[W4.heap.size]?=some (.cells #[.pointer (some ⟨wb,0,none⟩),.bool ere] 77 (0,0)):=
  (zQ5 _ _ (by simp)).trans (zQ4 _ _)
 have hc5:((W4.alloc (.cells #[.pointer (some ⟨wb,0,none⟩),.bool ere] 77)).alloc (.cells Tryz.zeroCells36 36)).heap[W4.heap.size+1]?=some (.cells Tryz.zeroCells36 36 (0,0)):=by
  have:=zQ4 (W4.alloc (.cells #[.pointer (some ⟨wb,0,none⟩),.bool ere] 77)) (.cells Tryz.zeroCells36 36)
  rw[show(W4.alloc (.cells #[.pointer (some ⟨wb,0,none⟩),.bool ere] 77)).heap.size=W4.heap.size+1 by simp]at this
  exact this
 have hb5:=((zQs W4.heap.size W4).alloc (zQt _) (.cells #[.pointer (some ⟨wb,0,none⟩),.bool ere] 77)).alloc (by simp) (.cells Tryz.zeroCells36 36)
 have hn5:((W4.alloc (.cells #[.pointer (some ⟨wb,0,none⟩),.bool ere] 77)).alloc (.cells Tryz.zeroCells36 36)).heap.size=W4.heap.size+1+1:=by simp
 have HRB:=zQr hr5
 have HCB:=zQr hc5
 have HB5:=zQr hb5
 have HN5:=zQr hn5
 clear hr5 hc5 hb5 hn5 hsz3 hz4 hwl
 go_upto_region 6 with fail
 obtain⟨W5,hW5⟩: ∃W,(W4.alloc (.cells #[.pointer (some ⟨wb,0,none⟩),.bool ere] 77)).alloc (.cells Tryz.zeroCells36 36)=W:=⟨_,rfl⟩
 rw[hW5]at HRB HCB HB5 HN5 ⊢
 clear hW5
 have HS4:=zQr (show b+1+1+1<wb∧wb<W4.heap.size∧w.heap.size≤wb from⟨zQu HV3.out.lt HWB.out,HW4.out.lt,zRE HB3.out.size HWB.out⟩)
 have HRS:Hid (RS ⟨W4.heap.size,wb,W4.heap.size+1,ere,ob,cb,T,x,y⟩ W5 0 Tryz.zeroCells36.toList):=zQr {
  v:=HW4.out.below HB5.out
  r:=HRB.out
  c:=by rw[Array.toArray_toList];exact HCB.out
  cl:=zEq.zero
  g:=HGL.out.kept (S:=fun _=>False) (zAU.bel (HB3.out.trans ((HB4.out.mono HB3.out.size).trans (HB5.out.mono (zRE HB3.out.size HB4.out.size))))) H4.out HXB.out HYB.out fun _ _ e=>e
  wr:=by show wb≠W4.heap.size;have:=HS4.out;omega
  wc:=by show wb≠W4.heap.size+1;have:=HS4.out;omega
  rc:=by show W4.heap.size≠W4.heap.size+1;omega
  tc:=fun hp g hg=>by
   obtain⟨g2,h1,_,h3,_⟩:=HW4.out.tx hp
   have hg':ob=some ⟨g,0,none⟩:=hg
   rw[h1]at hg'
   cases hg'
   show _≠W4.heap.size+1
   omega
  lo:=⟨w.heap.size,H4.out,HXB.out,HYB.out,HS4.out.2.2,by show w.heap.size≤W4.heap.size+1;have:=HS4.out;omega⟩ }
 obtain⟨E,hE⟩: ∃E:PE,(⟨W4.heap.size,wb,W4.heap.size+1,ere,ob,cb,T,x,y⟩:PE)=E:=⟨_,rfl⟩
 have e1:W4.heap.size=E.rb:=by rw[←hE]
 have e2:W4.heap.size+1=E.cb:=by rw[←hE]
 have e3:wb=E.wb:=by rw[←hE]
 have e4:E.T=T:=by rw[←hE]
 have e5:E.ere=ere:=by rw[←hE]
 have e6:E.x=x:=by rw[←hE]
 have e7:E.y=y:=by rw[←hE]
 have HEO:=zQr (show E.oa=ob by rw[←hE])
 rw[hE]at HRS
 rw[e2,e1]
 have HE3:=zQr e3
 have HE4:=zQr e4
 have HE5:=zQr e5
 have HE6:=zQr e6
 have HE7:=zQr e7
 have HE1:=zQr e1
 have HE2:=zQr e2
 clear e1 e2 e3 e4 e5 e6 e7 hE
 go_wp2_with fail
 refine zLJ.mono ?_
 rintro e W6 ⟨⟨mb,rfl,hmb,hm6⟩,hb6⟩
 have HMB:=zQr hmb
 have HB6:=zQr hb6
 have HB06:=zQr (HB3.out.trans ((HB4.out.mono HB3.out.size).trans ((HB5.out.mono (zRE HB3.out.size HB4.out.size)).trans (hb6.mono (zRE HB3.out.size (zRE HB4.out.size HB5.out.size))))))
 have HP6:Hid (PrS E W6 b W6.heap.size mb 0 Tryz.zeroCells36.toList [] none 0):=zQr {
  v:=HV3.out.keep fun k _ h2=>(hb6.block k (by have:=HV3.out.lt;have:=HB4.out.size;have:=HB5.out.size;omega)).trans ((HB5.out.block k (by have:=HV3.out.lt;have:=HB4.out.size;omega)).trans (HB4.out.block k (by have:=HV3.out.lt;omega)))
  o4:=HO3.out.keep fun k _ h2=>(hb6.block k (by have:=HV3.out.lt;have:=HB4.out.size;have:=HB5.out.size;omega)).trans ((HB5.out.block k (by have:=HV3.out.lt;have:=HB4.out.size;omega)).trans (HB4.out.block k (by have:=HV3.out.lt;omega)))
  r:=HRS.out.below hb6
  m:=hm6
  c:=Cms.nil _ _
  bb:=by rw[←HE3.out,←HE2.out];have:=HS4.out;omega
  mm:=by
   rw[←HE3.out,←HE2.out]
   have:=HS4.out
   have h1:=HN5.out
   have h2:=(zQz.1 hm6).1
   omega
  bs:=zQt _
  tb:=⟨by
   rw[←HE1.out]
   have:=HS4.out
   have h1:=HN5.out
   have h2:=hb6.size
   omega,fun hp g hg=>by
   obtain⟨g2,h1,_,h3,h5⟩:=HW4.out.tx (by rw[←HE4.out];exact hp)
   have hob:E.oa=ob:=HEO.out
   rw[hob,h1]at hg
   cases hg
   have:=HN5.out
   have:=hb6.size
   refine⟨by omega,fun e=>?_⟩
   subst e
   have k1:=h5 0 (by rw[←HE4.out];exact hp)
   have k2:=(HB4.out.cell (p:=⟨_,0,none⟩) (zRO W3 _ HV3.out.c4)).trans HV3.out.c4
   rw[k1]at k2
   cases k2⟩
  gb:=by
   rw[HE6.out,HE7.out,←HE1.out,←HBQ.out]
   have:=HS4.out
   have:=HXB.out
   have:=HYB.out
   have:=H4.out
   have:=HBQ.out
   omega }
 clear hmb hm6 hb6 HRS HRB HCB HV3 HO3
 obtain⟨base,hbase⟩: ∃k,W6.heap.size=k:=⟨_,rfl⟩
 rw[hbase]at HP6
 have HBASE:=zQr (show w.heap.size≤base by rw[←hbase];exact HB06.out.size)
 clear hbase
 have HU2:=HU
 go_wp2_with fail
 go_loopg [26] (T.length+1) (fun g u wr=> ∃(i:Nat) (l:List Value) (L:List Cm) (o:Option Addr) (cp:Nat),g=T.length+1 - i∧PrS E wr b base mb i l L o cp∧Hid (zJx ere T i L=R)∧L.length≤4096∧Below w.heap.size w wr)
 case atStart=>exact⟨0,_,[],none,0,by omega,HP6.out,HR,by decide,HB06.out⟩
 case round=>
 obtain⟨i,l,L,o,cp,hg,hp,HRi,hl,hb⟩:=hrel
 have HG:=zQr hg
 have HP:=zQr hp
 have HLL:=zQr hl
 have HB:=zQr hb
 have HI:=zQr (show i≤T.length by have:=hp.r.v.at_;rw[HE4.out]at this;exact this)
 have r0:=hp.r.r0
 clear hg hp hl hb HP6 HR
 go_wp2_with fail
 refine(zNY HP.out.r.v).mono ?_;rintro e w1 ⟨⟨_,rfl⟩,hv1,hb1⟩
 rw[HE4.out]at hv1
 obtain⟨j,hj⟩: ∃j,zAk zCD T i=j:=⟨_,rfl⟩
 have hstep:=HRi.out
 rw[zLc HI.out,hj]at hstep
 have HJ:=zQr (show i≤j∧j≤T.length by rw[←hj];exact⟨zCY zCD T i,zCX zCD HI.out⟩)
 rw[hj]at hv1
 have HP1:=zQr (HP.out.kept (zAU.nbut hb1) (HP.out.r.words hb1 (by rw[HE4.out];exact hv1)))
 have HB1:=zQr (HB.out.trans ((zBU.to_below (hb1.mono HB.out.size) (by rw[←HE3.out];exact HS4.out.2.2))))
 have HST:=zQr hstep
 clear hv1 hb1 hstep hj r0
 have r0:=HP1.out.r.r0
 obtain⟨c0,hc0⟩: ∃c,T.getD j 0=c:=⟨_,rfl⟩
 have HPK:=zAz HP1.out.r.v
 rw[HE4.out,hc0]at HPK
 have HC0:=zQr hc0
 by_cases hjt:j<T.length
 case neg=>
  rw[zQ3 hjt]at HPK
  have HPK:=zQr HPK
  have hst:=HST.out
  rw[if_pos (by omega)]at hst
  subst hst
  clear hjt hc0
  go_wp2_with fail
  refine HPK.out.mono ?_;rintro e w2 ⟨rfl,hb2⟩
  have HP2:=zQr (HP1.out.kept (zAU.bel hb2) (HP1.out.r.below hb2))
  have HB2:=zQr (HB1.out.trans (hb2.mono HB1.out.size))
  clear hb2 r0 HPK
  go_upto_region 16 with fail
  have hbl:=(zQs w2.heap.size w2).alloc (zQt _) (.cells #[.int .u8 10] 5 (1,2))
  have HT2:Hid (zD2 (w2.alloc (.cells #[.int .u8 10] 5 (1,2))) oa T):=zQr ((HTX.out.below HB2.out).below hbl)
  have HPA:=zQr (HP2.out.kept (zAU.bel hbl) (HP2.out.r.below hbl))
  have HCC:Hid ((w2.alloc (.cells #[.int .u8 10] 5 (1,2))).cell? ⟨w2.heap.size,0,none⟩=some (.int .u8 10)):=zQr ((zQ6 _ _ 0 _ _ (1,2) (zQ4 w2 (.cells #[.int .u8 10] 5 (1,2)))).trans rfl)
  have HBA:=zQr (HB2.out.trans (hbl.mono HB2.out.size))
  have hcv:=Lib.run_convert_bytes_const (P:=Tryz.prog) w2 22 5 #[.int .u8 10] 1 1 Tryz.underlying22 Tryz.underlying5
  have hz:(#[Value.int .u8 10]:Array Value).size=1:=rfl
  rw[hz]at hcv
  clear hbl hz
  go_wp2_with fail
  refine(zOH HT2.out HU.out HCP.out HNI.out HTL.out HCC.out HPA.out.r.g.u8).mono ?_
  rintro e w9 ⟨⟨vv,vb,rfl⟩,q,rfl⟩
  have hbd:Below (w2.alloc (.cells #[.int .u8 10] 5 (1,2))).heap.size (w2.alloc (.cells #[.int .u8 10] 5 (1,2))) ((w2.alloc (.cells #[.int .u8 10] 5 (1,2))).drewN q):=⟨rfl,rfl,rfl,zQt _,fun _ _=>rfl⟩
  have HPC:=zQr (HPA.out.kept (zAU.bel hbd) (HPA.out.r.below hbd))
  have HBC:=zQr (HBA.out.trans (hbd.mono HBA.out.size))
  have HTC:=zQr (HT2.out.below hbd)
  clear hbd hcv
  obtain⟨WC,hWC⟩: ∃W,(w2.alloc (.cells #[.int .u8 10] 5 (1,2))).drewN q=W:=⟨_,rfl⟩
  rw[hWC]at HPC HBC HTC ⊢
  clear hWC HT2 HPA HCC HBA
  have hcs: ∀g,(convert 22 9 (.slice oa (zDZ T 0) cap)).run Tryz.prog (wgr (some b) WC.drew g)= .ok (.string (strOfNums ((T.take (zDZ T 0)).map fun b:Nat=>(b:Int)))) (wgr (some b) WC.drew g):=fun g=>
   zPL (cap:=cap) (fun hp=>by
    obtain⟨g0,o0,e0,hc0⟩:=HTC.out hp
    obtain⟨g1,o1,e1,hc1⟩:=HTX.out hp
    rw[e0]at e1
    cases e1
    have h1:=zRO _ _ (hc1 0 hp)
    exact⟨g0,o0,e0,fun i hi=>(zEk WC g b g0 (o0+i) none (zRO _ _ (hc0 i hi)) (fun e=>by rw[←e]at h1;exact absurd h1 (by show¬b<w.heap.size;rw[HBQ.out];exact Nat.lt_irrefl _))).trans (hc0 i hi)⟩) (zCX zAw (Nat.zero_le T.length)) HNI.out HSP.out
  have hqt:=zNi (l:=T.take (zDZ T 0)) fun b hb=>HU.out b (List.take_subset _ _ hb)
  revert hcs hqt
  generalize (strOfNums ((T.take (zDZ T 0)).map fun b:Nat=>(b:Int)))=sq
  intro hcs hqt
  obtain⟨rq,hrq⟩: ∃k,zDZ T 0=k:=⟨_,rfl⟩
  have hqs:(sq.toList==(⟨#[35,110]⟩:ByteArray).toList)=zDN T:=hqt
  simp only[hrq]at hcs ⊢
  clear hrq hqt
  go_upto_region 17 with fail
  refine Code.wp_mono zO4 ?_
  obtain⟨c4,c5,c6,c7,z4,z5,z6,z7⟩:=HPC.out.v
  obtain⟨b7,hb7⟩: ∃k,b+1+1+1=k:=⟨_,rfl⟩
  rw[hb7]at c7 z7 ⊢
  obtain⟨b6,hb6⟩: ∃k,b+1+1=k:=⟨_,rfl⟩
  rw[hb6]at c6 z6 ⊢
  obtain⟨b5,hb5⟩: ∃k,b+1=k:=⟨_,rfl⟩
  rw[hb5]at c5 z5 ⊢
  have n45: ¬b=b5:=by omega
  have n46: ¬b=b6:=by omega
  have n47: ¬b=b7:=by omega
  have n56: ¬b5=b6:=by omega
  have n57: ¬b5=b7:=by omega
  have n67: ¬b6=b7:=by omega
  have HB5':=zQr hb5
  have HB6':=zQr hb6
  have HB7':=zQr hb7
  have fl:b<WC.heap.size:=zRO _ _ c4
  clear hb5 hb6 hb7
  refine zAA (X:=some b) 5 [([1,2,3],0),([],4)] [] (by kernel_rfl) (by kernel_rfl) rfl (fun _ _ _ _ _ h=>h) ?_
  simp only[zAK,zAC,zAE,zAD,zAB,List.getD_cons_zero,List.getD_cons_succ,List.drop_succ_cons,List.drop_zero]
  repeat (go_big_quiet_step (fail))
  refine wpQuiet_nil ?_
  go_wp2_with fail
  refine⟨zAJ.refl _,wpQuiet_nil ?_⟩
  go_wp2_with fail
  refine⟨zAJ.of_setCell (w:=WC.drew) (s:=none) _,wpQuiet_nil ?_⟩
  go_wp2_with fail
  change Exit.then _ _ Exit.normal _ _
  have hqs2:(sq.toList==[35,110])=zDN T:=by rw[←hqs,Lib.toList_data (⟨#[35,110]⟩:ByteArray)]
  rw[hqs2]
  have hb5:=HB5'.out
  have hb6:=HB6'.out
  have hb7:=HB7'.out
  clear n45 n46 n47 n56 n57 n67 HB5' HB6' HB7' c4 c5 c6 c7 z4 z5 z6 z7 fl hcs hqs hqs2
  subst hb5 hb6 hb7
  have HW:Hid ((((WC.setCell ⟨b,0,none⟩ (.slice o L.length cp)).setCell ⟨b+1,0,none⟩ (.bool (zDN T))).setCell ⟨b+1+1,0,none⟩ (.int .i64 0)).setCell ⟨b+1+1+1,0,none⟩ (.int .i64 0)=st4 WC b (.slice o L.length cp) (.bool (zDN T)) (.int .i64 0) (.int .i64 0)):=zQr rfl
  rw[HW.out]
  have HBF:Hid (Below w.heap.size w (st4 WC b (.slice o L.length cp) (.bool (zDN T)) (.int .i64 0) (.int .i64 0)).drew):=zQr (HBC.out.trans (by rw[HBQ.out];exact(zC1 WC b _ _ _ _).drew))
  have HVF:Hid (V4 (st4 WC b (.slice o L.length cp) (.bool (zDN T)) (.int .i64 0) (.int .i64 0)).drew b (.slice o L.length cp) (.bool (zDN T)) (.int .i64 0) (.int .i64 0)):=zQr ((HPC.out.v.st4 _ _ _ _).keep fun _ _ _=>rfl)
  have hkF:zAU WC (st4 WC b (.slice o L.length cp) (.bool (zDN T)) (.int .i64 0) (.int .i64 0)).drew (fun k=>b≤k∧k≤b+1+1+1):=
   ⟨rfl,rfl,rfl,(zC1 WC b _ _ _ _).size,fun k _ hk=>zFq (by omega)⟩
  have HCF:Hid (Cms (st4 WC b (.slice o L.length cp) (.bool (zDN T)) (.int .i64 0) (.int .i64 0)).drew w.heap.size (.slice o L.length cp) L):=zQr ((HPC.out.c.kept hkF fun k hk e=>by have:=HPC.out.mm;have:=HPC.out.bb;omega).mono HBASE.out)
  obtain⟨WF,hWF⟩: ∃W,(st4 WC b (.slice o L.length cp) (.bool (zDN T)) (.int .i64 0) (.int .i64 0)).drew=W:=⟨_,rfl⟩
  rw[hWF]at HBF HVF HCF ⊢
  clear hWF hkF HW
  go_wp2_with fail
  refine leaves_cons (f:=29) (args:= #[.pointer (some ⟨b,0,none⟩),.pointer (some ⟨b+1,0,none⟩),.pointer (some ⟨b+1+1,0,none⟩),.pointer (some ⟨b+1+1+1,0,none⟩),.pointer (some ⟨E.cb,0,none⟩)]) (by simp) (by simp[go_sem]) ?_
  refine(zJW _ _ _ _ _ _).mono ?_
  rintro e u' w'' ⟨rfl,rfl,rfl⟩
  exact⟨_,zEZ rfl rfl rfl rfl HVF.out,⟨_,rfl,HCF.out⟩,HBF.out⟩
 rw[zQ2 hjt]at HPK
 have HPK:=zQr HPK
 have hst:=HST.out
 rw[if_neg (by omega),hc0]at hst
 by_cases h35:c0=35
 ·rw[if_pos h35]at hst
  have HST2:=zQr hst
  have HRG:=zQr (zMB hjt (hc0.trans h35))
  subst h35
  clear hst hjt hc0
  go_wp2_with fail
  refine HPK.out.mono ?_;rintro e w2 ⟨rfl,hb2⟩
  have HP2:=zQr (HP1.out.kept (zAU.bel hb2) (HP1.out.r.below hb2))
  have HB2:=zQr (HB1.out.trans (hb2.mono HB1.out.size))
  clear hb2 r0 HPK
  have r0:=HP2.out.r.r0
  go_wp2_with fail
  refine(zHh HP2.out.r.v).mono ?_;rintro e w3 ⟨⟨v3,rfl,_⟩,hv3,hb3⟩
  rw[HE4.out]at hv3
  have HP3:=zQr (HP2.out.kept (zAU.nbut hb3) (HP2.out.r.words hb3 (by rw[HE4.out];exact hv3)))
  have HB3':=zQr (HB2.out.trans ((zBU.to_below (hb3.mono HB2.out.size) (by rw[←HE3.out];exact HS4.out.2.2))))
  clear hv3 hb3 r0
  go_wp2_with fail
  go_roundg (T.length+1 - zDZ T j)
  case measure=>have:=HG.out;have:=HRG.out;have:=HJ.out;have:=HI.out;omega
  case rel=>exact⟨zDZ T j,_,L,o,cp,rfl,HP3.out,HST2,HLL.out,HB3'.out⟩
 rw[if_neg h35]at hst
 have q35:((c0:Int)==35)=false:=zQx.2 (by omega)
 have HJT:=zQr hjt
 have HST3:=zQr hst
 clear hst hjt hc0 h35
 go_wp2_with fail
 refine HPK.out.mono ?_;rintro e w2 ⟨rfl,hb2⟩
 have hp2:=HP1.out.kept (zAU.bel hb2) (HP1.out.r.below hb2)
 have HB2:=zQr (HB1.out.trans (hb2.mono HB1.out.size))
 have HPZ:=zQr (hp2.kept (zAU.putRow E w2 Tryz.zeroCells36.toList.toArray) (hp2.r.row zEq.zero))
 rw[Array.toArray_toList]at HPZ
 have HCB2:=zQr hp2.r.c
 have HLN:=zQr hp2.r.cl.len
 have HBZ:Hid (Below w.heap.size w (w2.setRow E.cb Tryz.zeroCells36)):=zQr (below_setRow HB2.out (by rw[←HE2.out];have:=HS4.out;omega) _)
 clear hb2 r0 HPK hp2 HB2
 go_upto_region 13 with (refine wpList_store_row rfl 36 _ _ rfl E.cb Tryz.zeroCells36 rfl rfl 36 _ HCB2.out (by kernel_rfl) (by rw[List.size_toArray,HLN.out];kernel_rfl) (by kernel_rfl) ?_)
 obtain⟨W3',hW3⟩: ∃W,w2.setRow E.cb Tryz.zeroCells36=W:=⟨_,rfl⟩
 rw[hW3]at HPZ HBZ ⊢
 clear hW3 HCB2 HLN
 have c4:=HPZ.out.v.c4
 have HHD:=zK8 HPZ.out.r (base:=base) (CmM.zero _ _) (by have:=HPZ.out.mm;omega) HPZ.out.bs (n:=L.length)
 rw[HE4.out,HE5.out]at HHD
 have HHD:=zQr HHD
 have HLO:=zQr (show∀k,k<w.heap.size→ ¬E.W k from fun k hk e=>by
  have:=HPZ.out.bb
  have:=HBQ.out
  rcases e with e|e<;>omega)
 go_wp2_with fail
 refine HHD.out.mono ?_;rintro e w4 hh4
 cases hq:zEi ere T j L.length with
 |error p=>
  rw[hq]at hh4
  have hst:=HST3.out
  unfold zO0 at hst
  rw[hq]at hst
  simp only at hst
  subst hst
  have HBK:=zQr (HBZ.out.trans (hh4.1.below HBZ.out.size HLO.out))
  clear hq c4
  obtain⟨fb,fa,fz,fj,fl,rfl,hf,ho,hp9⟩:=HPZ.out.leave (l':=[]) hh4
  have HP9:=zQr hp9
  go_wp2_with fail
  refine leaves_cons (f:=29) (args:= #[.pointer (some ⟨b,0,none⟩),.pointer (some ⟨b+1,0,none⟩),.pointer (some ⟨b+1+1,0,none⟩),.pointer (some ⟨b+1+1+1,0,none⟩),.pointer (some ⟨E.cb,0,none⟩)]) (by simp) (by simp[go_sem]) ?_
  refine(zFK [] HP9.out.v HP9.out.r hf ho HP9.out.gb.1 HP9.out.bb.2 (HP9.out.o4.off hf) HP9.out.gb.2.1 HP9.out.gb.2.2.1).mono ?_
  rintro e u' w'' ⟨rfl,rfl,hV,hB⟩
  exact⟨_,zEZ rfl rfl rfl rfl hV,rfl,by rw[HBQ.out]at HBK ⊢;exact HBK.out.trans hB⟩
 |ok r=>
 obtain⟨c,k⟩:=r
 rw[hq]at hh4
 obtain⟨rfl,k4,l4,h4,m4⟩:=hh4
 obtain⟨f1,f2,f3⟩:=zN5 hq
 have hat:=zMj HJ.out.2 hq
 have HAT:=zQr hat
 have HF2:=zQr f2
 have HF3:=zQr f3
 have hst:=HST3.out
 unfold zO0 at hst
 rw[hq]at hst
 simp only at hst
 have HST4:=zQr hst
 have HP4:=zQr (HPZ.out.kept k4 h4)
 have HBK4:=zQr (HBZ.out.trans (k4.below HBZ.out.size HLO.out))
 have HM4:=zQr m4
 have c7:w4.cell? ⟨E.cb,7,none⟩=some (.int .u8 (c.nm:Nat)):=h4.cc m4.nm
 have hnm:c.nm<256:=by
  have:=HUT.out c.at_
  have h5:=hat.2.2.2
  simp only at h5
  rw[h5]at this
  exact this
 have hlk:=zNf HP4.out.m (zO5 c.nm hnm f1)
 have en:=zMl c.nm
 have HBO:=zK9 HP4.out.r HM4.out f2 (by have:=HP4.out.mm;omega) HP4.out.bs
 rw[HE4.out,HE5.out]at HBO
 have HBO:=zQr HBO
 simp only at hlk
 generalize zPV c.nm=F at hlk en HBO
 have en2: ∀(args:Array Value) (w:World),(callFunc F args).run Tryz.prog w= .ok (.enter F args) w:=en
 clear hst hat f1 f2 f3 hnm k4 h4 m4 hq c4 en
 go_wp2_with fail
 refine HBO.out.mono ?_;rintro e w5 hh5
 cases hq2:zIv ere T k c with
 |error p=>
  rw[hq2]at hh5
  have hst:=HST4.out
  rw[hq2]at hst
  simp only at hst
  subst hst
  have HBK:=zQr (HBK4.out.trans (hh5.1.below HBK4.out.size HLO.out))
  clear hq2 c7 hlk en2
  obtain⟨fb,fa,fz,fj,fl,rfl,hf,ho,hp9⟩:=HP4.out.leave (l':=[]) hh5
  have HP9:=zQr hp9
  go_wp2_with fail
  refine leaves_cons (f:=29) (args:= #[.pointer (some ⟨b,0,none⟩),.pointer (some ⟨b+1,0,none⟩),.pointer (some ⟨b+1+1,0,none⟩),.pointer (some ⟨b+1+1+1,0,none⟩),.pointer (some ⟨E.cb,0,none⟩)]) (by simp) (by simp[go_sem]) ?_
  refine(zFK [] HP9.out.v HP9.out.r hf ho HP9.out.gb.1 HP9.out.bb.2 (HP9.out.o4.off hf) HP9.out.gb.2.1 HP9.out.gb.2.2.1).mono ?_
  rintro e u' w'' ⟨rfl,rfl,hV,hB⟩
  exact⟨_,zEZ rfl rfl rfl rfl hV,rfl,by rw[HBQ.out]at HBK ⊢;exact HBK.out.trans hB⟩
 |ok r2=>
 obtain⟨c',q⟩:=r2
 rw[hq2]at hh5
 obtain⟨rfl,k5,l5,h5,m5⟩:=hh5
 have hb2:=zM4 (show k≤T.length by have h5:=HAT.out;omega) hq2
 have HAQ:=zQr (show j<q∧q≤T.length by have h5:=HAT.out;have h6:=hb2.2.2.1;have h7:=hb2.2.2.2;omega)
 have hst:=HST4.out
 rw[hq2]at hst
 simp only at hst
 have HST5:=zQr hst
 have HP5:=zQr (HP4.out.kept k5 h5)
 have HBK5:=zQr (HBK4.out.trans (k5.below HBK4.out.size HLO.out))
 have HM5:=zQr m5
 have HR5:=zQr h5
 obtain⟨o',cp',ls,hv',hls,hrow,hld,hlm⟩:=HP5.out.c
 cases hv'
 have hWb:=(zQs w5.heap.size w5).alloc (zQt _) (.cells l5.toArray 36)
 have hrow2:(w5.alloc (.cells l5.toArray 36)).ownsRow base 36 272 (.slice o L.length cp) L.length ls.flatten:=zAu hrow fun g hg=>hWb.block g (hrow.lt g hg).2
 have HROW:=zQr hrow
 have HROW2:=zQr hrow2
 have HWB2:=zQr hWb
 have HLS:=zQr hls
 have HLD:=zQr hld
 have HLM:=zQr hlm
 have HSZ:Hid ((w5.alloc (.cells l5.toArray 36)).heap.size=w5.heap.size+1):=zQr (by simp)
 have c4:=HP5.out.v.c4
 clear hst hb2 k5 h5 m5 hq2 c7 hlk en2 hls hrow hld hlm hrow2 hWb HBO HHD
 go_wp2_with (first|refine wpList_load_row rfl 36 _ rfl E.cb rfl 36 l5.toArray (0,0) _ HR5.out.c Tryz.underlying36 rfl (by rw[zCe,List.size_toArray,HR5.out.cl.len]) ?_|refine zKh rfl _ rfl rfl HR5.out.cl ?_|(at_builtin;refine zAe zQZ rfl _ _ rfl base (n:=L.length) (m:=1) (news:=l5) rfl HROW2.out rfl (Src.new w5 l5 _ _ _) (by rw[HR5.out.cl.len]) HR5.out.cl.one (by unfold maxLen;have:=HF3.out;omega) (by have:=HF3.out;omega) (by rw[HSZ.out];have:=HP5.out.bs;omega) ?_))
 have hln:(L++[c']).length=L.length+1:=by simp
 have HLN2:=zQr hln
 clear hln
 intro v6 w6 hown6 hgr6 _
 obtain⟨o6,c6,rfl⟩:=zBe hown6
 have hb6:=(HWB2.out.mono HP5.out.bs).grown hgr6 (by rw[HSZ.out];have:=HP5.out.bs;omega) (fun k hk=>(HROW.out.lt k hk).1)
 have hc6:=zOL HWB2.out HR5.out.cl HM5.out HLS.out HLD.out HLM.out HROW.out hown6 hgr6
 have hpm:=HP5.out.more (c:=c') hb6 (by rw[HLN2.out];exact hc6)
 rw[HLN2.out]at hpm
 have HPM:=zQr hpm
 have hv6:=HP5.out.v.keep (w':=w6) fun k _ hk=>hb6.block k (by have:=HP5.out.mm;have:=HP5.out.bb;omega)
 have c4:=hv6.c4
 have z4:=hv6.z4
 have HBF:Hid (Below w.heap.size w (w6.setCell ⟨b,0,none⟩ (.slice o6 (L.length+1) c6))):=zQr ((HBK5.out.trans (hb6.mono HBASE.out)).setCell (p:=⟨b,0,none⟩) (by show w.heap.size≤b;rw[HBQ.out];exact zQt _) _)
 clear hown6 hgr6 hb6 hc6 hpm hv6
 go_wp2_with fail
 go_roundg (T.length+1 - q)
 case measure=>have:=HG.out;have:=HAQ.out;have:=HJ.out;have:=HI.out;omega
 case rel=>exact⟨q,l5,L++[c'],o6,c6,rfl,HPM.out,HST5,by rw[HLN2.out];have:=HF3.out;omega,HBF.out⟩
theorem zFz (h:zD2 w oa T) (hu: ∀b∈T,b<256) (hcap:T.length≤cap) (hnil:oa=none→cap=0) (hs: ∀g o s,oa≠some ⟨g,o,some s⟩) (G:Gl w x y) (hx:x.block<w.heap.size) (hy:y.block<w.heap.size) (h4:4<w.heap.size):
  Calls Tryz.prog 8 #[.slice oa T.length cap,.bool ere] w fun e w'=>PaR w.heap.size T (zFV ere T) e w'∧Below w.heap.size w w':=by
 by_cases hT:T.length≤65536
 ·exact zIF hT h hu hcap hnil hs G hx hy h4
 ·exact zJT (by omega)
end
end
section
open Go.RowKit
theorem zMm {α:Type} {s:Nat} : ∀ {ls:List (List α)} {i k:Nat} {l:List α},(∀l∈ls,l.length=s)→ls[i]?=some l→k<s→ls.flatten[i*s+k]?=l[k]?
 |[],_,_,_,_,hl,_=>by simp at hl
 |x::r,0,k,l,h,hl,hk=>by
  simp only[List.getElem?_cons_zero,Option.some.injEq]at hl
  subst hl
  have:=h x (by simp)
  rw[List.flatten_cons,Nat.zero_mul,Nat.zero_add,zRC (by omega)]
 |x::r,i+1,k,l,h,hl,hk=>by
  have hx:=h x (by simp)
  rw[List.flatten_cons,Nat.succ_mul,zRD (by omega),show i*s+s+k - x.length=i*s+k by omega]
  exact zMm (fun l hl=>h l (by simp[hl])) (by simpa using hl) hk
theorem Cms.cells {w:World} {base n cp:Nat} {o:Option Addr} {L:List Cm} (h:Cms w base (.slice o n cp) L) {i:Nat} {c:Cm} (hc:L[i]?=some c):
  ∃g l,o=some ⟨g,0,none⟩∧g<w.heap.size∧n=L.length∧zEq l∧CmM w base l c∧ ∀k u,l[k]?=some u→w.cell? ⟨g,i*272+k,none⟩=some u:=by
 obtain⟨o',cp',ls,hv,hls,hrow,hld,hlm⟩:=h
 cases hv
 have hi:i<L.length:=(zQy.1 hc).1
 obtain⟨_,g,rfl,hg,hcell,_⟩:=zBW hrow (by omega)
 have hl:ls[i]?=some ls[i]:=zQ8 (by omega)
 have hm:ls[i]∈ls:=List.getElem_mem _
 refine⟨g,ls[i],rfl,hg,rfl,hld _ hm,hlm i _ c hl hc,fun k u hu=>?_⟩
 have hk:k<272:=by have:=(zQy.1 hu).1;rw[(hld _ hm).len]at this;exact this
 have hj:i*272+k<L.length*272:=by
  have:i*272+272≤L.length*272:=by rw[←Nat.succ_mul];exact Nat.mul_le_mul_right _ hi
  omega
 obtain⟨v,hv,hcv⟩:=hcell _ hj
 rw[zMm (fun l hl=>(hld l hl).len) hl hk,hu]at hv
 cases hv
 exact hcv
theorem zPq (w:World) (l:List Nat) (fz:Nat × Nat):zD2 (w.alloc (.cells (u8s l).toArray 5 fz)) (some ⟨w.heap.size,0,none⟩) l:=fun _=>
 ⟨_,0,rfl,fun j hj=>by
  rw[Nat.zero_add,zQ6 _ _ j _ _ fz (zQ4 w _)]
  simp[u8s,hj,List.getD_eq_getElem?_getD]⟩
theorem Gl.bel {w w':World} {x y:Addr} (G:Gl w x y) (h:Below w.heap.size w w') (hx:x.block<w.heap.size) (hy:y.block<w.heap.size) (h4:4<w.heap.size):Gl w' x y:=
 G.kept (S:=fun _=>False) (zAU.bel h) h4 hx hy fun _ _ e=>e
theorem zNy: ∀b∈zPF,b<256:=by decide
theorem zNw: ∀b∈zPT,b<256:=by decide
theorem zLL {w:World} {x y:Addr} (G:Gl w x y) (hx:x.block<w.heap.size) (hy:y.block<w.heap.size) (h4:4<w.heap.size):
  Calls Tryz.prog 7 #[] w fun e w'=>e= .returned (.bool true)∧Below w.heap.size w w':=by
 have HG:=zQr G
 have HXB:=zQr hx
 have HYB:=zQr hy
 have H4:=zQr h4
 have hcv:=Lib.run_convert_bytes_const (P:=Tryz.prog) w 22 5 #[.int .u8 35,.int .u8 110,.int .u8 10,.int .u8 49,.int .u8 44,.int .u8 36,.int .u8 33,.int .u8 112,.int .u8 59,.int .u8 115,.int .u8 47,.int .u8 97,.int .u8 47,.int .u8 98,.int .u8 47,.int .u8 50,.int .u8 103] 17 17 Tryz.underlying22 Tryz.underlying5
 rw[show(#[Value.int .u8 35,.int .u8 110,.int .u8 10,.int .u8 49,.int .u8 44,.int .u8 36,.int .u8 33,.int .u8 112,.int .u8 59,.int .u8 115,.int .u8 47,.int .u8 97,.int .u8 47,.int .u8 98,.int .u8 47,.int .u8 50,.int .u8 103]:Array Value).size=17 from rfl]at hcv
 have HX:Hid (zD2 (w.alloc (.cells #[.int .u8 35,.int .u8 110,.int .u8 10,.int .u8 49,.int .u8 44,.int .u8 36,.int .u8 33,.int .u8 112,.int .u8 59,.int .u8 115,.int .u8 47,.int .u8 97,.int .u8 47,.int .u8 98,.int .u8 47,.int .u8 50,.int .u8 103] 5 (17,18))) (some ⟨w.heap.size,0,none⟩) zPF):=zQr (zPq w zPF (17,18))
 have HB0:=zQr ((zQs w.heap.size w).alloc (zQt _) (.cells #[.int .u8 35,.int .u8 110,.int .u8 10,.int .u8 49,.int .u8 44,.int .u8 36,.int .u8 33,.int .u8 112,.int .u8 59,.int .u8 115,.int .u8 47,.int .u8 97,.int .u8 47,.int .u8 98,.int .u8 47,.int .u8 50,.int .u8 103] 5 (17,18)))
 clear G hx hy h4
 go_enter Tryz.func7,Tryz.ntmps7
 go_wp2_with fail
 have hz0:=HB0.out.size
 refine(zFz (T:=zPF) (cap:=17) HX.out zNy (by decide) (fun e=>by cases e) (by intro g o s e;injection e with e;injection e with _ _ e;cases e) (HG.out.bel HB0.out HXB.out HYB.out H4.out) (by have:=HXB.out;omega) (by have:=HYB.out;omega) (by have:=H4.out;omega)).mono ?_
 rintro e w1 ⟨hp1,hb1⟩
 obtain⟨c1,c2,he,n1,n2,n3,n4,n5⟩:=zMa
 rw[he]at hp1
 obtain⟨v,rfl,hcm⟩:=hp1
 rw[zLM]
 obtain⟨o,cp,ls,hv,hls,hrow,hld,hlm⟩:=id hcm
 subst hv
 rw[show([c1,c2]:List Cm).length=2 from rfl]at hcm ⊢
 have HB1:=zQr (HB0.out.trans (hb1.mono hz0))
 have HCM:=zQr hcm
 have HN:=zQr (And.intro n1 (And.intro n2 (And.intro n3 (And.intro n4 n5))))
 clear hrow hls hld hlm hcm hb1 hcv he n1 n2 n3 n4 n5 hz0 HX HB0
 have hcv:=Lib.run_convert_bytes_const (P:=Tryz.prog) w1 22 5 #[.int .u8 112,.int .u8 59,.int .u8 112,.int .u8 112] 4 4 Tryz.underlying22 Tryz.underlying5
 rw[show(#[Value.int .u8 112,.int .u8 59,.int .u8 112,.int .u8 112]:Array Value).size=4 from rfl]at hcv
 have HX:Hid (zD2 (w1.alloc (.cells #[.int .u8 112,.int .u8 59,.int .u8 112,.int .u8 112] 5 (4,5))) (some ⟨w1.heap.size,0,none⟩) zPT):=zQr (zPq w1 zPT (4,5))
 have hbx:=(zQs w1.heap.size w1).alloc (zQt _) (.cells #[.int .u8 112,.int .u8 59,.int .u8 112,.int .u8 112] 5 (4,5))
 have HCX:=zQr (HCM.out.below hbx)
 have HBX:=zQr (HB1.out.trans (hbx.mono HB1.out.size))
 clear hbx
 go_wp2_with fail
 have hz1:=HBX.out.size
 refine(zFz (T:=zPT) (cap:=4) HX.out zNw (by decide) (fun e=>by cases e) (by intro g o s e;injection e with e;injection e with _ _ e;cases e) (HG.out.bel HBX.out HXB.out HYB.out H4.out) (by have:=HXB.out;omega) (by have:=HYB.out;omega) (by have:=H4.out;omega)).mono ?_
 rintro e w2 ⟨hp2,hb2⟩
 rw[zMZ]at hp2
 obtain rfl:=hp2
 have HB2:=zQr (HBX.out.trans (hb2.mono hz1))
 have hc2:=HCX.out.below hb2
 obtain⟨g,l1,rfl,hg,_,_,hm1,hcl1⟩:=hc2.cells (i:=0) (c:=c1) rfl
 obtain⟨g2,l2,e2,_,_,_,hm2,hcl2⟩:=hc2.cells (i:=1) (c:=c2) rfl
 cases e2
 obtain⟨n1,n2,n3,n4,n5⟩:=HN.out
 have f1:w2.cell? ⟨g,7,none⟩=some (.int .u8 112):=by have:=hcl1 7 _ hm1.nm;rw[n1]at this;exact this
 have f2:w2.cell? ⟨g,6,none⟩=some (.bool true):=by have:=hcl1 6 _ hm1.nt;rw[n2]at this;exact this
 have f3:w2.cell? ⟨g,8,none⟩=some (.int .i64 7):=by have:=hcl1 8 _ hm1.p;rw[n3]at this;exact this
 have f4:w2.cell? ⟨g,284,none⟩=some (.int .i64 2):=by have:=hcl2 12 _ hm2.ct;rw[n4]at this;exact this
 have f5:w2.cell? ⟨g,285,none⟩=some (.bool true):=by have:=hcl2 13 _ hm2.al;rw[n5]at this;exact this
 clear n1 n2 n3 n4 n5 hm1 hcl1 hm2 hcl2 hc2 hb2 hz1 hcv HX HCX HCM HN hg
 go_wp2_with fail
 go_ret
 exact⟨rfl,HB2.out⟩
end
section
open Go.RowKit
theorem Pcs.pr {w:World} {base:Nat} {o:Option Addr} {m cp:Nat} {P:List Pc} (h:Pcs w base (.slice o m cp) P):PcR w o P:=fun hp=>by
 obtain⟨o2,c2,ts,he,h1,h2,h3⟩:=h
 cases he
 obtain⟨_,g,rfl,hg,hcs,_⟩:=zBW h2 hp
 refine⟨g,0,rfl,hg,fun i p hpi=>?_⟩
 have hi:=(zQy.1 hpi).1
 obtain⟨u0,hu0,c0⟩:=hcs (i*2) (by omega)
 rw[zE0 _ _ _ h1,hpi]at hu0
 cases hu0
 obtain⟨u1,hu1,c1⟩:=hcs (i*2+1) (by omega)
 rw[zF1 _ _ _ h1]at hu1
 obtain⟨ot,ct,rfl,_⟩:=h3 i u1 p hu1 hpi
 rw[Nat.zero_add]
 exact⟨c0,ot,ct,c1⟩
def adK (c:Cm) (k:Nat):Ad:=if k=0 then c.a else c.b
def zNL (c:Cm) (k:Nat):Nat:=(if 0<k∧c.a.kind≠0 then 1 else 0)+(if 1<k∧c.b.kind≠0 then 1 else 0)
theorem zMx (c:Cm) {k:Nat} (hk:k<2):zNL c (k+1)=zNL c k+(if (adK c k).kind≠0 then 1 else 0):=by
 rcases(show k=0∨k=1 by omega)with rfl|rfl
 ·simp[zNL,adK]
 ·simp[zNL,adK]
theorem zOK (c:Cm):zNL c 2=zFU c.a c.b:=by simp[zNL,zFU]
def AdR (w:World) (sb:Nat) (c:Cm):Prop:=sb<w.heap.size∧ ∀k,k<2→w.cell? ⟨sb,k*3,none⟩=some (.int .i8 (adK c k).kind)∧w.cell? ⟨sb,k*3+1,none⟩=some (.int .i64 (adK c k).n)∧
 ∃o cp,w.cell? ⟨sb,k*3+2,none⟩=some (.slice o (adK c k).re.length cp)∧NdV w o (adK c k).re
theorem AdR.below {w w':World} {sb:Nat} {c:Cm} (h:AdR w sb c) (hb:Below w.heap.size w w'):AdR w' sb c:=
 ⟨zQu h.1 hb.size,fun k hk=>by
  obtain⟨h1,h2,o,cp,h3,h4⟩:=h.2 k hk
  exact⟨(hb.cell (p:=⟨sb,k*3,none⟩) h.1).trans h1,(hb.cell (p:=⟨sb,k*3+1,none⟩) h.1).trans h2,o,cp,(hb.cell (p:=⟨sb,k*3+2,none⟩) h.1).trans h3,h4.below hb⟩⟩
theorem zAS {P:Program} {ops:Array Oper} {rest:List Oper} {o:Oper} {a:Act} {w:World} {Q:Exit→Act→World→Prop} (hgd:Region.wanted o (yielded ops a.tmps)=true) (ty:TypeId) (x:Operand) (ho:o.op= .load ty x)
  (g:Nat) (hx:a.eval x= .pointer (some ⟨g,0,none⟩)) (t:TypeId) (cs:Array Value) (fr:Nat × Nat) (d:TypeDesc) (hg:w.heap[g]?=some (.cells cs t fr))
  (hu:P.underlying ty=some d) (hd:(match d with| .struct _| .array _ _=>true|_=>false)=true) (hi:(P.info? ty).map (·.size)=some cs.size)
  (h:wpList P ops Q rest (a.put o.dst (.agg cs)) w):wpList P ops Q (o::rest) a w:=
 wpList_step fun _ hK=>by rw[if_pos hgd];exact wp_load_row ty x ho g hx t cs fr d hg hu hd hi (hK _ _ h)
end
section
open Go.RowKit
structure Cz where
 a:Ad
 b:Ad
 nt:Bool
 nm:Nat
 at_:Int
 tx:List Nat
 re:List Nd
 fi:List Pc
 ct:Int
 al:Bool
 pr:Bool
 wr:Bool
 tb:Nat→Int
def Cz.tz (c:Cz):Bool:=(List.range 256).all fun i=>c.tb i==0
def Cz.ok (c:Cz):Bool:=zL4 c.a c.b c.nt c.nm c.at_ c.tx c.re c.fi c.ct c.al c.pr c.wr c.tz
structure ShV (w:World) (l:List Value) (c:Cz):Prop where
 cl:zEq l
 a0:l[0]?=some (.int .i8 c.a.kind)
 a1:l[1]?=some (.int .i64 c.a.n)
 a2: ∃o k,l[2]?=some (.slice o c.a.re.length k)∧NdV w o c.a.re
 b0:l[3]?=some (.int .i8 c.b.kind)
 b1:l[4]?=some (.int .i64 c.b.n)
 b2: ∃o k,l[5]?=some (.slice o c.b.re.length k)∧NdV w o c.b.re
 ka: -128≤c.a.kind∧c.a.kind≤127
 kb: -128≤c.b.kind∧c.b.kind≤127
 oa:Hid (∀x∈c.a.re,-128≤x.op∧x.op≤127)
 ob:Hid (∀x∈c.b.re,-128≤x.op∧x.op≤127)
 nt:l[6]?=some (.bool c.nt)
 nm:l[7]?=some (.int .u8 (c.nm:Nat))
 nl:c.nm<256
 p:l[8]?=some (.int .i64 c.at_)
 tx: ∃o k,l[9]?=some (.slice o c.tx.length k)
 re: ∃o k,l[10]?=some (.slice o c.re.length k)∧NdV w o c.re
 ore:Hid (∀x∈c.re,-128≤x.op∧x.op≤127)
 fi: ∃o k,l[11]?=some (.slice o c.fi.length k)∧PcR w o c.fi
 fl:c.fi.length≤9223372036854775807
 ct:l[12]?=some (.int .i64 c.ct)
 al:l[13]?=some (.bool c.al)
 pr:l[14]?=some (.bool c.pr)
 wr:l[15]?=some (.bool c.wr)
 tb: ∀j,j<256→l[16+j]?=some (.int .u8 (c.tb j))
section
variable {w w':World} {l:List Value} {c:Cz} {oa:Option Addr} {P:List Pc}
theorem PcR.pk (h:PcR w oa P):PkR w oa (P.map (·.k)):=fun hp=>by
 rw[List.length_map]at hp
 obtain⟨nb,no,h1,h2,h3⟩:=h hp
 refine⟨nb,no,h1,h2,fun i k hk=>?_⟩
 rw[List.getElem?_map]at hk
 cases hpi:P[i]? with
 |none=>rw[hpi]at hk;cases hk
 |some p=>
  rw[hpi]at hk
  cases hk
  obtain⟨e1,o,c,e2⟩:=h3 i p hpi
  exact⟨e1,o,_,c,e2⟩
theorem ShV.below (h:ShV w l c) (hb:Below w.heap.size w w'):ShV w' l c:=
 {h with
  a2:=by obtain⟨o,k,h1,h2⟩:=h.a2;exact⟨o,k,h1,h2.below hb⟩
  b2:=by obtain⟨o,k,h1,h2⟩:=h.b2;exact⟨o,k,h1,h2.below hb⟩
  re:=by obtain⟨o,k,h1,h2⟩:=h.re;exact⟨o,k,h1,h2.below hb⟩
  fi:=by obtain⟨o,k,h1,h2⟩:=h.fi;exact⟨o,k,h1,h2.below hb⟩ }
end
theorem zPu (a b:Int) (w:World):(Op.equalIn 9999 5 (.int .u8 a) (.int .u8 b)).run Tryz.prog w= .ok (a==b) w:=by
 simp[go_sem]
theorem zIi (xs ys:Array Value) (f g:Nat→Int) (w:World): ∀is:List Nat,(∀i∈is,xs[i]?=some (.int .u8 (f i))∧ys[i]?=some (.int .u8 (g i)))→(Op.eqItems 9999 5 1 xs ys is).run Tryz.prog w= .ok (is.all fun i=>f i==g i) w
 |[],_=>rfl
 |i::is,h=>by
  obtain⟨h1,h2⟩:=h i (by simp)
  have p1:(part 5 xs (i*1)).run Tryz.prog w= .ok (.int .u8 (f i)) w:=run_part_plain w (by kernel_rfl) (by rw[Nat.mul_one];exact h1)
  have p2:(part 5 ys (i*1)).run Tryz.prog w= .ok (.int .u8 (g i)) w:=run_part_plain w (by kernel_rfl) (by rw[Nat.mul_one];exact h2)
  have ih:=zIi xs ys f g w is (fun j hj=>h j (by simp[hj]))
  simp only[Op.eqItems,Sem.run_bind,p1,p2,Result.andThen_ok,zPu,List.all_cons]
  cases hq:f i==g i
  ·simp
  ·simpa using ih
theorem zOb {xs:Array Value} {f:Nat→Int} (h: ∀i,i<256→xs[i]?=some (.int .u8 (f i))) (w:World):(Op.equalIn 10000 34 (.agg xs) (.agg Tryz.zeroCells34)).run Tryz.prog w= .ok ((List.range 256).all fun i=>f i==0) w:=by
 obtain⟨i,hi⟩: ∃i,Tryz.prog.info? 5=some i:=Option.isSome_iff_exists.1 (by kernel_rfl)
 rw[show Tryz.zeroCells34=(List.replicate 256 (Value.int .u8 0)).toArray by kernel_rfl,run_equalIn_array w 9999 _ _ Tryz.underlying34 hi,show Tryz.prog.cellsOf 5=1 by kernel_rfl,
  zIi xs _ f (fun _=>0) w _ (fun i hi=>⟨h i (List.mem_range.1 hi),by rw[List.getElem?_toArray,List.getElem?_replicate,if_pos (List.mem_range.1 hi)]⟩)]
theorem zB3 {ops:Array Oper} {rest:List Oper} {op:Oper} {a:Act} {w:World} {Q:Exit→Act→World→Prop} (hgd:Region.wanted op (yielded ops a.tmps)=true) (x y:Operand) {t':TypeId} (ho:op.op= .binOp .neq 34 x y t') {xs ys:Array Value} {r:Bool}
  (hx:a.eval x= .agg xs) (hy:a.eval y= .agg ys) (h0: ∀w,(Op.equalIn 10000 34 (.agg xs) (.agg ys)).run Tryz.prog w= .ok r w) (h:wpList Tryz.prog ops Q rest (a.put op.dst (.bool (!r))) w):wpList Tryz.prog ops Q (op::rest) a w:=
 wpList_step fun _ hK=>by
  rw[if_pos hgd]
  unfold Oper.wp execOp
  simp only[ho,hx,hy,Sem.run_bind,run_eqGuard_agg _ _ _ _ _ _ _ (show Tryz.prog.eqGuardType Tryz.prog.depth 34=false by kernel_rfl),run_neq_struct,h0,Result.andThen_ok]
  exact hK _ _ h
theorem zGt (nt:Bool) (many nm:Nat):zIc nt many (zCd nm)=(decide ((many:Int)≤zFT (zCd nm))&& !(decide (zFT (zCd nm)=0)&&nt)):=by
 unfold zIc zFT
 cases zCd nm with
 |none=>simp;omega
 |some k=>simp
end
section
open Go.RowKit
theorem zQV {b c d e f:Bool} :(!(false&&b&&c&&d&&e&&f))=true:=by cases b<;>rfl
theorem zQU {a c d e f:Bool} :(!(a&&false&&c&&d&&e&&f))=true:=by cases a<;>rfl
theorem zQT {a b d e f:Bool} :(!(a&&b&&false&&d&&e&&f))=true:=by cases a<;>cases b<;>rfl
theorem zQS {a b c e f:Bool} :(!(a&&b&&c&&false&&e&&f))=true:=by cases a<;>cases b<;>cases c<;>rfl
theorem zQR {a b c d f:Bool} :(!(a&&b&&c&&d&&false&&f))=true:=by cases a<;>cases b<;>cases c<;>cases d<;>rfl
theorem zJi {m:Int} {mn:Nat} {nt:Bool} (h1: ¬m<(mn:Int)) (h2: ¬(m=0∧nt=true)):(decide ((mn:Int)≤m)&& !(decide (m=0)&&nt))=true:=by
 rw[zQ2 (show(mn:Int)≤m by omega)]
 by_cases h:m=0
 ·cases nt
  ·simp
  ·exact absurd ⟨h,rfl⟩ h2
 ·rw[zQ3 h];rfl
theorem zJm {mn:Nat} {k:Int} (h: ¬(mn=1∧k=0)):(!(decide (mn=1)&&decide (k=0)))=true:=by
 by_cases h1:mn=1
 ·rw[zQ3 (fun e=>h ⟨h1,e⟩),Bool.and_false];rfl
 ·rw[zQ3 h1];rfl
def k01 (k:Int):Nat:=if k=0 then 0 else 1
theorem zPr (k:Int):k01 k≤1:=by unfold k01;split<;>omega
theorem zKN (a b:Ad):zFU a b=k01 a.kind+k01 b.kind:=by
 unfold zFU k01
 by_cases h1:a.kind=0<;>by_cases h2:b.kind=0<;>simp[h1,h2]
theorem zNg {w:World} {l:List Value} {c:Cz} (h:ShV w l c) (hsd: ∀W,Below w.heap.size w W→Calls Tryz.prog 48 #[.agg l.toArray] W fun e w'=>e= .returned (.bool (zDu c.nm c.wr c.tx))∧Below W.heap.size W w'):
  Calls Tryz.prog 14 #[.agg l.toArray] w fun e w'=>e= .returned (.bool c.ok)∧Below w.heap.size w w':=by
 have hnew:=zQ4 w (.cells l.toArray 36)
 have hbl:=(zQs w.heap.size w).alloc (zQt _) (.cells l.toArray 36)
 obtain⟨R,hR⟩: ∃R,c.ok=R:=⟨_,rfl⟩
 rw[hR]
 obtain⟨mn,hmn⟩: ∃x,zFU c.a c.b=x:=⟨_,rfl⟩
 obtain⟨m,hm⟩: ∃x,zFT (zCd c.nm)=x:=⟨_,rfl⟩
 obtain⟨ra,hra⟩: ∃x,zAX c.a=x:=⟨_,rfl⟩
 obtain⟨rb,hrb⟩: ∃x,zAX c.b=x:=⟨_,rfl⟩
 obtain⟨mo,hmo⟩: ∃x,zIc c.nt (zFU c.a c.b) (zCd c.nm)=x:=⟨_,rfl⟩
 obtain⟨ko,hko⟩: ∃x,(!(decide (zFU c.a c.b=1)&&decide (c.a.kind=0)))=x:=⟨_,rfl⟩
 obtain⟨ao,hao⟩: ∃x,decide (0≤c.at_)=x:=⟨_,rfl⟩
 obtain⟨sd,hsq⟩: ∃x,zDu c.nm c.wr c.tx=x:=⟨_,rfl⟩
 obtain⟨ty,hty⟩: ∃x,(c.nm==121||c.tz)=x:=⟨_,rfl⟩
 have HOK:Hid (R=(ra&&rb&&mo&&ko&&ao&&sd&&ty&&(if c.nm=115 then(c.re.isEmpty||(shapedN c.re&&decide (zEf c.fi≤(zBH c.re:Int))))&&zAQ c.fi false&&decide (0≤c.ct∧c.ct≤1048576)
   else c.re.isEmpty&&c.fi.isEmpty&&c.ct==0&& !c.al&& !c.pr&& !c.wr))):=zQr (by rw[←hR,←hra,←hrb,←hmo,←hko,←hao,←hsq,←hty];rfl)
 rw[zGt,hmn,hm]at hmo
 rw[hmn]at hko
 have HMN:=zQr hmn
 have HM:=zQr hm
 have HRA:=zQr hra
 have HRB:=zQr hrb
 have HMO:=zQr hmo.symm
 have HKO:=zQr hko.symm
 have HAO:=zQr hao.symm
 have HTY:=zQr hty.symm
 have HSD:Hid (∀W,Below w.heap.size w W→Calls Tryz.prog 48 #[.agg l.toArray] W fun e w'=>e= .returned (.bool sd)∧Below W.heap.size W w'):=zQr (by rw[←hsq];exact hsd)
 have HV0:=zQr (h.below hbl)
 have HB0:=zQr hbl
 have HH:=zQr hnew
 have HTQ:Hid (∀w,(Op.equalIn 10000 34 (.agg (l.drop 16).toArray) (.agg Tryz.zeroCells34)).run Tryz.prog w= .ok c.tz w):=zQr (zOb fun i hi=>by rw[List.getElem?_toArray,List.getElem?_drop];exact h.tb i hi)
 have HZI:Hid ((Tryz.prog.info? 34).map (·.size)=some (l.drop 16).length):=zQr (by rw[List.length_drop,h.cl.len];kernel_rfl)
 have HCI:Hid ((Tryz.prog.info? 36).map (·.size)=some l.toArray.size):=zQr (by rw[zCe,List.size_toArray,h.cl.len])
 clear h hsd hbl hnew hR hmn hm hra hrb hmo hko hao hsq hty
 go_enter Tryz.func14,Tryz.ntmps14
 go_upto_region 1 with fail
 obtain⟨b,hb⟩: ∃b,w.heap.size=b:=⟨_,rfl⟩
 have HBQ:=zQr hb
 obtain⟨W,hW⟩: ∃W,w.alloc (.cells l.toArray 36)=W:=⟨_,rfl⟩
 rw[hW]at HV0 HB0 HH ⊢
 have hh:=HH.out
 rw[hb]at hh ⊢
 have HR:=zQr hh
 have HBL:=zQr (zQz.1 hh).1
 have HCK:Hid (∀X,Below W.heap.size W X→ ∀k,X.cell? ⟨b,k,none⟩=l[k]?):=zQr fun X hx k=>(hx.cell (p:=⟨b,k,none⟩) HBL.out).trans ((zQ6 _ _ k _ _ (0,0) HR.out).trans (by simp))
 have HHP:Hid (∀X,Below W.heap.size W X→X.heap[b]?=some (.cells l.toArray 36 (0,0))):=zQr fun X hx=>(hx.block b HBL.out).trans HR.out
 have HTB:Hid (∀X,Below W.heap.size W X→X.rangeAt b 16 (l.drop 16)):=zQr fun X hx j v hv=>by rw[HCK.out X hx,←hv,List.getElem?_drop]
 clear hW hb hh HH
 have hk0: ∀k,W.cell? ⟨b,k,none⟩=l[k]?:=HCK.out W (zQs _ _)
 have HK0:=zQr hk0
 have c0:W.cell? ⟨b,0,none⟩=some (.int .i8 c.a.kind):=(hk0 0).trans HV0.out.a0
 have c3:W.cell? ⟨b,3,none⟩=some (.int .i8 c.b.kind):=(hk0 3).trans HV0.out.b0
 clear hk0
 go_upto_if 8 with fail
 go_cut [3] (fun v wd=>v= .int .i64 (k01 c.a.kind:Nat)∧wd=W)
 case first=>
  by_cases h0:c.a.kind=0
  ·have q:(c.a.kind !=0)=false:=by rw[bne_eq_false_iff_eq];exact h0
   have HF:=zQr (show k01 c.a.kind=0 by unfold k01;rw[if_pos h0])
   clear h0
   go_wp2_with fail
   go_meet
   exact⟨by rw[HF.out];rfl,rfl⟩
  ·have q:(c.a.kind !=0)=true:=by rw[bne_iff_ne];exact h0
   have HF:=zQr (show k01 c.a.kind=1 by unfold k01;rw[if_neg h0])
   clear h0
   go_wp2_with fail
   go_meet
   exact⟨by rw[HF.out];rfl,rfl⟩
 case rest=>
 obtain⟨rfl,hwc⟩:=hcut
 subst hwc
 have hn1:=zPr c.a.kind
 obtain⟨n1,hn⟩: ∃x,k01 c.a.kind=x:=⟨_,rfl⟩
 have HN1:=zQr hn
 rw[hn]at hn1 ⊢
 have hn1i:(n1:Int)≤1:=by omega
 clear hn hn1
 go_upto_if 14 with fail
 go_cut [3] (fun v wd=>v= .int .i64 (mn:Nat)∧wd=wc)
 case first=>
  by_cases h0:c.b.kind=0
  ·have q:(c.b.kind !=0)=false:=by rw[bne_eq_false_iff_eq];exact h0
   have HF:=zQr (show mn=n1 by rw[←HMN.out,zKN,HN1.out];unfold k01;rw[if_pos h0];rfl)
   clear h0
   go_wp2_with fail
   go_meet
   exact⟨by rw[HF.out],rfl⟩
  ·have q:(c.b.kind !=0)=true:=by rw[bne_iff_ne];exact h0
   have HF:=zQr (show mn=n1+1 by rw[←HMN.out,zKN,HN1.out];unfold k01;rw[if_neg h0])
   clear h0
   go_wp2_with fail
   go_meet
   exact⟨by rw[HF.out];go_num,rfl⟩
 case rest=>
 obtain⟨rfl,hwc⟩:=hcut
 subst hwc
 clear hn1i
 rename World=>V
 have c7:V.cell? ⟨b,7,none⟩=some (.int .u8 (c.nm:Nat)):=(HK0.out 7).trans HV0.out.nm
 have HMC:=zQr (zGj (w:=V) (b:=c.nm))
 rw[HM.out]at HMC
 go_wp2_with fail
 refine HMC.out.mono ?_;rintro e wq ⟨rfl,rfl⟩
 clear HMC
 obtain⟨t7,ht7⟩: ∃t7,(!(ra&&rb&&mo&&ko&&ao&&sd))=t7:=⟨_,rfl⟩
 have HT7:=zQr ht7
 clear ht7
 go_upto_region 7 with fail
 go_cut [62] (fun v wd=>v= .bool t7∧Below V.heap.size V wd)
 case first=>
  obtain⟨oa,ka,ea,na⟩:=HV0.out.a2
  obtain⟨ob,kb,eb,nb⟩:=HV0.out.b2
  have HNA:=zQr na
  have HNB:=zQr nb
  have c1:V.cell? ⟨b,1,none⟩=some (.int .i64 c.a.n):=(HK0.out 1).trans HV0.out.a1
  have c2:V.cell? ⟨b,2,none⟩=some (.slice oa c.a.re.length ka):=(HK0.out 2).trans ea
  have c4:V.cell? ⟨b,4,none⟩=some (.int .i64 c.b.n):=(HK0.out 4).trans HV0.out.b1
  have c5:V.cell? ⟨b,5,none⟩=some (.slice ob c.b.re.length kb):=(HK0.out 5).trans eb
  have c6:V.cell? ⟨b,6,none⟩=some (.bool c.nt):=(HK0.out 6).trans HV0.out.nt
  have c8:V.cell? ⟨b,8,none⟩=some (.int .i64 c.at_):=(HK0.out 8).trans HV0.out.p
  have hbW:b<V.heap.size:=HBL.out
  have HC1:=zEF (cap:=ka) c.a.kind c.a.n HV0.out.oa HNA.out HV0.out.ka.1 HV0.out.ka.2
  rw[show zAX ⟨c.a.kind,c.a.n,c.a.re⟩=ra from HRA.out]at HC1
  have HC1:=zQr HC1
  clear ea eb na nb
  by_cases h1:m<(mn:Int)
  ·have HF:=zQr (show t7=true by rw[←HT7.out,HMO.out,zQ3 (show¬(mn:Int)≤m by omega)];exact zQT)
   clear HC1
   go_wp2_with fail
   go_meet
   exact⟨by rw[HF.out],zQs _ _⟩
  by_cases hm0:m=0∧c.nt=true
  ·obtain⟨hmz,hnt⟩:=hm0
   have HF:=zQr (show t7=true by rw[←HT7.out,HMO.out,hnt,zQ2 hmz,Bool.and_self,Bool.not_true,Bool.and_false];exact zQT)
   have q:(m==0)=true:=beq_iff_eq.2 hmz
   rw[hnt]at c6
   clear hnt HC1 hmz
   go_wp2_with fail
   go_meet
   exact⟨by rw[HF.out],zQs _ _⟩
  have HMT:=zQr (show mo=true by rw[HMO.out];exact zJi h1 hm0)
  have key:((m==0)=true∧c.nt=false)∨(m==0)=false:=by
   by_cases h:m=0
   ·exact .inl ⟨beq_iff_eq.2 h,by
     cases hn:c.nt
     ·rfl
     ·exact absurd ⟨h,hn⟩ hm0⟩
   ·exact .inr (zQx.2 h)
  clear hm0
  rcases key with ⟨hmz,hnt⟩|hmz
  ·rw[hnt]at c6
   clear hnt
   by_cases h3:c.at_<0
   ·have HF:=zQr (show t7=true by rw[←HT7.out,HAO.out,zQ3 (show¬0≤c.at_ by omega)];exact zQR)
    clear HC1
    go_wp2_with fail
    go_meet
    exact⟨by rw[HF.out],zQs _ _⟩
   have HAT:=zQr (show ao=true by rw[HAO.out,zQ2 (show 0≤c.at_ by omega)])
   go_wp2_with fail
   refine HC1.out.mono ?_;rintro e w1 ⟨rfl,hb1⟩
   have HX1:=zQr hb1
   clear HC1
   cases ra with
   |false=>
    have HF:=zQr (show t7=true by rw[←HT7.out];exact zQV)
    clear hb1
    go_wp2_with fail
    go_meet
    exact⟨by rw[HF.out],HX1.out⟩
   |true=>
   have z3:w1.cell? ⟨b,3,none⟩=some (.int .i8 c.b.kind):=(hb1.cell (p:=⟨b,3,none⟩) hbW).trans c3
   have z4:w1.cell? ⟨b,4,none⟩=some (.int .i64 c.b.n):=(hb1.cell (p:=⟨b,4,none⟩) hbW).trans c4
   have z5:w1.cell? ⟨b,5,none⟩=some (.slice ob c.b.re.length kb):=(hb1.cell (p:=⟨b,5,none⟩) hbW).trans c5
   have HC2:=zEF (w:=w1) (cap:=kb) c.b.kind c.b.n HV0.out.ob (HNB.out.below hb1) HV0.out.kb.1 HV0.out.kb.2
   rw[show zAX ⟨c.b.kind,c.b.n,c.b.re⟩=rb from HRB.out]at HC2
   have HC2:=zQr HC2
   clear hb1
   go_wp2_with fail
   refine HC2.out.mono ?_;rintro e w2 ⟨rfl,hb2⟩
   have hx2:=HX1.out.trans (hb2.mono HX1.out.size)
   have HX2:=zQr hx2
   clear HC2 z3 z4 z5 hb2
   cases rb with
   |false=>
    have HF:=zQr (show t7=true by rw[←HT7.out];exact zQU)
    clear hx2
    go_wp2_with fail
    go_meet
    exact⟨by rw[HF.out],HX2.out⟩
   |true=>
   have y0:w2.cell? ⟨b,0,none⟩=some (.int .i8 c.a.kind):=(hx2.cell (p:=⟨b,0,none⟩) hbW).trans c0
   have HRW:=zQr (HHP.out w2 hx2)
   have HSC:=zQr (HSD.out w2 (HB0.out.trans (hx2.mono HB0.out.size)))
   clear hx2 c0 c1 c2 c3 c4 c5 c6 c7 c8
   by_cases hk1:mn=1∧c.a.kind=0
   ·obtain⟨hk1,hk0⟩:=hk1
    have HF:=zQr (show t7=true by rw[←HT7.out,HKO.out,zQ2 hk0,zQ2 hk1];exact zQS)
    have q:(c.a.kind==0)=true:=beq_iff_eq.2 hk0
    have q1:((mn:Int)==1)=true:=by rw[beq_iff_eq];omega
    clear hk0 hk1 HSC
    go_wp2_with fail
    go_meet
    exact⟨by rw[HF.out],HX2.out⟩
   have HKT:=zQr (show ko=true by rw[HKO.out];exact zJm hk1)
   have key2:(((mn:Int)==1)=true∧(c.a.kind==0)=false)∨((mn:Int)==1)=false:=by
    by_cases h:mn=1
    ·exact .inl ⟨by rw[beq_iff_eq];omega,zQx.2 fun e=>hk1 ⟨h,e⟩⟩
    ·exact .inr (zQx.2 (by omega))
   clear hk1
   rcases key2 with ⟨hk1,hkz⟩|hkz
   ·go_wp2_with (refine zAS rfl 36 _ rfl b rfl 36 l.toArray (0,0) _ HRW.out Tryz.underlying36 rfl HCI.out ?_)
    refine HSC.out.mono ?_;rintro e w3 ⟨rfl,hb3⟩
    have HX3:=zQr (HX2.out.trans (hb3.mono HX2.out.size))
    clear hb3 y0
    have HF:=zQr (show t7= !sd by rw[←HT7.out,HMT.out,HKT.out,HAT.out];rfl)
    cases sd with
    |false=>
     go_wp2_with fail
     go_meet
     exact⟨by rw[HF.out];rfl,HX3.out⟩
    |true=>
     go_wp2_with fail
     go_meet
     exact⟨by rw[HF.out];rfl,HX3.out⟩
   ·go_wp2_with (refine zAS rfl 36 _ rfl b rfl 36 l.toArray (0,0) _ HRW.out Tryz.underlying36 rfl HCI.out ?_)
    refine HSC.out.mono ?_;rintro e w3 ⟨rfl,hb3⟩
    have HX3:=zQr (HX2.out.trans (hb3.mono HX2.out.size))
    clear hb3 y0
    have HF:=zQr (show t7= !sd by rw[←HT7.out,HMT.out,HKT.out,HAT.out];rfl)
    cases sd with
    |false=>
     go_wp2_with fail
     go_meet
     exact⟨by rw[HF.out];rfl,HX3.out⟩
    |true=>
     go_wp2_with fail
     go_meet
     exact⟨by rw[HF.out];rfl,HX3.out⟩
  ·by_cases h3:c.at_<0
   ·have HF:=zQr (show t7=true by rw[←HT7.out,HAO.out,zQ3 (show¬0≤c.at_ by omega)];exact zQR)
    clear HC1
    go_wp2_with fail
    go_meet
    exact⟨by rw[HF.out],zQs _ _⟩
   have HAT:=zQr (show ao=true by rw[HAO.out,zQ2 (show 0≤c.at_ by omega)])
   go_wp2_with fail
   refine HC1.out.mono ?_;rintro e w1 ⟨rfl,hb1⟩
   have HX1:=zQr hb1
   clear HC1
   cases ra with
   |false=>
    have HF:=zQr (show t7=true by rw[←HT7.out];exact zQV)
    clear hb1
    go_wp2_with fail
    go_meet
    exact⟨by rw[HF.out],HX1.out⟩
   |true=>
   have z3:w1.cell? ⟨b,3,none⟩=some (.int .i8 c.b.kind):=(hb1.cell (p:=⟨b,3,none⟩) hbW).trans c3
   have z4:w1.cell? ⟨b,4,none⟩=some (.int .i64 c.b.n):=(hb1.cell (p:=⟨b,4,none⟩) hbW).trans c4
   have z5:w1.cell? ⟨b,5,none⟩=some (.slice ob c.b.re.length kb):=(hb1.cell (p:=⟨b,5,none⟩) hbW).trans c5
   have HC2:=zEF (w:=w1) (cap:=kb) c.b.kind c.b.n HV0.out.ob (HNB.out.below hb1) HV0.out.kb.1 HV0.out.kb.2
   rw[show zAX ⟨c.b.kind,c.b.n,c.b.re⟩=rb from HRB.out]at HC2
   have HC2:=zQr HC2
   clear hb1
   go_wp2_with fail
   refine HC2.out.mono ?_;rintro e w2 ⟨rfl,hb2⟩
   have hx2:=HX1.out.trans (hb2.mono HX1.out.size)
   have HX2:=zQr hx2
   clear HC2 z3 z4 z5 hb2
   cases rb with
   |false=>
    have HF:=zQr (show t7=true by rw[←HT7.out];exact zQU)
    clear hx2
    go_wp2_with fail
    go_meet
    exact⟨by rw[HF.out],HX2.out⟩
   |true=>
   have y0:w2.cell? ⟨b,0,none⟩=some (.int .i8 c.a.kind):=(hx2.cell (p:=⟨b,0,none⟩) hbW).trans c0
   have HRW:=zQr (HHP.out w2 hx2)
   have HSC:=zQr (HSD.out w2 (HB0.out.trans (hx2.mono HB0.out.size)))
   clear hx2 c0 c1 c2 c3 c4 c5 c6 c7 c8
   by_cases hk1:mn=1∧c.a.kind=0
   ·obtain⟨hk1,hk0⟩:=hk1
    have HF:=zQr (show t7=true by rw[←HT7.out,HKO.out,zQ2 hk0,zQ2 hk1];exact zQS)
    have q:(c.a.kind==0)=true:=beq_iff_eq.2 hk0
    have q1:((mn:Int)==1)=true:=by rw[beq_iff_eq];omega
    clear hk0 hk1 HSC
    go_wp2_with fail
    go_meet
    exact⟨by rw[HF.out],HX2.out⟩
   have HKT:=zQr (show ko=true by rw[HKO.out];exact zJm hk1)
   have key2:(((mn:Int)==1)=true∧(c.a.kind==0)=false)∨((mn:Int)==1)=false:=by
    by_cases h:mn=1
    ·exact .inl ⟨by rw[beq_iff_eq];omega,zQx.2 fun e=>hk1 ⟨h,e⟩⟩
    ·exact .inr (zQx.2 (by omega))
   clear hk1
   rcases key2 with ⟨hk1,hkz⟩|hkz
   ·go_wp2_with (refine zAS rfl 36 _ rfl b rfl 36 l.toArray (0,0) _ HRW.out Tryz.underlying36 rfl HCI.out ?_)
    refine HSC.out.mono ?_;rintro e w3 ⟨rfl,hb3⟩
    have HX3:=zQr (HX2.out.trans (hb3.mono HX2.out.size))
    clear hb3 y0
    have HF:=zQr (show t7= !sd by rw[←HT7.out,HMT.out,HKT.out,HAT.out];rfl)
    cases sd with
    |false=>
     go_wp2_with fail
     go_meet
     exact⟨by rw[HF.out];rfl,HX3.out⟩
    |true=>
     go_wp2_with fail
     go_meet
     exact⟨by rw[HF.out];rfl,HX3.out⟩
   ·go_wp2_with (refine zAS rfl 36 _ rfl b rfl 36 l.toArray (0,0) _ HRW.out Tryz.underlying36 rfl HCI.out ?_)
    refine HSC.out.mono ?_;rintro e w3 ⟨rfl,hb3⟩
    have HX3:=zQr (HX2.out.trans (hb3.mono HX2.out.size))
    clear hb3 y0
    have HF:=zQr (show t7= !sd by rw[←HT7.out,HMT.out,HKT.out,HAT.out];rfl)
    cases sd with
    |false=>
     go_wp2_with fail
     go_meet
     exact⟨by rw[HF.out];rfl,HX3.out⟩
    |true=>
     go_wp2_with fail
     go_meet
     exact⟨by rw[HF.out];rfl,HX3.out⟩
 case rest=>
 obtain⟨rfl,hxc⟩:=hcut
 have HXX:=zQr hxc
 have HBX:=zQr (HB0.out.trans (hxc.mono HB0.out.size))
 have HRW:=zQr (HHP.out wc hxc)
 have HTW:=zQr (HTB.out wc hxc)
 have d7:wc.cell? ⟨b,7,none⟩=some (.int .u8 (c.nm:Nat)):=(HCK.out wc hxc 7).trans HV0.out.nm
 clear hxc c0 c3 c7
 cases t7 with
 |true=>
  have HF:=zQr (show R=false by
   have h7:=HT7.out
   rw[Bool.not_eq_true']at h7
   rw[HOK.out,h7];rfl)
  go_wp2_with fail
  go_ret
  exact⟨zAH HF.out.symm,HBX.out⟩
 |false=>
 have HO2:=zQr (show R=(ty&&(if c.nm=115 then(c.re.isEmpty||(shapedN c.re&&decide (zEf c.fi≤(zBH c.re:Int))))&&zAQ c.fi false&&decide (0≤c.ct∧c.ct≤1048576)
   else c.re.isEmpty&&c.fi.isEmpty&&c.ct==0&& !c.al&& !c.pr&& !c.wr))by
  have h7:=HT7.out
  rw[Bool.not_eq_false']at h7
  rw[HOK.out,h7,Bool.true_and])
 clear HOK
 rename World=>X
 go_upto_region 9 with fail
 go_cut [71] (fun v wd=>v= .bool (!ty)∧wd=X)
 case first=>
  by_cases n121:c.nm=121
  ·have q:((c.nm:Int) !=121)=false:=by rw[bne_eq_false_iff_eq];omega
   have HF:=zQr (show ty=true by rw[HTY.out,beq_iff_eq.2 n121];rfl)
   clear n121
   go_wp2_with fail
   go_meet
   exact⟨by rw[HF.out];rfl,rfl⟩
  ·have q:((c.nm:Int) !=121)=true:=by rw[bne_iff_ne];omega
   have HF:=zQr (show ty=c.tz by rw[HTY.out,zQx.2 n121];rfl)
   clear n121
   go_wp2_with (first|refine zAi rfl 34 _ rfl b 16 rfl (l.drop 16) _ HTW.out Tryz.underlying34 rfl HZI.out ?_|refine zB3 rfl _ _ rfl rfl rfl HTQ.out ?_)
   go_meet
   exact⟨by rw[HF.out],rfl⟩
 case rest=>
 obtain⟨rfl,hwc⟩:=hcut
 subst hwc
 cases ty with
 |false=>
  have HF:=zQr (show R=false by rw[HO2.out];rfl)
  clear d7
  go_wp2_with fail
  go_ret
  exact⟨zAH HF.out.symm,HBX.out⟩
 |true=>
 have HE:=zQr (show R=(if c.nm=115 then(c.re.isEmpty||(shapedN c.re&&decide (zEf c.fi≤(zBH c.re:Int))))&&zAQ c.fi false&&decide (0≤c.ct∧c.ct≤1048576)
   else c.re.isEmpty&&c.fi.isEmpty&&c.ct==0&& !c.al&& !c.pr&& !c.wr)by rw[HO2.out,Bool.true_and])
 clear d7 HO2
 rename World=>X
 have HVX:=zQr (HV0.out.below HXX.out)
 have hbX:b<X.heap.size:=zQu HBL.out HXX.out.size
 have c7:X.cell? ⟨b,7,none⟩=some (.int .u8 (c.nm:Nat)):=(HCK.out X HXX.out 7).trans HV0.out.nm
 obtain⟨o10,k10,e10,n10⟩:=HVX.out.re
 obtain⟨o11,k11,e11,n11⟩:=HVX.out.fi
 have HN10:=zQr n10
 have HN11:=zQr n11
 have d10:X.cell? ⟨b,10,none⟩=some (.slice o10 c.re.length k10):=(HCK.out X HXX.out 10).trans e10
 have d11:X.cell? ⟨b,11,none⟩=some (.slice o11 c.fi.length k11):=(HCK.out X HXX.out 11).trans e11
 have d12:X.cell? ⟨b,12,none⟩=some (.int .i64 c.ct):=(HCK.out X HXX.out 12).trans HV0.out.ct
 clear e10 e11 n10 n11
 by_cases n115:c.nm=115
 case neg=>
  have HEN:=zQr (show R=(c.re.isEmpty&&c.fi.isEmpty&&c.ct==0&& !c.al&& !c.pr&& !c.wr)by rw[HE.out,if_neg n115])
  have q115:((c.nm:Int) !=115)=true:=by rw[bne_iff_ne];omega
  have d13:X.cell? ⟨b,13,none⟩=some (.bool c.al):=(HCK.out X HXX.out 13).trans HV0.out.al
  have d14:X.cell? ⟨b,14,none⟩=some (.bool c.pr):=(HCK.out X HXX.out 14).trans HV0.out.pr
  have d15:X.cell? ⟨b,15,none⟩=some (.bool c.wr):=(HCK.out X HXX.out 15).trans HV0.out.wr
  clear n115 HE
  by_cases hre:c.re=[]
  case neg=>
   have HF:=zQr (show R=false by rw[HEN.out,List.isEmpty_eq_false_iff.2 hre];rfl)
   have q10:((c.re.length:Int)==0)=false:=zQx.2 (by have:=List.length_pos_iff.2 hre;omega)
   clear hre
   go_wp2_with fail
   go_ret
   exact⟨zAH HF.out.symm,HBX.out⟩
  rw[hre,List.length_nil]at d10
  have HRE:=zQr (show c.re.isEmpty=true by rw[hre];rfl)
  clear hre
  by_cases hfi:c.fi=[]
  case neg=>
   have HF:=zQr (show R=false by rw[HEN.out,List.isEmpty_eq_false_iff.2 hfi,Bool.and_false];rfl)
   have q11:((c.fi.length:Int)==0)=false:=zQx.2 (by have:=List.length_pos_iff.2 hfi;omega)
   clear hfi
   go_wp2_with fail
   go_ret
   exact⟨zAH HF.out.symm,HBX.out⟩
  rw[hfi,List.length_nil]at d11
  have HFI:=zQr (show c.fi.isEmpty=true by rw[hfi];rfl)
  clear hfi
  by_cases hct:c.ct=0
  case neg=>
   have q12:(c.ct==0)=false:=zQx.2 hct
   have HF:=zQr (show R=false by rw[HEN.out,q12,Bool.and_false];rfl)
   clear hct
   go_wp2_with fail
   go_ret
   exact⟨zAH HF.out.symm,HBX.out⟩
  have HCT:=zQr (show(c.ct==0)=true from beq_iff_eq.2 hct)
  rw[hct]at d12
  clear hct
  cases hal:c.al with
  |true=>
   have HF:=zQr (show R=false by rw[HEN.out,hal];simp)
   rw[hal]at d13
   clear hal
   go_wp2_with fail
   go_ret
   exact⟨zAH HF.out.symm,HBX.out⟩
  |false=>
  cases hpr:c.pr with
  |true=>
   have HF:=zQr (show R=false by rw[HEN.out,hpr];simp)
   rw[hal]at d13
   rw[hpr]at d14
   clear hal hpr
   go_wp2_with fail
   go_ret
   exact⟨zAH HF.out.symm,HBX.out⟩
  |false=>
  cases hwr:c.wr with
  |true=>
   have HF:=zQr (show R=false by rw[HEN.out,hwr];simp)
   rw[hal]at d13
   rw[hpr]at d14
   rw[hwr]at d15
   clear hal hpr hwr
   go_wp2_with fail
   go_ret
   exact⟨zAH HF.out.symm,HBX.out⟩
  |false=>
  have HF:=zQr (show R=true by rw[HEN.out,HRE.out,HFI.out,HCT.out,hal,hpr,hwr];rfl)
  rw[hal]at d13
  rw[hpr]at d14
  rw[hwr]at d15
  clear hal hpr hwr
  go_wp2_with fail
  go_ret
  exact⟨zAH HF.out.symm,HBX.out⟩
 have HEN:=zQr (show R=((c.re.isEmpty||(shapedN c.re&&decide (zEf c.fi≤(zBH c.re:Int))))&&zAQ c.fi false&&decide (0≤c.ct∧c.ct≤1048576))by rw[HE.out,if_pos n115])
 have q115:((c.nm:Int) !=115)=false:=by rw[bne_eq_false_iff_eq];omega
 clear n115 HE
 go_upto_region 13 with fail
 by_cases hre:c.re=[]
 ·have HEQ:=zQr (show R=(zAQ c.fi false&&decide (0≤c.ct∧c.ct≤1048576))by rw[HEN.out,hre];rfl)
  rw[hre,List.length_nil]at d10
  clear hre HEN
  refine zAA (X:=none) 19 [([0,1,2,3,4,5,6],7),([8,9,10,11,13,14],12),([],15)] [16,17,18] (by kernel_rfl) (by kernel_rfl) rfl (fun _ _ _ _ _ h=>h) ?_
  simp only[zAK,zAC,zAE,zAD,zAB,List.getD_cons_zero,List.getD_cons_succ,List.drop_succ_cons,List.drop_nil]
  repeat (go_big_quiet_step (fail))
  refine wpQuiet_nil ?_
  go_wp2_with fail
  refine⟨zAJ.refl _,?_⟩
  repeat (go_big_quiet_step (fail))
  refine wpQuiet_nil ?_
  go_wp2_with fail
  refine⟨zAJ.refl _,?_⟩
  repeat (go_big_quiet_step (fail))
  refine wpQuiet_nil ?_
  go_wp2_with fail
  refine⟨zAJ.refl _,?_⟩
  repeat (go_big_quiet_step (fail))
  refine wpQuiet_nil ?_
  have HY:Hid (Below X.heap.size X X.drew):=zQr (zQs _ _).drew
  go_upto_region 15 with fail
  obtain⟨Y,hY⟩: ∃Y,X.drew=Y:=⟨_,rfl⟩
  rw[hY]at HY ⊢
  clear hY
  obtain⟨sf,hsf⟩: ∃x,zAQ c.fi false=x:=⟨_,rfl⟩
  have HC4:=zQr (zEU (ca:=k11) (HN11.out.below HY.out) HV0.out.fl)
  rw[hsf]at HC4 HEQ
  have y11:Y.cell? ⟨b,11,none⟩=some (.slice o11 c.fi.length k11):=(HY.out.cell (p:=⟨b,11,none⟩) hbX).trans d11
  have y12:Y.cell? ⟨b,12,none⟩=some (.int .i64 c.ct):=(HY.out.cell (p:=⟨b,12,none⟩) hbX).trans d12
  have hbY:b<Y.heap.size:=zQu hbX HY.out.size
  clear hsf d10 d11 d12
  go_wp2_with fail
  refine HC4.out.mono ?_;rintro e wz ⟨rfl,hbz⟩
  have HBZ:=zQr (HBX.out.trans ((HY.out.trans (hbz.mono HY.out.size)).mono HBX.out.size))
  have z12:wz.cell? ⟨b,12,none⟩=some (.int .i64 c.ct):=(hbz.cell (p:=⟨b,12,none⟩) hbY).trans y12
  clear hbz y11 y12 HC4
  cases sf with
  |false=>
   have HF:=zQr (show R=false by rw[HEQ.out];rfl)
   go_wp2_with fail
   go_ret
   exact⟨zAH HF.out.symm,HBZ.out⟩
  |true=>
  by_cases hc0:0≤c.ct
  case neg=>
   have HF:=zQr (show R=false by rw[HEQ.out,zQ3 (by omega)];rfl)
   go_wp2_with fail
   go_ret
   exact⟨zAH HF.out.symm,HBZ.out⟩
  by_cases hc1:c.ct≤1048576
  case neg=>
   have HF:=zQr (show R=false by rw[HEQ.out,zQ3 (by omega)];rfl)
   go_wp2_with fail
   go_ret
   exact⟨zAH (by rw[HF.out];exact zQ3 (by omega)),HBZ.out⟩
  have HF:=zQr (show R=true by rw[HEQ.out,zQ2 ⟨hc0,hc1⟩];rfl)
  go_wp2_with fail
  go_ret
  exact⟨zAH HF.out.symm,HBZ.out⟩
 have q10:0<c.re.length:=List.length_pos_iff.2 hre
 have HRE:=zQr (List.isEmpty_eq_false_iff.2 hre)
 obtain⟨sh,hsh⟩: ∃x,shapedN c.re=x:=⟨_,rfl⟩
 have HSN:=zQr hsh
 have HC1:=zQr (zDY (cap:=k10) HV0.out.ore (HN10.out.below (w':=X.drew) (zQs _ _).drew))
 rw[hsh]at HC1
 clear hre hsh
 refine zAA (X:=none) 19 [([0,1,2,3,4,5,6],7),([8,9,10,11,13,14],12),([],15)] [16,17,18] (by kernel_rfl) (by kernel_rfl) rfl (fun _ _ _ _ _ h=>h) ?_
 simp only[zAK,zAC,zAE,zAD,zAB,List.getD_cons_zero,List.getD_cons_succ,List.drop_succ_cons,List.drop_nil]
 repeat (go_big_quiet_step (fail))
 refine wpQuiet_nil ?_
 go_wp2_with fail
 refine HC1.out.mono ?_;rintro e w7 ⟨rfl,hb7⟩
 have HX7:Hid (Below X.heap.size X w7):=zQr ((zQs X.heap.size X).drew.trans hb7)
 have HK7:=zQr (zAJ.of_below (X:=none) hb7)
 clear hb7 HC1
 cases sh with
 |false=>
  have HF:=zQr (show R=false by rw[HEN.out,HRE.out,HSN.out];rfl)
  have HBZ:=zQr (HBX.out.trans (HX7.out.mono HBX.out.size))
  go_wp2_with fail
  refine⟨HK7.out,?_⟩
  repeat (go_big_quiet_step (fail))
  refine wpQuiet_nil ?_
  go_wp2_with fail
  refine⟨zAJ.refl _,?_⟩
  repeat (go_big_quiet_step (fail))
  refine wpQuiet_nil ?_
  go_wp2_with fail
  refine⟨zAJ.refl _,?_⟩
  repeat (go_big_quiet_step (fail))
  refine wpQuiet_nil ?_
  go_wp2_with fail
  go_ret
  exact⟨zAH HF.out.symm,HBZ.out⟩
 |true=>
 have z11:w7.cell? ⟨b,11,none⟩=some (.slice o11 c.fi.length k11):=(HX7.out.cell (p:=⟨b,11,none⟩) hbX).trans d11
 have z10:w7.cell? ⟨b,10,none⟩=some (.slice o10 c.re.length k10):=(HX7.out.cell (p:=⟨b,10,none⟩) hbX).trans d10
 have hb7l:b<w7.heap.size:=zQu hbX HX7.out.size
 have HC2:=zJh (ca:=k11) (HN11.out.below HX7.out).pk (by rw[List.length_map];exact HV0.out.fl)
 rw[List.length_map,←zHb]at HC2
 have HC2:=zQr HC2
 go_wp2_with fail
 refine⟨HK7.out,?_⟩
 repeat (go_big_quiet_step (fail))
 refine wpQuiet_nil ?_
 go_wp2_with fail
 refine HC2.out.mono ?_;rintro e w8 ⟨rfl,hb8⟩
 have HX8:=zQr (HX7.out.trans (hb8.mono HX7.out.size))
 have HK8:=zQr (zAJ.of_below (X:=none) hb8)
 have HC3:=zQr (zIB (cap:=k10) HV0.out.ore (HN10.out.below HX8.out))
 clear hb8 HC2 z11 z10 hb7l
 go_wp2_with fail
 refine⟨HK8.out,?_⟩
 repeat (go_big_quiet_step (fail))
 refine wpQuiet_nil ?_
 go_wp2_with fail
 refine HC3.out.mono ?_;rintro e w9 ⟨rfl,hb9⟩
 have HX9:=zQr (HX8.out.trans (hb9.mono HX8.out.size))
 have HK9:=zQr (zAJ.of_below (X:=none) hb9)
 clear hb9 HC3
 obtain⟨mp,hmp⟩: ∃x,zEf c.fi=x:=⟨_,rfl⟩
 obtain⟨gr,hgr⟩: ∃x,zBH c.re=x:=⟨_,rfl⟩
 rw[hmp,hgr]at HEN
 rw[hmp,hgr]
 clear hmp hgr
 by_cases hgm:(gr:Int)<mp
 ·have HF:=zQr (show R=false by rw[HEN.out,HRE.out,HSN.out,zQ3 (show¬mp≤(gr:Int)by omega)];rfl)
  have HBZ:=zQr (HBX.out.trans (HX9.out.mono HBX.out.size))
  go_wp2_with fail
  refine⟨HK9.out,?_⟩
  repeat (go_big_quiet_step (fail))
  refine wpQuiet_nil ?_
  go_wp2_with fail
  go_ret
  exact⟨zAH HF.out.symm,HBZ.out⟩
 have HEQ:=zQr (show R=(zAQ c.fi false&&decide (0≤c.ct∧c.ct≤1048576))by rw[HEN.out,HRE.out,HSN.out,zQ2 (show mp≤(gr:Int)by omega)];rfl)
 go_wp2_with fail
 refine⟨HK9.out,?_⟩
 repeat (go_big_quiet_step (fail))
 refine wpQuiet_nil ?_
 go_upto_region 15 with fail
 have HY:=HX9
 obtain⟨Y,hY⟩: ∃Y,w9=Y:=⟨_,rfl⟩
 rw[hY]at HY ⊢
 clear hY
 obtain⟨sf,hsf⟩: ∃x,zAQ c.fi false=x:=⟨_,rfl⟩
 have HC4:=zQr (zEU (ca:=k11) (HN11.out.below HY.out) HV0.out.fl)
 rw[hsf]at HC4 HEQ
 have y11:Y.cell? ⟨b,11,none⟩=some (.slice o11 c.fi.length k11):=(HY.out.cell (p:=⟨b,11,none⟩) hbX).trans d11
 have y12:Y.cell? ⟨b,12,none⟩=some (.int .i64 c.ct):=(HY.out.cell (p:=⟨b,12,none⟩) hbX).trans d12
 have hbY:b<Y.heap.size:=zQu hbX HY.out.size
 clear hsf d10 d11 d12
 go_wp2_with fail
 refine HC4.out.mono ?_;rintro e wz ⟨rfl,hbz⟩
 have HBZ:=zQr (HBX.out.trans ((HY.out.trans (hbz.mono HY.out.size)).mono HBX.out.size))
 have z12:wz.cell? ⟨b,12,none⟩=some (.int .i64 c.ct):=(hbz.cell (p:=⟨b,12,none⟩) hbY).trans y12
 clear hbz y11 y12 HC4
 cases sf with
 |false=>
  have HF:=zQr (show R=false by rw[HEQ.out];rfl)
  go_wp2_with fail
  go_ret
  exact⟨zAH HF.out.symm,HBZ.out⟩
 |true=>
 by_cases hc0:0≤c.ct
 case neg=>
  have HF:=zQr (show R=false by rw[HEQ.out,zQ3 (by omega)];rfl)
  go_wp2_with fail
  go_ret
  exact⟨zAH HF.out.symm,HBZ.out⟩
 by_cases hc1:c.ct≤1048576
 case neg=>
  have HF:=zQr (show R=false by rw[HEQ.out,zQ3 (by omega)];rfl)
  go_wp2_with fail
  go_ret
  exact⟨zAH (by rw[HF.out];exact zQ3 (by omega)),HBZ.out⟩
 have HF:=zQr (show R=true by rw[HEQ.out,zQ2 ⟨hc0,hc1⟩];rfl)
 go_wp2_with fail
 go_ret
 exact⟨zAH HF.out.symm,HBZ.out⟩
end
section
open Go.RowKit
theorem zQE {b c d e:Bool} :(!(false&&b&&c&&d&&e))=true:=by cases b<;>rfl
theorem zQf {a c d e:Bool} :(!(a&&false&&c&&d&&e))=true:=by cases a<;>rfl
theorem zP5 {a b d e:Bool} :(!(a&&b&&false&&d&&e))=true:=by cases a<;>cases b<;>rfl
theorem zP4 {a b c e:Bool} :(!(a&&b&&c&&false&&e))=true:=by cases a<;>cases b<;>cases c<;>rfl
theorem zNj {w:World} {l:List Value} {c:Cz} (h:ShV w l c) (hsd: ∀W,Below w.heap.size w W→Calls Tryz.prog 42 #[.agg l.toArray] W fun e w'=>e= .returned (.bool (zDu c.nm c.wr c.tx))∧Below W.heap.size W w'):
  Calls Tryz.prog 13 #[.agg l.toArray] w fun e w'=>e= .returned (.bool c.ok)∧Below w.heap.size w w':=by
 have hnew:=zQ4 w (.cells l.toArray 36)
 have hbl:=(zQs w.heap.size w).alloc (zQt _) (.cells l.toArray 36)
 obtain⟨R,hR⟩: ∃R,c.ok=R:=⟨_,rfl⟩
 rw[hR]
 obtain⟨mn,hmn⟩: ∃x,zFU c.a c.b=x:=⟨_,rfl⟩
 obtain⟨m,hm⟩: ∃x,zFT (zCd c.nm)=x:=⟨_,rfl⟩
 obtain⟨ra,hra⟩: ∃x,zAX c.a=x:=⟨_,rfl⟩
 obtain⟨rb,hrb⟩: ∃x,zAX c.b=x:=⟨_,rfl⟩
 obtain⟨mo,hmo⟩: ∃x,zIc c.nt (zFU c.a c.b) (zCd c.nm)=x:=⟨_,rfl⟩
 obtain⟨ko,hko⟩: ∃x,(!(decide (zFU c.a c.b=1)&&decide (c.a.kind=0)))=x:=⟨_,rfl⟩
 obtain⟨ao,hao⟩: ∃x,decide (0≤c.at_)=x:=⟨_,rfl⟩
 obtain⟨sd,hsq⟩: ∃x,zDu c.nm c.wr c.tx=x:=⟨_,rfl⟩
 obtain⟨ty,hty⟩: ∃x,(c.nm==121||c.tz)=x:=⟨_,rfl⟩
 have HOK:Hid (R=(ra&&rb&&mo&&ko&&ao&&sd&&ty&&(if c.nm=115 then(c.re.isEmpty||(shapedN c.re&&decide (zEf c.fi≤(zBH c.re:Int))))&&zAQ c.fi false&&decide (0≤c.ct∧c.ct≤1048576)
   else c.re.isEmpty&&c.fi.isEmpty&&c.ct==0&& !c.al&& !c.pr&& !c.wr))):=zQr (by rw[←hR,←hra,←hrb,←hmo,←hko,←hao,←hsq,←hty];rfl)
 rw[zGt,hmn,hm]at hmo
 rw[hmn]at hko
 have HMN:=zQr hmn
 have HM:=zQr hm
 have HRA:=zQr hra
 have HRB:=zQr hrb
 have HMO:=zQr hmo.symm
 have HKO:=zQr hko.symm
 have HAO:=zQr hao.symm
 have HTY:=zQr hty.symm
 have HSD:Hid (∀W,Below w.heap.size w W→Calls Tryz.prog 42 #[.agg l.toArray] W fun e w'=>e= .returned (.bool sd)∧Below W.heap.size W w'):=zQr (by rw[←hsq];exact hsd)
 have HV0:=zQr (h.below hbl)
 have HB0:=zQr hbl
 have HH:=zQr hnew
 have HTQ:Hid (∀w,(Op.equalIn 10000 34 (.agg (l.drop 16).toArray) (.agg Tryz.zeroCells34)).run Tryz.prog w= .ok c.tz w):=zQr (zOb fun i hi=>by rw[List.getElem?_toArray,List.getElem?_drop];exact h.tb i hi)
 have HZI:Hid ((Tryz.prog.info? 34).map (·.size)=some (l.drop 16).length):=zQr (by rw[List.length_drop,h.cl.len];kernel_rfl)
 have HCI:Hid ((Tryz.prog.info? 36).map (·.size)=some l.toArray.size):=zQr (by rw[zCe,List.size_toArray,h.cl.len])
 clear h hsd hbl hnew hR hmn hm hra hrb hmo hko hao hsq hty
 go_enter Tryz.func13,Tryz.ntmps13
 go_upto_region 1 with fail
 obtain⟨b,hb⟩: ∃b,w.heap.size=b:=⟨_,rfl⟩
 have HBQ:=zQr hb
 obtain⟨W,hW⟩: ∃W,w.alloc (.cells l.toArray 36)=W:=⟨_,rfl⟩
 rw[hW]at HV0 HB0 HH ⊢
 have hh:=HH.out
 rw[hb]at hh ⊢
 have HR:=zQr hh
 have HBL:=zQr (zQz.1 hh).1
 have HCK:Hid (∀X,Below W.heap.size W X→ ∀k,X.cell? ⟨b,k,none⟩=l[k]?):=zQr fun X hx k=>(hx.cell (p:=⟨b,k,none⟩) HBL.out).trans ((zQ6 _ _ k _ _ (0,0) HR.out).trans (by simp))
 have HHP:Hid (∀X,Below W.heap.size W X→X.heap[b]?=some (.cells l.toArray 36 (0,0))):=zQr fun X hx=>(hx.block b HBL.out).trans HR.out
 have HTB:Hid (∀X,Below W.heap.size W X→X.rangeAt b 16 (l.drop 16)):=zQr fun X hx j v hv=>by rw[HCK.out X hx,←hv,List.getElem?_drop]
 clear hW hb hh HH
 obtain⟨cd,hcd⟩: ∃cd:Cm,cd= { Cm.zero with a:=c.a,b:=c.b } :=⟨_,rfl⟩
 have hca:cd.a=c.a:=by rw[hcd]
 have hcb:cd.b=c.b:=by rw[hcd]
 have HCA:=zQr hca
 have HCB:=zQr hcb
 clear hcd hca hcb
 have HK0:Hid (∀k,W.cell? ⟨b,k,none⟩=l[k]?):=zQr (HCK.out W (zQs _ _))
 have c7:W.cell? ⟨b,7,none⟩=some (.int .u8 (c.nm:Nat)):=(HK0.out 7).trans HV0.out.nm
 have HMC:=zF7 (w:=W) HV0.out.nl
 rw[HM.out]at HMC
 have HMC:=zQr HMC
 go_wp2_with fail
 refine HMC.out.mono ?_;rintro e w1 ⟨rfl,rfl⟩
 clear HMC
 obtain⟨oa,ka,ea,na⟩:=HV0.out.a2
 obtain⟨ob,kb,eb,nb⟩:=HV0.out.b2
 have HNA:=zQr na
 have HNB:=zQr nb
 have c0:W.cell? ⟨b,0,none⟩=some (.int .i8 c.a.kind):=(HK0.out 0).trans HV0.out.a0
 have c1:W.cell? ⟨b,1,none⟩=some (.int .i64 c.a.n):=(HK0.out 1).trans HV0.out.a1
 have c2:W.cell? ⟨b,2,none⟩=some (.slice oa c.a.re.length ka):=(HK0.out 2).trans ea
 have c3:W.cell? ⟨b,3,none⟩=some (.int .i8 c.b.kind):=(HK0.out 3).trans HV0.out.b0
 have c4:W.cell? ⟨b,4,none⟩=some (.int .i64 c.b.n):=(HK0.out 4).trans HV0.out.b1
 have c5:W.cell? ⟨b,5,none⟩=some (.slice ob c.b.re.length kb):=(HK0.out 5).trans eb
 clear ea eb na nb
 go_wp2_with fail
 have hnw:=zQ4 W (.cells #[.int .i8 c.a.kind,.int .i64 c.a.n,.slice oa c.a.re.length ka,.int .i8 c.b.kind,.int .i64 c.b.n,.slice ob c.b.re.length kb] 31)
 have hbw:=(zQs W.heap.size W).alloc (zQt _) (.cells #[.int .i8 c.a.kind,.int .i64 c.a.n,.slice oa c.a.re.length ka,.int .i8 c.b.kind,.int .i64 c.b.n,.slice ob c.b.re.length kb] 31)
 have HAR:Hid (AdR (W.alloc (.cells #[.int .i8 c.a.kind,.int .i64 c.a.n,.slice oa c.a.re.length ka,.int .i8 c.b.kind,.int .i64 c.b.n,.slice ob c.b.re.length kb] 31)) W.heap.size cd):=zQr ⟨by simp,fun k hk=>by
  rcases(show k=0∨k=1 by omega)with rfl|rfl
  ·rw[show adK cd 0=c.a from HCA.out]
   exact⟨(zQ6 _ _ 0 _ _ (0,0) hnw).trans rfl,(zQ6 _ _ 1 _ _ (0,0) hnw).trans rfl,oa,ka,(zQ6 _ _ 2 _ _ (0,0) hnw).trans rfl,HNA.out.below hbw⟩
  ·rw[show adK cd 1=c.b from HCB.out]
   exact⟨(zQ6 _ _ 3 _ _ (0,0) hnw).trans rfl,(zQ6 _ _ 4 _ _ (0,0) hnw).trans rfl,ob,kb,(zQ6 _ _ 5 _ _ (0,0) hnw).trans rfl,HNB.out.below hbw⟩⟩
 have HBW:=zQr hbw
 clear hnw hbw c0 c1 c2 c3 c4 c5 c7 HNA HNB
 obtain⟨sb,hsb⟩: ∃k,W.heap.size=k:=⟨_,rfl⟩
 obtain⟨W2,hW2⟩: ∃X,W.alloc (.cells #[.int .i8 c.a.kind,.int .i64 c.a.n,.slice oa c.a.re.length ka,.int .i8 c.b.kind,.int .i64 c.b.n,.slice ob c.b.re.length kb] 31)=X:=⟨_,rfl⟩
 rw[hW2]at HAR HBW ⊢
 rw[hsb]at HAR ⊢
 clear hW2 hsb
 have HBS:=zQr (show W.heap.size≤W2.heap.size from HBW.out.size)
 go_loopg [4,16] 2 (fun gk mv kv wr=> ∃k:Nat,mv= .int .i64 (zNL cd k:Nat)∧kv= .int .i64 (k:Nat)∧gk=2 - k∧k≤2∧Hid (∀j,j<k→zAX (adK cd j)=true)∧Below W2.heap.size W2 wr)
 case atStart=>exact⟨0,rfl,rfl,rfl,by omega,fun j hj=>by omega,zQs _ _⟩
 case round=>
 obtain⟨k,rfl,rfl,hg,hk,HRT,hbr⟩:=hrel
 have HG:=zQr hg
 have HK:=zQr hk
 have HBR:=zQr hbr
 clear hg hk hbr
 by_cases hk2:k<2
 case pos=>
  have HK2:=zQr hk2
  obtain⟨r0,r1,o,cp,r2,rn⟩:=(HAR.out.below HBR.out).2 k hk2
  have HRN:=zQr rn
  clear rn
  go_upto_region 5 with fail
  have hnr:=zQ4 wr (.cells #[.int .i8 (adK cd k).kind,.int .i64 (adK cd k).n,.slice o (adK cd k).re.length cp] 31)
  have hbr:=(zQs wr.heap.size wr).alloc (zQt _) (.cells #[.int .i8 (adK cd k).kind,.int .i64 (adK cd k).n,.slice o (adK cd k).re.length cp] 31)
  have d0:(wr.alloc (.cells #[.int .i8 (adK cd k).kind,.int .i64 (adK cd k).n,.slice o (adK cd k).re.length cp] 31)).cell? ⟨wr.heap.size,0,none⟩=some (.int .i8 (adK cd k).kind):=(zQ6 _ _ 0 _ _ (0,0) hnr).trans rfl
  have d1:(wr.alloc (.cells #[.int .i8 (adK cd k).kind,.int .i64 (adK cd k).n,.slice o (adK cd k).re.length cp] 31)).cell? ⟨wr.heap.size,1,none⟩=some (.int .i64 (adK cd k).n):=(zQ6 _ _ 1 _ _ (0,0) hnr).trans rfl
  have d2:(wr.alloc (.cells #[.int .i8 (adK cd k).kind,.int .i64 (adK cd k).n,.slice o (adK cd k).re.length cp] 31)).cell? ⟨wr.heap.size,2,none⟩=some (.slice o (adK cd k).re.length cp):=(zQ6 _ _ 2 _ _ (0,0) hnr).trans rfl
  obtain⟨rk,hrk⟩: ∃x,zAX (adK cd k)=x:=⟨_,rfl⟩
  have HRK:=zQr hrk
  have hrc:=zK3 (cap:=cp) (adK cd k).kind (adK cd k).n (HRN.out.below hbr)
  rw[show(⟨(adK cd k).kind,(adK cd k).n,(adK cd k).re⟩:Ad)=adK cd k from rfl,hrk]at hrc
  have HRC:=zQr hrc
  have HB4:=zQr (HBR.out.trans (hbr.mono HBR.out.size))
  have hlt:wr.heap.size<(wr.alloc (.cells #[.int .i8 (adK cd k).kind,.int .i64 (adK cd k).n,.slice o (adK cd k).re.length cp] 31)).heap.size:=by simp
  have HLT:=zQr hlt
  have HCN:=zQr (show zNL cd k≤2 by unfold zNL;split<;>split<;>omega)
  clear hnr hbr hrc hrk r0 r1 r2 hlt
  obtain⟨p6,hp6⟩: ∃p,wr.heap.size=p:=⟨_,rfl⟩
  obtain⟨W4,hW4⟩: ∃X,wr.alloc (.cells #[.int .i8 (adK cd k).kind,.int .i64 (adK cd k).n,.slice o (adK cd k).re.length cp] 31)=X:=⟨_,rfl⟩
  rw[hW4]at d0 d1 d2 HRC HB4 HLT ⊢
  rw[hp6]at d0 d1 d2 HLT ⊢
  clear hp6 hW4
  go_wp2_with fail
  refine HRC.out.mono ?_;rintro e w5 ⟨rfl,hb5⟩
  have e0:w5.cell? ⟨p6,0,none⟩=some (.int .i8 (adK cd k).kind):=(hb5.cell (p:=⟨p6,0,none⟩) HLT.out).trans d0
  have HB5:=zQr (HB4.out.trans (hb5.mono HB4.out.size))
  have hst:=zMx cd hk2
  clear hb5 d0 d1 d2 HRC
  cases rk with
  |false=>
   have HF:=zQr (show R=false by
    rcases(show k=0∨k=1 by have:=HK2.out;omega)with rfl|rfl
    ·rw[HOK.out,←HRA.out,←HCA.out,show zAX cd.a=false from HRK.out];rfl
    ·rw[HOK.out,←HRB.out,←HCB.out,show zAX cd.b=false from HRK.out,Bool.and_false];rfl)
   have HBZ:=zQr (HB0.out.trans ((HBW.out.trans (HB5.out.mono HBS.out)).mono HB0.out.size))
   clear hst
   go_wp2_with fail
   go_ret
   exact⟨zAH HF.out.symm,HBZ.out⟩
  |true=>
  have HRT2:Hid (∀j,j<k+1→zAX (adK cd j)=true):=zQr fun j hj=>by
   by_cases hjk:j<k
   ·exact HRT.out j hjk
   ·obtain rfl:j=k:=by omega
    exact HRK.out
  by_cases hz:(adK cd k).kind=0
  ·rw[hz]at e0
   rw[if_neg (by simp[hz])]at hst
   have HST:=zQr hst
   clear hst hz
   go_wp2_with fail
   go_roundg (2 - (k+1))
   case measure=>have:=HG.out;omega
   case rel=>exact⟨k+1,by rw[HST.out];rfl,congrArg (Value.int .i64) (by omega),rfl,by omega,HRT2,HB5.out⟩
  ·have qz:((adK cd k).kind==0)=false:=zQx.2 hz
   rw[if_pos hz]at hst
   have HST:=zQr hst
   have hcn:zNL cd k≤2:=HCN.out
   clear hst hz
   go_wp2_with fail
   go_roundg (2 - (k+1))
   case measure=>have:=HG.out;omega
   case rel=>exact⟨k+1,by rw[HST.out];exact congrArg (Value.int .i64) (by omega),congrArg (Value.int .i64) (by omega),rfl,by omega,HRT2,HB5.out⟩
 case neg=>
 obtain rfl:k=2:=by have:=HK.out;omega
 have HRA1:=zQr (show ra=true by rw[←HRA.out,←HCA.out];exact HRT.out 0 (by omega))
 have HRB1:=zQr (show rb=true by rw[←HRB.out,←HCB.out];exact HRT.out 1 (by omega))
 have hbt:Below W.heap.size W wr:=HBW.out.trans (HBR.out.mono HBS.out)
 have HBT:=zQr hbt
 rw[zOK,HCA.out,HCB.out,HMN.out]
 obtain⟨t7,ht7⟩: ∃t7,(!(mo&&ko&&ao&&sd&&ty))=t7:=⟨_,rfl⟩
 have HT7:=zQr ht7
 clear ht7 hk2
 rename World=>V
 go_upto_region 10 with fail
 go_cut [70] (fun v wd=>v= .bool t7∧Below V.heap.size V wd)
 case first=>
  have hbV:b<V.heap.size:=zQu HBL.out hbt.size
  have HRW:=zQr (HHP.out V hbt)
  have HSC:=zQr (HSD.out V (HB0.out.trans (hbt.mono HB0.out.size)))
  have c0:V.cell? ⟨b,0,none⟩=some (.int .i8 c.a.kind):=(HCK.out V hbt 0).trans HV0.out.a0
  have c6:V.cell? ⟨b,6,none⟩=some (.bool c.nt):=(HCK.out V hbt 6).trans HV0.out.nt
  have c7:V.cell? ⟨b,7,none⟩=some (.int .u8 (c.nm:Nat)):=(HCK.out V hbt 7).trans HV0.out.nm
  have c8:V.cell? ⟨b,8,none⟩=some (.int .i64 c.at_):=(HCK.out V hbt 8).trans HV0.out.p
  clear hbt
  by_cases h1:m<(mn:Int)
  ·have HF:=zQr (show t7=true by rw[←HT7.out,HMO.out,zQ3 (show¬(mn:Int)≤m by omega)];exact zQE)
   clear HSC
   go_wp2_with fail
   go_meet
   exact⟨by rw[HF.out],zQs _ _⟩
  by_cases hk1:mn=1∧c.a.kind=0
  ·obtain⟨hk1,hk0⟩:=hk1
   have HF:=zQr (show t7=true by rw[←HT7.out,HKO.out,zQ2 hk0,zQ2 hk1];exact zQf)
   have q:(c.a.kind==0)=true:=beq_iff_eq.2 hk0
   have q1:((mn:Int)==1)=true:=by rw[beq_iff_eq];omega
   clear hk0 hk1 HSC
   go_wp2_with fail
   go_meet
   exact⟨by rw[HF.out],zQs _ _⟩
  have HKT:=zQr (show ko=true by rw[HKO.out];exact zJm hk1)
  have key2:(((mn:Int)==1)=true∧(c.a.kind==0)=false)∨((mn:Int)==1)=false:=by
   by_cases h:mn=1
   ·exact .inl ⟨by rw[beq_iff_eq];omega,zQx.2 fun e=>hk1 ⟨h,e⟩⟩
   ·exact .inr (zQx.2 (by omega))
  clear hk1
  rcases key2 with ⟨hk1,hkz⟩|hkz
  ·by_cases hm0:m=0∧c.nt=true
   ·obtain⟨hmz,hnt⟩:=hm0
    have HF:=zQr (show t7=true by rw[←HT7.out,HMO.out,hnt,zQ2 hmz,Bool.and_self,Bool.not_true,Bool.and_false];exact zQE)
    have q:(m==0)=true:=beq_iff_eq.2 hmz
    rw[hnt]at c6
    clear hnt HSC hmz
    go_wp2_with fail
    go_meet
    exact⟨by rw[HF.out],zQs _ _⟩
   have HMT:=zQr (show mo=true by rw[HMO.out];exact zJi h1 hm0)
   have key:((m==0)=true∧c.nt=false)∨(m==0)=false:=by
    by_cases h:m=0
    ·exact .inl ⟨beq_iff_eq.2 h,by
      cases hn:c.nt
      ·rfl
      ·exact absurd ⟨h,hn⟩ hm0⟩
    ·exact .inr (zQx.2 h)
   clear hm0
   rcases key with ⟨hmz,hnt⟩|hmz
   ·rw[hnt]at c6
    clear hnt
    by_cases h3:c.at_<0
    ·have HF:=zQr (show t7=true by rw[←HT7.out,HAO.out,zQ3 (show¬0≤c.at_ by omega)];exact zP5)
     clear HSC
     go_wp2_with fail
     go_meet
     exact⟨by rw[HF.out],zQs _ _⟩
    have HAT:=zQr (show ao=true by rw[HAO.out,zQ2 (show 0≤c.at_ by omega)])
    go_wp2_with (refine zAS rfl 36 _ rfl b rfl 36 l.toArray (0,0) _ HRW.out Tryz.underlying36 rfl HCI.out ?_)
    refine HSC.out.mono ?_;rintro e w3 ⟨rfl,hb3⟩
    have HX3:=zQr hb3
    have d7:w3.cell? ⟨b,7,none⟩=some (.int .u8 (c.nm:Nat)):=(hb3.cell (p:=⟨b,7,none⟩) hbV).trans c7
    have HTW:=zQr (HTB.out w3 (HBT.out.trans (hb3.mono HBT.out.size)))
    clear hb3 c0 c6 c7 c8 HSC
    cases sd with
    |false=>
     have HF:=zQr (show t7=true by rw[←HT7.out];exact zP4)
     go_wp2_with fail
     go_meet
     exact⟨by rw[HF.out],HX3.out⟩
    |true=>
    have HF:=zQr (show t7= !ty by rw[←HT7.out,HMT.out,HKT.out,HAT.out];rfl)
    by_cases n121:c.nm=121
    ·have q:((c.nm:Int) !=121)=false:=by rw[bne_eq_false_iff_eq];omega
     have HF2:=zQr (show ty=true by rw[HTY.out,beq_iff_eq.2 n121];rfl)
     clear n121
     go_wp2_with fail
     go_meet
     exact⟨by rw[HF.out,HF2.out];rfl,HX3.out⟩
    ·have q:((c.nm:Int) !=121)=true:=by rw[bne_iff_ne];omega
     have HF2:=zQr (show ty=c.tz by rw[HTY.out,zQx.2 n121];rfl)
     clear n121
     go_wp2_with (first|refine zAi rfl 34 _ rfl b 16 rfl (l.drop 16) _ HTW.out Tryz.underlying34 rfl HZI.out ?_|refine zB3 rfl _ _ rfl rfl rfl HTQ.out ?_)
     go_meet
     exact⟨by rw[HF.out,HF2.out],HX3.out⟩
   ·by_cases h3:c.at_<0
    ·have HF:=zQr (show t7=true by rw[←HT7.out,HAO.out,zQ3 (show¬0≤c.at_ by omega)];exact zP5)
     clear HSC
     go_wp2_with fail
     go_meet
     exact⟨by rw[HF.out],zQs _ _⟩
    have HAT:=zQr (show ao=true by rw[HAO.out,zQ2 (show 0≤c.at_ by omega)])
    go_wp2_with (refine zAS rfl 36 _ rfl b rfl 36 l.toArray (0,0) _ HRW.out Tryz.underlying36 rfl HCI.out ?_)
    refine HSC.out.mono ?_;rintro e w3 ⟨rfl,hb3⟩
    have HX3:=zQr hb3
    have d7:w3.cell? ⟨b,7,none⟩=some (.int .u8 (c.nm:Nat)):=(hb3.cell (p:=⟨b,7,none⟩) hbV).trans c7
    have HTW:=zQr (HTB.out w3 (HBT.out.trans (hb3.mono HBT.out.size)))
    clear hb3 c0 c6 c7 c8 HSC
    cases sd with
    |false=>
     have HF:=zQr (show t7=true by rw[←HT7.out];exact zP4)
     go_wp2_with fail
     go_meet
     exact⟨by rw[HF.out],HX3.out⟩
    |true=>
    have HF:=zQr (show t7= !ty by rw[←HT7.out,HMT.out,HKT.out,HAT.out];rfl)
    by_cases n121:c.nm=121
    ·have q:((c.nm:Int) !=121)=false:=by rw[bne_eq_false_iff_eq];omega
     have HF2:=zQr (show ty=true by rw[HTY.out,beq_iff_eq.2 n121];rfl)
     clear n121
     go_wp2_with fail
     go_meet
     exact⟨by rw[HF.out,HF2.out];rfl,HX3.out⟩
    ·have q:((c.nm:Int) !=121)=true:=by rw[bne_iff_ne];omega
     have HF2:=zQr (show ty=c.tz by rw[HTY.out,zQx.2 n121];rfl)
     clear n121
     go_wp2_with (first|refine zAi rfl 34 _ rfl b 16 rfl (l.drop 16) _ HTW.out Tryz.underlying34 rfl HZI.out ?_|refine zB3 rfl _ _ rfl rfl rfl HTQ.out ?_)
     go_meet
     exact⟨by rw[HF.out,HF2.out],HX3.out⟩
  ·by_cases hm0:m=0∧c.nt=true
   ·obtain⟨hmz,hnt⟩:=hm0
    have HF:=zQr (show t7=true by rw[←HT7.out,HMO.out,hnt,zQ2 hmz,Bool.and_self,Bool.not_true,Bool.and_false];exact zQE)
    have q:(m==0)=true:=beq_iff_eq.2 hmz
    rw[hnt]at c6
    clear hnt HSC hmz
    go_wp2_with fail
    go_meet
    exact⟨by rw[HF.out],zQs _ _⟩
   have HMT:=zQr (show mo=true by rw[HMO.out];exact zJi h1 hm0)
   have key:((m==0)=true∧c.nt=false)∨(m==0)=false:=by
    by_cases h:m=0
    ·exact .inl ⟨beq_iff_eq.2 h,by
      cases hn:c.nt
      ·rfl
      ·exact absurd ⟨h,hn⟩ hm0⟩
    ·exact .inr (zQx.2 h)
   clear hm0
   rcases key with ⟨hmz,hnt⟩|hmz
   ·rw[hnt]at c6
    clear hnt
    by_cases h3:c.at_<0
    ·have HF:=zQr (show t7=true by rw[←HT7.out,HAO.out,zQ3 (show¬0≤c.at_ by omega)];exact zP5)
     clear HSC
     go_wp2_with fail
     go_meet
     exact⟨by rw[HF.out],zQs _ _⟩
    have HAT:=zQr (show ao=true by rw[HAO.out,zQ2 (show 0≤c.at_ by omega)])
    go_wp2_with (refine zAS rfl 36 _ rfl b rfl 36 l.toArray (0,0) _ HRW.out Tryz.underlying36 rfl HCI.out ?_)
    refine HSC.out.mono ?_;rintro e w3 ⟨rfl,hb3⟩
    have HX3:=zQr hb3
    have d7:w3.cell? ⟨b,7,none⟩=some (.int .u8 (c.nm:Nat)):=(hb3.cell (p:=⟨b,7,none⟩) hbV).trans c7
    have HTW:=zQr (HTB.out w3 (HBT.out.trans (hb3.mono HBT.out.size)))
    clear hb3 c0 c6 c7 c8 HSC
    cases sd with
    |false=>
     have HF:=zQr (show t7=true by rw[←HT7.out];exact zP4)
     go_wp2_with fail
     go_meet
     exact⟨by rw[HF.out],HX3.out⟩
    |true=>
    have HF:=zQr (show t7= !ty by rw[←HT7.out,HMT.out,HKT.out,HAT.out];rfl)
    by_cases n121:c.nm=121
    ·have q:((c.nm:Int) !=121)=false:=by rw[bne_eq_false_iff_eq];omega
     have HF2:=zQr (show ty=true by rw[HTY.out,beq_iff_eq.2 n121];rfl)
     clear n121
     go_wp2_with fail
     go_meet
     exact⟨by rw[HF.out,HF2.out];rfl,HX3.out⟩
    ·have q:((c.nm:Int) !=121)=true:=by rw[bne_iff_ne];omega
     have HF2:=zQr (show ty=c.tz by rw[HTY.out,zQx.2 n121];rfl)
     clear n121
     go_wp2_with (first|refine zAi rfl 34 _ rfl b 16 rfl (l.drop 16) _ HTW.out Tryz.underlying34 rfl HZI.out ?_|refine zB3 rfl _ _ rfl rfl rfl HTQ.out ?_)
     go_meet
     exact⟨by rw[HF.out,HF2.out],HX3.out⟩
   ·by_cases h3:c.at_<0
    ·have HF:=zQr (show t7=true by rw[←HT7.out,HAO.out,zQ3 (show¬0≤c.at_ by omega)];exact zP5)
     clear HSC
     go_wp2_with fail
     go_meet
     exact⟨by rw[HF.out],zQs _ _⟩
    have HAT:=zQr (show ao=true by rw[HAO.out,zQ2 (show 0≤c.at_ by omega)])
    go_wp2_with (refine zAS rfl 36 _ rfl b rfl 36 l.toArray (0,0) _ HRW.out Tryz.underlying36 rfl HCI.out ?_)
    refine HSC.out.mono ?_;rintro e w3 ⟨rfl,hb3⟩
    have HX3:=zQr hb3
    have d7:w3.cell? ⟨b,7,none⟩=some (.int .u8 (c.nm:Nat)):=(hb3.cell (p:=⟨b,7,none⟩) hbV).trans c7
    have HTW:=zQr (HTB.out w3 (HBT.out.trans (hb3.mono HBT.out.size)))
    clear hb3 c0 c6 c7 c8 HSC
    cases sd with
    |false=>
     have HF:=zQr (show t7=true by rw[←HT7.out];exact zP4)
     go_wp2_with fail
     go_meet
     exact⟨by rw[HF.out],HX3.out⟩
    |true=>
    have HF:=zQr (show t7= !ty by rw[←HT7.out,HMT.out,HKT.out,HAT.out];rfl)
    by_cases n121:c.nm=121
    ·have q:((c.nm:Int) !=121)=false:=by rw[bne_eq_false_iff_eq];omega
     have HF2:=zQr (show ty=true by rw[HTY.out,beq_iff_eq.2 n121];rfl)
     clear n121
     go_wp2_with fail
     go_meet
     exact⟨by rw[HF.out,HF2.out];rfl,HX3.out⟩
    ·have q:((c.nm:Int) !=121)=true:=by rw[bne_iff_ne];omega
     have HF2:=zQr (show ty=c.tz by rw[HTY.out,zQx.2 n121];rfl)
     clear n121
     go_wp2_with (first|refine zAi rfl 34 _ rfl b 16 rfl (l.drop 16) _ HTW.out Tryz.underlying34 rfl HZI.out ?_|refine zB3 rfl _ _ rfl rfl rfl HTQ.out ?_)
     go_meet
     exact⟨by rw[HF.out,HF2.out],HX3.out⟩
 case rest=>
 obtain⟨rfl,hxc⟩:=hcut
 have HXX:=zQr (HBT.out.trans (hxc.mono HBT.out.size))
 have HBX:=zQr (HB0.out.trans (HXX.out.mono HB0.out.size))
 clear hxc hbt
 cases t7 with
 |true=>
  have HF:=zQr (show R=false by
   have h7:=HT7.out
   rw[Bool.not_eq_true']at h7
   rw[HOK.out,HRA1.out,HRB1.out,Bool.true_and,Bool.true_and,h7];rfl)
  go_wp2_with fail
  go_ret
  exact⟨zAH HF.out.symm,HBX.out⟩
 |false=>
 have HE:=zQr (show R=(if c.nm=115 then(c.re.isEmpty||(shapedN c.re&&decide (zEf c.fi≤(zBH c.re:Int))))&&zAQ c.fi false&&decide (0≤c.ct∧c.ct≤1048576)
   else c.re.isEmpty&&c.fi.isEmpty&&c.ct==0&& !c.al&& !c.pr&& !c.wr)by
  have h7:=HT7.out
  rw[Bool.not_eq_false']at h7
  rw[HOK.out,HRA1.out,HRB1.out,Bool.true_and,Bool.true_and,h7,Bool.true_and])
 clear HOK
 rename World=>X
 have HVX:=zQr (HV0.out.below HXX.out)
 have hbX:b<X.heap.size:=zQu HBL.out HXX.out.size
 have c7:X.cell? ⟨b,7,none⟩=some (.int .u8 (c.nm:Nat)):=(HCK.out X HXX.out 7).trans HV0.out.nm
 obtain⟨o10,k10,e10,n10⟩:=HVX.out.re
 obtain⟨o11,k11,e11,n11⟩:=HVX.out.fi
 have HN10:=zQr n10
 have HN11:=zQr n11
 have d10:X.cell? ⟨b,10,none⟩=some (.slice o10 c.re.length k10):=(HCK.out X HXX.out 10).trans e10
 have d11:X.cell? ⟨b,11,none⟩=some (.slice o11 c.fi.length k11):=(HCK.out X HXX.out 11).trans e11
 have d12:X.cell? ⟨b,12,none⟩=some (.int .i64 c.ct):=(HCK.out X HXX.out 12).trans HV0.out.ct
 clear e10 e11 n10 n11
 by_cases n115:c.nm=115
 case neg=>
  have HEN:=zQr (show R=(c.re.isEmpty&&c.fi.isEmpty&&c.ct==0&& !c.al&& !c.pr&& !c.wr)by rw[HE.out,if_neg n115])
  have q115:((c.nm:Int) !=115)=true:=by rw[bne_iff_ne];omega
  have d13:X.cell? ⟨b,13,none⟩=some (.bool c.al):=(HCK.out X HXX.out 13).trans HV0.out.al
  have d14:X.cell? ⟨b,14,none⟩=some (.bool c.pr):=(HCK.out X HXX.out 14).trans HV0.out.pr
  have d15:X.cell? ⟨b,15,none⟩=some (.bool c.wr):=(HCK.out X HXX.out 15).trans HV0.out.wr
  clear n115 HE
  by_cases hre:c.re=[]
  case neg=>
   have HF:=zQr (show R=false by rw[HEN.out,List.isEmpty_eq_false_iff.2 hre];rfl)
   have q10:((c.re.length:Int)==0)=false:=zQx.2 (by have:=List.length_pos_iff.2 hre;omega)
   clear hre
   go_wp2_with fail
   go_ret
   exact⟨zAH HF.out.symm,HBX.out⟩
  rw[hre,List.length_nil]at d10
  have HRE:=zQr (show c.re.isEmpty=true by rw[hre];rfl)
  clear hre
  by_cases hfi:c.fi=[]
  case neg=>
   have HF:=zQr (show R=false by rw[HEN.out,List.isEmpty_eq_false_iff.2 hfi,Bool.and_false];rfl)
   have q11:((c.fi.length:Int)==0)=false:=zQx.2 (by have:=List.length_pos_iff.2 hfi;omega)
   clear hfi
   go_wp2_with fail
   go_ret
   exact⟨zAH HF.out.symm,HBX.out⟩
  rw[hfi,List.length_nil]at d11
  have HFI:=zQr (show c.fi.isEmpty=true by rw[hfi];rfl)
  clear hfi
  by_cases hct:c.ct=0
  case neg=>
   have q12:(c.ct==0)=false:=zQx.2 hct
   have HF:=zQr (show R=false by rw[HEN.out,q12,Bool.and_false];rfl)
   clear hct
   go_wp2_with fail
   go_ret
   exact⟨zAH HF.out.symm,HBX.out⟩
  have HCT:=zQr (show(c.ct==0)=true from beq_iff_eq.2 hct)
  rw[hct]at d12
  clear hct
  cases hal:c.al with
  |true=>
   have HF:=zQr (show R=false by rw[HEN.out,hal];simp)
   rw[hal]at d13
   clear hal
   go_wp2_with fail
   go_ret
   exact⟨zAH HF.out.symm,HBX.out⟩
  |false=>
  cases hpr:c.pr with
  |true=>
   have HF:=zQr (show R=false by rw[HEN.out,hpr];simp)
   rw[hal]at d13
   rw[hpr]at d14
   clear hal hpr
   go_wp2_with fail
   go_ret
   exact⟨zAH HF.out.symm,HBX.out⟩
  |false=>
  cases hwr:c.wr with
  |true=>
   have HF:=zQr (show R=false by rw[HEN.out,hwr];simp)
   rw[hal]at d13
   rw[hpr]at d14
   rw[hwr]at d15
   clear hal hpr hwr
   go_wp2_with fail
   go_ret
   exact⟨zAH HF.out.symm,HBX.out⟩
  |false=>
  have HF:=zQr (show R=true by rw[HEN.out,HRE.out,HFI.out,HCT.out,hal,hpr,hwr];rfl)
  rw[hal]at d13
  rw[hpr]at d14
  rw[hwr]at d15
  clear hal hpr hwr
  go_wp2_with fail
  go_ret
  exact⟨zAH HF.out.symm,HBX.out⟩
 have HEN:=zQr (show R=((c.re.isEmpty||(shapedN c.re&&decide (zEf c.fi≤(zBH c.re:Int))))&&zAQ c.fi false&&decide (0≤c.ct∧c.ct≤1048576))by rw[HE.out,if_pos n115])
 have q115:((c.nm:Int) !=115)=false:=by rw[bne_eq_false_iff_eq];omega
 clear n115 HE
 go_upto_region 14 with fail
 by_cases hre:c.re=[]
 ·have HEQ:=zQr (show R=(zAQ c.fi false&&decide (0≤c.ct∧c.ct≤1048576))by rw[HEN.out,hre];rfl)
  rw[hre,List.length_nil]at d10
  clear hre HEN
  refine zAA (X:=none) 19 [([0,1,2,3,4,5,6],7),([8,9,10,11,13,14],12),([],15)] [16,17,18] (by kernel_rfl) (by kernel_rfl) rfl (fun _ _ _ _ _ h=>h) ?_
  simp only[zAK,zAC,zAE,zAD,zAB,List.getD_cons_zero,List.getD_cons_succ,List.drop_succ_cons,List.drop_nil]
  repeat (go_big_quiet_step (fail))
  refine wpQuiet_nil ?_
  go_wp2_with fail
  refine⟨zAJ.refl _,?_⟩
  repeat (go_big_quiet_step (fail))
  refine wpQuiet_nil ?_
  go_wp2_with fail
  refine⟨zAJ.refl _,?_⟩
  repeat (go_big_quiet_step (fail))
  refine wpQuiet_nil ?_
  go_wp2_with fail
  refine⟨zAJ.refl _,?_⟩
  repeat (go_big_quiet_step (fail))
  refine wpQuiet_nil ?_
  have HY:Hid (Below X.heap.size X X.drew):=zQr (zQs _ _).drew
  go_upto_region 16 with fail
  obtain⟨Y,hY⟩: ∃Y,X.drew=Y:=⟨_,rfl⟩
  rw[hY]at HY ⊢
  clear hY
  obtain⟨sf,hsf⟩: ∃x,zAQ c.fi false=x:=⟨_,rfl⟩
  have HC4:=zQr (zFO (ca:=k11) (HN11.out.below HY.out) HV0.out.fl)
  rw[hsf]at HC4 HEQ
  have y11:Y.cell? ⟨b,11,none⟩=some (.slice o11 c.fi.length k11):=(HY.out.cell (p:=⟨b,11,none⟩) hbX).trans d11
  have y12:Y.cell? ⟨b,12,none⟩=some (.int .i64 c.ct):=(HY.out.cell (p:=⟨b,12,none⟩) hbX).trans d12
  have hbY:b<Y.heap.size:=zQu hbX HY.out.size
  clear hsf d10 d11 d12
  go_wp2_with fail
  refine HC4.out.mono ?_;rintro e wz ⟨rfl,hbz⟩
  have HBZ:=zQr (HBX.out.trans ((HY.out.trans (hbz.mono HY.out.size)).mono HBX.out.size))
  have z12:wz.cell? ⟨b,12,none⟩=some (.int .i64 c.ct):=(hbz.cell (p:=⟨b,12,none⟩) hbY).trans y12
  clear hbz y11 y12 HC4
  cases sf with
  |false=>
   have HF:=zQr (show R=false by rw[HEQ.out];rfl)
   go_wp2_with fail
   go_ret
   exact⟨zAH HF.out.symm,HBZ.out⟩
  |true=>
  by_cases hc0:0≤c.ct
  case neg=>
   have HF:=zQr (show R=false by rw[HEQ.out,zQ3 (by omega)];rfl)
   go_wp2_with fail
   go_ret
   exact⟨zAH HF.out.symm,HBZ.out⟩
  by_cases hc1:c.ct≤1048576
  case neg=>
   have HF:=zQr (show R=false by rw[HEQ.out,zQ3 (by omega)];rfl)
   go_wp2_with fail
   go_ret
   exact⟨zAH (by rw[HF.out];exact zQ3 (by omega)),HBZ.out⟩
  have HF:=zQr (show R=true by rw[HEQ.out,zQ2 ⟨hc0,hc1⟩];rfl)
  go_wp2_with fail
  go_ret
  exact⟨zAH HF.out.symm,HBZ.out⟩
 have q10:0<c.re.length:=List.length_pos_iff.2 hre
 have HRE:=zQr (List.isEmpty_eq_false_iff.2 hre)
 obtain⟨sh,hsh⟩: ∃x,shapedN c.re=x:=⟨_,rfl⟩
 have HSN:=zQr hsh
 have HC1:=zQr (zEC (cap:=k10) (HN10.out.below (w':=X.drew) (zQs _ _).drew))
 rw[hsh]at HC1
 clear hre hsh
 refine zAA (X:=none) 19 [([0,1,2,3,4,5,6],7),([8,9,10,11,13,14],12),([],15)] [16,17,18] (by kernel_rfl) (by kernel_rfl) rfl (fun _ _ _ _ _ h=>h) ?_
 simp only[zAK,zAC,zAE,zAD,zAB,List.getD_cons_zero,List.getD_cons_succ,List.drop_succ_cons,List.drop_nil]
 repeat (go_big_quiet_step (fail))
 refine wpQuiet_nil ?_
 go_wp2_with fail
 refine HC1.out.mono ?_;rintro e w7 ⟨rfl,hb7⟩
 have HX7:Hid (Below X.heap.size X w7):=zQr ((zQs X.heap.size X).drew.trans hb7)
 have HK7:=zQr (zAJ.of_below (X:=none) hb7)
 clear hb7 HC1
 cases sh with
 |false=>
  have HF:=zQr (show R=false by rw[HEN.out,HRE.out,HSN.out];rfl)
  have HBZ:=zQr (HBX.out.trans (HX7.out.mono HBX.out.size))
  go_wp2_with fail
  refine⟨HK7.out,?_⟩
  repeat (go_big_quiet_step (fail))
  refine wpQuiet_nil ?_
  go_wp2_with fail
  refine⟨zAJ.refl _,?_⟩
  repeat (go_big_quiet_step (fail))
  refine wpQuiet_nil ?_
  go_wp2_with fail
  refine⟨zAJ.refl _,?_⟩
  repeat (go_big_quiet_step (fail))
  refine wpQuiet_nil ?_
  go_wp2_with fail
  go_ret
  exact⟨zAH HF.out.symm,HBZ.out⟩
 |true=>
 have z11:w7.cell? ⟨b,11,none⟩=some (.slice o11 c.fi.length k11):=(HX7.out.cell (p:=⟨b,11,none⟩) hbX).trans d11
 have z10:w7.cell? ⟨b,10,none⟩=some (.slice o10 c.re.length k10):=(HX7.out.cell (p:=⟨b,10,none⟩) hbX).trans d10
 have hb7l:b<w7.heap.size:=zQu hbX HX7.out.size
 have HC2:=zG7 (ca:=k11) (HN11.out.below HX7.out).pk (by rw[List.length_map];exact HV0.out.fl)
 rw[List.length_map,←zHb]at HC2
 have HC2:=zQr HC2
 go_wp2_with fail
 refine⟨HK7.out,?_⟩
 repeat (go_big_quiet_step (fail))
 refine wpQuiet_nil ?_
 go_wp2_with fail
 refine HC2.out.mono ?_;rintro e w8 ⟨rfl,hb8⟩
 have HX8:=zQr (HX7.out.trans (hb8.mono HX7.out.size))
 have HK8:=zQr (zAJ.of_below (X:=none) hb8)
 have HC3:=zQr (zGF (cap:=k10) (HN10.out.below HX8.out))
 clear hb8 HC2 z11 z10 hb7l
 go_wp2_with fail
 refine⟨HK8.out,?_⟩
 repeat (go_big_quiet_step (fail))
 refine wpQuiet_nil ?_
 go_wp2_with fail
 refine HC3.out.mono ?_;rintro e w9 ⟨rfl,hb9⟩
 have HX9:=zQr (HX8.out.trans (hb9.mono HX8.out.size))
 have HK9:=zQr (zAJ.of_below (X:=none) hb9)
 clear hb9 HC3
 obtain⟨mp,hmp⟩: ∃x,zEf c.fi=x:=⟨_,rfl⟩
 obtain⟨gr,hgr⟩: ∃x,zBH c.re=x:=⟨_,rfl⟩
 rw[hmp,hgr]at HEN
 rw[hmp,hgr]
 clear hmp hgr
 by_cases hgm:(gr:Int)<mp
 ·have HF:=zQr (show R=false by rw[HEN.out,HRE.out,HSN.out,zQ3 (show¬mp≤(gr:Int)by omega)];rfl)
  have HBZ:=zQr (HBX.out.trans (HX9.out.mono HBX.out.size))
  go_wp2_with fail
  refine⟨HK9.out,?_⟩
  repeat (go_big_quiet_step (fail))
  refine wpQuiet_nil ?_
  go_wp2_with fail
  go_ret
  exact⟨zAH HF.out.symm,HBZ.out⟩
 have HEQ:=zQr (show R=(zAQ c.fi false&&decide (0≤c.ct∧c.ct≤1048576))by rw[HEN.out,HRE.out,HSN.out,zQ2 (show mp≤(gr:Int)by omega)];rfl)
 go_wp2_with fail
 refine⟨HK9.out,?_⟩
 repeat (go_big_quiet_step (fail))
 refine wpQuiet_nil ?_
 go_upto_region 16 with fail
 have HY:=HX9
 obtain⟨Y,hY⟩: ∃Y,w9=Y:=⟨_,rfl⟩
 rw[hY]at HY ⊢
 clear hY
 obtain⟨sf,hsf⟩: ∃x,zAQ c.fi false=x:=⟨_,rfl⟩
 have HC4:=zQr (zFO (ca:=k11) (HN11.out.below HY.out) HV0.out.fl)
 rw[hsf]at HC4 HEQ
 have y11:Y.cell? ⟨b,11,none⟩=some (.slice o11 c.fi.length k11):=(HY.out.cell (p:=⟨b,11,none⟩) hbX).trans d11
 have y12:Y.cell? ⟨b,12,none⟩=some (.int .i64 c.ct):=(HY.out.cell (p:=⟨b,12,none⟩) hbX).trans d12
 have hbY:b<Y.heap.size:=zQu hbX HY.out.size
 clear hsf d10 d11 d12
 go_wp2_with fail
 refine HC4.out.mono ?_;rintro e wz ⟨rfl,hbz⟩
 have HBZ:=zQr (HBX.out.trans ((HY.out.trans (hbz.mono HY.out.size)).mono HBX.out.size))
 have z12:wz.cell? ⟨b,12,none⟩=some (.int .i64 c.ct):=(hbz.cell (p:=⟨b,12,none⟩) hbY).trans y12
 clear hbz y11 y12 HC4
 cases sf with
 |false=>
  have HF:=zQr (show R=false by rw[HEQ.out];rfl)
  go_wp2_with fail
  go_ret
  exact⟨zAH HF.out.symm,HBZ.out⟩
 |true=>
 by_cases hc0:0≤c.ct
 case neg=>
  have HF:=zQr (show R=false by rw[HEQ.out,zQ3 (by omega)];rfl)
  go_wp2_with fail
  go_ret
  exact⟨zAH HF.out.symm,HBZ.out⟩
 by_cases hc1:c.ct≤1048576
 case neg=>
  have HF:=zQr (show R=false by rw[HEQ.out,zQ3 (by omega)];rfl)
  go_wp2_with fail
  go_ret
  exact⟨zAH (by rw[HF.out];exact zQ3 (by omega)),HBZ.out⟩
 have HF:=zQr (show R=true by rw[HEQ.out,zQ2 ⟨hc0,hc1⟩];rfl)
 go_wp2_with fail
 go_ret
 exact⟨zAH HF.out.symm,HBZ.out⟩
end
end Go.Proofs.YtmaagpbjahjmhaaGreatDoor
