/- Parts: Yr Yt Yw Yx Zd. -/
import Derived.Test.YtmaagpbjahjmhaaGreatDoorQ40
import Derived.Test.YtmaagpbjahjmhaaGreatDoorQ41
import Derived.Test.YtmaagpbjahjmhaaGreatDoorQ43
import Derived.Test.YtmaagpbjahjmhaaGreatDoorQ44
import Derived.Test.YtmaagpbjahjmhaaGreatDoorQ14
import Derived.Test.YtmaagpbjahjmhaaGreatDoorQ37
import Derived.Test.YtmaagpbjahjmhaaGreatDoorQ38
import Derived.Test.YtmaagpbjahjmhaaGreatDoorQ28
import Derived.Test.YtmaagpbjahjmhaaGreatDoorQ36
import Derived.Test.YtmaagpbjahjmhaaGreatDoorQ46
import Derived.Deep.MidRow
import Derived.Laws.CopyOwn
set_option maxHeartbeats 12800000
set_option maxRecDepth 100000
namespace Go.Proofs.YtmaagpbjahjmhaaGreatDoor
section
open Go.RowKit Go.Shelf
theorem Nos.mono {w:World} {base base':Nat} {v:Value} {re:List Nd} (h:Nos w base v re) (hb:base'≤base):Nos w base' v re:=by
 obtain⟨o,c,rfl,h1⟩:=h
 exact⟨o,c,rfl,zAT h1 hb⟩
theorem CmM.mono {w:World} {base base':Nat} {l:List Value} {c:Cm} (h:CmM w base l c) (hb:base'≤base):CmM w base' l c:=
 {h with a:=⟨h.a.1,h.a.2.1,h.a.2.2.imp fun _ e=>⟨e.1,e.2.mono hb⟩⟩,b:=⟨h.b.1,h.b.2.1,h.b.2.2.imp fun _ e=>⟨e.1,e.2.mono hb⟩⟩,tx:=h.tx.imp fun _ e=>⟨e.1,e.2.mono hb⟩,re:=h.re.imp fun _ e=>⟨e.1,e.2.mono hb⟩,fi:=h.fi.imp fun _ e=>⟨e.1,e.2.mono hb⟩ }
theorem Cms.mono {w:World} {base base':Nat} {v:Value} {L:List Cm} (h:Cms w base v L) (hb:base'≤base):Cms w base' v L:=by
 obtain⟨o,c,ls,rfl,h1,h2,h3,h4⟩:=h
 exact⟨o,c,ls,rfl,h1,zAT h2 hb,h3,fun i l c hl hc=>(h4 i l c hl hc).mono hb⟩
@[reducible] def noP (Q:Exit→Act→World→Prop):Exit→Act→World→Prop:=fun e a w=>match e with
 | .panic _=>False
 |e=>Q e a w
theorem zPJ {Q:Exit→Act→World→Prop} (e:Exit) (a:Act) (w:World) (h:noP Q e a w):Q e a w:=by
 cases e<;>first|exact h|exact h.elim
def PaR (base:Nat) (T:List Nat) (r:Rd (List Cm)) (e:Ending) (w':World):Prop:=
 match r with
 | .error p=>e= .returned (.tuple #[.slice none 0 0,.bool false,.int .i64 (p.1:Nat),.int .i64 (p.2:Nat)])
 | .ok L=> ∃v,e= .returned (.tuple #[v,.bool (zBh T),.int .i64 0,.int .i64 0])∧Cms w' base v L
theorem zEi {tmps:Array Value} {W:World} {b:Nat} {oa:Option Addr} {n cp:Nat} {q:Bool} {e i:Int} (t4:tmps.getD 4 undef= .pointer (some ⟨b,0,none⟩)) (t5:tmps.getD 5 undef= .pointer (some ⟨b+1,0,none⟩)) (t6:tmps.getD 6 undef= .pointer (some ⟨b+1+1,0,none⟩)) (t7:tmps.getD 7 undef= .pointer (some ⟨b+1+1+1,0,none⟩))
  (h:V4 W b (.slice oa n cp) (.bool q) (.int .i64 e) (.int .i64 i)):
  (results Tryz.f8 tmps).run Tryz.prog W= .ok (.tuple #[.slice oa n cp,.bool q,.int .i64 e,.int .i64 i]) W:=by
 simp only[Array.getD_eq_getD_getElem?]at t4 t5 t6 t7
 have c4:=h.c4
 have c5:=h.c5
 have c6:=h.c6
 have c7:=h.c7
 simp[results,Tryz.results8,go_sem,t4,t5,t6,t7,c4,c5,c6,c7]
theorem V4.new (w:World) (x y z u:Value):V4 ((((w.alloc (.cells #[x] 24)).alloc (.cells #[y] 4)).alloc (.cells #[z] 25)).alloc (.cells #[u] 3)) w.heap.size x y z u∧Below w.heap.size w ((((w.alloc (.cells #[x] 24)).alloc (.cells #[y] 4)).alloc (.cells #[z] 25)).alloc (.cells #[u] 3)):=by
 have s1:(w.alloc (.cells #[x] 24)).heap.size=w.heap.size+1:=by simp
 have s2:((w.alloc (.cells #[x] 24)).alloc (.cells #[y] 4)).heap.size=w.heap.size+1+1:=by simp
 have s3:(((w.alloc (.cells #[x] 24)).alloc (.cells #[y] 4)).alloc (.cells #[z] 25)).heap.size=w.heap.size+1+1+1:=by simp
 have h4:((((w.alloc (.cells #[x] 24)).alloc (.cells #[y] 4)).alloc (.cells #[z] 25)).alloc (.cells #[u] 3)).heap[w.heap.size]?=some (.cells #[x] 24 (0,0)):=
  (zQy _ _ (by omega)).trans ((zQy _ _ (by omega)).trans ((zQy _ _ (by omega)).trans (zQx _ _)))
 have h5:((((w.alloc (.cells #[x] 24)).alloc (.cells #[y] 4)).alloc (.cells #[z] 25)).alloc (.cells #[u] 3)).heap[w.heap.size+1]?=some (.cells #[y] 4 (0,0)):=
  (zQy _ _ (by omega)).trans ((zQy _ _ (by omega)).trans (by rw[←s1];exact zQx _ _))
 have h6:((((w.alloc (.cells #[x] 24)).alloc (.cells #[y] 4)).alloc (.cells #[z] 25)).alloc (.cells #[u] 3)).heap[w.heap.size+1+1]?=some (.cells #[z] 25 (0,0)):=
  (zQy _ _ (by omega)).trans (by rw[←s2];exact zQx _ _)
 have h7:((((w.alloc (.cells #[x] 24)).alloc (.cells #[y] 4)).alloc (.cells #[z] 25)).alloc (.cells #[u] 3)).heap[w.heap.size+1+1+1]?=some (.cells #[u] 3 (0,0)):=by
  rw[←s3];exact zQx _ _
 exact⟨⟨(zQz _ _ 0 _ _ (0,0) h4).trans rfl,(zQz _ _ 0 _ _ (0,0) h5).trans rfl,(zQz _ _ 0 _ _ (0,0) h6).trans rfl,(zQz _ _ 0 _ _ (0,0) h7).trans rfl,frozen_of_row _ _ _ _ _ h4,frozen_of_row _ _ _ _ _ h5,frozen_of_row _ _ _ _ _ h6,frozen_of_row _ _ _ _ _ h7⟩,
  ((((zQl _ _).alloc (zQm _) _).alloc (by omega) _).alloc (by omega) _).alloc (by omega) _⟩
def O4 (w:World) (b:Nat):Prop:= ∀k,b≤k→k≤b+1+1+1→ ∃cs e,w.heap[k]?=some (.cells cs e (0,0))∧e≠83
theorem O4.new (w:World) (x y z u:Value):O4 ((((w.alloc (.cells #[x] 24)).alloc (.cells #[y] 4)).alloc (.cells #[z] 25)).alloc (.cells #[u] 3)) w.heap.size:=fun k h1 h2=>by
 have s1:(w.alloc (.cells #[x] 24)).heap.size=w.heap.size+1:=by simp
 have s2:((w.alloc (.cells #[x] 24)).alloc (.cells #[y] 4)).heap.size=w.heap.size+1+1:=by simp
 have s3:(((w.alloc (.cells #[x] 24)).alloc (.cells #[y] 4)).alloc (.cells #[z] 25)).heap.size=w.heap.size+1+1+1:=by simp
 rcases(show k=w.heap.size∨k=w.heap.size+1∨k=w.heap.size+1+1∨k=w.heap.size+1+1+1 by omega)with rfl|rfl|rfl|rfl
 ·exact⟨_,_,(zQy _ _ (by omega)).trans ((zQy _ _ (by omega)).trans ((zQy _ _ (by omega)).trans (zQx _ _))),by decide⟩
 ·exact⟨_,_,(zQy _ _ (by omega)).trans ((zQy _ _ (by omega)).trans (by rw[←s1];exact zQx _ _)),by decide⟩
 ·exact⟨_,_,(zQy _ _ (by omega)).trans (by rw[←s2];exact zQx _ _),by decide⟩
 ·exact⟨_,_,(by rw[←s3];exact zQx _ _),by decide⟩
theorem O4.keep {w w':World} {b:Nat} (h:O4 w b) (hb: ∀k,b≤k→k≤b+1+1+1→w'.heap[k]?=w.heap[k]?):O4 w' b:=fun k h1 h2=>by
 obtain⟨cs,e,h3,h4⟩:=h k h1 h2
 exact⟨cs,e,(hb k h1 h2).trans h3,h4⟩
theorem O4.store {w:World} {b:Nat} (h:O4 w b) (c o:Nat) (v:Value):O4 (w.setCell ⟨c,o,none⟩ v) b:=fun k h1 h2=>by
 obtain⟨cs,e,h3,h4⟩:=h k h1 h2
 by_cases hk:k=c
 ·subst hk
  exact⟨cs.setIfInBounds o v,e,(by simp only[World.setCell,Array.getElem?_modify,h3,if_true,Option.map_some];rfl),h4⟩
 ·exact⟨cs,e,(zQu _ _ _ _ hk).trans h3,h4⟩
theorem O4.off {w:World} {b fb:Nat} {cs:Array Value} (h:O4 w b) (hf:w.heap[fb]?=some (.cells cs 83 (0,0))):fb≠b∧fb≠b+1∧fb≠b+1+1∧fb≠b+1+1+1:=by
 have key: ∀k,b≤k→k≤b+1+1+1→fb≠k:=fun k h1 h2 e=>by
  subst e
  obtain⟨cs2,e2,h3,h4⟩:=h fb h1 h2
  rw[hf]at h3
  cases h3
  exact h4 rfl
 exact⟨key _ (by omega) (by omega),key _ (by omega) (by omega),key _ (by omega) (by omega),key _ (by omega) (by omega)⟩
structure PrS (E:PE) (w:World) (b base mb i:Nat) (l:List Value) (L:List Cm) (o:Option Addr) (cp:Nat):Prop where
 v:V4 w b (.slice o L.length cp) (.bool false) (.int .i64 0) (.int .i64 0)
 o4:O4 w b
 r:RS E w i l
 m:MpS w mb nmL
 c:Cms w base (.slice o L.length cp) L
 bb:b+1+1+1<E.wb∧b+1+1+1<E.cb
 mm:E.wb<mb∧E.cb<mb∧mb<base
 bs:base≤w.heap.size
 tb:E.rb<base∧(0<E.T.length→ ∀g,E.oa=some ⟨g,0,none⟩→g<base∧g≠b)
 gb:4<b∧E.x.block<b∧E.y.block<b∧b<E.rb
section
variable {E:PE} {w w':World} {b base mb i j:Nat} {l l':List Value} {L:List Cm} {o:Option Addr} {cp:Nat}
theorem PrS.hS (h:PrS E w b base mb i l L o cp): ∀k,base≤k→ ¬E.W k:=fun k hk e=>by
 have:=h.mm
 rcases e with e|e<;>omega
theorem PrS.kept (h:PrS E w b base mb i l L o cp) (k:zAQ w w' E.W) (hr:RS E w' j l'):PrS E w' b base mb j l' L o cp where
 v:=h.v.keep fun n h1 h2=>k.block n (by have:=h.v.lt;omega) fun e=>by
  have:=h.bb
  rcases e with e|e<;>omega
 o4:=h.o4.keep fun n h1 h2=>k.block n (by have:=h.v.lt;omega) fun e=>by
  have:=h.bb
  rcases e with e|e<;>omega
 r:=hr
 m:=h.m.block (k.block mb (by have:=h.mm;have:=h.bs;omega) fun e=>by
  have:=h.mm
  rcases e with e|e<;>omega)
 c:=h.c.kept k h.hS
 bb:=h.bb
 mm:=h.mm
 bs:=zQ7 h.bs k.size
 tb:=h.tb
 gb:=h.gb
theorem RS.low (h:RS E w i l) (hb:Below base w w') (h1:E.rb<base∧E.wb<base∧E.cb<base) (ht:0<E.T.length→ ∀g,E.oa=some ⟨g,0,none⟩→g<base):RS E w' i l:=
 {h with
  v:=h.v.block (hb.block _ h1.2.1) (fun hp g hg _=>hb.block g (ht hp g hg)) hb.size
  r:=(hb.block _ h1.1).trans h.r
  c:=(hb.block _ h1.2.2).trans h.c
  g:=by
   obtain⟨n,h4,hx,hy,hw,hc⟩:=h.lo
   exact h.g.kept (S:=fun k=>base≤k) ⟨hb.os,hb.tape,hb.output,hb.size,fun k _ hk=>hb.block k (by omega)⟩ h4 hx hy fun k hk e=>by omega }
theorem PrS.more (h:PrS E w b base mb i l L o cp) {c:Cm} {o6:Option Addr} {c6:Nat} {w6:World} (hb:Below base w w6) (hc:Cms w6 base (.slice o6 (L++[c]).length c6) (L++[c])):
  PrS E (w6.setCell ⟨b,0,none⟩ (.slice o6 (L++[c]).length c6)) b base mb i l (L++[c]) o6 c6:=by
 have h1:=h.mm
 have h2:=h.bb
 have h3:=h.tb
 have h4:=h.gb
 have hlow:=h.r.low hb ⟨h3.1,by omega,by omega⟩ fun hp g hg=>(h3.2 hp g hg).1
 exact {
  v:=(h.v.keep fun k _ hk=>hb.block k (by omega)).set0 _
  o4:=(h.o4.keep fun k _ hk=>hb.block k (by omega)).store b 0 _
  r:= { hlow with
   v:=hlow.v.store (by omega) (fun hp g hg=>(h3.2 hp g hg).2) 0 _
   r:=(zQu _ _ _ _ (by show E.rb≠b;omega)).trans hlow.r
   c:=(zQu _ _ _ _ (by show E.cb≠b;omega)).trans hlow.c
   g:=hlow.g.kept (zAQ.setCell w6 ⟨b,0,none⟩ (.slice o6 (L++[c]).length c6)) h4.1 h4.2.1 h4.2.2.1 fun k hk e=>by have e':k=b:=e;omega }
  m:=(h.m.block (hb.block mb (by omega))).block (zQu _ _ _ _ (by show mb≠b;omega))
  c:=hc.kept (zAQ.setCell w6 ⟨b,0,none⟩ (.slice o6 (L++[c]).length c6)) fun k hk e=>by have e':k=b:=e;omega
  bb:=h2
  mm:=h1
  bs:=by have:=h.bs;have:=hb.size;simpa [World.setCell]using zQ7 h.bs hb.size
  tb:=h3
  gb:=h4 }
theorem PrS.leave (h:PrS E w b base mb i l L o cp) {e:Ending} {p:Nat × Nat} (hr:Res E w (.error p) l' e w'): ∃(fb:Nat) (a:Int) (z:Addr) (j:Nat) (l2:List Value),e= .panicked [{ v:= .iface 78 (.pointer (some ⟨fb,0,none⟩)),recovered:=false }]∧
  w'.heap[fb]?=some (.cells #[.int .i64 p.1,.int .i64 a,.iface 324 (.pointer (some z))] 83 (0,0))∧((z=E.x∧l2[8]?=some (.int .i64 p.2))∨(z=E.y∧a=p.2))∧PrS E w' b base mb j l2 L o cp:=by
 obtain⟨k,l2,j,⟨fb,a,z,rfl,h1,h2⟩,h3⟩:=hr
 exact⟨fb,a,z,j,l2,rfl,h1,h2,h.kept k h3⟩
end
section
variable {w:World} {ere:Bool} {oa:Option Addr} {T:List Nat} {cap:Nat} {x y:Addr}
theorem zJY (hT:65536<T.length):
  Calls Tryz.prog 8 #[.slice oa T.length cap,.bool ere] w fun e w'=>PaR w.heap.size T (zCB ere T) e w'∧Below w.heap.size w w':=by
 have hL':(65536:Int)<(T.length:Int):=by omega
 have HP:Hid (zCB ere T= .error (2,65536)):=by rw[Hid,zCB,if_pos hT]
 clear hT
 go_enter_defers Tryz.func8,Tryz.ntmps8
 go_wp2_with fail
 have hv:=V4.new w (.slice none 0 0) (.bool false) (.int .i64 2) (.int .i64 65536)
 exact⟨_,zEi rfl rfl rfl rfl hv.1,by rw[HP.out];rfl,hv.2⟩
theorem zIF (hT:T.length≤65536) (h:zDa w oa T) (hu: ∀b∈T,b<256) (hcap:T.length≤cap) (hnil:oa=none→cap=0) (hs: ∀g o s,oa≠some ⟨g,o,some s⟩) (G:Gl w x y) (hx:x.block<w.heap.size) (hy:y.block<w.heap.size) (h4:4<w.heap.size):
  Calls Tryz.prog 8 #[.slice oa T.length cap,.bool ere] w fun e w'=>PaR w.heap.size T (zCB ere T) e w'∧Below w.heap.size w w':=by
 have hmf: ∀(fn:Fn) (first cap:Array Value) (w:World),(Instr.makeFunc fn first cap).run Tryz.prog w= .ok (.func fn first cap) w:=fun _ _ _ _=>rfl
 have hL': ¬(65536:Int)<(T.length:Int):=by omega
 obtain⟨R,hR⟩: ∃R,zCB ere T=R:=⟨_,rfl⟩
 rw[hR]
 rw[zD6 hT]at hR
 have HR:=zQk hR
 have HTX:=zQk h
 have HU:=zQk hu
 have HCP:=zQk hcap
 have HNI:=zQk hnil
 have HSP:=zQk hs
 have HGL:=zQk G
 have HXB:=zQk hx
 have HYB:=zQk hy
 have H4:=zQk h4
 have HTL:=zQk hT
 have huT: ∀j,T.getD j 0<256:=fun j=>by
  by_cases hj:j<T.length
  ·rw[zQt,zQ1 hj];exact hu _ (List.getElem_mem hj)
  ·rw[zQt,zRK (by omega)];decide
 have HUT:=zQk huT
 clear h hu hcap hnil hs G hx hy h4 hT hR huT
 go_enter_defers Tryz.func8,Tryz.ntmps8
 go_wp2_with fail
 have hv:=V4.new w (.slice none 0 0) (.bool false) (.int .i64 0) (.int .i64 0)
 have ho:=O4.new w (.slice none 0 0) (.bool false) (.int .i64 0) (.int .i64 0)
 revert hv ho
 generalize (((w.alloc (.cells #[.slice none 0 0] 24)).alloc (.cells #[.bool false] 4)).alloc (.cells #[.int .i64 0] 25)).alloc (.cells #[.int .i64 0] 3)=W3
 intro hv ho
 obtain⟨b,hb⟩: ∃b,w.heap.size=b:=⟨_,rfl⟩
 have HBQ:=zQk hb
 have HV3:=zQk hv.1
 have HB3:=zQk hv.2
 rw[hb]at HV3 ho
 rw[hb]
 clear hv hb
 refine(zLx (HTX.out.below HB3.out) (by have:=HTL.out;omega) HSP.out HUT.out).mono ?_
 rintro e W4 ⟨wb,ob,cb,rfl,hwb,hv4,hb4⟩
 have HWB:=zQk hwb
 have HW4:=zQk hv4
 have HB4:=zQk hb4
 clear hwb hv4 hb4
 have HO3:=zQk ho
 clear ho
 have hsz3:b+1+1+1<W3.heap.size:=HV3.out.lt
 have hz4:=HB4.out.size
 have hwl:=HW4.out.lt
 have hr5:((W4.alloc (.cells #[.pointer (some ⟨wb,0,none⟩),.bool ere] 77)).alloc (.cells Tryz.zeroCells36 36)).heap[W4.heap.size]?=some (.cells #[.pointer (some ⟨wb,0,none⟩),.bool ere] 77 (0,0)):=
  (zQy _ _ (by simp)).trans (zQx _ _)
 have hc5:((W4.alloc (.cells #[.pointer (some ⟨wb,0,none⟩),.bool ere] 77)).alloc (.cells Tryz.zeroCells36 36)).heap[W4.heap.size+1]?=some (.cells Tryz.zeroCells36 36 (0,0)):=by
  have:=zQx (W4.alloc (.cells #[.pointer (some ⟨wb,0,none⟩),.bool ere] 77)) (.cells Tryz.zeroCells36 36)
  rw[show(W4.alloc (.cells #[.pointer (some ⟨wb,0,none⟩),.bool ere] 77)).heap.size=W4.heap.size+1 by simp]at this
  exact this
 have hb5:=((zQl W4.heap.size W4).alloc (zQm _) (.cells #[.pointer (some ⟨wb,0,none⟩),.bool ere] 77)).alloc (by simp) (.cells Tryz.zeroCells36 36)
 have hn5:((W4.alloc (.cells #[.pointer (some ⟨wb,0,none⟩),.bool ere] 77)).alloc (.cells Tryz.zeroCells36 36)).heap.size=W4.heap.size+1+1:=by simp
 have HRB:=zQk hr5
 have HCB:=zQk hc5
 have HB5:=zQk hb5
 have HN5:=zQk hn5
 clear hr5 hc5 hb5 hn5 hsz3 hz4 hwl
 go_upto_region 6 with fail
 obtain⟨W5,hW5⟩: ∃W,(W4.alloc (.cells #[.pointer (some ⟨wb,0,none⟩),.bool ere] 77)).alloc (.cells Tryz.zeroCells36 36)=W:=⟨_,rfl⟩
 rw[hW5]at HRB HCB HB5 HN5 ⊢
 clear hW5
 have HS4:=zQk (show b+1+1+1<wb∧wb<W4.heap.size∧w.heap.size≤wb from⟨zQn HV3.out.lt HWB.out,HW4.out.lt,zQ7 HB3.out.size HWB.out⟩)
 have HRS:Hid (RS ⟨W4.heap.size,wb,W4.heap.size+1,ere,ob,cb,T,x,y⟩ W5 0 Tryz.zeroCells36.toList):=zQk {
  v:=HW4.out.below HB5.out
  r:=HRB.out
  c:=by rw[Array.toArray_toList];exact HCB.out
  cl:=zFb.zero
  g:=HGL.out.kept (S:=fun _=>False) (zAQ.bel (HB3.out.trans ((HB4.out.mono HB3.out.size).trans (HB5.out.mono (zQ7 HB3.out.size HB4.out.size))))) H4.out HXB.out HYB.out fun _ _ e=>e
  wr:=by show wb≠W4.heap.size;have:=HS4.out;omega
  wc:=by show wb≠W4.heap.size+1;have:=HS4.out;omega
  rc:=by show W4.heap.size≠W4.heap.size+1;omega
  tc:=fun hp g hg=>by
   obtain⟨g2,h1,_,h3,_⟩:=HW4.out.tx hp
   have hg':ob=some ⟨g,0,none⟩:=hg
   rw[h1]at hg'
   cases hg'
   show _≠W4.heap.size+1
   omega
  lo:=⟨w.heap.size,H4.out,HXB.out,HYB.out,HS4.out.2.2,by show w.heap.size≤W4.heap.size+1;have:=HS4.out;omega⟩ }
 obtain⟨E,hE⟩: ∃E:PE,(⟨W4.heap.size,wb,W4.heap.size+1,ere,ob,cb,T,x,y⟩:PE)=E:=⟨_,rfl⟩
 have e1:W4.heap.size=E.rb:=by rw[←hE]
 have e2:W4.heap.size+1=E.cb:=by rw[←hE]
 have e3:wb=E.wb:=by rw[←hE]
 have e4:E.T=T:=by rw[←hE]
 have e5:E.ere=ere:=by rw[←hE]
 have e6:E.x=x:=by rw[←hE]
 have e7:E.y=y:=by rw[←hE]
 have HEO:=zQk (show E.oa=ob by rw[←hE])
 rw[hE]at HRS
 rw[e2,e1]
 have HE3:=zQk e3
 have HE4:=zQk e4
 have HE5:=zQk e5
 have HE6:=zQk e6
 have HE7:=zQk e7
 have HE1:=zQk e1
 have HE2:=zQk e2
 clear e1 e2 e3 e4 e5 e6 e7 hE
 go_wp2_with fail
 refine zLK.mono ?_
 rintro e W6 ⟨⟨mb,rfl,hmb,hm6⟩,hb6⟩
 have HMB:=zQk hmb
 have HB6:=zQk hb6
 have HB06:=zQk (HB3.out.trans ((HB4.out.mono HB3.out.size).trans ((HB5.out.mono (zQ7 HB3.out.size HB4.out.size)).trans (hb6.mono (zQ7 HB3.out.size (zQ7 HB4.out.size HB5.out.size))))))
 have HP6:Hid (PrS E W6 b W6.heap.size mb 0 Tryz.zeroCells36.toList [] none 0):=zQk {
  v:=HV3.out.keep fun k _ h2=>(hb6.block k (by have:=HV3.out.lt;have:=HB4.out.size;have:=HB5.out.size;omega)).trans ((HB5.out.block k (by have:=HV3.out.lt;have:=HB4.out.size;omega)).trans (HB4.out.block k (by have:=HV3.out.lt;omega)))
  o4:=HO3.out.keep fun k _ h2=>(hb6.block k (by have:=HV3.out.lt;have:=HB4.out.size;have:=HB5.out.size;omega)).trans ((HB5.out.block k (by have:=HV3.out.lt;have:=HB4.out.size;omega)).trans (HB4.out.block k (by have:=HV3.out.lt;omega)))
  r:=HRS.out.below hb6
  m:=hm6
  c:=Cms.nil _ _
  bb:=by rw[←HE3.out,←HE2.out];have:=HS4.out;omega
  mm:=by
   rw[←HE3.out,←HE2.out]
   have:=HS4.out
   have h1:=HN5.out
   have h2:=(zQs.1 hm6).1
   omega
  bs:=zQm _
  tb:=⟨by
   rw[←HE1.out]
   have:=HS4.out
   have h1:=HN5.out
   have h2:=hb6.size
   omega,fun hp g hg=>by
   obtain⟨g2,h1,_,h3,h5⟩:=HW4.out.tx (by rw[←HE4.out];exact hp)
   have hob:E.oa=ob:=HEO.out
   rw[hob,h1]at hg
   cases hg
   have:=HN5.out
   have:=hb6.size
   refine⟨by omega,fun e=>?_⟩
   subst e
   have k1:=h5 0 (by rw[←HE4.out];exact hp)
   have k2:=(HB4.out.cell (p:=⟨_,0,none⟩) (zRH W3 _ HV3.out.c4)).trans HV3.out.c4
   rw[k1]at k2
   cases k2⟩
  gb:=by
   rw[HE6.out,HE7.out,←HE1.out,←HBQ.out]
   have:=HS4.out
   have:=HXB.out
   have:=HYB.out
   have:=H4.out
   have:=HBQ.out
   omega }
 clear hmb hm6 hb6 HRS HRB HCB HV3 HO3
 obtain⟨base,hbase⟩: ∃k,W6.heap.size=k:=⟨_,rfl⟩
 rw[hbase]at HP6
 have HBASE:=zQk (show w.heap.size≤base by rw[←hbase];exact HB06.out.size)
 clear hbase
 have HU2:=HU
 go_wp2_with fail
 go_loopg [26] (T.length+1) (fun g u wr=> ∃(i:Nat) (l:List Value) (L:List Cm) (o:Option Addr) (cp:Nat),g=T.length+1 - i∧PrS E wr b base mb i l L o cp∧Hid (zC3 ere T i L=R)∧L.length≤4096∧Below w.heap.size w wr)
 case atStart=>exact⟨0,_,[],none,0,by omega,HP6.out,HR,by decide,HB06.out⟩
 case round=>
 obtain⟨i,l,L,o,cp,hg,hp,HRi,hl,hb⟩:=hrel
 have HG:=zQk hg
 have HP:=zQk hp
 have HLL:=zQk hl
 have HB:=zQk hb
 have HI:=zQk (show i≤T.length by have:=hp.r.v.at_;rw[HE4.out]at this;exact this)
 have r0:=hp.r.r0
 clear hg hp hl hb HP6 HR
 go_wp2_with fail
 refine(zNl HP.out.r.v).mono ?_;rintro e w1 ⟨⟨_,rfl⟩,hv1,hb1⟩
 rw[HE4.out]at hv1
 obtain⟨j,hj⟩: ∃j,zAP zAh T i=j:=⟨_,rfl⟩
 have hstep:=HRi.out
 rw[zAs HI.out,hj]at hstep
 have HJ:=zQk (show i≤j∧j≤T.length by rw[←hj];exact⟨zA9 zAh T i,zBn zAh HI.out⟩)
 rw[hj]at hv1
 have HP1:=zQk (HP.out.kept (zAQ.nbut hb1) (HP.out.r.words hb1 (by rw[HE4.out];exact hv1)))
 have HB1:=zQk (HB.out.trans ((zBV.to_below (hb1.mono HB.out.size) (by rw[←HE3.out];exact HS4.out.2.2))))
 have HST:=zQk hstep
 clear hv1 hb1 hstep hj r0
 have r0:=HP1.out.r.r0
 obtain⟨c0,hc0⟩: ∃c,T.getD j 0=c:=⟨_,rfl⟩
 have HPK:=zAx HP1.out.r.v
 rw[HE4.out,hc0]at HPK
 have HC0:=zQk hc0
 by_cases hjt:j<T.length
 case neg=>
  rw[zQw hjt]at HPK
  have HPK:=zQk HPK
  have hst:=HST.out
  rw[if_pos (by omega)]at hst
  subst hst
  clear hjt hc0
  go_wp2_with fail
  refine HPK.out.mono ?_;rintro e w2 ⟨rfl,hb2⟩
  have HP2:=zQk (HP1.out.kept (zAQ.bel hb2) (HP1.out.r.below hb2))
  have HB2:=zQk (HB1.out.trans (hb2.mono HB1.out.size))
  clear hb2 r0 HPK
  go_upto_region 16 with fail
  have hbl:=(zQl w2.heap.size w2).alloc (zQm _) (.cells #[.int .u8 10] 5 (1,2))
  have HT2:Hid (zDa (w2.alloc (.cells #[.int .u8 10] 5 (1,2))) oa T):=zQk ((HTX.out.below HB2.out).below hbl)
  have HPA:=zQk (HP2.out.kept (zAQ.bel hbl) (HP2.out.r.below hbl))
  have HCC:Hid ((w2.alloc (.cells #[.int .u8 10] 5 (1,2))).cell? ⟨w2.heap.size,0,none⟩=some (.int .u8 10)):=zQk ((zQz _ _ 0 _ _ (1,2) (zQx w2 (.cells #[.int .u8 10] 5 (1,2)))).trans rfl)
  have HBA:=zQk (HB2.out.trans (hbl.mono HB2.out.size))
  have hcv:=Lib.run_convert_bytes_const (P:=Tryz.prog) w2 22 5 #[.int .u8 10] 1 1 Tryz.underlying22 Tryz.underlying5
  have hz:(#[Value.int .u8 10]:Array Value).size=1:=rfl
  rw[hz]at hcv
  clear hbl hz
  go_wp2_with fail
  refine(zOT HT2.out HU.out HCP.out HNI.out HTL.out HCC.out HPA.out.r.g.u8).mono ?_
  rintro e w9 ⟨⟨vv,vb,rfl⟩,q,rfl⟩
  have hbd:Below (w2.alloc (.cells #[.int .u8 10] 5 (1,2))).heap.size (w2.alloc (.cells #[.int .u8 10] 5 (1,2))) ((w2.alloc (.cells #[.int .u8 10] 5 (1,2))).drewN q):=⟨rfl,rfl,rfl,zQm _,fun _ _=>rfl⟩
  have HPC:=zQk (HPA.out.kept (zAQ.bel hbd) (HPA.out.r.below hbd))
  have HBC:=zQk (HBA.out.trans (hbd.mono HBA.out.size))
  have HTC:=zQk (HT2.out.below hbd)
  clear hbd hcv
  obtain⟨WC,hWC⟩: ∃W,(w2.alloc (.cells #[.int .u8 10] 5 (1,2))).drewN q=W:=⟨_,rfl⟩
  rw[hWC]at HPC HBC HTC ⊢
  clear hWC HT2 HPA HCC HBA
  have hcs: ∀g,(convert 22 9 (.slice oa (zCz T 0) cap)).run Tryz.prog (wgr (some b) WC.drew g)= .ok (.string (strOfNums ((T.take (zCz T 0)).map fun b:Nat=>(b:Int)))) (wgr (some b) WC.drew g):=fun g=>
   zPa (cap:=cap) (fun hp=>by
    obtain⟨g0,o0,e0,hc0⟩:=HTC.out hp
    obtain⟨g1,o1,e1,hc1⟩:=HTX.out hp
    rw[e0]at e1
    cases e1
    have h1:=zRH _ _ (hc1 0 hp)
    exact⟨g0,o0,e0,fun i hi=>(zEu WC g b g0 (o0+i) none (zRH _ _ (hc0 i hi)) (fun e=>by rw[←e]at h1;exact absurd h1 (by show¬b<w.heap.size;rw[HBQ.out];exact Nat.lt_irrefl _))).trans (hc0 i hi)⟩) (zBn zAc (Nat.zero_le T.length)) HNI.out HSP.out
  have hqt:=zNx (l:=T.take (zCz T 0)) fun b hb=>HU.out b (List.take_subset _ _ hb)
  revert hcs hqt
  generalize (strOfNums ((T.take (zCz T 0)).map fun b:Nat=>(b:Int)))=sq
  intro hcs hqt
  obtain⟨rq,hrq⟩: ∃k,zCz T 0=k:=⟨_,rfl⟩
  have hqs:(sq.toList==(⟨#[35,110]⟩:ByteArray).toList)=zBh T:=hqt
  simp only[hrq]at hcs ⊢
  clear hrq hqt
  go_upto_region 17 with fail
  refine Code.wp_mono zPJ ?_
  obtain⟨c4,c5,c6,c7,z4,z5,z6,z7⟩:=HPC.out.v
  obtain⟨b7,hb7⟩: ∃k,b+1+1+1=k:=⟨_,rfl⟩
  rw[hb7]at c7 z7 ⊢
  obtain⟨b6,hb6⟩: ∃k,b+1+1=k:=⟨_,rfl⟩
  rw[hb6]at c6 z6 ⊢
  obtain⟨b5,hb5⟩: ∃k,b+1=k:=⟨_,rfl⟩
  rw[hb5]at c5 z5 ⊢
  have n45: ¬b=b5:=by omega
  have n46: ¬b=b6:=by omega
  have n47: ¬b=b7:=by omega
  have n56: ¬b5=b6:=by omega
  have n57: ¬b5=b7:=by omega
  have n67: ¬b6=b7:=by omega
  have HB5':=zQk hb5
  have HB6':=zQk hb6
  have HB7':=zQk hb7
  have fl:b<WC.heap.size:=zRH _ _ c4
  clear hb5 hb6 hb7
  refine zAA (X:=some b) 5 [([1,2,3],0),([],4)] [] (by kernel_rfl) (by kernel_rfl) rfl (fun _ _ _ _ _ h=>h) ?_
  simp only[zAM,zAC,zAE,zAD,zAB,List.getD_cons_zero,List.getD_cons_succ,List.drop_succ_cons,List.drop_zero]
  repeat (go_big_quiet_step (fail))
  refine wpQuiet_nil ?_
  go_wp2_with fail
  refine⟨zAI.refl _,wpQuiet_nil ?_⟩
  go_wp2_with fail
  refine⟨zAI.of_setCell (w:=WC.drew) (s:=none) _,wpQuiet_nil ?_⟩
  go_wp2_with fail
  change Exit.then _ _ Exit.normal _ _
  have hqs2:(sq.toList==[35,110])=zBh T:=by rw[←hqs,Lib.toList_data (⟨#[35,110]⟩:ByteArray)]
  rw[hqs2]
  have hb5:=HB5'.out
  have hb6:=HB6'.out
  have hb7:=HB7'.out
  clear n45 n46 n47 n56 n57 n67 HB5' HB6' HB7' c4 c5 c6 c7 z4 z5 z6 z7 fl hcs hqs hqs2
  subst hb5 hb6 hb7
  have HW:Hid ((((WC.setCell ⟨b,0,none⟩ (.slice o L.length cp)).setCell ⟨b+1,0,none⟩ (.bool (zBh T))).setCell ⟨b+1+1,0,none⟩ (.int .i64 0)).setCell ⟨b+1+1+1,0,none⟩ (.int .i64 0)=st4 WC b (.slice o L.length cp) (.bool (zBh T)) (.int .i64 0) (.int .i64 0)):=zQk rfl
  rw[HW.out]
  have HBF:Hid (Below w.heap.size w (st4 WC b (.slice o L.length cp) (.bool (zBh T)) (.int .i64 0) (.int .i64 0)).drew):=zQk (HBC.out.trans (by rw[HBQ.out];exact(zC4 WC b _ _ _ _).drew))
  have HVF:Hid (V4 (st4 WC b (.slice o L.length cp) (.bool (zBh T)) (.int .i64 0) (.int .i64 0)).drew b (.slice o L.length cp) (.bool (zBh T)) (.int .i64 0) (.int .i64 0)):=zQk ((HPC.out.v.st4 _ _ _ _).keep fun _ _ _=>rfl)
  have hkF:zAQ WC (st4 WC b (.slice o L.length cp) (.bool (zBh T)) (.int .i64 0) (.int .i64 0)).drew (fun k=>b≤k∧k≤b+1+1+1):=
   ⟨rfl,rfl,rfl,(zC4 WC b _ _ _ _).size,fun k _ hk=>zF0 (by omega)⟩
  have HCF:Hid (Cms (st4 WC b (.slice o L.length cp) (.bool (zBh T)) (.int .i64 0) (.int .i64 0)).drew w.heap.size (.slice o L.length cp) L):=zQk ((HPC.out.c.kept hkF fun k hk e=>by have:=HPC.out.mm;have:=HPC.out.bb;omega).mono HBASE.out)
  obtain⟨WF,hWF⟩: ∃W,(st4 WC b (.slice o L.length cp) (.bool (zBh T)) (.int .i64 0) (.int .i64 0)).drew=W:=⟨_,rfl⟩
  rw[hWF]at HBF HVF HCF ⊢
  clear hWF hkF HW
  go_wp2_with fail
  refine leaves_cons (f:=29) (args:= #[.pointer (some ⟨b,0,none⟩),.pointer (some ⟨b+1,0,none⟩),.pointer (some ⟨b+1+1,0,none⟩),.pointer (some ⟨b+1+1+1,0,none⟩),.pointer (some ⟨E.cb,0,none⟩)]) (by simp) (by simp[go_sem]) ?_
  refine(zJb _ _ _ _ _ _).mono ?_
  rintro e u' w'' ⟨rfl,rfl,rfl⟩
  exact⟨_,zEi rfl rfl rfl rfl HVF.out,⟨_,rfl,HCF.out⟩,HBF.out⟩
 rw[zQv hjt]at HPK
 have HPK:=zQk HPK
 have hst:=HST.out
 rw[if_neg (by omega),hc0]at hst
 by_cases h35:c0=35
 ·rw[if_pos h35]at hst
  have HST2:=zQk hst
  have HRG:=zQk (zFS hjt (hc0.trans h35))
  subst h35
  clear hst hjt hc0
  go_wp2_with fail
  refine HPK.out.mono ?_;rintro e w2 ⟨rfl,hb2⟩
  have HP2:=zQk (HP1.out.kept (zAQ.bel hb2) (HP1.out.r.below hb2))
  have HB2:=zQk (HB1.out.trans (hb2.mono HB1.out.size))
  clear hb2 r0 HPK
  have r0:=HP2.out.r.r0
  go_wp2_with fail
  refine(zHt HP2.out.r.v).mono ?_;rintro e w3 ⟨⟨v3,rfl,_⟩,hv3,hb3⟩
  rw[HE4.out]at hv3
  have HP3:=zQk (HP2.out.kept (zAQ.nbut hb3) (HP2.out.r.words hb3 (by rw[HE4.out];exact hv3)))
  have HB3':=zQk (HB2.out.trans ((zBV.to_below (hb3.mono HB2.out.size) (by rw[←HE3.out];exact HS4.out.2.2))))
  clear hv3 hb3 r0
  go_wp2_with fail
  go_roundg (T.length+1 - zCz T j)
  case measure=>have:=HG.out;have:=HRG.out;have:=HJ.out;have:=HI.out;omega
  case rel=>exact⟨zCz T j,_,L,o,cp,rfl,HP3.out,HST2,HLL.out,HB3'.out⟩
 rw[if_neg h35]at hst
 have q35:((c0:Int)==35)=false:=zQq.2 (by omega)
 have HJT:=zQk hjt
 have HST3:=zQk hst
 clear hst hjt hc0 h35
 go_wp2_with fail
 refine HPK.out.mono ?_;rintro e w2 ⟨rfl,hb2⟩
 have hp2:=HP1.out.kept (zAQ.bel hb2) (HP1.out.r.below hb2)
 have HB2:=zQk (HB1.out.trans (hb2.mono HB1.out.size))
 have HPZ:=zQk (hp2.kept (zAQ.putRow E w2 Tryz.zeroCells36.toList.toArray) (hp2.r.row zFb.zero))
 rw[Array.toArray_toList]at HPZ
 have HCB2:=zQk hp2.r.c
 have HLN:=zQk hp2.r.cl.len
 have HBZ:Hid (Below w.heap.size w (w2.setRow E.cb Tryz.zeroCells36)):=zQk (below_setRow HB2.out (by rw[←HE2.out];have:=HS4.out;omega) _)
 clear hb2 r0 HPK hp2 HB2
 go_upto_region 13 with (refine wpList_store_row rfl 36 _ _ rfl E.cb Tryz.zeroCells36 rfl rfl 36 _ HCB2.out (by kernel_rfl) (by rw[List.size_toArray,HLN.out];kernel_rfl) (by kernel_rfl) ?_)
 obtain⟨W3',hW3⟩: ∃W,w2.setRow E.cb Tryz.zeroCells36=W:=⟨_,rfl⟩
 rw[hW3]at HPZ HBZ ⊢
 clear hW3 HCB2 HLN
 have c4:=HPZ.out.v.c4
 have HHD:=zLB HPZ.out.r (base:=base) (CmM.zero _ _) (by have:=HPZ.out.mm;omega) HPZ.out.bs (n:=L.length)
 rw[HE4.out,HE5.out]at HHD
 have HHD:=zQk HHD
 have HLO:=zQk (show∀k,k<w.heap.size→ ¬E.W k from fun k hk e=>by
  have:=HPZ.out.bb
  have:=HBQ.out
  rcases e with e|e<;>omega)
 go_wp2_with fail
 refine HHD.out.mono ?_;rintro e w4 hh4
 cases hq:zBy ere T j L.length with
 |error p=>
  rw[hq]at hh4
  have hst:=HST3.out
  unfold zLu at hst
  rw[hq]at hst
  simp only at hst
  subst hst
  have HBK:=zQk (HBZ.out.trans (hh4.1.below HBZ.out.size HLO.out))
  clear hq c4
  obtain⟨fb,fa,fz,fj,fl,rfl,hf,ho,hp9⟩:=HPZ.out.leave (l':=[]) hh4
  have HP9:=zQk hp9
  go_wp2_with fail
  refine leaves_cons (f:=29) (args:= #[.pointer (some ⟨b,0,none⟩),.pointer (some ⟨b+1,0,none⟩),.pointer (some ⟨b+1+1,0,none⟩),.pointer (some ⟨b+1+1+1,0,none⟩),.pointer (some ⟨E.cb,0,none⟩)]) (by simp) (by simp[go_sem]) ?_
  refine(zFU [] HP9.out.v HP9.out.r hf ho HP9.out.gb.1 HP9.out.bb.2 (HP9.out.o4.off hf) HP9.out.gb.2.1 HP9.out.gb.2.2.1).mono ?_
  rintro e u' w'' ⟨rfl,rfl,hV,hB⟩
  exact⟨_,zEi rfl rfl rfl rfl hV,rfl,by rw[HBQ.out]at HBK ⊢;exact HBK.out.trans hB⟩
 |ok r=>
 obtain⟨c,k⟩:=r
 rw[hq]at hh4
 obtain⟨rfl,k4,l4,h4,m4⟩:=hh4
 obtain⟨f1,f2,f3⟩:=zOF hq
 have hat:=zDm HJ.out.2 hq
 have HAT:=zQk hat
 have HF2:=zQk f2
 have HF3:=zQk f3
 have hst:=HST3.out
 unfold zLu at hst
 rw[hq]at hst
 simp only at hst
 have HST4:=zQk hst
 have HP4:=zQk (HPZ.out.kept k4 h4)
 have HBK4:=zQk (HBZ.out.trans (k4.below HBZ.out.size HLO.out))
 have HM4:=zQk m4
 have c7:w4.cell? ⟨E.cb,7,none⟩=some (.int .u8 (c.nm:Nat)):=h4.cc m4.nm
 have hnm:c.nm<256:=by
  have:=HUT.out c.at_
  have h5:=hat.2.2.2
  simp only at h5
  rw[h5]at this
  exact this
 have hlk:=zNu HP4.out.m (zPK c.nm hnm f1)
 have en:=zMw c.nm
 have HBO:=zLC HP4.out.r HM4.out f2 (by have:=HP4.out.mm;omega) HP4.out.bs
 rw[HE4.out,HE5.out]at HBO
 have HBO:=zQk HBO
 simp only at hlk
 generalize zPk c.nm=F at hlk en HBO
 have en2: ∀(args:Array Value) (w:World),(callFunc F args).run Tryz.prog w= .ok (.enter F args) w:=en
 clear hst hat f1 f2 f3 hnm k4 h4 m4 hq c4 en
 go_wp2_with fail
 refine HBO.out.mono ?_;rintro e w5 hh5
 cases hq2:zCJ ere T k c with
 |error p=>
  rw[hq2]at hh5
  have hst:=HST4.out
  rw[hq2]at hst
  simp only at hst
  subst hst
  have HBK:=zQk (HBK4.out.trans (hh5.1.below HBK4.out.size HLO.out))
  clear hq2 c7 hlk en2
  obtain⟨fb,fa,fz,fj,fl,rfl,hf,ho,hp9⟩:=HP4.out.leave (l':=[]) hh5
  have HP9:=zQk hp9
  go_wp2_with fail
  refine leaves_cons (f:=29) (args:= #[.pointer (some ⟨b,0,none⟩),.pointer (some ⟨b+1,0,none⟩),.pointer (some ⟨b+1+1,0,none⟩),.pointer (some ⟨b+1+1+1,0,none⟩),.pointer (some ⟨E.cb,0,none⟩)]) (by simp) (by simp[go_sem]) ?_
  refine(zFU [] HP9.out.v HP9.out.r hf ho HP9.out.gb.1 HP9.out.bb.2 (HP9.out.o4.off hf) HP9.out.gb.2.1 HP9.out.gb.2.2.1).mono ?_
  rintro e u' w'' ⟨rfl,rfl,hV,hB⟩
  exact⟨_,zEi rfl rfl rfl rfl hV,rfl,by rw[HBQ.out]at HBK ⊢;exact HBK.out.trans hB⟩
 |ok r2=>
 obtain⟨c',q⟩:=r2
 rw[hq2]at hh5
 obtain⟨rfl,k5,l5,h5,m5⟩:=hh5
 have hb2:=zDq (show k≤T.length by have h5:=HAT.out;omega) hq2
 have HAQ:=zQk (show j<q∧q≤T.length by have h5:=HAT.out;have h6:=hb2.2.2.1;have h7:=hb2.2.2.2;omega)
 have hst:=HST4.out
 rw[hq2]at hst
 simp only at hst
 have HST5:=zQk hst
 have HP5:=zQk (HP4.out.kept k5 h5)
 have HBK5:=zQk (HBK4.out.trans (k5.below HBK4.out.size HLO.out))
 have HM5:=zQk m5
 have HR5:=zQk h5
 obtain⟨o',cp',ls,hv',hls,hrow,hld,hlm⟩:=HP5.out.c
 cases hv'
 have hWb:=(zQl w5.heap.size w5).alloc (zQm _) (.cells l5.toArray 36)
 have hrow2:(w5.alloc (.cells l5.toArray 36)).ownsRow base 36 272 (.slice o L.length cp) L.length ls.flatten:=zAq hrow fun g hg=>hWb.block g (hrow.lt g hg).2
 have HROW:=zQk hrow
 have HROW2:=zQk hrow2
 have HWB2:=zQk hWb
 have HLS:=zQk hls
 have HLD:=zQk hld
 have HLM:=zQk hlm
 have HSZ:Hid ((w5.alloc (.cells l5.toArray 36)).heap.size=w5.heap.size+1):=zQk (by simp)
 have c4:=HP5.out.v.c4
 clear hst hb2 k5 h5 m5 hq2 c7 hlk en2 hls hrow hld hlm hrow2 hWb HBO HHD
 go_wp2_with (first|refine wpList_load_row rfl 36 _ rfl E.cb rfl 36 l5.toArray (0,0) _ HR5.out.c Tryz.underlying36 rfl (by rw[zCH,List.size_toArray,HR5.out.cl.len]) ?_|refine zKj rfl _ rfl rfl HR5.out.cl ?_|(at_builtin;refine zAa zQU rfl _ _ rfl base (n:=L.length) (m:=1) (news:=l5) rfl HROW2.out rfl (Src.new w5 l5 _ _ _) (by rw[HR5.out.cl.len]) HR5.out.cl.one (by unfold maxLen;have:=HF3.out;omega) (by have:=HF3.out;omega) (by rw[HSZ.out];have:=HP5.out.bs;omega) ?_))
 have hln:(L++[c']).length=L.length+1:=by simp
 have HLN2:=zQk hln
 clear hln
 intro v6 w6 hown6 hgr6 _
 obtain⟨o6,c6,rfl⟩:=zBj hown6
 have hb6:=(HWB2.out.mono HP5.out.bs).grown hgr6 (by rw[HSZ.out];have:=HP5.out.bs;omega) (fun k hk=>(HROW.out.lt k hk).1)
 have hc6:=zOW HWB2.out HR5.out.cl HM5.out HLS.out HLD.out HLM.out HROW.out hown6 hgr6
 have hpm:=HP5.out.more (c:=c') hb6 (by rw[HLN2.out];exact hc6)
 rw[HLN2.out]at hpm
 have HPM:=zQk hpm
 have hv6:=HP5.out.v.keep (w':=w6) fun k _ hk=>hb6.block k (by have:=HP5.out.mm;have:=HP5.out.bb;omega)
 have c4:=hv6.c4
 have z4:=hv6.z4
 have HBF:Hid (Below w.heap.size w (w6.setCell ⟨b,0,none⟩ (.slice o6 (L.length+1) c6))):=zQk ((HBK5.out.trans (hb6.mono HBASE.out)).setCell (p:=⟨b,0,none⟩) (by show w.heap.size≤b;rw[HBQ.out];exact zQm _) _)
 clear hown6 hgr6 hb6 hc6 hpm hv6
 go_wp2_with fail
 go_roundg (T.length+1 - q)
 case measure=>have:=HG.out;have:=HAQ.out;have:=HJ.out;have:=HI.out;omega
 case rel=>exact⟨q,l5,L++[c'],o6,c6,rfl,HPM.out,HST5,by rw[HLN2.out];have:=HF3.out;omega,HBF.out⟩
theorem zCP (h:zDa w oa T) (hu: ∀b∈T,b<256) (hcap:T.length≤cap) (hnil:oa=none→cap=0) (hs: ∀g o s,oa≠some ⟨g,o,some s⟩) (G:Gl w x y) (hx:x.block<w.heap.size) (hy:y.block<w.heap.size) (h4:4<w.heap.size):
  Calls Tryz.prog 8 #[.slice oa T.length cap,.bool ere] w fun e w'=>PaR w.heap.size T (zCB ere T) e w'∧Below w.heap.size w w':=by
 by_cases hT:T.length≤65536
 ·exact zIF hT h hu hcap hnil hs G hx hy h4
 ·exact zJY (by omega)
end
end
section
open Go.RowKit
theorem zMx {α:Type} {s:Nat} : ∀ {ls:List (List α)} {i k:Nat} {l:List α},(∀l∈ls,l.length=s)→ls[i]?=some l→k<s→ls.flatten[i*s+k]?=l[k]?
 |[],_,_,_,_,hl,_=>by simp at hl
 |x::r,0,k,l,h,hl,hk=>by
  simp only[List.getElem?_cons_zero,Option.some.injEq]at hl
  subst hl
  have:=h x (by simp)
  rw[List.flatten_cons,Nat.zero_mul,Nat.zero_add,zQ5 (by omega)]
 |x::r,i+1,k,l,h,hl,hk=>by
  have hx:=h x (by simp)
  rw[List.flatten_cons,Nat.succ_mul,zQ6 (by omega),show i*s+s+k - x.length=i*s+k by omega]
  exact zMx (fun l hl=>h l (by simp[hl])) (by simpa using hl) hk
theorem Cms.cells {w:World} {base n cp:Nat} {o:Option Addr} {L:List Cm} (h:Cms w base (.slice o n cp) L) {i:Nat} {c:Cm} (hc:L[i]?=some c):
  ∃g l,o=some ⟨g,0,none⟩∧g<w.heap.size∧n=L.length∧zFb l∧CmM w base l c∧ ∀k u,l[k]?=some u→w.cell? ⟨g,i*272+k,none⟩=some u:=by
 obtain⟨o',cp',ls,hv,hls,hrow,hld,hlm⟩:=h
 cases hv
 have hi:i<L.length:=(zQr.1 hc).1
 obtain⟨_,g,rfl,hg,hcell,_⟩:=zB0 hrow (by omega)
 have hl:ls[i]?=some ls[i]:=zQ1 (by omega)
 have hm:ls[i]∈ls:=List.getElem_mem _
 refine⟨g,ls[i],rfl,hg,rfl,hld _ hm,hlm i _ c hl hc,fun k u hu=>?_⟩
 have hk:k<272:=by have:=(zQr.1 hu).1;rw[(hld _ hm).len]at this;exact this
 have hj:i*272+k<L.length*272:=by
  have:i*272+272≤L.length*272:=by rw[←Nat.succ_mul];exact Nat.mul_le_mul_right _ hi
  omega
 obtain⟨v,hv,hcv⟩:=hcell _ hj
 rw[zMx (fun l hl=>(hld l hl).len) hl hk,hu]at hv
 cases hv
 exact hcv
theorem zP2 (w:World) (l:List Nat) (fz:Nat × Nat):zDa (w.alloc (.cells (u8s l).toArray 5 fz)) (some ⟨w.heap.size,0,none⟩) l:=fun _=>
 ⟨_,0,rfl,fun j hj=>by
  rw[Nat.zero_add,zQz _ _ j _ _ fz (zQx w _)]
  simp[u8s,hj,List.getD_eq_getElem?_getD]⟩
theorem Gl.bel {w w':World} {x y:Addr} (G:Gl w x y) (h:Below w.heap.size w w') (hx:x.block<w.heap.size) (hy:y.block<w.heap.size) (h4:4<w.heap.size):Gl w' x y:=
 G.kept (S:=fun _=>False) (zAQ.bel h) h4 hx hy fun _ _ e=>e
theorem zOB: ∀b∈zPS,b<256:=by decide
theorem zN9: ∀b∈zPi,b<256:=by decide
theorem zGy {w:World} {x y:Addr} (G:Gl w x y) (hx:x.block<w.heap.size) (hy:y.block<w.heap.size) (h4:4<w.heap.size):
  Calls Tryz.prog 7 #[] w fun e w'=>e= .returned (.bool true)∧Below w.heap.size w w':=by
 have HG:=zQk G
 have HXB:=zQk hx
 have HYB:=zQk hy
 have H4:=zQk h4
 have hcv:=Lib.run_convert_bytes_const (P:=Tryz.prog) w 22 5 #[.int .u8 35,.int .u8 110,.int .u8 10,.int .u8 49,.int .u8 44,.int .u8 36,.int .u8 33,.int .u8 112,.int .u8 59,.int .u8 115,.int .u8 47,.int .u8 97,.int .u8 47,.int .u8 98,.int .u8 47,.int .u8 50,.int .u8 103] 17 17 Tryz.underlying22 Tryz.underlying5
 rw[show(#[Value.int .u8 35,.int .u8 110,.int .u8 10,.int .u8 49,.int .u8 44,.int .u8 36,.int .u8 33,.int .u8 112,.int .u8 59,.int .u8 115,.int .u8 47,.int .u8 97,.int .u8 47,.int .u8 98,.int .u8 47,.int .u8 50,.int .u8 103]:Array Value).size=17 from rfl]at hcv
 have HX:Hid (zDa (w.alloc (.cells #[.int .u8 35,.int .u8 110,.int .u8 10,.int .u8 49,.int .u8 44,.int .u8 36,.int .u8 33,.int .u8 112,.int .u8 59,.int .u8 115,.int .u8 47,.int .u8 97,.int .u8 47,.int .u8 98,.int .u8 47,.int .u8 50,.int .u8 103] 5 (17,18))) (some ⟨w.heap.size,0,none⟩) zPS):=zQk (zP2 w zPS (17,18))
 have HB0:=zQk ((zQl w.heap.size w).alloc (zQm _) (.cells #[.int .u8 35,.int .u8 110,.int .u8 10,.int .u8 49,.int .u8 44,.int .u8 36,.int .u8 33,.int .u8 112,.int .u8 59,.int .u8 115,.int .u8 47,.int .u8 97,.int .u8 47,.int .u8 98,.int .u8 47,.int .u8 50,.int .u8 103] 5 (17,18)))
 clear G hx hy h4
 go_enter Tryz.func7,Tryz.ntmps7
 go_wp2_with fail
 have hz0:=HB0.out.size
 refine(zCP (T:=zPS) (cap:=17) HX.out zOB (by decide) (fun e=>by cases e) (by intro g o s e;injection e with e;injection e with _ _ e;cases e) (HG.out.bel HB0.out HXB.out HYB.out H4.out) (by have:=HXB.out;omega) (by have:=HYB.out;omega) (by have:=H4.out;omega)).mono ?_
 rintro e w1 ⟨hp1,hb1⟩
 obtain⟨c1,c2,he,n1,n2,n3,n4,n5⟩:=zMm
 rw[he]at hp1
 obtain⟨v,rfl,hcm⟩:=hp1
 rw[zLM]
 obtain⟨o,cp,ls,hv,hls,hrow,hld,hlm⟩:=id hcm
 subst hv
 rw[show([c1,c2]:List Cm).length=2 from rfl]at hcm ⊢
 have HB1:=zQk (HB0.out.trans (hb1.mono hz0))
 have HCM:=zQk hcm
 have HN:=zQk (And.intro n1 (And.intro n2 (And.intro n3 (And.intro n4 n5))))
 clear hrow hls hld hlm hcm hb1 hcv he n1 n2 n3 n4 n5 hz0 HX HB0
 have hcv:=Lib.run_convert_bytes_const (P:=Tryz.prog) w1 22 5 #[.int .u8 112,.int .u8 59,.int .u8 112,.int .u8 112] 4 4 Tryz.underlying22 Tryz.underlying5
 rw[show(#[Value.int .u8 112,.int .u8 59,.int .u8 112,.int .u8 112]:Array Value).size=4 from rfl]at hcv
 have HX:Hid (zDa (w1.alloc (.cells #[.int .u8 112,.int .u8 59,.int .u8 112,.int .u8 112] 5 (4,5))) (some ⟨w1.heap.size,0,none⟩) zPi):=zQk (zP2 w1 zPi (4,5))
 have hbx:=(zQl w1.heap.size w1).alloc (zQm _) (.cells #[.int .u8 112,.int .u8 59,.int .u8 112,.int .u8 112] 5 (4,5))
 have HCX:=zQk (HCM.out.below hbx)
 have HBX:=zQk (HB1.out.trans (hbx.mono HB1.out.size))
 clear hbx
 go_wp2_with fail
 have hz1:=HBX.out.size
 refine(zCP (T:=zPi) (cap:=4) HX.out zN9 (by decide) (fun e=>by cases e) (by intro g o s e;injection e with e;injection e with _ _ e;cases e) (HG.out.bel HBX.out HXB.out HYB.out H4.out) (by have:=HXB.out;omega) (by have:=HYB.out;omega) (by have:=H4.out;omega)).mono ?_
 rintro e w2 ⟨hp2,hb2⟩
 rw[zMl]at hp2
 obtain rfl:=hp2
 have HB2:=zQk (HBX.out.trans (hb2.mono hz1))
 have hc2:=HCX.out.below hb2
 obtain⟨g,l1,rfl,hg,_,_,hm1,hcl1⟩:=hc2.cells (i:=0) (c:=c1) rfl
 obtain⟨g2,l2,e2,_,_,_,hm2,hcl2⟩:=hc2.cells (i:=1) (c:=c2) rfl
 cases e2
 obtain⟨n1,n2,n3,n4,n5⟩:=HN.out
 have f1:w2.cell? ⟨g,7,none⟩=some (.int .u8 112):=by have:=hcl1 7 _ hm1.nm;rw[n1]at this;exact this
 have f2:w2.cell? ⟨g,6,none⟩=some (.bool true):=by have:=hcl1 6 _ hm1.nt;rw[n2]at this;exact this
 have f3:w2.cell? ⟨g,8,none⟩=some (.int .i64 7):=by have:=hcl1 8 _ hm1.p;rw[n3]at this;exact this
 have f4:w2.cell? ⟨g,284,none⟩=some (.int .i64 2):=by have:=hcl2 12 _ hm2.ct;rw[n4]at this;exact this
 have f5:w2.cell? ⟨g,285,none⟩=some (.bool true):=by have:=hcl2 13 _ hm2.al;rw[n5]at this;exact this
 clear n1 n2 n3 n4 n5 hm1 hcl1 hm2 hcl2 hc2 hb2 hz1 hcv HX HCX HCM HN hg
 go_wp2_with fail
 go_ret
 exact⟨rfl,HB2.out⟩
end
section
open Go.RowKit
theorem Pcs.pr {w:World} {base:Nat} {o:Option Addr} {m cp:Nat} {P:List Pc} (h:Pcs w base (.slice o m cp) P):PcR w o P:=fun hp=>by
 obtain⟨o2,c2,ts,he,h1,h2,h3⟩:=h
 cases he
 obtain⟨_,g,rfl,hg,hcs,_⟩:=zB0 h2 hp
 refine⟨g,0,rfl,hg,fun i p hpi=>?_⟩
 have hi:=(zQr.1 hpi).1
 obtain⟨u0,hu0,c0⟩:=hcs (i*2) (by omega)
 rw[zE7 _ _ _ h1,hpi]at hu0
 cases hu0
 obtain⟨u1,hu1,c1⟩:=hcs (i*2+1) (by omega)
 rw[zGB _ _ _ h1]at hu1
 obtain⟨ot,ct,rfl,_⟩:=h3 i u1 p hu1 hpi
 rw[Nat.zero_add]
 exact⟨c0,ot,ct,c1⟩
def adK (c:Cm) (k:Nat):Ad:=if k=0 then c.a else c.b
def zNX (c:Cm) (k:Nat):Nat:=(if 0<k∧c.a.kind≠0 then 1 else 0)+(if 1<k∧c.b.kind≠0 then 1 else 0)
theorem zM8 (c:Cm) {k:Nat} (hk:k<2):zNX c (k+1)=zNX c k+(if (adK c k).kind≠0 then 1 else 0):=by
 rcases(show k=0∨k=1 by omega)with rfl|rfl
 ·simp[zNX,adK]
 ·simp[zNX,adK]
theorem zOV (c:Cm):zNX c 2=zEp c.a c.b:=by simp[zNX,zEp]
def AdR (w:World) (sb:Nat) (c:Cm):Prop:=sb<w.heap.size∧ ∀k,k<2→w.cell? ⟨sb,k*3,none⟩=some (.int .i8 (adK c k).kind)∧w.cell? ⟨sb,k*3+1,none⟩=some (.int .i64 (adK c k).n)∧
 ∃o cp,w.cell? ⟨sb,k*3+2,none⟩=some (.slice o (adK c k).re.length cp)∧NdV w o (adK c k).re
theorem AdR.below {w w':World} {sb:Nat} {c:Cm} (h:AdR w sb c) (hb:Below w.heap.size w w'):AdR w' sb c:=
 ⟨zQn h.1 hb.size,fun k hk=>by
  obtain⟨h1,h2,o,cp,h3,h4⟩:=h.2 k hk
  exact⟨(hb.cell (p:=⟨sb,k*3,none⟩) h.1).trans h1,(hb.cell (p:=⟨sb,k*3+1,none⟩) h.1).trans h2,o,cp,(hb.cell (p:=⟨sb,k*3+2,none⟩) h.1).trans h3,h4.below hb⟩⟩
theorem zAy {P:Program} {ops:Array Oper} {rest:List Oper} {o:Oper} {a:Act} {w:World} {Q:Exit→Act→World→Prop} (hgd:Region.wanted o (yielded ops a.tmps)=true) (ty:TypeId) (x:Operand) (ho:o.op= .load ty x)
  (g:Nat) (hx:a.eval x= .pointer (some ⟨g,0,none⟩)) (t:TypeId) (cs:Array Value) (fr:Nat × Nat) (d:TypeDesc) (hg:w.heap[g]?=some (.cells cs t fr))
  (hu:P.underlying ty=some d) (hd:(match d with| .struct _| .array _ _=>true|_=>false)=true) (hi:(P.info? ty).map (·.size)=some cs.size)
  (h:wpList P ops Q rest (a.put o.dst (.agg cs)) w):wpList P ops Q (o::rest) a w:=
 wpList_step fun _ hK=>by rw[if_pos hgd];exact wp_load_row ty x ho g hx t cs fr d hg hu hd hi (hK _ _ h)
theorem zNa {j:Nat} :zI8.getD j 0=0:=by
 unfold zI8
 rw[zQt,List.getElem?_replicate]
 split<;>rfl
theorem zLw: ∀w,(Op.equalIn 10000 34 (.agg (List.replicate 256 (Value.int .u8 0)).toArray) (.agg Tryz.zeroCells34)).run Tryz.prog w= .ok true w:=fun w=>by
 obtain⟨i,hi⟩: ∃i,Tryz.prog.info? 5=some i:=Option.isSome_iff_exists.1 (by kernel_rfl)
 rw[show Tryz.zeroCells34=(List.replicate 256 (Value.int .u8 0)).toArray by kernel_rfl,run_equalIn_array w 9999 _ _ Tryz.underlying34 hi,show Tryz.prog.cellsOf 5=1 by kernel_rfl,zFM _ w _ (fun i hi=>⟨0,by rw[List.getElem?_toArray,List.getElem?_replicate,if_pos (List.mem_range.1 hi)]⟩)]
theorem zCY {ops:Array Oper} {rest:List Oper} {op:Oper} {a:Act} {w:World} {Q:Exit→Act→World→Prop} (hgd:Region.wanted op (yielded ops a.tmps)=true) (x y:Operand) {t':TypeId} (ho:op.op= .binOp .neq 34 x y t') {xs ys:Array Value}
  (hx:a.eval x= .agg xs) (hy:a.eval y= .agg ys) (h0: ∀w,(Op.equalIn 10000 34 (.agg xs) (.agg ys)).run Tryz.prog w= .ok true w) (h:wpList Tryz.prog ops Q rest (a.put op.dst (.bool false)) w):wpList Tryz.prog ops Q (op::rest) a w:=
 wpList_step fun _ hK=>by
  rw[if_pos hgd]
  unfold Oper.wp execOp
  simp only[ho,hx,hy,Sem.run_bind,run_eqGuard_agg _ _ _ _ _ _ _ (show Tryz.prog.eqGuardType Tryz.prog.depth 34=false by kernel_rfl),run_neq_struct,h0,Result.andThen_ok,Bool.not_true]
  exact hK _ _ h
theorem zJl {nt:Bool} {m:Nat} {o:Option Nat} (h:zGx nt m o=true): ∃k,o=some k∧m≤k∧(k=0→nt=false):=by
 unfold zGx at h
 split at h
 ·cases h
 ·rename_i k
  simp only[Bool.and_eq_true,decide_eq_true_eq,Bool.not_eq_true',Bool.and_eq_false_iff,decide_eq_false_iff_not]at h
  refine⟨k,rfl,h.1,fun e=>?_⟩
  rcases h.2 with h2|h2
  ·exact absurd e h2
  ·exact h2
theorem zID {w:World} {base:Nat} {l:List Value} {c:Cm} (hl:zFb l) (hm:CmM w base l c) (hu: ∀b∈c.tx,b<256) (U:U8V w) (hf:zI4 c) (hn:c.nm<256) (hs:c.shaped=true):
  Calls Tryz.prog 13 #[.agg l.toArray] w fun e w'=>e= .returned (.bool true)∧Below w.heap.size w w':=by
 have hnew:=zQx w (.cells l.toArray 36)
 have hbl:=(zQl w.heap.size w).alloc (zQm _) (.cells l.toArray 36)
 have HL:=zQk hl
 have HU:=zQk hu
 have HF:=zQk hf
 have HM:=zQk (hm.kept (S:=fun _=>False) (zAQ.bel hbl) fun _ _ e=>e)
 have HU8:=zQk (U.below hbl)
 have HB:=zQk hbl
 have HS:=zQk hs
 have HN:=zQk hn
 have HH:=zQk hnew
 clear hl hm hu U hf hs hbl hn hnew
 go_enter Tryz.func13,Tryz.ntmps13
 go_upto_region 1 with fail
 obtain⟨b,hb⟩: ∃b,w.heap.size=b:=⟨_,rfl⟩
 have HBQ:=zQk hb
 obtain⟨W,hW⟩: ∃W,w.alloc (.cells l.toArray 36)=W:=⟨_,rfl⟩
 rw[hW]at HM HB HU8 HH ⊢
 have hh:=HH.out
 rw[hb]at hh ⊢
 have HR:=zQk hh
 clear hW hb hh HH
 have hck: ∀k,W.cell? ⟨b,k,none⟩=l[k]?:=fun k=>(zQz _ _ k _ _ (0,0) HR.out).trans (by simp)
 have HCK:=zQk hck
 have c7:W.cell? ⟨b,7,none⟩=some (.int .u8 (c.nm:Nat)):=(hck 7).trans HM.out.nm
 have HMO:=zQk (zIc (w:=W) HN.out)
 clear hck
 go_wp2_with fail
 refine HMO.out.mono ?_;rintro e w1 ⟨rfl,rfl⟩
 clear HMO
 obtain⟨a0,a1,va,a2,na⟩:=HM.out.a
 obtain⟨b0,b1,vb,b2,nb⟩:=HM.out.b
 obtain⟨oa,ca,rfl,_⟩:=id na
 obtain⟨ob,cb,rfl,_⟩:=id nb
 have c0:W.cell? ⟨b,0,none⟩=some (.int .i8 c.a.kind):=(HCK.out 0).trans a0
 have c1:W.cell? ⟨b,1,none⟩=some (.int .i64 c.a.n):=(HCK.out 1).trans a1
 have c2:W.cell? ⟨b,2,none⟩=some (.slice oa c.a.re.length ca):=(HCK.out 2).trans a2
 have c3:W.cell? ⟨b,3,none⟩=some (.int .i8 c.b.kind):=(HCK.out 3).trans b0
 have c4:W.cell? ⟨b,4,none⟩=some (.int .i64 c.b.n):=(HCK.out 4).trans b1
 have c5:W.cell? ⟨b,5,none⟩=some (.slice ob c.b.re.length cb):=(HCK.out 5).trans b2
 have HNA:=zQk (na.nv HF.out.1.1 HF.out.1.2).1
 have HNB:=zQk (nb.nv HF.out.2.1.1 HF.out.2.1.2).1
 clear a0 a1 a2 na b0 b1 b2 nb
 go_wp2_with fail
 have hnw:=zQx W (.cells #[.int .i8 c.a.kind,.int .i64 c.a.n,.slice oa c.a.re.length ca,.int .i8 c.b.kind,.int .i64 c.b.n,.slice ob c.b.re.length cb] 31)
 have hbw:=(zQl W.heap.size W).alloc (zQm _) (.cells #[.int .i8 c.a.kind,.int .i64 c.a.n,.slice oa c.a.re.length ca,.int .i8 c.b.kind,.int .i64 c.b.n,.slice ob c.b.re.length cb] 31)
 have HAR:Hid (AdR (W.alloc (.cells #[.int .i8 c.a.kind,.int .i64 c.a.n,.slice oa c.a.re.length ca,.int .i8 c.b.kind,.int .i64 c.b.n,.slice ob c.b.re.length cb] 31)) W.heap.size c):=zQk ⟨by simp,fun k hk=>by
  rcases(show k=0∨k=1 by omega)with rfl|rfl
  ·exact⟨(zQz _ _ 0 _ _ (0,0) hnw).trans rfl,(zQz _ _ 1 _ _ (0,0) hnw).trans rfl,oa,ca,(zQz _ _ 2 _ _ (0,0) hnw).trans rfl,HNA.out.below hbw⟩
  ·exact⟨(zQz _ _ 3 _ _ (0,0) hnw).trans rfl,(zQz _ _ 4 _ _ (0,0) hnw).trans rfl,ob,cb,(zQz _ _ 5 _ _ (0,0) hnw).trans rfl,HNB.out.below hbw⟩⟩
 have HBW:=zQk hbw
 have HBS:=zQk (show W.heap.size≤(W.alloc (.cells #[.int .i8 c.a.kind,.int .i64 c.a.n,.slice oa c.a.re.length ca,.int .i8 c.b.kind,.int .i64 c.b.n,.slice ob c.b.re.length cb] 31)).heap.size from hbw.size)
 clear hnw hbw c0 c1 c2 c3 c4 c5 c7 HNA HNB
 obtain⟨sb,hsb⟩: ∃k,W.heap.size=k:=⟨_,rfl⟩
 obtain⟨W2,hW2⟩: ∃X,W.alloc (.cells #[.int .i8 c.a.kind,.int .i64 c.a.n,.slice oa c.a.re.length ca,.int .i8 c.b.kind,.int .i64 c.b.n,.slice ob c.b.re.length cb] 31)=X:=⟨_,rfl⟩
 rw[hW2]at HAR HBW HBS ⊢
 rw[hsb]at HAR ⊢
 clear hW2 hsb
 have hsh:=HS.out
 simp only[Cm.shaped,zJJ,Bool.and_eq_true]at hsh
 obtain⟨⟨⟨⟨⟨⟨⟨hra,hrb⟩,hmo⟩,hmy⟩,hat⟩,hsd⟩,hty⟩,hend⟩:=hsh
 have HRK:Hid (∀k,zAw (adK c k)=true):=zQk fun k=>by unfold adK;split<;>assumption
 have HMO:=zQk hmo
 have HMY:=zQk hmy
 have HSD:=zQk hsd
 have HTY:=zQk hty
 have HEND:=zQk hend
 clear hra hrb hmo hmy hat hsd hty hend
 go_loopg [4,16] 2 (fun gk mv kv wr=> ∃k:Nat,mv= .int .i64 (zNX c k:Nat)∧kv= .int .i64 (k:Nat)∧gk=2 - k∧k≤2∧Below W2.heap.size W2 wr)
 case atStart=>exact⟨0,rfl,rfl,rfl,by omega,zQl _ _⟩
 case round=>
 obtain⟨k,rfl,rfl,hg,hk,hbr⟩:=hrel
 have HG:=zQk hg
 have HK:=zQk hk
 have HBR:=zQk hbr
 clear hg hk hbr
 by_cases hk2:k<2
 case neg=>
  obtain rfl:k=2:=by have:=HK.out;omega
  have hbt:Below W.heap.size W wr:=HBW.out.trans (HBR.out.mono HBS.out)
  have hbl:b<W.heap.size:=(zQs.1 HR.out).1
  have HMW:=zQk (HM.out.kept (S:=fun _=>False) (zAQ.bel hbt) fun _ _ e=>e)
  have HRW:Hid (wr.heap[b]?=some (.cells l.toArray 36 (0,0))):=zQk ((hbt.block b hbl).trans HR.out)
  have hck: ∀k,wr.cell? ⟨b,k,none⟩=l[k]?:=fun k=>(zQz _ _ k _ _ (0,0) HRW.out).trans (by simp)
  have HCW:=zQk hck
  have HBT:=zQk (HB.out.trans (hbt.mono HB.out.size))
  have HU9:=zQk (HU8.out.below hbt)
  have HBLT:=zQk (show b<wr.heap.size from zQn hbl hbt.size)
  obtain⟨most,hm1,hm2,hm3⟩:=zJl HMO.out
  have HM1:=zQk hm1
  have HM3:=zQk hm3
  rw[show zMg (zDC c.nm)=(most:Int)by rw[hm1];rfl,zOV]
  obtain⟨many,hmn⟩: ∃m,zEp c.a c.b=m:=⟨_,rfl⟩
  have hmy:=HMY.out
  rw[hmn]at hm2 hmy ⊢
  have HMY2:=zQk hmy
  have g1: ¬(most:Int)<(many:Int):=by omega
  have HSA:=zQk (zK9 HMW.out HU.out HU9.out HSD.out)
  have c7:wr.cell? ⟨b,7,none⟩=some (.int .u8 (c.nm:Nat)):=(hck 7).trans HM.out.nm
  have c8:wr.cell? ⟨b,8,none⟩=some (.int .i64 (c.at_:Nat)):=(hck 8).trans HM.out.p
  have c0:wr.cell? ⟨b,0,none⟩=some (.int .i8 c.a.kind):=(hck 0).trans HM.out.a.1
  have c6:wr.cell? ⟨b,6,none⟩=some (.bool c.nt):=(hck 6).trans HM.out.nt
  have HCI:Hid ((Tryz.prog.info? 36).map (·.size)=some l.toArray.size):=zQk (by rw[zCH,List.size_toArray,HL.out.len])
  clear hbt hbl hck hm1 hm2 hm3 hmn hmy HMO HMY HB HBW HBR HBS HAR HRK HR HCK
  obtain⟨Z,hZ⟩: ∃Z:List Value,List.replicate 256 (Value.int .u8 0)=Z:=⟨_,rfl⟩
  have HZI:Hid ((Tryz.prog.info? 34).map (·.size)=some Z.length):=zQk (by rw[←hZ,List.length_replicate];kernel_rfl)
  have HQ:Hid (∀w,(Op.equalIn 10000 34 (.agg Z.toArray) (.agg Tryz.zeroCells34)).run Tryz.prog w= .ok true w):=zQk (by rw[←hZ];exact zLw)
  by_cases n121:c.nm=121
  ·have h2:most=2:=by have:=HM1.out;rw[n121]at this;simpa [zDC]using this.symm
   subst h2
   have g1: ¬(2:Int)<(many:Int):=by omega
   rw[n121]at c7
   have N121:=zQk n121
   have N115:=zQk (show¬c.nm=115 by omega)
   clear hZ
   by_cases k1:many=1
   ·have hkz: ¬c.a.kind=0:=by
     have:=HMY2.out
     rw[k1]at this
     simpa using this
    have qa:(c.a.kind==0)=false:=zQq.2 hkz
    subst k1
    clear hkz
    go_wp2_with (refine zAy rfl 36 _ rfl b rfl 36 l.toArray (0,0) _ HRW.out Tryz.underlying36 rfl HCI.out ?_)
    refine HSA.out.mono ?_;rintro e w6 ⟨rfl,hb6⟩
    have hck6: ∀k,w6.cell? ⟨b,k,none⟩=l[k]?:=fun k=>(hb6.cell (p:=⟨b,k,none⟩) HBLT.out).trans (HCW.out k)
    have HC6:=zQk hck6
    have HB6:=zQk (HBT.out.trans (hb6.mono HBT.out.size))
    have HM6:=zQk (HMW.out.kept (S:=fun _=>False) (zAQ.bel hb6) fun _ _ e=>e)
    have HU6:=zQk (HU9.out.below hb6)
    have d7:w6.cell? ⟨b,7,none⟩=some (.int .u8 (c.nm:Nat)):=(hck6 7).trans HM.out.nm
    clear hck6 hb6 c0 c6 c7 c8 HSA
    rw[n121]at d7
    have hen:=HEND.out
    rw[if_neg (by omega)]at hen
    simp only[Bool.and_eq_true,List.isEmpty_iff,beq_iff_eq,Bool.not_eq_true']at hen
    obtain⟨⟨⟨⟨⟨hre,hfi⟩,hct⟩,hal⟩,hpr⟩,hwr⟩:=hen
    obtain⟨v10,hv10,hn10⟩:=HM.out.re
    obtain⟨v11,hv11,hn11⟩:=HM.out.fi
    obtain⟨o10,c10,rfl,_⟩:=hn10
    obtain⟨o11,c11,_,rfl,_⟩:=hn11
    have d10:w6.cell? ⟨b,10,none⟩=some (.slice o10 0 c10):=(HC6.out 10).trans (by rw[hv10,hre];rfl)
    have d11:w6.cell? ⟨b,11,none⟩=some (.slice o11 0 c11):=(HC6.out 11).trans (by rw[hv11,hfi];rfl)
    have d12:w6.cell? ⟨b,12,none⟩=some (.int .i64 0):=(HC6.out 12).trans (by rw[HM.out.ct,hct])
    have d13:w6.cell? ⟨b,13,none⟩=some (.bool false):=(HC6.out 13).trans (by rw[HM.out.al,hal])
    have d14:w6.cell? ⟨b,14,none⟩=some (.bool false):=(HC6.out 14).trans (by rw[HM.out.pr,hpr])
    have d15:w6.cell? ⟨b,15,none⟩=some (.bool false):=(HC6.out 15).trans (by rw[HM.out.wr,hwr])
    clear n121 hre hfi hct hal hpr hwr hv10 hv11 N121 N115
    go_wp2_with fail
    go_ret
    exact⟨rfl,HB6.out⟩
   have q1:((many:Int)==1)=false:=zQq.2 (by omega)
   clear k1
   go_wp2_with (refine zAy rfl 36 _ rfl b rfl 36 l.toArray (0,0) _ HRW.out Tryz.underlying36 rfl HCI.out ?_)
   refine HSA.out.mono ?_;rintro e w6 ⟨rfl,hb6⟩
   have hck6: ∀k,w6.cell? ⟨b,k,none⟩=l[k]?:=fun k=>(hb6.cell (p:=⟨b,k,none⟩) HBLT.out).trans (HCW.out k)
   have HC6:=zQk hck6
   have HB6:=zQk (HBT.out.trans (hb6.mono HBT.out.size))
   have HM6:=zQk (HMW.out.kept (S:=fun _=>False) (zAQ.bel hb6) fun _ _ e=>e)
   have HU6:=zQk (HU9.out.below hb6)
   have d7:w6.cell? ⟨b,7,none⟩=some (.int .u8 (c.nm:Nat)):=(hck6 7).trans HM.out.nm
   clear hck6 hb6 c0 c6 c7 c8 HSA
   rw[n121]at d7
   have hen:=HEND.out
   rw[if_neg (by omega)]at hen
   simp only[Bool.and_eq_true,List.isEmpty_iff,beq_iff_eq,Bool.not_eq_true']at hen
   obtain⟨⟨⟨⟨⟨hre,hfi⟩,hct⟩,hal⟩,hpr⟩,hwr⟩:=hen
   obtain⟨v10,hv10,hn10⟩:=HM.out.re
   obtain⟨v11,hv11,hn11⟩:=HM.out.fi
   obtain⟨o10,c10,rfl,_⟩:=hn10
   obtain⟨o11,c11,_,rfl,_⟩:=hn11
   have d10:w6.cell? ⟨b,10,none⟩=some (.slice o10 0 c10):=(HC6.out 10).trans (by rw[hv10,hre];rfl)
   have d11:w6.cell? ⟨b,11,none⟩=some (.slice o11 0 c11):=(HC6.out 11).trans (by rw[hv11,hfi];rfl)
   have d12:w6.cell? ⟨b,12,none⟩=some (.int .i64 0):=(HC6.out 12).trans (by rw[HM.out.ct,hct])
   have d13:w6.cell? ⟨b,13,none⟩=some (.bool false):=(HC6.out 13).trans (by rw[HM.out.al,hal])
   have d14:w6.cell? ⟨b,14,none⟩=some (.bool false):=(HC6.out 14).trans (by rw[HM.out.pr,hpr])
   have d15:w6.cell? ⟨b,15,none⟩=some (.bool false):=(HC6.out 15).trans (by rw[HM.out.wr,hwr])
   clear n121 hre hfi hct hal hpr hwr hv10 hv11 N121 N115
   go_wp2_with fail
   go_ret
   exact⟨rfl,HB6.out⟩
  have HZZ:Hid (∀W:World,(∀k,W.cell? ⟨b,k,none⟩=l[k]?)→W.rangeAt b 16 Z):=zQk fun W hW j v hv=>by
   have htz:c.tb=zI8:=by have:=HTY.out;simp only[Bool.or_eq_true,beq_iff_eq,decide_eq_true_eq]at this;exact this.resolve_left n121
   rw[←hZ]at hv
   have hj:j<256:=by have:=(zQr.1 hv).1;simpa using this
   rw[List.getElem?_replicate,if_pos hj]at hv
   cases hv
   rw[hW (16+j),HM.out.tb j hj,htz,zNa]
   rfl
  clear hZ
  by_cases n115:c.nm=115
  ·have h2:most=2:=by have:=HM1.out;rw[n115]at this;simpa [zDC]using this.symm
   subst h2
   have g1: ¬(2:Int)<(many:Int):=by omega
   rw[n115]at c7
   have N121:=zQk n121
   have N115:=zQk n115
   by_cases k1:many=1
   ·have hkz: ¬c.a.kind=0:=by
     have:=HMY2.out
     rw[k1]at this
     simpa using this
    have qa:(c.a.kind==0)=false:=zQq.2 hkz
    subst k1
    clear hkz
    go_wp2_with (refine zAy rfl 36 _ rfl b rfl 36 l.toArray (0,0) _ HRW.out Tryz.underlying36 rfl HCI.out ?_)
    refine HSA.out.mono ?_;rintro e w6 ⟨rfl,hb6⟩
    have hck6: ∀k,w6.cell? ⟨b,k,none⟩=l[k]?:=fun k=>(hb6.cell (p:=⟨b,k,none⟩) HBLT.out).trans (HCW.out k)
    have HC6:=zQk hck6
    have HZ6:=zQk (HZZ.out w6 hck6)
    have HB6:=zQk (HBT.out.trans (hb6.mono HBT.out.size))
    have HM6:=zQk (HMW.out.kept (S:=fun _=>False) (zAQ.bel hb6) fun _ _ e=>e)
    have HU6:=zQk (HU9.out.below hb6)
    have d7:w6.cell? ⟨b,7,none⟩=some (.int .u8 (c.nm:Nat)):=(hck6 7).trans HM.out.nm
    clear hck6 hb6 c0 c6 c7 c8 HSA
    have hen:=HEND.out
    rw[if_pos n115]at hen
    simp only[Bool.and_eq_true,Bool.or_eq_true,List.isEmpty_iff,decide_eq_true_eq]at hen
    obtain⟨⟨hre,hfs⟩,hct⟩:=hen
    rw[n115]at d7
    obtain⟨v10,hv10,hn10⟩:=HM6.out.re
    obtain⟨v11,hv11,hn11⟩:=HM6.out.fi
    obtain⟨o10,c10,rfl,_⟩:=id hn10
    obtain⟨o11,c11,_,rfl,_⟩:=id hn11
    have d10:w6.cell? ⟨b,10,none⟩=some (.slice o10 c.re.length c10):=(HC6.out 10).trans hv10
    have d11:w6.cell? ⟨b,11,none⟩=some (.slice o11 c.fi.length c11):=(HC6.out 11).trans hv11
    have d12:w6.cell? ⟨b,12,none⟩=some (.int .i64 (c.ct:Nat)):=(HC6.out 12).trans HM.out.ct
    have hct2:(c.ct:Int)≤1048576:=by omega
    have HFI:Hid (∀W,Below w6.heap.size w6 W→Pcs W base (.slice o11 c.fi.length c11) c.fi):=zQk fun W hb=>hn11.kept (S:=fun _=>False) (zAQ.bel hb) fun _ _ e=>e
    have HRE:=zQk (hn10.nv HF.out.2.2.1 HF.out.2.2.2).1
    have HFL:Hid (c.fi.length≤9223372036854775807):=zQk (by
     obtain⟨_,_,_,_,_,hrw,_⟩:=hn11
     rcases hrw.2 with ⟨_,h0⟩|⟨_,_,_,_,_,_,h1,h2,_⟩
     ·omega
     ·unfold maxLen at h2;omega)
    have HFS:=zQk hfs
    have HRE2:=zQk hre
    have hb6:b<w6.heap.size:=zRH _ _ d7
    clear hfs hre hct hv10 hv11 hn10 hn11 N121 N115 n115 n121
    go_upto_region 14 with (first|refine zAf rfl 34 _ rfl b 16 rfl Z _ HZ6.out Tryz.underlying34 rfl HZI.out ?_|refine zCY rfl _ _ rfl rfl rfl HQ.out ?_)
    by_cases hr0:c.re.length=0
    ·rw[hr0]at d10
     refine zAA (X:=none) 19 [([0,1,2,3,4,5,6],7),([8,9,10,11,13,14],12),([],15)] [16,17,18] (by kernel_rfl) (by kernel_rfl) rfl (fun _ _ _ _ _ h=>h) ?_
     simp only[zAM,zAC,zAE,zAD,zAB,List.getD_cons_zero,List.getD_cons_succ,List.drop_succ_cons,List.drop_nil]
     repeat (go_big_quiet_step (fail))
     refine wpQuiet_nil ?_
     go_wp2_with fail
     refine⟨zAI.refl _,?_⟩
     repeat (go_big_quiet_step (fail))
     refine wpQuiet_nil ?_
     go_wp2_with fail
     refine⟨zAI.refl _,?_⟩
     repeat (go_big_quiet_step (fail))
     refine wpQuiet_nil ?_
     go_wp2_with fail
     refine⟨zAI.refl _,?_⟩
     repeat (go_big_quiet_step (fail))
     refine wpQuiet_nil ?_
     have HX:Hid (Below w6.heap.size w6 w6.drew):=zQk (zQl _ _).drew
     go_upto_region 16 with fail
     obtain⟨X,hX⟩: ∃X,w6.drew=X:=⟨_,rfl⟩
     rw[hX]at HX ⊢
     clear hX
     have HFC:=zC0 (ca:=c11) (HFI.out X HX.out).pr HFL.out
     rw[HFS.out]at HFC
     have HFC:=zQk HFC
     have z11:X.cell? ⟨b,11,none⟩=some (.slice o11 c.fi.length c11):=(HX.out.cell (p:=⟨b,11,none⟩) hb6).trans d11
     have z12:X.cell? ⟨b,12,none⟩=some (.int .i64 (c.ct:Nat)):=(HX.out.cell (p:=⟨b,12,none⟩) hb6).trans d12
     have hbX:b<X.heap.size:=zQn hb6 HX.out.size
     go_wp2_with fail
     refine HFC.out.mono ?_;rintro e wz ⟨rfl,hbz⟩
     have HBZ:=zQk (HB6.out.trans ((HX.out.trans (hbz.mono HX.out.size)).mono HB6.out.size))
     have y12:wz.cell? ⟨b,12,none⟩=some (.int .i64 (c.ct:Nat)):=(hbz.cell (p:=⟨b,12,none⟩) hbX).trans z12
     clear hbz z11 z12 HFC
     go_wp2_with fail
     go_ret
     exact⟨rfl,HBZ.out⟩
    have hr3:=HRE2.out.resolve_left (fun e=>hr0 (by rw[e];rfl))
    have hlen:0<c.re.length:=by omega
    have HSH:=zDM (cap:=c10) (HRE.out.below (w':=w6.drew) (zQl _ _).drew)
    rw[hr3.1]at HSH
    have HSH:=zQk HSH
    have HGR:=zQk hr3.2
    clear hr3 hr0
    refine zAA (X:=none) 19 [([0,1,2,3,4,5,6],7),([8,9,10,11,13,14],12),([],15)] [16,17,18] (by kernel_rfl) (by kernel_rfl) rfl (fun _ _ _ _ _ h=>h) ?_
    simp only[zAM,zAC,zAE,zAD,zAB,List.getD_cons_zero,List.getD_cons_succ,List.drop_succ_cons,List.drop_nil]
    repeat (go_big_quiet_step (fail))
    refine wpQuiet_nil ?_
    go_wp2_with fail
    refine HSH.out.mono ?_;rintro e w7 ⟨rfl,hb7⟩
    have HX7:Hid (Below w6.heap.size w6 w7):=zQk ((zQl w6.heap.size w6).drew.trans hb7)
    have HK7:=zQk (zAI.of_below (X:=none) hb7)
    have e11:w7.cell? ⟨b,11,none⟩=some (.slice o11 c.fi.length c11):=(HX7.out.cell (p:=⟨b,11,none⟩) hb6).trans d11
    have e10:w7.cell? ⟨b,10,none⟩=some (.slice o10 c.re.length c10):=(HX7.out.cell (p:=⟨b,10,none⟩) hb6).trans d10
    have hb7l:b<w7.heap.size:=zQn hb6 HX7.out.size
    have HFM:=zFO (ca:=c11) (HFI.out w7 HX7.out).pk (by rw[List.length_map];exact HFL.out)
    rw[List.length_map,←zHe]at HFM
    have HFM:=zQk HFM
    clear hb7 HSH
    go_wp2_with fail
    refine⟨HK7.out,?_⟩
    repeat (go_big_quiet_step (fail))
    refine wpQuiet_nil ?_
    go_wp2_with fail
    refine HFM.out.mono ?_;rintro e w8 ⟨rfl,hb8⟩
    have HX8:=zQk (HX7.out.trans (hb8.mono HX7.out.size))
    have HK8:=zQk (zAI.of_below (X:=none) hb8)
    have HGP:=zQk (zEY (cap:=c10) (HRE.out.below HX8.out))
    clear hb8 HFM e11 e10 hb7l
    go_wp2_with fail
    refine⟨HK8.out,?_⟩
    repeat (go_big_quiet_step (fail))
    refine wpQuiet_nil ?_
    go_wp2_with fail
    refine HGP.out.mono ?_;rintro e w9 ⟨rfl,hb9⟩
    have HX:Hid (Below w6.heap.size w6 w9):=zQk (HX8.out.trans (hb9.mono HX8.out.size))
    have HK9:=zQk (zAI.of_below (X:=none) hb9)
    have g9: ¬((zCR c.re:Nat):Int)<zGj c.fi:=by have:=HGR.out;omega
    clear hb9 HGP
    go_wp2_with fail
    refine⟨HK9.out,?_⟩
    repeat (go_big_quiet_step (fail))
    refine wpQuiet_nil ?_
    go_upto_region 16 with fail
    obtain⟨X,hX⟩: ∃X,w9=X:=⟨_,rfl⟩
    rw[hX]at HX ⊢
    clear hX
    have HFC:=zC0 (ca:=c11) (HFI.out X HX.out).pr HFL.out
    rw[HFS.out]at HFC
    have HFC:=zQk HFC
    have z11:X.cell? ⟨b,11,none⟩=some (.slice o11 c.fi.length c11):=(HX.out.cell (p:=⟨b,11,none⟩) hb6).trans d11
    have z12:X.cell? ⟨b,12,none⟩=some (.int .i64 (c.ct:Nat)):=(HX.out.cell (p:=⟨b,12,none⟩) hb6).trans d12
    have hbX:b<X.heap.size:=zQn hb6 HX.out.size
    go_wp2_with fail
    refine HFC.out.mono ?_;rintro e wz ⟨rfl,hbz⟩
    have HBZ:=zQk (HB6.out.trans ((HX.out.trans (hbz.mono HX.out.size)).mono HB6.out.size))
    have y12:wz.cell? ⟨b,12,none⟩=some (.int .i64 (c.ct:Nat)):=(hbz.cell (p:=⟨b,12,none⟩) hbX).trans z12
    clear hbz z11 z12 HFC
    go_wp2_with fail
    go_ret
    exact⟨rfl,HBZ.out⟩
   have q1:((many:Int)==1)=false:=zQq.2 (by omega)
   clear k1
   go_wp2_with (refine zAy rfl 36 _ rfl b rfl 36 l.toArray (0,0) _ HRW.out Tryz.underlying36 rfl HCI.out ?_)
   refine HSA.out.mono ?_;rintro e w6 ⟨rfl,hb6⟩
   have hck6: ∀k,w6.cell? ⟨b,k,none⟩=l[k]?:=fun k=>(hb6.cell (p:=⟨b,k,none⟩) HBLT.out).trans (HCW.out k)
   have HC6:=zQk hck6
   have HZ6:=zQk (HZZ.out w6 hck6)
   have HB6:=zQk (HBT.out.trans (hb6.mono HBT.out.size))
   have HM6:=zQk (HMW.out.kept (S:=fun _=>False) (zAQ.bel hb6) fun _ _ e=>e)
   have HU6:=zQk (HU9.out.below hb6)
   have d7:w6.cell? ⟨b,7,none⟩=some (.int .u8 (c.nm:Nat)):=(hck6 7).trans HM.out.nm
   clear hck6 hb6 c0 c6 c7 c8 HSA
   have hen:=HEND.out
   rw[if_pos n115]at hen
   simp only[Bool.and_eq_true,Bool.or_eq_true,List.isEmpty_iff,decide_eq_true_eq]at hen
   obtain⟨⟨hre,hfs⟩,hct⟩:=hen
   rw[n115]at d7
   obtain⟨v10,hv10,hn10⟩:=HM6.out.re
   obtain⟨v11,hv11,hn11⟩:=HM6.out.fi
   obtain⟨o10,c10,rfl,_⟩:=id hn10
   obtain⟨o11,c11,_,rfl,_⟩:=id hn11
   have d10:w6.cell? ⟨b,10,none⟩=some (.slice o10 c.re.length c10):=(HC6.out 10).trans hv10
   have d11:w6.cell? ⟨b,11,none⟩=some (.slice o11 c.fi.length c11):=(HC6.out 11).trans hv11
   have d12:w6.cell? ⟨b,12,none⟩=some (.int .i64 (c.ct:Nat)):=(HC6.out 12).trans HM.out.ct
   have hct2:(c.ct:Int)≤1048576:=by omega
   have HFI:Hid (∀W,Below w6.heap.size w6 W→Pcs W base (.slice o11 c.fi.length c11) c.fi):=zQk fun W hb=>hn11.kept (S:=fun _=>False) (zAQ.bel hb) fun _ _ e=>e
   have HRE:=zQk (hn10.nv HF.out.2.2.1 HF.out.2.2.2).1
   have HFL:Hid (c.fi.length≤9223372036854775807):=zQk (by
    obtain⟨_,_,_,_,_,hrw,_⟩:=hn11
    rcases hrw.2 with ⟨_,h0⟩|⟨_,_,_,_,_,_,h1,h2,_⟩
    ·omega
    ·unfold maxLen at h2;omega)
   have HFS:=zQk hfs
   have HRE2:=zQk hre
   have hb6:b<w6.heap.size:=zRH _ _ d7
   clear hfs hre hct hv10 hv11 hn10 hn11 N121 N115 n115 n121
   go_upto_region 14 with (first|refine zAf rfl 34 _ rfl b 16 rfl Z _ HZ6.out Tryz.underlying34 rfl HZI.out ?_|refine zCY rfl _ _ rfl rfl rfl HQ.out ?_)
   by_cases hr0:c.re.length=0
   ·rw[hr0]at d10
    refine zAA (X:=none) 19 [([0,1,2,3,4,5,6],7),([8,9,10,11,13,14],12),([],15)] [16,17,18] (by kernel_rfl) (by kernel_rfl) rfl (fun _ _ _ _ _ h=>h) ?_
    simp only[zAM,zAC,zAE,zAD,zAB,List.getD_cons_zero,List.getD_cons_succ,List.drop_succ_cons,List.drop_nil]
    repeat (go_big_quiet_step (fail))
    refine wpQuiet_nil ?_
    go_wp2_with fail
    refine⟨zAI.refl _,?_⟩
    repeat (go_big_quiet_step (fail))
    refine wpQuiet_nil ?_
    go_wp2_with fail
    refine⟨zAI.refl _,?_⟩
    repeat (go_big_quiet_step (fail))
    refine wpQuiet_nil ?_
    go_wp2_with fail
    refine⟨zAI.refl _,?_⟩
    repeat (go_big_quiet_step (fail))
    refine wpQuiet_nil ?_
    have HX:Hid (Below w6.heap.size w6 w6.drew):=zQk (zQl _ _).drew
    go_upto_region 16 with fail
    obtain⟨X,hX⟩: ∃X,w6.drew=X:=⟨_,rfl⟩
    rw[hX]at HX ⊢
    clear hX
    have HFC:=zC0 (ca:=c11) (HFI.out X HX.out).pr HFL.out
    rw[HFS.out]at HFC
    have HFC:=zQk HFC
    have z11:X.cell? ⟨b,11,none⟩=some (.slice o11 c.fi.length c11):=(HX.out.cell (p:=⟨b,11,none⟩) hb6).trans d11
    have z12:X.cell? ⟨b,12,none⟩=some (.int .i64 (c.ct:Nat)):=(HX.out.cell (p:=⟨b,12,none⟩) hb6).trans d12
    have hbX:b<X.heap.size:=zQn hb6 HX.out.size
    go_wp2_with fail
    refine HFC.out.mono ?_;rintro e wz ⟨rfl,hbz⟩
    have HBZ:=zQk (HB6.out.trans ((HX.out.trans (hbz.mono HX.out.size)).mono HB6.out.size))
    have y12:wz.cell? ⟨b,12,none⟩=some (.int .i64 (c.ct:Nat)):=(hbz.cell (p:=⟨b,12,none⟩) hbX).trans z12
    clear hbz z11 z12 HFC
    go_wp2_with fail
    go_ret
    exact⟨rfl,HBZ.out⟩
   have hr3:=HRE2.out.resolve_left (fun e=>hr0 (by rw[e];rfl))
   have hlen:0<c.re.length:=by omega
   have HSH:=zDM (cap:=c10) (HRE.out.below (w':=w6.drew) (zQl _ _).drew)
   rw[hr3.1]at HSH
   have HSH:=zQk HSH
   have HGR:=zQk hr3.2
   clear hr3 hr0
   refine zAA (X:=none) 19 [([0,1,2,3,4,5,6],7),([8,9,10,11,13,14],12),([],15)] [16,17,18] (by kernel_rfl) (by kernel_rfl) rfl (fun _ _ _ _ _ h=>h) ?_
   simp only[zAM,zAC,zAE,zAD,zAB,List.getD_cons_zero,List.getD_cons_succ,List.drop_succ_cons,List.drop_nil]
   repeat (go_big_quiet_step (fail))
   refine wpQuiet_nil ?_
   go_wp2_with fail
   refine HSH.out.mono ?_;rintro e w7 ⟨rfl,hb7⟩
   have HX7:Hid (Below w6.heap.size w6 w7):=zQk ((zQl w6.heap.size w6).drew.trans hb7)
   have HK7:=zQk (zAI.of_below (X:=none) hb7)
   have e11:w7.cell? ⟨b,11,none⟩=some (.slice o11 c.fi.length c11):=(HX7.out.cell (p:=⟨b,11,none⟩) hb6).trans d11
   have e10:w7.cell? ⟨b,10,none⟩=some (.slice o10 c.re.length c10):=(HX7.out.cell (p:=⟨b,10,none⟩) hb6).trans d10
   have hb7l:b<w7.heap.size:=zQn hb6 HX7.out.size
   have HFM:=zFO (ca:=c11) (HFI.out w7 HX7.out).pk (by rw[List.length_map];exact HFL.out)
   rw[List.length_map,←zHe]at HFM
   have HFM:=zQk HFM
   clear hb7 HSH
   go_wp2_with fail
   refine⟨HK7.out,?_⟩
   repeat (go_big_quiet_step (fail))
   refine wpQuiet_nil ?_
   go_wp2_with fail
   refine HFM.out.mono ?_;rintro e w8 ⟨rfl,hb8⟩
   have HX8:=zQk (HX7.out.trans (hb8.mono HX7.out.size))
   have HK8:=zQk (zAI.of_below (X:=none) hb8)
   have HGP:=zQk (zEY (cap:=c10) (HRE.out.below HX8.out))
   clear hb8 HFM e11 e10 hb7l
   go_wp2_with fail
   refine⟨HK8.out,?_⟩
   repeat (go_big_quiet_step (fail))
   refine wpQuiet_nil ?_
   go_wp2_with fail
   refine HGP.out.mono ?_;rintro e w9 ⟨rfl,hb9⟩
   have HX:Hid (Below w6.heap.size w6 w9):=zQk (HX8.out.trans (hb9.mono HX8.out.size))
   have HK9:=zQk (zAI.of_below (X:=none) hb9)
   have g9: ¬((zCR c.re:Nat):Int)<zGj c.fi:=by have:=HGR.out;omega
   clear hb9 HGP
   go_wp2_with fail
   refine⟨HK9.out,?_⟩
   repeat (go_big_quiet_step (fail))
   refine wpQuiet_nil ?_
   go_upto_region 16 with fail
   obtain⟨X,hX⟩: ∃X,w9=X:=⟨_,rfl⟩
   rw[hX]at HX ⊢
   clear hX
   have HFC:=zC0 (ca:=c11) (HFI.out X HX.out).pr HFL.out
   rw[HFS.out]at HFC
   have HFC:=zQk HFC
   have z11:X.cell? ⟨b,11,none⟩=some (.slice o11 c.fi.length c11):=(HX.out.cell (p:=⟨b,11,none⟩) hb6).trans d11
   have z12:X.cell? ⟨b,12,none⟩=some (.int .i64 (c.ct:Nat)):=(HX.out.cell (p:=⟨b,12,none⟩) hb6).trans d12
   have hbX:b<X.heap.size:=zQn hb6 HX.out.size
   go_wp2_with fail
   refine HFC.out.mono ?_;rintro e wz ⟨rfl,hbz⟩
   have HBZ:=zQk (HB6.out.trans ((HX.out.trans (hbz.mono HX.out.size)).mono HB6.out.size))
   have y12:wz.cell? ⟨b,12,none⟩=some (.int .i64 (c.ct:Nat)):=(hbz.cell (p:=⟨b,12,none⟩) hbX).trans z12
   clear hbz z11 z12 HFC
   go_wp2_with fail
   go_ret
   exact⟨rfl,HBZ.out⟩
  have q121:((c.nm:Int) !=121)=true:=by rw[bne_iff_ne];omega
  have q115:((c.nm:Int) !=115)=true:=by rw[bne_iff_ne];omega
  have N121:=zQk n121
  have N115:=zQk n115
  by_cases k1:many=1
  ·have hkz: ¬c.a.kind=0:=by
    have:=HMY2.out
    rw[k1]at this
    simpa using this
   have qa:(c.a.kind==0)=false:=zQq.2 hkz
   subst k1
   clear hkz
   have g1: ¬(most:Int)<1:=by omega
   have q0:((most:Int)==0)=false:=zQq.2 (by omega)
   go_wp2_with (refine zAy rfl 36 _ rfl b rfl 36 l.toArray (0,0) _ HRW.out Tryz.underlying36 rfl HCI.out ?_)
   refine HSA.out.mono ?_;rintro e w6 ⟨rfl,hb6⟩
   have hck6: ∀k,w6.cell? ⟨b,k,none⟩=l[k]?:=fun k=>(hb6.cell (p:=⟨b,k,none⟩) HBLT.out).trans (HCW.out k)
   have HC6:=zQk hck6
   have HZ6:=zQk (HZZ.out w6 hck6)
   have HB6:=zQk (HBT.out.trans (hb6.mono HBT.out.size))
   have HM6:=zQk (HMW.out.kept (S:=fun _=>False) (zAQ.bel hb6) fun _ _ e=>e)
   have HU6:=zQk (HU9.out.below hb6)
   have d7:w6.cell? ⟨b,7,none⟩=some (.int .u8 (c.nm:Nat)):=(hck6 7).trans HM.out.nm
   clear hck6 hb6 c0 c6 c7 c8 HSA
   have hen:=HEND.out
   rw[if_neg (by omega)]at hen
   simp only[Bool.and_eq_true,List.isEmpty_iff,beq_iff_eq,Bool.not_eq_true']at hen
   obtain⟨⟨⟨⟨⟨hre,hfi⟩,hct⟩,hal⟩,hpr⟩,hwr⟩:=hen
   obtain⟨v10,hv10,hn10⟩:=HM.out.re
   obtain⟨v11,hv11,hn11⟩:=HM.out.fi
   obtain⟨o10,c10,rfl,_⟩:=hn10
   obtain⟨o11,c11,_,rfl,_⟩:=hn11
   have d10:w6.cell? ⟨b,10,none⟩=some (.slice o10 0 c10):=(HC6.out 10).trans (by rw[hv10,hre];rfl)
   have d11:w6.cell? ⟨b,11,none⟩=some (.slice o11 0 c11):=(HC6.out 11).trans (by rw[hv11,hfi];rfl)
   have d12:w6.cell? ⟨b,12,none⟩=some (.int .i64 0):=(HC6.out 12).trans (by rw[HM.out.ct,hct])
   have d13:w6.cell? ⟨b,13,none⟩=some (.bool false):=(HC6.out 13).trans (by rw[HM.out.al,hal])
   have d14:w6.cell? ⟨b,14,none⟩=some (.bool false):=(HC6.out 14).trans (by rw[HM.out.pr,hpr])
   have d15:w6.cell? ⟨b,15,none⟩=some (.bool false):=(HC6.out 15).trans (by rw[HM.out.wr,hwr])
   clear n121 n115 hre hfi hct hal hpr hwr hv10 hv11 N121 N115
   go_wp2_with (first|refine zAf rfl 34 _ rfl b 16 rfl Z _ HZ6.out Tryz.underlying34 rfl HZI.out ?_|refine zCY rfl _ _ rfl rfl rfl HQ.out ?_)
   go_ret
   exact⟨rfl,HB6.out⟩
  have q1:((many:Int)==1)=false:=zQq.2 (by omega)
  clear k1
  by_cases k0:most=0
  ·rw[HM3.out k0]at c6
   subst k0
   have g1: ¬(0:Int)<(many:Int):=by omega
   go_wp2_with (refine zAy rfl 36 _ rfl b rfl 36 l.toArray (0,0) _ HRW.out Tryz.underlying36 rfl HCI.out ?_)
   refine HSA.out.mono ?_;rintro e w6 ⟨rfl,hb6⟩
   have hck6: ∀k,w6.cell? ⟨b,k,none⟩=l[k]?:=fun k=>(hb6.cell (p:=⟨b,k,none⟩) HBLT.out).trans (HCW.out k)
   have HC6:=zQk hck6
   have HZ6:=zQk (HZZ.out w6 hck6)
   have HB6:=zQk (HBT.out.trans (hb6.mono HBT.out.size))
   have HM6:=zQk (HMW.out.kept (S:=fun _=>False) (zAQ.bel hb6) fun _ _ e=>e)
   have HU6:=zQk (HU9.out.below hb6)
   have d7:w6.cell? ⟨b,7,none⟩=some (.int .u8 (c.nm:Nat)):=(hck6 7).trans HM.out.nm
   clear hck6 hb6 c0 c6 c7 c8 HSA
   have hen:=HEND.out
   rw[if_neg (by omega)]at hen
   simp only[Bool.and_eq_true,List.isEmpty_iff,beq_iff_eq,Bool.not_eq_true']at hen
   obtain⟨⟨⟨⟨⟨hre,hfi⟩,hct⟩,hal⟩,hpr⟩,hwr⟩:=hen
   obtain⟨v10,hv10,hn10⟩:=HM.out.re
   obtain⟨v11,hv11,hn11⟩:=HM.out.fi
   obtain⟨o10,c10,rfl,_⟩:=hn10
   obtain⟨o11,c11,_,rfl,_⟩:=hn11
   have d10:w6.cell? ⟨b,10,none⟩=some (.slice o10 0 c10):=(HC6.out 10).trans (by rw[hv10,hre];rfl)
   have d11:w6.cell? ⟨b,11,none⟩=some (.slice o11 0 c11):=(HC6.out 11).trans (by rw[hv11,hfi];rfl)
   have d12:w6.cell? ⟨b,12,none⟩=some (.int .i64 0):=(HC6.out 12).trans (by rw[HM.out.ct,hct])
   have d13:w6.cell? ⟨b,13,none⟩=some (.bool false):=(HC6.out 13).trans (by rw[HM.out.al,hal])
   have d14:w6.cell? ⟨b,14,none⟩=some (.bool false):=(HC6.out 14).trans (by rw[HM.out.pr,hpr])
   have d15:w6.cell? ⟨b,15,none⟩=some (.bool false):=(HC6.out 15).trans (by rw[HM.out.wr,hwr])
   clear n121 n115 hre hfi hct hal hpr hwr hv10 hv11 N121 N115
   go_wp2_with (first|refine zAf rfl 34 _ rfl b 16 rfl Z _ HZ6.out Tryz.underlying34 rfl HZI.out ?_|refine zCY rfl _ _ rfl rfl rfl HQ.out ?_)
   go_ret
   exact⟨rfl,HB6.out⟩
  have q0:((most:Int)==0)=false:=zQq.2 (by omega)
  clear k0
  go_wp2_with (refine zAy rfl 36 _ rfl b rfl 36 l.toArray (0,0) _ HRW.out Tryz.underlying36 rfl HCI.out ?_)
  refine HSA.out.mono ?_;rintro e w6 ⟨rfl,hb6⟩
  have hck6: ∀k,w6.cell? ⟨b,k,none⟩=l[k]?:=fun k=>(hb6.cell (p:=⟨b,k,none⟩) HBLT.out).trans (HCW.out k)
  have HC6:=zQk hck6
  have HZ6:=zQk (HZZ.out w6 hck6)
  have HB6:=zQk (HBT.out.trans (hb6.mono HBT.out.size))
  have HM6:=zQk (HMW.out.kept (S:=fun _=>False) (zAQ.bel hb6) fun _ _ e=>e)
  have HU6:=zQk (HU9.out.below hb6)
  have d7:w6.cell? ⟨b,7,none⟩=some (.int .u8 (c.nm:Nat)):=(hck6 7).trans HM.out.nm
  clear hck6 hb6 c0 c6 c7 c8 HSA
  have hen:=HEND.out
  rw[if_neg (by omega)]at hen
  simp only[Bool.and_eq_true,List.isEmpty_iff,beq_iff_eq,Bool.not_eq_true']at hen
  obtain⟨⟨⟨⟨⟨hre,hfi⟩,hct⟩,hal⟩,hpr⟩,hwr⟩:=hen
  obtain⟨v10,hv10,hn10⟩:=HM.out.re
  obtain⟨v11,hv11,hn11⟩:=HM.out.fi
  obtain⟨o10,c10,rfl,_⟩:=hn10
  obtain⟨o11,c11,_,rfl,_⟩:=hn11
  have d10:w6.cell? ⟨b,10,none⟩=some (.slice o10 0 c10):=(HC6.out 10).trans (by rw[hv10,hre];rfl)
  have d11:w6.cell? ⟨b,11,none⟩=some (.slice o11 0 c11):=(HC6.out 11).trans (by rw[hv11,hfi];rfl)
  have d12:w6.cell? ⟨b,12,none⟩=some (.int .i64 0):=(HC6.out 12).trans (by rw[HM.out.ct,hct])
  have d13:w6.cell? ⟨b,13,none⟩=some (.bool false):=(HC6.out 13).trans (by rw[HM.out.al,hal])
  have d14:w6.cell? ⟨b,14,none⟩=some (.bool false):=(HC6.out 14).trans (by rw[HM.out.pr,hpr])
  have d15:w6.cell? ⟨b,15,none⟩=some (.bool false):=(HC6.out 15).trans (by rw[HM.out.wr,hwr])
  clear n121 n115 hre hfi hct hal hpr hwr hv10 hv11 N121 N115
  go_wp2_with (first|refine zAf rfl 34 _ rfl b 16 rfl Z _ HZ6.out Tryz.underlying34 rfl HZI.out ?_|refine zCY rfl _ _ rfl rfl rfl HQ.out ?_)
  go_ret
  exact⟨rfl,HB6.out⟩
 obtain⟨r0,r1,o,cp,r2,rn⟩:=(HAR.out.below HBR.out).2 k hk2
 have HRN:=zQk rn
 have HSB:=zQk (HAR.out.below HBR.out).1
 clear rn
 go_upto_region 5 with fail
 have hnr:=zQx wr (.cells #[.int .i8 (adK c k).kind,.int .i64 (adK c k).n,.slice o (adK c k).re.length cp] 31)
 have hbr:=(zQl wr.heap.size wr).alloc (zQm _) (.cells #[.int .i8 (adK c k).kind,.int .i64 (adK c k).n,.slice o (adK c k).re.length cp] 31)
 have d0:(wr.alloc (.cells #[.int .i8 (adK c k).kind,.int .i64 (adK c k).n,.slice o (adK c k).re.length cp] 31)).cell? ⟨wr.heap.size,0,none⟩=some (.int .i8 (adK c k).kind):=(zQz _ _ 0 _ _ (0,0) hnr).trans rfl
 have d1:(wr.alloc (.cells #[.int .i8 (adK c k).kind,.int .i64 (adK c k).n,.slice o (adK c k).re.length cp] 31)).cell? ⟨wr.heap.size,1,none⟩=some (.int .i64 (adK c k).n):=(zQz _ _ 1 _ _ (0,0) hnr).trans rfl
 have d2:(wr.alloc (.cells #[.int .i8 (adK c k).kind,.int .i64 (adK c k).n,.slice o (adK c k).re.length cp] 31)).cell? ⟨wr.heap.size,2,none⟩=some (.slice o (adK c k).re.length cp):=(zQz _ _ 2 _ _ (0,0) hnr).trans rfl
 have hrc:=zK5 (cap:=cp) (adK c k).kind (adK c k).n (HRN.out.below hbr)
 rw[show(⟨(adK c k).kind,(adK c k).n,(adK c k).re⟩:Ad)=adK c k from rfl,HRK.out k]at hrc
 have HRC:=zQk hrc
 have HB4:=zQk (HBR.out.trans (hbr.mono HBR.out.size))
 have hlt:wr.heap.size<(wr.alloc (.cells #[.int .i8 (adK c k).kind,.int .i64 (adK c k).n,.slice o (adK c k).re.length cp] 31)).heap.size:=by simp
 have HLT:=zQk hlt
 have HCN:=zQk (show zNX c k≤2 by unfold zNX;split<;>split<;>omega)
 clear hnr hbr hrc r0 r1 r2 hlt
 obtain⟨p6,hp6⟩: ∃p,wr.heap.size=p:=⟨_,rfl⟩
 obtain⟨W4,hW4⟩: ∃X,wr.alloc (.cells #[.int .i8 (adK c k).kind,.int .i64 (adK c k).n,.slice o (adK c k).re.length cp] 31)=X:=⟨_,rfl⟩
 rw[hW4]at d0 d1 d2 HRC HB4 HLT ⊢
 rw[hp6]at d0 d1 d2 HLT ⊢
 clear hp6 hW4
 go_wp2_with fail
 refine HRC.out.mono ?_;rintro e w5 ⟨rfl,hb5⟩
 have e0:w5.cell? ⟨p6,0,none⟩=some (.int .i8 (adK c k).kind):=(hb5.cell (p:=⟨p6,0,none⟩) HLT.out).trans d0
 have HB5:=zQk (HB4.out.trans (hb5.mono HB4.out.size))
 have hst:=zM8 c hk2
 clear hb5 d0 d1 d2 HRC
 by_cases hz:(adK c k).kind=0
 ·rw[hz]at e0
  rw[if_neg (by simp[hz])]at hst
  have HST:=zQk hst
  clear hst hz
  go_wp2_with fail
  go_roundg (2 - (k+1))
  case measure=>have:=HG.out;omega
  case rel=>exact⟨k+1,by rw[HST.out];rfl,congrArg (Value.int .i64) (by omega),rfl,by omega,HB5.out⟩
 ·have qz:((adK c k).kind==0)=false:=zQq.2 hz
  rw[if_pos hz]at hst
  have HST:=zQk hst
  have hcn:zNX c k≤2:=HCN.out
  clear hst hz
  go_wp2_with fail
  go_roundg (2 - (k+1))
  case measure=>have:=HG.out;omega
  case rel=>exact⟨k+1,by rw[HST.out];exact congrArg (Value.int .i64) (by omega),congrArg (Value.int .i64) (by omega),rfl,by omega,HB5.out⟩
end
section
open Go.RowKit
theorem zNw (T:List Nat):zBh T=(decide (2≤T.length)&&T.getD 0 0==35&&T.getD 1 0==110&&(decide (T.length=2)||T.getD 2 0==10)):=by
 have hq:zBh T=(T.takeWhile zAc==[35,110]):=by
  unfold zBh
  rw[zMM,←List.prefix_iff_eq_take.1 (List.takeWhile_prefix zAc)]
 have tw: ∀(x:Nat) (l:List Nat),(x::l).takeWhile zAc=if x=10 then []else x::l.takeWhile zAc:=fun x l=>by
  rw[List.takeWhile_cons]
  unfold zAc
  by_cases h:x=10<;>simp[h]
 rw[hq,Bool.eq_iff_iff]
 clear hq
 match T with
 |[]=>simp
 |[a]=>rw[tw];by_cases ha:a=10<;>simp[ha]
 |[a,b]=>rw[tw,tw];by_cases ha:a=10<;>by_cases hb:b=10<;>simp[ha,hb]
 |a::b::c::r=>rw[tw,tw,tw];by_cases ha:a=10<;>by_cases hb:b=10<;>by_cases hc:c=10<;>simp[ha,hb,hc]
theorem zJn (n:Int) {w:World} :Calls Tryz.prog 18 #[.int .i64 n] w fun e w'=>e= .returned (.bool (decide (2147483647<n)))∧w=w':=by
 go_enter Tryz.func18,Tryz.ntmps18
 go_wp2_with fail
 go_ret
 exact⟨rfl,rfl⟩
section
variable {w:World} {oa:Option Addr} {T:List Nat} {cap:Nat} {x y:Addr}
theorem zJF (h:zDa w oa T) (hu: ∀b∈T,b<256) (hcap:T.length≤cap) (hnil:oa=none→cap=0) (hs: ∀g o s,oa≠some ⟨g,o,some s⟩) (G:Gl w x y) (hx:x.block<w.heap.size) (hy:y.block<w.heap.size) (h4:4<w.heap.size) (ere:Bool):
  Calls Tryz.prog 5 #[.slice oa T.length cap,.bool ere] w fun e w'=>e= .returned (.bool true)∧Below w.heap.size w w':=by
 have huT: ∀j,T.getD j 0<256:=fun j=>zEs hu j
 have HTX:=zQk h
 have HU:=zQk hu
 have HUT:=zQk huT
 have HCP:=zQk hcap
 have HNI:=zQk hnil
 have HSP:=zQk hs
 have HG:=zQk G
 have HXB:=zQk hx
 have HYB:=zQk hy
 have H4:=zQk h4
 clear h hu hcap hnil hs G hx hy h4 huT
 go_enter Tryz.func5,Tryz.ntmps5
 go_wp2_with fail
 refine(zJn _).mono ?_;rintro e wz ⟨rfl,rfl⟩
 by_cases q1:(2147483647:Int)<(T.length:Int)
 ·rw[zQv q1]
  clear q1
  go_wp2_with fail
  go_ret
  exact⟨rfl,zQl _ _⟩
 rw[zQw q1]
 clear q1
 go_wp2_with fail
 refine(zGy HG.out HXB.out HYB.out H4.out).mono ?_;rintro e w1 ⟨rfl,hb1⟩
 have HB1:=zQk hb1
 clear hb1
 go_wp2_with fail
 have hz1:=HB1.out.size
 refine(zCP (cap:=cap) (ere:=ere) (HTX.out.below HB1.out) HU.out HCP.out HNI.out HSP.out (HG.out.bel HB1.out HXB.out HYB.out H4.out) (by have:=HXB.out;omega) (by have:=HYB.out;omega) (by have:=H4.out;omega)).mono ?_
 rintro e w2 ⟨hp,hb2⟩
 have HB2:=zQk (HB1.out.trans (hb2.mono hz1))
 clear hb2
 cases hq:zCB ere T with
 |error p=>
  rw[hq]at hp
  obtain rfl:=hp
  obtain⟨h1,h2⟩:=zFp HUT.out hq
  have r1:((p.1:Int) !=0)=true:=by rw[bne_iff_ne];omega
  have r2:(p.2:Int)≤(T.length:Int):=by omega
  have r3:(0:Int)<(p.1:Int):=by omega
  have r4:0<p.1:=by omega
  clear h1 hq hz1
  go_wp2_with fail
  go_ret
  exact⟨rfl,HB2.out⟩
 |ok L=>
 rw[hq]at hp
 obtain⟨v,rfl,hcm⟩:=hp
 obtain⟨o,cp,ls,hv,_⟩:=id hcm
 subst hv
 have HCM:=zQk hcm
 obtain⟨hl1,hl2,hgood,hpw⟩:=zNk hq
 have HLOW:=zQk (zOX HU.out hq)
 have HFIT:=zQk (zOY HUT.out hq)
 have HGOOD:=zQk hgood
 have HPW:=zQk hpw
 have HL1:=zQk hl1
 have HL2:=zQk hl2
 have r1: ¬(4096:Int)<(L.length:Int):=by omega
 have r2: ¬(65536:Int)<(T.length:Int):=by omega
 clear hcm hl1 hl2 hgood hpw hq hz1
 go_wp2_with fail
 go_loopg [10] L.length (fun gk kv wr=> ∃k:Nat,kv= .int .i64 (k:Nat)∧gk=L.length - k∧k≤L.length∧Below w2.heap.size w2 wr)
 case atStart=>exact⟨0,rfl,rfl,Nat.zero_le _,zQl _ _⟩
 case round=>
 obtain⟨k,rfl,hg,hk,hbr⟩:=hrel
 have HG2:=zQk hg
 have HK:=zQk hk
 have HBR:=zQk hbr
 clear hg hk hbr
 by_cases hkl:k<L.length
 case neg=>
  obtain rfl:k=L.length:=by have:=HK.out;omega
  have hbw:Below w.heap.size w wr:=HB2.out.trans (HBR.out.mono HB2.out.size)
  have HBW:=zQk hbw
  have HQ:=zNw T
  by_cases h2:T.length<2
  ·rw[zQw (show¬2≤T.length by omega)]at HQ
   simp only[Bool.false_and]at HQ
   rw[HQ]
   have g2: ¬(2:Int)≤(T.length:Int):=by omega
   clear HQ hbw h2
   go_wp2_with fail
   go_ret
   exact⟨rfl,HBW.out⟩
  obtain⟨gt,ot,rfl,htx⟩:=HTX.out.below hbw (by omega:0<T.length)
  have f0:wr.cell? ⟨gt,ot,none⟩=some (.int .u8 (T.getD 0 0:Nat)):=htx 0 (by omega)
  have f1:wr.cell? ⟨gt,ot+1,none⟩=some (.int .u8 (T.getD 1 0:Nat)):=htx 1 (by omega)
  have f2:T.length≠2→wr.cell? ⟨gt,ot+2,none⟩=some (.int .u8 (T.getD 2 0:Nat)):=fun h=>htx 2 (by omega)
  have HF2:=zQk f2
  have g2:(2:Int)≤(T.length:Int):=by omega
  have HH2:=zQk h2
  rw[zQv (show 2≤T.length by omega),Bool.true_and]at HQ
  revert HQ f0 f1 HF2
  generalize T.getD 0 0=a
  generalize T.getD 1 0=b
  generalize T.getD 2 0=c
  intro HQ f0 f1 HF2
  clear hbw htx f2 h2
  by_cases h0:a=35
  case neg=>
   rw[show(a==35)=false from zQq.2 h0]at HQ
   simp only[Bool.false_and]at HQ
   rw[HQ]
   have e0:((a:Int)==35)=false:=zQq.2 (by omega)
   clear HQ
   go_wp2_with fail
   go_ret
   exact⟨rfl,HBW.out⟩
  subst h0
  by_cases h1:b=110
  case neg=>
   rw[show(b==110)=false from zQq.2 h1]at HQ
   simp only[Bool.false_and,Bool.and_false]at HQ
   rw[HQ]
   have e0:((b:Int)==110)=false:=zQq.2 (by omega)
   clear HQ
   go_wp2_with fail
   go_ret
   exact⟨rfl,HBW.out⟩
  subst h1
  by_cases h3:T.length=2
  ·rw[zQv h3]at HQ
   simp only[Bool.true_or,Bool.and_true,beq_self_eq_true]at HQ
   rw[HQ]
   have e0:((T.length:Int)==2)=true:=by rw[beq_iff_eq];omega
   clear HQ h3
   go_wp2_with fail
   go_ret
   exact⟨rfl,HBW.out⟩
  have f2:=HF2.out h3
  have e3:((T.length:Int)==2)=false:=zQq.2 (by omega)
  have g3:2<T.length:=by have:=HH2.out;omega
  rw[zQw h3]at HQ
  simp only[Bool.false_or,Bool.and_true,beq_self_eq_true,Bool.true_and]at HQ
  clear h3
  by_cases h4:c=10
  ·subst h4
   rw[show zBh T=true by rw[HQ];rfl]
   clear HQ
   go_wp2_with fail
   go_ret
   exact⟨rfl,HBW.out⟩
  rw[show(c==10)=false from zQq.2 h4]at HQ
  rw[HQ]
  have e0:((c:Int)==10)=false:=zQq.2 (by omega)
  clear HQ
  go_wp2_with fail
  go_ret
  exact⟨rfl,HBW.out⟩
 have hck:L[k]?=some L[k]:=zQ1 hkl
 have hcm:L[k]∈L:=List.getElem_mem hkl
 have hcw:=HCM.out.kept (S:=fun _=>False) (zAQ.bel HBR.out) fun _ _ e=>e
 obtain⟨gl,l,rfl,hgl,_,hcl,hm,hcell⟩:=hcw.cells hck
 obtain⟨hsh,hat,hnm,_⟩:=HGOOD.out _ hcm
 have hlow:=HLOW.out _ hcm
 have hfit:=HFIT.out _ hcm
 have hpv: ∀k',k'+1=k→ ∃c',L[k']?=some c'∧c'.at_<L[k].at_:=fun k' e=>by
  refine⟨L[k'],zQ1 (by omega),?_⟩
  exact List.pairwise_iff_getElem.1 HPW.out k' k (by omega) hkl (by omega)
 obtain⟨c,hc⟩: ∃c,L[k]=c:=⟨_,rfl⟩
 rw[hc]at hm hsh hat hnm hlow hfit hpv
 clear hck hcm hc
 have HRG:Hid (wr.rangeAt gl (k*272) l):=zQk fun j v hv=>hcell j v hv
 have HCI:Hid ((Tryz.prog.info? 36).map (·.size)=some l.length):=zQk (by rw[zCH,hcl.len])
 have E8:=zQk (hcell 8 _ hm.p)
 have E7:=zQk (hcell 7 _ hm.nm)
 have HGL:=zQk hgl
 have hbw:Below w.heap.size w wr:=HB2.out.trans (HBR.out.mono HB2.out.size)
 have hdr:Below wr.heap.size wr wr.drew:=(zQl _ _).drew
 obtain⟨gt,ot,rfl,htx⟩:=HTX.out.below hbw (by omega:0<T.length)
 have ET:Hid (wr.cell? ⟨gt,ot+c.at_,none⟩=some (.int .u8 (c.nm:Nat))):=zQk (by rw[htx c.at_ hat,hnm])
 have HGT:=zQk (zRH _ _ (htx c.at_ hat))
 have HSH:=zQk (zID (w:=wr.drew) hcl (hm.kept (S:=fun _=>False) (zAQ.bel hdr) fun _ _ e=>e) hlow ((((HG.out.bel HB2.out HXB.out HYB.out H4.out).u8.below HBR.out)).below hdr) hfit (by rw[←hnm];exact HUT.out _) hsh)
 have HHC:=zQk (show∀k' c',L[k']?=some c'→wr.cell? ⟨gl,k'*272+8,none⟩=some (.int .i64 (c'.at_:Nat))from fun k' c' hc'=>by
  obtain⟨g',l',e',_,_,_,hm',hcell'⟩:=hcw.cells hc'
  cases e'
  exact hcell' 8 _ hm'.p)
 have HPV:=zQk hpv
 have HAT:=zQk hat
 clear hcw hgl hcl hm hcell hsh hnm hlow hfit hpv hbw hdr htx
 by_cases k0:k=0
 ·subst k0
  go_upto_region 14 with fail
  refine zAA (X:=none) 58 [([0,1,2],3),([],4)] [5,6,7,8,9,10,11,12,13,14,15,16,17,18,19,20,21,22,23,24,25,26,27,28,29,30,31,32,33,34,35,36,37,38,39,40,41,42,43,44,45,46,47,48,49,50,51,52,53,54,55,56,57] (by kernel_rfl) (by kernel_rfl) rfl (fun _ _ _ _ _ h=>h) ?_
  simp only[zAM,zAC,zAE,zAD,zAB,List.getD_cons_zero,List.getD_cons_succ,List.drop_succ_cons,List.drop_nil]
  repeat (go_big_quiet_step (fail))
  refine wpQuiet_nil ?_
  go_wp2_with (refine wpList_load_mid rfl 36 _ rfl gl (0*272) rfl l _ HRG.out Tryz.underlying36 rfl HCI.out ?_)
  refine⟨zAI.refl _,wpQuiet_nil ?_⟩
  go_wp2_with fail
  refine HSH.out.mono ?_;rintro e w3 ⟨rfl,hb3⟩
  have HK3:=zQk (zAI.of_below (X:=none) hb3)
  have hb4:Below wr.heap.size wr w3:=(zQl wr.heap.size wr).drew.trans hb3
  have HB4:=zQk (HBR.out.trans (hb4.mono HBR.out.size))
  have gl3:gl<w3.heap.size:=zQn HGL.out hb4.size
  have gt3:gt<w3.heap.size:=zQn HGT.out hb4.size
  have f8:w3.cell? ⟨gl,0*272+8,none⟩=some (.int .i64 (c.at_:Nat)):=(hb4.cell (p:=⟨gl,0*272+8,none⟩) HGL.out).trans E8.out
  have f7:w3.cell? ⟨gl,0*272+7,none⟩=some (.int .u8 (c.nm:Nat)):=(hb4.cell (p:=⟨gl,0*272+7,none⟩) HGL.out).trans E7.out
  have ft:w3.cell? ⟨gt,ot+c.at_,none⟩=some (.int .u8 (c.nm:Nat)):=(hb4.cell (p:=⟨gt,ot+c.at_,none⟩) HGT.out).trans ET.out
  clear hb3 hb4 HSH
  go_wp2_with fail
  refine⟨HK3.out,?_⟩
  have a1:decide ((c.at_:Int)<0)=false:=zQw (by omega)
  have a2:decide ((T.length:Int)≤(c.at_:Int))=false:=zQw (by have:=HAT.out;omega)
  have a3:decide (T.length≤c.at_)=false:=zQw (by have:=HAT.out;omega)
  repeat (go_big_quiet_step (fail))
  refine wpQuiet_nil ?_
  go_wp2_with fail
  go_roundg (L.length - (0+1))
  case measure=>have:=HG2.out;omega
  case rel=>exact⟨0+1,congrArg (Value.int .i64) (by omega),rfl,by omega,HB4.out⟩
 obtain⟨k',hk'⟩: ∃k',k'+1=k:=⟨k - 1,by omega⟩
 obtain⟨c',hc',hlt⟩:=HPV.out k' hk'
 have HK1:Hid ((k:Int) - 1=((k':Nat):Int)):=zQk (by omega)
 have HLT:=zQk hlt
 have hk2:k'<L.length:=by omega
 have HK3':Hid (0<k):=zQk (by omega)
 have P8:=zQk (HHC.out k' c' hc')
 clear hc' hlt hk' k0
 go_upto_region 14 with fail
 refine zAA (X:=none) 58 [([0,1,2],3),([],4)] [5,6,7,8,9,10,11,12,13,14,15,16,17,18,19,20,21,22,23,24,25,26,27,28,29,30,31,32,33,34,35,36,37,38,39,40,41,42,43,44,45,46,47,48,49,50,51,52,53,54,55,56,57] (by kernel_rfl) (by kernel_rfl) rfl (fun _ _ _ _ _ h=>h) ?_
 simp only[zAM,zAC,zAE,zAD,zAB,List.getD_cons_zero,List.getD_cons_succ,List.drop_succ_cons,List.drop_nil]
 repeat (go_big_quiet_step (fail))
 refine wpQuiet_nil ?_
 go_wp2_with (refine wpList_load_mid rfl 36 _ rfl gl (k*272) rfl l _ HRG.out Tryz.underlying36 rfl HCI.out ?_)
 refine⟨zAI.refl _,wpQuiet_nil ?_⟩
 go_wp2_with fail
 refine HSH.out.mono ?_;rintro e w3 ⟨rfl,hb3⟩
 have HK3:=zQk (zAI.of_below (X:=none) hb3)
 have hb4:Below wr.heap.size wr w3:=(zQl wr.heap.size wr).drew.trans hb3
 have HB4:=zQk (HBR.out.trans (hb4.mono HBR.out.size))
 have gl3:gl<w3.heap.size:=zQn HGL.out hb4.size
 have gt3:gt<w3.heap.size:=zQn HGT.out hb4.size
 have f8:w3.cell? ⟨gl,k*272+8,none⟩=some (.int .i64 (c.at_:Nat)):=(hb4.cell (p:=⟨gl,k*272+8,none⟩) HGL.out).trans E8.out
 have f7:w3.cell? ⟨gl,k*272+7,none⟩=some (.int .u8 (c.nm:Nat)):=(hb4.cell (p:=⟨gl,k*272+7,none⟩) HGL.out).trans E7.out
 have ft:w3.cell? ⟨gt,ot+c.at_,none⟩=some (.int .u8 (c.nm:Nat)):=(hb4.cell (p:=⟨gt,ot+c.at_,none⟩) HGT.out).trans ET.out
 have p8:w3.cell? ⟨gl,k'*272+8,none⟩=some (.int .i64 (c'.at_:Nat)):=(hb4.cell (p:=⟨gl,k'*272+8,none⟩) HGL.out).trans P8.out
 clear hb3 hb4 HSH
 go_wp2_with fail
 refine⟨HK3.out,?_⟩
 have a1:decide ((c.at_:Int)<0)=false:=zQw (by omega)
 have a2:decide ((T.length:Int)≤(c.at_:Int))=false:=zQw (by have:=HAT.out;omega)
 have a3:decide (T.length≤c.at_)=false:=zQw (by have:=HAT.out;omega)
 have a4:decide ((c.at_:Int)≤(c'.at_:Int))=false:=zQw (by have:=HLT.out;omega)
 have a5:decide (c.at_≤c'.at_)=false:=zQw (by have:=HLT.out;omega)
 have a6:decide ((0:Int)<(k:Int))=true:=zQv (by have:=HK3'.out;omega)
 have a7:decide (0<k)=true:=zQv HK3'.out
 have hk1:(k:Int) - 1=((k':Nat):Int):=HK1.out
 repeat (go_big_quiet_step (fail))
 refine wpQuiet_nil ?_
 go_wp2_with fail
 go_roundg (L.length - (k+1))
 case measure=>have:=HG2.out;omega
 case rel=>exact⟨k+1,congrArg (Value.int .i64) (by omega),rfl,by omega,HB4.out⟩
end
end
section
open Go.RowKit
theorem zOp {w:World} {oa:Option Addr} {T:List Nat} {cap:Nat} (h:zDa w oa T) (hnil:oa=none→cap=0):Src w (.slice oa T.length cap) T.length (u8s T):=by
 cases oa with
 |none=>
  have h0:T=[]:=by
   by_cases hp:0<T.length
   ·obtain⟨g,o,h1,_⟩:=h hp
    cases h1
   ·exact zRI (by omega)
  subst h0
  rw[hnil rfl]
  exact .inl ⟨rfl,rfl,rfl⟩
 |some a=>
  refine .inr ⟨a,cap,rfl,fun j u hu=>?_⟩
  have hj:j<T.length:=by have:=(zQr.1 hu).1;rwa[zBt]at this
  obtain⟨g,o,e,hc⟩:=h (by omega)
  cases e
  rw[zCW,hc j hj,←hu]
  simp[u8s,hj,List.getD_eq_getElem?_getD]
def PaU (base:Nat) (T:List Nat) (r:Rd (List Cm)) (w:World) (o:Option Addr) (n c:Nat) (q:Bool) (e a:Nat):Prop:=
 match r with
 | .error p=>n=0∧e=p.1∧a=p.2
 | .ok L=>n=L.length∧q=zBh T∧e=0∧a=0∧Cms w base (.slice o n c) L
theorem PaR.uni {base:Nat} {T:List Nat} {r:Rd (List Cm)} {e:Ending} {w:World} (h:PaR base T r e w): ∃(o:Option Addr) (n c:Nat) (q:Bool) (x a:Nat),e= .returned (.tuple #[.slice o n c,.bool q,.int .i64 (x:Nat),.int .i64 (a:Nat)])∧PaU base T r w o n c q x a:=by
 cases r with
 |error p=>exact⟨none,0,0,false,p.1,p.2,h,rfl,rfl,rfl⟩
 |ok L=>
  obtain⟨v,he,hc⟩:=h
  obtain⟨o,c,ls,rfl,_⟩:=id hc
  exact⟨o,L.length,c,zBh T,0,0,he,rfl,rfl,rfl,rfl,hc⟩
theorem PaU.below {base:Nat} {T:List Nat} {r:Rd (List Cm)} {w w':World} {o:Option Addr} {n c:Nat} {q:Bool} {e a:Nat} (h:PaU base T r w o n c q e a) (hb:Below w.heap.size w w'):PaU base T r w' o n c q e a:=by
 cases r with
 |error p=>exact h
 |ok L=>exact⟨h.1,h.2.1,h.2.2.1,h.2.2.2.1,h.2.2.2.2.below hb⟩
theorem zEj {P:Program} {o:Oper} {a:Act} {W:World} {K:Act→Prop} (ty:TypeId) (x:Operand) (ho:o.op= .load ty x) (b off:Nat) (hx:a.eval x= .pointer (some ⟨b,off,none⟩)) (cs:List Value) (d:TypeDesc) (hc:W.rangeAt b off cs) (hb:b<W.heap.size)
  (hu:P.underlying ty=some d) (hd:d.isRow=true) (hi:(P.info? ty).map (·.size)=some cs.length) (hk:K (a.put o.dst (.agg cs.toArray))):o.quiet P a (fun w'=> ∃g,w'=wgr none W g) K:=by
 refine⟨_,fun w hw=>?_,hk⟩
 obtain⟨g,rfl⟩:=hw
 have hr:(wgr none W g).rangeAt b off cs:=fun j v hv=>((zBx (X:=none) W g).cell ⟨b,off+j,none⟩ hb (by simp)).trans (hc j v hv)
 unfold Oper.quietAt execOp
 simp only[ho,hx,Instr.loadAt,Instr.sureAddr,Sem.run_bind,Sem.run_pure,Result.andThen_ok,run_loadVar_mid _ b off ty cs d hr hu hd hi]
 exact⟨rfl,rfl⟩
theorem PaU.one {base:Nat} {T:List Nat} {r:Rd (List Cm)} {w:World} {o:Option Addr} {n c:Nat} {q:Bool} {e a:Nat} (h:PaU base T r w o n c q e a):e=0∨n=0:=by
 cases r with
 |error p=>exact .inr h.1
 |ok L=>exact .inl h.2.2.1
theorem EqV.setP {w:World} {l:List Value} {c:Cm} (h:EqV w l c) (hl:l.length=272) (p:Nat):EqV w (l.set 8 (.int .i64 (p:Int))) { c with at_:=p } where
 a0:=by rw[List.getElem?_set_ne (by omega)];exact h.a0
 a1:=by rw[List.getElem?_set_ne (by omega)];exact h.a1
 a2:=by rw[List.getElem?_set_ne (by omega)];exact h.a2
 b0:=by rw[List.getElem?_set_ne (by omega)];exact h.b0
 b1:=by rw[List.getElem?_set_ne (by omega)];exact h.b1
 b2:=by rw[List.getElem?_set_ne (by omega)];exact h.b2
 nt:=by rw[List.getElem?_set_ne (by omega)];exact h.nt
 nm:=by rw[List.getElem?_set_ne (by omega)];exact h.nm
 p:=List.getElem?_set_self (by omega)
 tx:=by rw[List.getElem?_set_ne (by omega)];exact h.tx
 re:=by rw[List.getElem?_set_ne (by omega)];exact h.re
 fi:=by rw[List.getElem?_set_ne (by omega)];exact h.fi
 ct:=by rw[List.getElem?_set_ne (by omega)];exact h.ct
 al:=by rw[List.getElem?_set_ne (by omega)];exact h.al
 pr:=by rw[List.getElem?_set_ne (by omega)];exact h.pr
 wr:=by rw[List.getElem?_set_ne (by omega)];exact h.wr
 tb:=fun k hk=>by rw[List.getElem?_set_ne (by omega)];exact h.tb k hk
section
variable {w:World} {oa ob:Option Addr} {T X:List Nat} {cap cbp:Nat} {x y:Addr}
theorem zIh (h:zDa w oa T) (hu: ∀b∈T,b<256) (hcap:T.length≤cap) (hnil:oa=none→cap=0) (hs: ∀g o s,oa≠some ⟨g,o,some s⟩)
  (k:zDa w ob X) (ku: ∀b∈X,b<256) (kcap:X.length≤cbp) (knil:ob=none→cbp=0) (ks: ∀g o s,ob≠some ⟨g,o,some s⟩) (G:Gl w x y) (hx:x.block<w.heap.size) (hy:y.block<w.heap.size) (h4:4<w.heap.size) (ere:Bool):
  Calls Tryz.prog 3 #[.slice oa T.length cap,.slice ob X.length cbp,.bool ere] w fun e w'=>e= .returned (.bool true)∧Below w.heap.size w w':=by
 have HTX:=zQk h
 have HU:=zQk hu
 have HCP:=zQk hcap
 have HNI:=zQk hnil
 have HSP:=zQk hs
 have KTX:=zQk k
 have KU:=zQk ku
 have KCP:=zQk kcap
 have KNI:=zQk knil
 have KSP:=zQk ks
 have HG:=zQk G
 have HXB:=zQk hx
 have HYB:=zQk hy
 have H4:=zQk h4
 clear h hu hcap hnil hs k ku kcap knil ks G hx hy h4
 go_enter Tryz.func3,Tryz.ntmps3
 by_cases q1:(65536:Int)<(T.length:Int)
 ·go_wp2_with fail
  go_ret
  exact⟨rfl,zQl _ _⟩
 by_cases q2:(65536:Int)<(X.length:Int)
 ·go_wp2_with fail
  go_ret
  exact⟨rfl,zQl _ _⟩
 have b1:(T.length:Int)≤65536:=by omega
 have b2:(X.length:Int)≤65536:=by omega
 by_cases q3:(65536:Int)≤(T.length:Int)+(X.length:Int)
 ·go_wp2_with fail
  go_ret
  exact⟨rfl,zQl _ _⟩
 have HQ:=zQk (show T.length+X.length<65536 by omega)
 go_wp2_with fail
 refine(zGy HG.out HXB.out HYB.out H4.out).mono ?_;rintro e w1 ⟨rfl,hb1⟩
 have HB1:=zQk hb1
 clear hb1
 clear q1 q2 q3
 go_wp2_with fail
 refine(zCP (cap:=cap) (ere:=ere) (HTX.out.below HB1.out) HU.out HCP.out HNI.out HSP.out (HG.out.bel HB1.out HXB.out HYB.out H4.out) (by have:=HXB.out;have:=HB1.out.size;omega) (by have:=HYB.out;have:=HB1.out.size;omega) (by have:=H4.out;have:=HB1.out.size;omega)).mono ?_
 rintro e w2 ⟨hp,hb2⟩
 obtain⟨o1,n1,c1,z1,e1,a1,rfl,hp1⟩:=hp.uni
 have HB2:=zQk (HB1.out.trans (hb2.mono HB1.out.size))
 have HP1:=zQk hp1
 clear hb2 hp hp1
 go_wp2_with fail
 refine(zCP (cap:=cbp) (ere:=ere) (KTX.out.below HB2.out) KU.out KCP.out KNI.out KSP.out (HG.out.bel HB2.out HXB.out HYB.out H4.out) (by have:=HXB.out;have:=HB2.out.size;omega) (by have:=HYB.out;have:=HB2.out.size;omega) (by have:=H4.out;have:=HB2.out.size;omega)).mono ?_
 rintro e w3 ⟨hp,hb3⟩
 obtain⟨o2,n2,c2,z2,e2,a2,rfl,hp2⟩:=hp.uni
 have HB3:=zQk (HB2.out.trans (hb3.mono HB2.out.size))
 have HP1c:=zQk (HP1.out.below hb3)
 have HP2:=zQk hp2
 clear hb3 hp hp2 HP1
 go_wp2_with (at_builtin;refine zAa (n:=0) (m:=T.length) (xs:=[]) (news:=u8s T) zLf rfl _ _ rfl w3.heap.size rfl (zQ0 _ _ _ _) rfl (zOp (HTX.out.below HB3.out) HNI.out) (by simp[u8s]) (zHJ T) (by have:=HQ.out;unfold maxLen;omega) (by have:=HQ.out;omega) (Nat.le_refl _) ?_)
 intro v6 w6 ho6 hg6 _
 have ho6':w6.ownsRow w3.heap.size 5 1 v6 T.length (u8s T):=by simpa using ho6
 have hb6:Below w3.heap.size w3 w6:=(zQl _ _).grown hg6 (zQm _) (fun k hk=>by cases hk)
 have HO6:=zQk ho6'
 have HB6:=zQk hb6
 clear ho6 ho6' hg6 hb6
 go_wp2_with (at_builtin;refine zAa (n:=T.length) (m:=1) (news:=[.int .u8 ((10:Nat):Nat)]) zLf rfl _ _ rfl w3.heap.size rfl (HO6.out.alloc _) rfl (Src.new w6 [.int .u8 ((10:Nat):Nat)] _ _ _) rfl (by simp[Value.oneCell']) (by have:=HQ.out;unfold maxLen;omega) (by have:=HQ.out;omega) (by have:=HB6.out.size;simp;omega) ?_)
 intro v7 w7 ho7 hg7 _
 have hb7:Below w3.heap.size w3 w7:=Below.grown (zRB HB6.out HB6.out.size _) hg7 (by have:=HB6.out.size;simp;omega) (fun k hk=>(HO6.out.lt k hk).1)
 have HO7:=zQk ho7
 have HB7:=zQk hb7
 clear ho7 hg7 hb7
 have HX7:=zQk ((KTX.out.below HB3.out).below HB7.out)
 go_wp2_with (at_builtin;refine zAa (n:=T.length+1) (m:=X.length) (news:=u8s X) zLf rfl _ _ rfl w3.heap.size rfl HO7.out rfl (zOp HX7.out KNI.out) (by simp[u8s]) (zHJ X) (by have:=HQ.out;unfold maxLen;omega) (by have:=HQ.out;omega) HB7.out.size ?_)
 intro v8 w8 ho8 hg8 _
 have hb8:Below w3.heap.size w3 w8:=Below.grown HB7.out hg8 HB7.out.size (fun k hk=>(HO7.out.lt k hk).1)
 have ho8':w8.ownsRow w3.heap.size 5 1 v8 (T++10::X).length (u8s (T++10::X)):=by
  have e1:(T++10::X).length=T.length+1+X.length:=by simp;omega
  have e2:u8s (T++10::X)=u8s T++[.int .u8 ((10:Nat):Nat)]++u8s X:=by simp[u8s]
  rw[e1,e2,List.append_assoc];exact ho8
 have hfo: ∃o c,v8= .slice o (T++10::X).length c∧(o=none→c=0)∧ ∀g p s,o≠some ⟨g,p,some s⟩:=by
  rcases ho8'.2 with ⟨rfl,hn⟩|⟨g,cp,cur,rfl,_⟩
  ·exact⟨none,0,by rw[hn],fun _=>rfl,fun _ _ _ e=>by cases e⟩
  ·exact⟨_,cp,rfl,fun e=>(by cases e),fun g x s e=>by injection e with e;injection e with _ _ e;cases e⟩
 obtain⟨o8,c8,rfl,hn8,hs8⟩:=hfo
 obtain⟨ht8,hc8⟩:=zDU ho8'
 have hu8: ∀b∈T++10::X,b<256:=fun b hb=>by
  rcases zRF.1 hb with hb|hb
  ·exact HU.out b hb
  ·rcases List.mem_cons.1 hb with rfl|hb
   ·decide
   ·exact KU.out b hb
 have HJ:=zQk (fun L=>zP3 (ere:=ere) (T:=T) (X:=X) (L:=L) HQ.out)
 have HJQ:=zQk (zIg (T:=T) (X:=X))
 have hl8:(T++10::X).length=T.length+1+X.length:=by simp;omega
 have HB8:=zQk (HB3.out.trans (hb8.mono HB3.out.size))
 have HP1d:=zQk (HP1c.out.below hb8)
 have HP2d:=zQk (HP2.out.below hb8)
 clear ho8 hg8 ho8' hb8 HO6 HO7 HB6 HB7 HX7 HP1c HP2
 revert ht8 hc8 hn8 hs8 hu8 hl8 HJ HJQ
 generalize T++10::X=U
 intro hn8 hs8 ht8 hc8 hu8 HJ HJQ hl8
 have HT8:=zQk ht8
 have HC8:=zQk hc8
 have HN8:=zQk hn8
 have HS8:=zQk hs8
 have HU8:=zQk hu8
 have HL8:=zQk hl8
 clear ht8 hc8 hn8 hs8 hu8 hl8
 go_wp2_with fail
 refine(zCP (T:=U) (cap:=c8) (ere:=ere) HT8.out HU8.out HC8.out HN8.out HS8.out (HG.out.bel HB8.out HXB.out HYB.out H4.out) (by have:=HXB.out;have:=HB8.out.size;omega) (by have:=HYB.out;have:=HB8.out.size;omega) (by have:=H4.out;have:=HB8.out.size;omega)).mono ?_
 rintro e w4 ⟨hp,hb4⟩
 obtain⟨o3,n3,c3,z3,e3,a3,rfl,hp3⟩:=hp.uni
 have HB4:=zQk (HB8.out.trans (hb4.mono HB8.out.size))
 have HP1:=zQk (HP1d.out.below hb4)
 have HP2:=zQk (HP2d.out.below hb4)
 have HP3:=zQk hp3
 clear hb4 hp hp3 HP1d HP2d
 cases hA:zCB ere T with
 |error p=>
  have h1:=HP1.out
  rw[hA]at h1
  obtain⟨rfl,rfl,rfl⟩:=h1
  have h2:=(zFp (fun j=>zEs HU.out j) hA).1
  have r1:((p.1:Int) !=0)=true:=by rw[bne_iff_ne];omega
  clear h2 hA
  by_cases h0:e3=0
  ·subst h0
   go_wp2_with fail
   go_ret
   exact⟨rfl,HB4.out⟩
  have hn3:n3=0:=(HP3.out.one).resolve_left h0
  subst hn3
  have g0:((e3:Int)==0)=false:=zQq.2 (by omega)
  clear h0
  go_wp2_with fail
  go_ret
  exact⟨rfl,HB4.out⟩
 |ok L=>
 have h1:=HP1.out
 rw[hA]at h1
 obtain⟨rfl,rfl,rfl,rfl,hc1⟩:=h1
 have HC1:=zQk hc1
 have hJ:=HJ.out L hA
 have hzl:(L.length:Int)≤4096:=by have:=(zNk hA).2.1;omega
 have hn2:(n2:Int)≤4096:=by
  have h2:=HP2.out
  cases hB:zCB ere X with
  |error p2=>rw[hB]at h2;have:=h2.1;omega
  |ok M=>rw[hB]at h2;have:=h2.1;have:=(zNk hB).2.1;omega
 have HJ2:=zQk hJ
 clear hc1 hJ
 by_cases hl:(4096:Int)<(L.length:Int)+(n2:Int)
 ·by_cases h0:e3=0
  ·subst h0
   go_wp2_with fail
   go_ret
   exact⟨rfl,HB4.out⟩
  have hn3:n3=0:=(HP3.out.one).resolve_left h0
  subst hn3
  have g0:((e3:Int)==0)=false:=zQq.2 (by omega)
  clear h0
  go_wp2_with fail
  go_ret
  exact⟨rfl,HB4.out⟩
 have HNL:=zQk hl
 by_cases h2:e2=0
 case neg=>
  have r2:((e2:Int) !=0)=true:=by rw[bne_iff_ne];omega
  by_cases h3:e3=2
  ·subst h3
   clear h2
   have hn3:n3=0:=(HP3.out.one).resolve_left (by decide)
   subst hn3
   go_wp2_with fail
   go_ret
   exact⟨rfl,HB4.out⟩
  cases hB:zCB ere X with
  |ok M=>
   have h4:=HP2.out
   rw[hB]at h4
   exact absurd h4.2.2.1 h2
  |error p2=>
   have h4:=HP2.out
   rw[hB]at h4
   obtain⟨rfl,rfl,rfl⟩:=h4
   have h5:=HJ2.out
   rw[hB]at h5
   have h6:=HP3.out
   rcases h5 with ⟨⟨p,hC⟩,_⟩|hC
   ·rw[hC]at h6
    exact absurd h6.2.1 h3
   rw[hC]at h6
   obtain⟨rfl,rfl,rfl⟩:=h6
   have r3:((p2.1:Int)==2)=false:=zQq.2 (by omega)
   have r4:(p2.2:Int)≤65536:=by
    have:=(zFp (fun j=>zEs KU.out j) hB).2
    have:=HQ.out
    omega
   clear h2 h3
   go_wp2_with fail
   go_ret
   exact⟨rfl,HB4.out⟩
 subst h2
 cases hB:zCB ere X with
 |error p2=>
  have h4:=HP2.out
  rw[hB]at h4
  have:=(zFp (fun j=>zEs KU.out j) hB).1
  have:=h4.2.1
  omega
 |ok M=>
 have h4:=HP2.out
 rw[hB]at h4
 obtain⟨rfl,_,_,rfl,hc2⟩:=h4
 have HC2:=zQk hc2
 have h5:=HJ2.out
 rw[hB]at h5
 have h6:=HP3.out
 rcases h5 with ⟨_,hM⟩|hC
 ·have:=hM M rfl
  omega
 rw[hC]at h6
 obtain⟨hn3,hz3,rfl,rfl,hc3⟩:=h6
 have hat: ∀m∈M,m.at_≤65536:=fun m hm=>by
  obtain⟨hl1,_,hgood,_⟩:=zNk hB
  have:=(hgood m hm).2.1
  omega
 have HAT:=zQk hat
 rw[HJQ.out]at hz3
 have HZ3:=zQk hz3
 rw[zQ4,List.length_map]at hn3
 have HN3:=zQk hn3
 have HC3:=zQk hc3
 subst hz3
 have r5:(zBh T !=zBh T)=false:=by simp
 have r6:((n3:Int) !=(L.length:Int)+(M.length:Int))=false:=by rw[bne_eq_false_iff_eq];omega
 clear hc2 hc3 hn3 hB hC hat
 revert HZ3 r5
 generalize zBh T=qq
 intro HZ3 r5
 go_wp2_with fail
 go_loopg [21] n3 (fun gk kv wr=> ∃k:Nat,kv= .int .i64 (k:Nat)∧gk=n3 - k∧k≤n3∧Below w4.heap.size w4 wr)
 case atStart=>exact⟨0,rfl,rfl,Nat.zero_le _,zQl _ _⟩
 case round=>
 obtain⟨k,rfl,hg,hk,hbr⟩:=hrel
 have HG2:=zQk hg
 have HK:=zQk hk
 have HBR:=zQk hbr
 clear hg hk hbr
 by_cases hkl:k<n3
 case neg=>
  have hkl': ¬(k:Int)<(n3:Int):=by omega
  have HBW:=zQk (HB4.out.trans (HBR.out.mono HB4.out.size))
  clear hkl
  go_wp2_with fail
  go_ret
  exact⟨rfl,HBW.out⟩
 have HKL:=zQk hkl
 have hkl':(k:Int)<(n3:Int):=by omega
 have HCW:=zQk (HC3.out.below HBR.out)
 obtain⟨c,hck⟩: ∃c,(L++M.map (shC (T.length+1)))[k]?=some c:=⟨_,zQ1 (by have:=HN3.out;simp;omega)⟩
 obtain⟨gl,l,rfl,hgl,hnn,hcl,hm,hcell⟩:=HCW.out.cells hck
 clear hnn
 have HCK:=zQk hck
 have HM:=zQk hm
 have HCL:=zQk hcl
 have HRG:Hid (wr.rangeAt gl (k*272) l):=zQk fun j v hv=>hcell j v hv
 have HCI:Hid ((Tryz.prog.info? 36).map (·.size)=some l.length):=zQk (by rw[zCH,hcl.len])
 have HQZ2:=zQk (show(Tryz.prog.info? 36).map (·.size)=some l.toArray.size by rw[zCH,List.size_toArray,hcl.len])
 have HQO:=zQk (show Tryz.zeroCells36.size=l.toArray.size by rw[←Array.length_toList,zHo,List.size_toArray,hcl.len])
 have HQ1:=zQk (show l.toArray.all (·.oneCell')=true by rw[←Array.all_toList,List.all_eq_true];exact hcl.one)
 have HHN:=zQk (zQx wr (.cells Tryz.zeroCells36 36))
 have hgl':=hgl
 clear hcell hm hcl hck hkl hgl
 go_upto_region 22 with fail
 go_upto_region 23 with (first|refine wpList_load_mid rfl 36 _ rfl gl (k*272) rfl l _ HRG.out Tryz.underlying36 rfl HCI.out ?_|refine wpList_store_row rfl 36 _ _ rfl wr.heap.size l.toArray rfl rfl _ _ HHN.out HQZ2.out HQO.out HQ1.out ?_)
 obtain⟨W,hW⟩: ∃W,(wr.alloc (.cells Tryz.zeroCells36 36)).setRow wr.heap.size l.toArray=W:=⟨_,rfl⟩
 have HCB:Hid (CmB W wr.heap.size l):=zQk ⟨by rw[←hW];exact setRow_heap _ _ _ _ _ _ HHN.out,HCL.out⟩
 have hbw:Below wr.heap.size wr W:=by rw[←hW];exact below_setRow ((zQl _ _).alloc (zQm _) _) (zQm _) _
 have HBW:=zQk (HBR.out.trans (hbw.mono HBR.out.size))
 have HEL:=zQk ((HM.out.eqV).below hbw)
 have HSZ:=zQk (show w4.heap.size≤wr.heap.size from HBR.out.size)
 have HEQ:Hid (∀v,EqV (W.setCell ⟨wr.heap.size,8,none⟩ v) l c):=zQk fun v=>HM.out.eqV.below (hbw.setCell (p:=⟨wr.heap.size,8,none⟩) (zQm _) v)
 rw[hW]
 clear hW hbw HHN HQZ2 HQO HQ1 HRG HM HBR HCW hgl'
 obtain⟨qb,hqb⟩: ∃b,wr.heap.size=b:=⟨_,rfl⟩
 rw[hqb]at HCB HSZ HEQ ⊢
 clear hqb
 by_cases hka:k<L.length
 ·have hka':(k:Int)<(L.length:Int):=by omega
  have hck:=HCK.out
  rw[zQ5 hka]at hck
  have HC1W:=zQk (HC1.out.below HBW.out)
  obtain⟨ga,la,rfl,hga,hnn,hla,hma,hcella⟩:=HC1W.out.cells hck
  clear hnn
  have hdr:Below W.heap.size W W.drew:=(zQl _ _).drew
  have HE:=zQk (zOy HCB.out.cl hla (HEL.out.below hdr) (hma.eqV.below hdr))
  have HR1:=zQk HCB.out.row2
  have HR2:Hid (W.rangeAt ga (k*272) la):=zQk fun j v hv=>hcella j v hv
  have HAI:Hid ((Tryz.prog.info? 36).map (·.size)=some la.length):=zQk (by rw[zCH,hla.len])
  have hql:=HCB.out.lt
  have HQL:=zQk hql
  have HGA:=zQk hga
  clear hla hma hcella hck hka hdr
  go_upto_region 24 with fail
  refine zAA (X:=none) 5 [] [0,1,2,3,4] (by kernel_rfl) (by kernel_rfl) rfl (fun _ _ _ _ _ h=>h) ?_
  simp only[zAM,zAC,zAD,zAB,List.getD_cons_zero,List.getD_cons_succ,List.drop_succ_cons,List.drop_zero]
  go_big_quiet_want
  refine zEj 36 _ rfl qb 0 rfl l _ HR1.out HQL.out Tryz.underlying36 rfl HCI.out ?_
  go_big_quiet_on
  simp only[Act.put,List.setIfInBounds_toArray,List.set_cons_succ,List.set_cons_zero]
  go_big_quiet_step (fail)
  go_big_quiet_step (fail)
  go_big_quiet_step (fail)
  go_big_quiet_want
  refine zEj 36 _ rfl ga (k*272) rfl la _ HR2.out HGA.out Tryz.underlying36 rfl HAI.out ?_
  go_big_quiet_on
  simp only[Act.put,List.setIfInBounds_toArray,List.set_cons_succ,List.set_cons_zero]
  refine wpQuiet_nil ?_
  go_wp2_with fail
  refine HE.out.mono ?_;rintro e w5 ⟨rfl,hb5⟩
  have HB5:=zQk (HBW.out.trans (((zQl W.heap.size W).drew.trans hb5).mono HBW.out.size))
  clear hb5
  go_wp2_with fail
  go_roundg (n3 - (k+1))
  case measure=>have:=HG2.out;have:=HKL.out;omega
  case rel=>exact⟨k+1,congrArg (Value.int .i64) (by omega),rfl,HKL.out,HB5.out⟩
 obtain⟨j,hj⟩: ∃j,L.length+j=k:=⟨k - L.length,by omega⟩
 have hka': ¬(k:Int)<(L.length:Int):=by omega
 have hck:=HCK.out
 rw[←hj,zQ6 (by omega),Nat.add_sub_cancel_left,List.getElem?_map]at hck
 cases hmj:M[j]? with
 |none=>rw[hmj]at hck;cases hck
 |some m=>
 rw[hmj]at hck
 simp only[Option.map_some,Option.some.injEq]at hck
 have hma2:m.at_≤65536:=HAT.out m (zRE hmj)
 have hmi:(m.at_:Int)≤65536:=by omega
 have f8:W.cell? ⟨qb,8,none⟩=some (.int .i64 ((T.length:Int)+1+(m.at_:Int))):=by
  rw[HCB.out.cell 8,HEL.out.p,←hck]
  simp only[shC,Int.natCast_add,Int.natCast_one]
 have z8:=HCB.out.fz 8
 have hql:=HCB.out.lt
 have HCKS:=zQk hck
 have HMJ:=zQk hmj
 have HJE:=zQk hj
 have hjl:j<M.length:=(zQr.1 hmj).1
 have HJL:=zQk hjl
 clear hck hmj hj hma2 hka hjl
 go_upto_region 27 with fail
 rw[show(T.length:Int)+1+(m.at_:Int) - (T.length:Int) - 1=(m.at_:Int)by omega]
 have HEL2:Hid (EqV (W.setCell ⟨qb,8,none⟩ (.int .i64 (m.at_:Int))) (l.set 8 (.int .i64 (m.at_:Int))) m):=zQk (by
  have:=(HEQ.out (.int .i64 (m.at_:Int))).setP HCB.out.cl.len m.at_
  rw[←HCKS.out]at this
  exact this)
 have HCB2:=zQk (HCB.out.set 8 (v:= .int .i64 (m.at_:Int)) rfl)
 have HBW2:=zQk (HBW.out.setCell (p:=⟨qb,8,none⟩) HSZ.out (.int .i64 (m.at_:Int)))
 clear f8 z8 hql
 revert HEL2 HCB2 HBW2
 generalize W.setCell ⟨qb,8,none⟩ (.int .i64 (m.at_:Int))=W2
 intro HEL2 HCB2 HBW2
 have HC2W:=zQk (HC2.out.below HBW2.out)
 obtain⟨gb,lb,rfl,hgb,hnn,hlb,hmb,hcellb⟩:=HC2W.out.cells HMJ.out
 clear hnn
 have hdr:Below W2.heap.size W2 W2.drew:=(zQl _ _).drew
 have HE:=zQk (zOy HCB2.out.cl hlb (HEL2.out.below hdr) (hmb.eqV.below hdr))
 have HR1:=zQk HCB2.out.row2
 have HR2:Hid (W2.rangeAt gb (j*272) lb):=zQk fun j v hv=>hcellb j v hv
 have HAI:Hid ((Tryz.prog.info? 36).map (·.size)=some lb.length):=zQk (by rw[zCH,hlb.len])
 have HCI2:Hid ((Tryz.prog.info? 36).map (·.size)=some (l.set 8 (.int .i64 (m.at_:Int))).length):=zQk (by rw[zCH,HCB2.out.cl.len])
 have HQL:=zQk HCB2.out.lt
 have HGB:=zQk hgb
 revert HR1 HCI2 HE
 generalize l.set 8 (.int .i64 (m.at_:Int))=l2
 intro HE HR1 HCI2
 have hk1:(k:Int) - (L.length:Int)=((j:Nat):Int):=by have:=HJE.out;omega
 have hj1:(j:Int)<(M.length:Int):=by have:=HJL.out;omega
 clear hlb hmb hcellb hdr
 refine zAA (X:=none) 8 [] [0,1,2,3,4,5,6,7] (by kernel_rfl) (by kernel_rfl) rfl (fun _ _ _ _ _ h=>h) ?_
 simp only[zAM,zAC,zAD,zAB,List.getD_cons_zero,List.getD_cons_succ,List.drop_succ_cons,List.drop_zero]
 go_big_quiet_want
 refine zEj 36 _ rfl qb 0 rfl l2 _ HR1.out HQL.out Tryz.underlying36 rfl HCI2.out ?_
 go_big_quiet_on
 simp only[Act.put,List.setIfInBounds_toArray,List.set_cons_succ,List.set_cons_zero]
 go_big_quiet_step (fail)
 go_big_quiet_step (fail)
 go_big_quiet_step (fail)
 go_big_quiet_step (fail)
 go_big_quiet_step (fail)
 go_big_quiet_step (fail)
 go_big_quiet_want
 refine zEj 36 _ rfl gb (j*272) rfl lb _ HR2.out HGB.out Tryz.underlying36 rfl HAI.out ?_
 go_big_quiet_on
 simp only[Act.put,List.setIfInBounds_toArray,List.set_cons_succ,List.set_cons_zero]
 refine wpQuiet_nil ?_
 go_wp2_with fail
 refine HE.out.mono ?_;rintro e w5 ⟨rfl,hb5⟩
 have HB5:=zQk (HBW2.out.trans (((zQl W2.heap.size W2).drew.trans hb5).mono HBW2.out.size))
 clear hb5
 go_wp2_with fail
 go_roundg (n3 - (k+1))
 case measure=>have:=HG2.out;have:=HKL.out;omega
 case rel=>exact⟨k+1,congrArg (Value.int .i64) (by omega),rfl,HKL.out,HB5.out⟩
end
end
end Go.Proofs.YtmaagpbjahjmhaaGreatDoor
