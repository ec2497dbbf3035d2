/- Parts: Rb Ff Rc Rd Re Rf Ri Rj Rg Ta Fad Fae. -/
import Derived.Test.YtmaagpbjahjmhaaGreatDoorQ5
import Derived.Test.YtmaagpbjahjmhaaGreatDoorQ1
import Derived.Test.YtmaagpbjahjmhaaGreatDoorQ3
import Derived.WalkSmall
import Derived.Deep.DeepCutAuto
set_option maxHeartbeats 1600000
set_option maxRecDepth 100000
namespace Go.Proofs.YtmaagpbjahjmhaaGreatDoor
section
open Go.RowKit
@[go_sem] theorem zM1 (w g:World) (b o:Nat) (s:Option Nat) (h:b<w.heap.size):(wgr none w.drew.drew g).cell? ⟨b,o,s⟩=w.cell? ⟨b,o,s⟩:=(zB9 w.drew.drew g).cell _ h (by simp)
@[go_sem] theorem zM0 (w g:World) (b o:Nat) (s:Option Nat) (h:b<w.heap.size):(wgr none w.drew.drew.drew g).cell? ⟨b,o,s⟩=w.cell? ⟨b,o,s⟩:=(zB9 w.drew.drew.drew g).cell _ h (by simp)
def zG9 (e p:Nat):Value:= .iface 234 (.agg #[.int .i64 e,.int .i64 p])
def zFP (e p:Nat):Ending:= .panicked [{ v:=zG9 e p,recovered:=false }]
structure zA6 (rb:Nat) (eb:Option Nat) (w w':World):Prop where
 os:w'.os=w.os
 tape:w'.tape=w.tape
 output:w'.output=w.output
 size:w.heap.size≤w'.heap.size
 block: ∀k,k<w.heap.size→k≠rb→some k≠eb→w'.heap[k]?=w.heap[k]?
theorem zA6.refl (rb:Nat) (eb:Option Nat) (w:World):zA6 rb eb w w:=⟨rfl,rfl,rfl,zQt _,fun _ _ _ _=>rfl⟩
theorem zA6.of_below {rb:Nat} {eb:Option Nat} {w w':World} (h:Below w.heap.size w w'):zA6 rb eb w w':=⟨h.os,h.tape,h.output,h.size,fun k hk _ _=>h.block k hk⟩
def zBK (w:World) (eb eb':Option Nat):Prop:=eb'=eb∨ ∀g,eb'=some g→w.heap.size≤g
theorem zBK.refl (w:World) (eb:Option Nat):zBK w eb eb:= .inl rfl
theorem zBK.ne {w:World} {eb eb':Option Nat} (h:zBK w eb eb') {k:Nat} (hk:k<w.heap.size) (hne:some k≠eb):some k≠eb':=by
 rcases h with rfl|h
 ·exact hne
 ·intro e;have:=h k e.symm;omega
theorem zA6.trans {rb:Nat} {eb eb':Option Nat} {a b c:World} (h:zA6 rb eb a b) (hn:zBK a eb eb') (k:zA6 rb eb' b c):zA6 rb eb a c:=
 ⟨k.os.trans h.os,k.tape.trans h.tape,k.output.trans h.output,zRE h.size k.size,fun i hi h1 h2=>(k.block i (zQu hi h.size) h1 (hn.ne hi h2)).trans (h.block i hi h1 h2)⟩
theorem zBK.trans {a b:World} {eb eb' eb'':Option Nat} (h:zBK a eb eb') (hs:a.heap.size≤b.heap.size) (k:zBK b eb' eb''):zBK a eb eb'':=by
 rcases k with rfl|k
 ·exact h
 ·exact .inr fun g hg=>zRE hs (k g hg)
theorem zA6.drew {rb:Nat} {eb:Option Nat} {a w:World} (h:zA6 rb eb a w):zA6 rb eb a w.drew:=⟨h.os,h.tape,h.output,h.size,h.block⟩
theorem zA6.below {rb:Nat} {eb:Option Nat} {a b c:World} (h:zA6 rb eb a b) (k:Below b.heap.size b c):zA6 rb eb a c:=h.trans (.inl rfl) (.of_below k)
theorem zA6.store {rb:Nat} {eb:Option Nat} {a b:World} (h:zA6 rb eb a b) (o:Nat) (v:Value):zA6 rb eb a (b.setCell ⟨rb,o,none⟩ v):=
 h.trans (.inl rfl) ⟨rfl,rfl,rfl,by simp[World.setCell],fun k _ h1 _=>zQ1 _ _ _ _ h1⟩
theorem zA6.alloc {rb:Nat} {eb:Option Nat} {a b:World} (h:zA6 rb eb a b) (o:Obj):zA6 rb eb a (b.alloc o):=h.below ((zQs _ _).alloc (zQt _) _)
theorem zA6.cell {rb:Nat} {eb:Option Nat} {w w':World} (h:zA6 rb eb w w') {p:Addr} (hp:p.block<w.heap.size) (h1:p.block≠rb) (h2:some p.block≠eb):w'.cell? p=w.cell? p:=
 zQv (w:=w) (h.block p.block hp h1 h2)
theorem zAV {w w':World} {base:Nat} {e:TypeId} {size:Nat} {v:Value} {n:Nat} {xs:List Value} (h:w.ownsRow base e size v n xs) (hb: ∀g,v.ownBlock=some g→w'.heap[g]?=w.heap[g]?):w'.ownsRow base e size v n xs:=by
 refine⟨h.1,?_⟩
 rcases h.2 with hn|⟨g,cap,cur,rfl,hg,hgg,rest⟩
 ·exact .inl hn
 ·exact .inr ⟨g,cap,cur,rfl,hg,(hb g rfl).trans hgg,rest⟩
theorem zJZ {rb:Nat} {eb:Option Nat} {w w':World} {base:Nat} {e:TypeId} {size:Nat} {v:Value} {n:Nat} {xs:List Value} (h:w.ownsRow base e size v n xs) (hb:zA6 rb eb w w') (hr:rb<base) (hne: ∀g,v.ownBlock=some g→some g≠eb):w'.ownsRow base e size v n xs:=
 zAV h fun g hg=>hb.block g (h.lt g hg).2 (by have:=(h.lt g hg).1;omega) (hne g hg)
def zCv (ere:Bool) (b:Nat):Option FuncId:=
 if b=46 then some 206
 else if b=91 then some 207
 else if b=92 then some 208
 else if b=94 then some 209
 else if b=36 then some 210
 else if ere&&b==40 then some 211
 else none
def zDj (rb:Nat) (ere:Bool) (b:Nat):Value:=
 match zCv ere b with
 |none=> .nilFunc
 |some f=> .func (.func f) #[.pointer (some ⟨rb,0,none⟩)] #[]
structure RdS (w:World) (rb:Nat) (ere:Bool) (mb mo cap:Nat) (L:List Mk) (s:Rst) (k:Nat) (ev:Value):Prop where
 lt:rb<w.heap.size
 c0:w.cell? ⟨rb,0,none⟩=some (.bool ere)
 c1:w.cell? ⟨rb,1,none⟩=some (.slice (some ⟨mb,mo,none⟩) L.length cap)
 c2:w.cell? ⟨rb,2,none⟩=some (.int .i64 s.i)
 c3:w.cell? ⟨rb,3,none⟩=some ev
 c4:w.cell? ⟨rb,4,none⟩=some (.int .i64 (64 - k:Nat))
 tb: ∀b,b<256→w.cell? ⟨rb,5+b,none⟩=some (zDj rb ere b)
 fz: ∀o,w.frozen? ⟨rb,o,none⟩=false
 own:w.ownsRow (rb+1) 4 1 ev s.ended.length (s.ended.map .bool)
 m:zI4 w mb mo L
 mlt:mb<rb
 at_:s.i≤L.length
 el:s.ended.length≤255
 kl:k≤64
section
variable {w w':World} {rb:Nat} {ere:Bool} {mb mo cap:Nat} {L:List Mk} {s:Rst} {k:Nat} {ev:Value}
theorem RdS.v (h:RdS w rb ere mb mo cap L s k ev):RdV w rb ere mb mo cap L s.i:=
 ⟨h.lt,h.m.lt,h.m.len,h.at_,h.c0,h.c1,h.c2,h.m.b,h.m.p⟩
theorem RdS.block (h:RdS w rb ere mb mo cap L s k ev) (hb: ∀g,ev.ownBlock=some g→w'.heap[g]?=w.heap[g]?) (hr:w'.heap[rb]?=w.heap[rb]?) (hm:w'.heap[mb]?=w.heap[mb]?) (hs:w.heap.size≤w'.heap.size):RdS w' rb ere mb mo cap L s k ev where
 lt:=zQu h.lt hs
 c0:=(zQv (w:=w) (a:=⟨rb,0,none⟩) hr).trans h.c0
 c1:=(zQv (w:=w) (a:=⟨rb,1,none⟩) hr).trans h.c1
 c2:=(zQv (w:=w) (a:=⟨rb,2,none⟩) hr).trans h.c2
 c3:=(zQv (w:=w) (a:=⟨rb,3,none⟩) hr).trans h.c3
 c4:=(zQv (w:=w) (a:=⟨rb,4,none⟩) hr).trans h.c4
 tb:=fun b hb=>(zQv (w:=w) (a:=⟨rb,5+b,none⟩) hr).trans (h.tb b hb)
 fz:=fun o=>(zQw (w:=w) (a:=⟨rb,o,none⟩) hr).trans (h.fz o)
 own:=zAV h.own hb
 m:=⟨zQu h.m.lt hs,h.m.len,fun i hi=>(zQv (w:=w) (a:=⟨mb,mo+i*2,none⟩) hm).trans (h.m.b i hi),fun i hi=>(zQv (w:=w) (a:=⟨mb,mo+i*2+1,none⟩) hm).trans (h.m.p i hi),h.m.u⟩
 mlt:=h.mlt
 at_:=h.at_
 el:=h.el
 kl:=h.kl
theorem RdS.below (h:RdS w rb ere mb mo cap L s k ev) (hb:Below w.heap.size w w'):RdS w' rb ere mb mo cap L s k ev:=
 h.block (fun g hg=>hb.block g (h.own.lt g hg).2) (hb.block rb h.lt) (hb.block mb h.m.lt) hb.size
theorem RdS.drew (h:RdS w rb ere mb mo cap L s k ev):RdS w.drew rb ere mb mo cap L s k ev:=h.below (zQs _ _).drew
theorem RdS.alloc (h:RdS w rb ere mb mo cap L s k ev) (o:Obj):RdS (w.alloc o) rb ere mb mo cap L s k ev:=h.below ((zQs _ _).alloc (zQt _) _)
theorem zAG (w:World) (b o p:Nat) (v:Value) (h:p≠o):(w.setCell ⟨b,o,none⟩ v).cell? ⟨b,p,none⟩=w.cell? ⟨b,p,none⟩:=
 zQ9 _ _ _ _ (by simp only[ne_eq,Addr.mk.injEq,not_and];omega)
theorem zI4.store (h:zI4 w mb mo L) {b:Nat} (hb:mb<b) (o:Nat) (v:Value):zI4 (w.setCell ⟨b,o,none⟩ v) mb mo L:=
 ⟨by simpa [World.setCell]using h.lt,h.len,fun i hi=>(zQ9 _ _ _ _ (by simp only[ne_eq,Addr.mk.injEq,not_and];omega)).trans (h.b i hi),fun i hi=>(zQ9 _ _ _ _ (by simp only[ne_eq,Addr.mk.injEq,not_and];omega)).trans (h.p i hi),h.u⟩
theorem zAM (w:World) (a p:Addr) (v:Value) (h:w.frozen? p=false):(w.setCell a v).frozen? p=false:=by
 rw[World.frozen?_setCell];exact h
theorem RdS.setAt (h:RdS w rb ere mb mo cap L s k ev) {j:Nat} (hj:j≤L.length):RdS (w.setCell ⟨rb,2,none⟩ (.int .i64 j)) rb ere mb mo cap L ⟨j,s.ended⟩ k ev where
 lt:=by simpa [World.setCell]using h.lt
 c0:=(zAG _ _ _ _ _ (by decide)).trans h.c0
 c1:=(zAG _ _ _ _ _ (by decide)).trans h.c1
 c2:=zRA _ _ _ h.c2
 c3:=(zAG _ _ _ _ _ (by decide)).trans h.c3
 c4:=(zAG _ _ _ _ _ (by decide)).trans h.c4
 tb:=fun b hb=>(zAG _ _ _ _ _ (by omega)).trans (h.tb b hb)
 fz:=fun o=>zAM _ _ _ _ (h.fz o)
 own:=ownsRow_setCell_below h.own (Nat.lt_succ_self _) _
 m:=h.m.store h.mlt _ _
 mlt:=h.mlt
 at_:=hj
 el:=h.el
 kl:=h.kl
theorem RdS.setOpen (h:RdS w rb ere mb mo cap L s k ev) {k':Nat} (hk:k'≤64):RdS (w.setCell ⟨rb,4,none⟩ (.int .i64 (64 - k':Nat))) rb ere mb mo cap L s k' ev where
 lt:=by simpa [World.setCell]using h.lt
 c0:=(zAG _ _ _ _ _ (by decide)).trans h.c0
 c1:=(zAG _ _ _ _ _ (by decide)).trans h.c1
 c2:=(zAG _ _ _ _ _ (by decide)).trans h.c2
 c3:=(zAG _ _ _ _ _ (by decide)).trans h.c3
 c4:=zRA _ _ _ h.c4
 tb:=fun b hb=>(zAG _ _ _ _ _ (by omega)).trans (h.tb b hb)
 fz:=fun o=>zAM _ _ _ _ (h.fz o)
 own:=ownsRow_setCell_below h.own (Nat.lt_succ_self _) _
 m:=h.m.store h.mlt _ _
 mlt:=h.mlt
 at_:=h.at_
 el:=h.el
 kl:=hk
def zI3 {α:Type} (w:World) (rb:Nat) (ere:Bool) (mb mo cap:Nat) (L:List Mk) (k:Nat) (ev:Value) (o:Out α) (R:α→Value→World→Value→Prop):Ending→World→Prop:=fun e w'=>
 zA6 rb ev.ownBlock w w'∧match o with
 | .no er p=>e=zFP er p
 | .ok a t=> ∃v ev',e= .returned v∧RdS w' rb ere mb mo cap L t k ev'∧zBK w ev.ownBlock ev'.ownBlock∧R a v w' ev'
def zA3 (w0:World) (re:List Nd) (v:Value) (w':World) (ev':Value):Prop:=
 w'.ownsRow w0.heap.size 101 9 v re.length (re.flatMap fun x=>(zAT x).toList)∧ ∀g,v.ownBlock=some g→some g≠ev'.ownBlock
theorem zAr {rv:Value} {e p:Int} (en pn:Nat) (he:e=en) (hp:p=pn) (w:World):
  Calls Tryz.prog 214 #[rv,.int .i64 e,.int .i64 p] w fun e w'=>e= .panicked [{ v:=zG9 en pn,recovered:=false }]∧w'=w:=by
 subst he
 subst hp
 go_enter Tryz.func214,Tryz.ntmps214
 go_wp2_with fail
 exact⟨rfl,rfl,rfl⟩
end
end
section
open Go.RowKit
structure WdS (w:World) (wb:Nat) (oa:Option Addr) (cap:Nat) (T:List Nat) (i:Nat):Prop where
 lt:wb<w.heap.size
 c0:w.cell? ⟨wb,0,none⟩=some (.slice oa T.length cap)
 c1:w.cell? ⟨wb,1,none⟩=some (.int .i64 (i:Nat))
 c2:w.cell? ⟨wb,2,none⟩=some (.bool true)
 fz: ∀o,w.frozen? ⟨wb,o,none⟩=false
 tx:0<T.length→ ∃g,oa=some ⟨g,0,none⟩∧g≠wb∧g<w.heap.size∧ ∀j,j<T.length→w.cell? ⟨g,j,none⟩=some (.int .u8 (T.getD j 0:Nat))
 at_:i≤T.length
 len:T.length≤4294967296
 u: ∀j,T.getD j 0<256
 cp:T.length≤cap
 cm:cap≤maxLen
structure zBU (base wb:Nat) (w w':World):Prop where
 os:w'.os=w.os
 tape:w'.tape=w.tape
 output:w'.output=w.output
 size:w.heap.size≤w'.heap.size
 block: ∀k,k<base→k≠wb→w'.heap[k]?=w.heap[k]?
theorem zBU.refl (base wb:Nat) (w:World):zBU base wb w w:=⟨rfl,rfl,rfl,zQt _,fun _ _ _=>rfl⟩
theorem zBU.of_below {base wb k:Nat} {w w':World} (h:Below k w w') (hk:base≤k):zBU base wb w w':=⟨h.os,h.tape,h.output,h.size,fun i hi _=>h.block i (by omega)⟩
theorem zBU.trans {base wb:Nat} {a b c:World} (h:zBU base wb a b) (k:zBU base wb b c):zBU base wb a c:=
 ⟨k.os.trans h.os,k.tape.trans h.tape,k.output.trans h.output,zRE h.size k.size,fun i hi hn=>(k.block i hi hn).trans (h.block i hi hn)⟩
theorem zBU.mono {base base' wb:Nat} {a b:World} (h:zBU base wb a b) (hb:base'≤base):zBU base' wb a b:=⟨h.os,h.tape,h.output,h.size,fun i hi hn=>h.block i (by omega) hn⟩
theorem zBU.below {base wb k:Nat} {a b c:World} (h:zBU base wb a b) (k':Below k b c) (hk:base≤k):zBU base wb a c:=h.trans (.of_below k' hk)
theorem zBU.drew {base wb:Nat} {a b:World} (h:zBU base wb a b):zBU base wb a b.drew:=⟨h.os,h.tape,h.output,h.size,h.block⟩
theorem zBU.store {base wb:Nat} {a b:World} (h:zBU base wb a b) {c:Nat} (hc:c=wb∨base≤c) (o:Nat) (v:Value):zBU base wb a (b.setCell ⟨c,o,none⟩ v):=
 h.trans ⟨rfl,rfl,rfl,by simp[World.setCell],fun k hk hn=>zQ1 _ _ _ _ (by show k≠c;rcases hc with rfl|hc;exact hn;omega)⟩
theorem zBU.alloc {base wb:Nat} {a b:World} (h:zBU base wb a b) (hb:base≤b.heap.size) (o:Obj):zBU base wb a (b.alloc o):=h.below ((zQs _ _).alloc (zQt _) _) hb
theorem zBU.to_below {base wb:Nat} {a b:World} (h:zBU base wb a b) (hb:base≤wb):Below base a b:=⟨h.os,h.tape,h.output,h.size,fun k hk=>h.block k hk (by omega)⟩
theorem zBU.heap {base wb:Nat} {w w':World} (h:zBU base wb w w') {k:Nat} (hk:k<base) (hn:k≠wb):w'.heap[k]?=w.heap[k]?:=h.block k hk hn
section
variable {w w':World} {wb:Nat} {oa:Option Addr} {cap:Nat} {T:List Nat} {i:Nat}
theorem WdS.block (h:WdS w wb oa cap T i) (hw:w'.heap[wb]?=w.heap[wb]?) (ht:0<T.length→ ∀g,oa=some ⟨g,0,none⟩→g<w.heap.size→w'.heap[g]?=w.heap[g]?) (hs:w.heap.size≤w'.heap.size):WdS w' wb oa cap T i where
 lt:=zQu h.lt hs
 c0:=(zQv (w:=w) (a:=⟨wb,0,none⟩) hw).trans h.c0
 c1:=(zQv (w:=w) (a:=⟨wb,1,none⟩) hw).trans h.c1
 c2:=(zQv (w:=w) (a:=⟨wb,2,none⟩) hw).trans h.c2
 fz:=fun o=>(zQw (w:=w) (a:=⟨wb,o,none⟩) hw).trans (h.fz o)
 tx:=fun hp=>by
  obtain⟨g,h1,h2,h3,h4⟩:=h.tx hp
  exact⟨g,h1,h2,zQu h3 hs,fun j hj=>(zQv (w:=w) (a:=⟨g,j,none⟩) (ht hp g h1 h3)).trans (h4 j hj)⟩
 at_:=h.at_
 len:=h.len
 u:=h.u
 cp:=h.cp
 cm:=h.cm
theorem WdS.below (h:WdS w wb oa cap T i) (hb:Below w.heap.size w w'):WdS w' wb oa cap T i:=
 h.block (hb.block wb h.lt) (fun _ g _ hg=>hb.block g hg) hb.size
theorem WdS.drew (h:WdS w wb oa cap T i):WdS w.drew wb oa cap T i:=h.below (zQs _ _).drew
theorem WdS.alloc (h:WdS w wb oa cap T i) (o:Obj):WdS (w.alloc o) wb oa cap T i:=h.below ((zQs _ _).alloc (zQt _) _)
theorem WdS.store (h:WdS w wb oa cap T i) {b:Nat} (hb:b≠wb) (ht:0<T.length→ ∀g,oa=some ⟨g,0,none⟩→g≠b) (o:Nat) (v:Value):WdS (w.setCell ⟨b,o,none⟩ v) wb oa cap T i:=
 h.block (zQ1 _ _ _ _ (by show wb≠b;exact fun e=>hb e.symm)) (fun hp g hg _=>zQ1 _ _ _ _ (by show g≠b;exact ht hp g hg)) (by simp[World.setCell])
theorem WdS.setAt (h:WdS w wb oa cap T i) {j:Nat} (hj:j≤T.length) {x:Int} (hx:(j:Int)=x):WdS (w.setCell ⟨wb,1,none⟩ (.int .i64 x)) wb oa cap T j where
 lt:=by simpa [World.setCell]using h.lt
 c0:=(zAG _ _ _ _ _ (by decide)).trans h.c0
 c1:=by subst hx;exact zRA _ _ _ h.c1
 c2:=(zAG _ _ _ _ _ (by decide)).trans h.c2
 fz:=fun o=>zAM _ _ _ _ (h.fz o)
 tx:=fun hp=>by
  obtain⟨g,h1,h2,h3,h4⟩:=h.tx hp
  exact⟨g,h1,h2,by simpa [World.setCell]using h3,fun j hj=>(zQ9 _ _ _ _ (by simp only[ne_eq,Addr.mk.injEq,not_and];intro e;exact absurd e.symm h2)).trans (h4 j hj)⟩
 at_:=hj
 len:=h.len
 u:=h.u
 cp:=h.cp
 cm:=h.cm
theorem WdS.tlt (h:WdS w wb oa cap T i) (hp:0<T.length): ∀g,oa=some ⟨g,0,none⟩→g<w.heap.size:=fun g hg=>by
 obtain⟨g',h1,_,h3,_⟩:=h.tx hp
 rw[hg]at h1
 injection h1 with h1
 injection h1 with h1
 omega
end
end
section
open Go.RowKit
def sgn (ere:Bool) (c:UInt8):ByteArray:=if ere then⟨#[c]⟩else⟨#[92,c]⟩
theorem zDG (ere:Bool) (c:UInt8):(sgn ere c).size=zAY ere:=by cases ere<;>rfl
theorem zBk (ere:Bool) (c:UInt8):zAg (sgn ere c)=zCw ere c.toNat:=by cases ere<;>rfl
section
variable {w:World} {rb:Nat} {ere:Bool} {mb mo cap:Nat} {L:List Mk} {i:Nat}
theorem zAj (s:ByteArray) (l:List Nat) (b:Bool) (hs:s.size≤4096) (hl:zAg s=l) (hb:seesAt L i l=b) (hv:RdV w rb ere mb mo cap L i):
  Calls Tryz.prog 213 #[.pointer (some ⟨rb,0,none⟩),.string s] w fun e w'=>e= .returned (.bool b)∧Below w.heap.size w w':=by
 subst hl hb
 exact zNe s hs hv
theorem zBj (c:UInt8) {w:World} (c0:w.cell? ⟨rb,0,none⟩=some (.bool ere)):
  Calls Tryz.prog 232 #[.pointer (some ⟨rb,0,none⟩),.string ⟨#[c]⟩] w fun e w'=>e= .returned (.string (sgn ere c))∧w=w':=by
 refine(zNb ⟨#[c]⟩ (by simp[ByteArray.size]) c0).mono ?_
 rintro e w' ⟨rfl,rfl⟩
 refine⟨?_,rfl⟩
 cases ere<;>rfl
theorem zFy (hv:RdV w rb ere mb mo cap L i):
  Calls Tryz.prog 233 #[.pointer (some ⟨rb,0,none⟩)] w fun e w'=>e= .returned (.bool (zAm ere L i))∧Below w.heap.size w w':=by
 cases h1:seesAt L i [42]with
 |true=>
  have HE:Hid (zAm ere L i=true):=by simp[Hid,zAm,h1]
  have hv1:=hv
  go_enter Tryz.func233,Tryz.ntmps233
  go_wp2_with fail
  refine(zAj _ _ _ (by decide) (by rfl) h1 hv).mono ?_;rintro e w1 ⟨rfl,hb1⟩
  go_wp2_with fail
  go_ret
  exact⟨zAH HE.out.symm,hb1⟩
 |false=>
  have tail: ∀(w1:World),Below w.heap.size w w1→RdV w1 rb ere mb mo cap L i:=fun w1 hb=>hv.below hb
  cases he:ere with
  |false=>
   subst he
   have HE:Hid (zAm false L i=seesAt L i (zCw false 123)):=by simp[Hid,zAm,h1]
   go_enter Tryz.func233,Tryz.ntmps233
   go_wp2_with fail
   refine(zAj _ _ _ (by decide) (by rfl) h1 hv).mono ?_;rintro e w1 ⟨rfl,hb1⟩
   have hv1:=hv.below hb1
   have c0:=hv1.c0
   have hr:=hv1.hrb
   go_wp2_with fail
   refine(zBj 123 c0).mono ?_;rintro e w2 ⟨rfl,rfl⟩
   go_wp2_with fail
   refine(zAj _ _ _ (by decide) (zBk _ _) rfl hv1).mono ?_;rintro e w2 ⟨rfl,hb2⟩
   go_wp2_with fail
   go_ret
   exact⟨zAH HE.out.symm,hb1.trans (hb2.mono hb1.size)⟩
  |true=>
   subst he
   cases h2:seesAt L i [43]with
   |true=>
    have HE:Hid (zAm true L i=true):=by simp[Hid,zAm,h2]
    go_enter Tryz.func233,Tryz.ntmps233
    go_wp2_with fail
    refine(zAj _ _ _ (by decide) (by rfl) h1 hv).mono ?_;rintro e w1 ⟨rfl,hb1⟩
    have hv1:=hv.below hb1
    have c0:=hv1.c0
    have hr:=hv1.hrb
    go_wp2_with fail
    refine(zAj _ _ _ (by decide) (by rfl) h2 hv1).mono ?_;rintro e w2 ⟨rfl,hb2⟩
    go_wp2_with fail
    go_ret
    exact⟨zAH HE.out.symm,hb1.trans (hb2.mono hb1.size)⟩
   |false=>
    cases h3:seesAt L i [63]with
    |true=>
     have HE:Hid (zAm true L i=true):=by simp[Hid,zAm,h3]
     go_enter Tryz.func233,Tryz.ntmps233
     go_wp2_with fail
     refine(zAj _ _ _ (by decide) (by rfl) h1 hv).mono ?_;rintro e w1 ⟨rfl,hb1⟩
     have hv1:=hv.below hb1
     have c0:=hv1.c0
     have hr:=hv1.hrb
     go_wp2_with fail
     refine(zAj _ _ _ (by decide) (by rfl) h2 hv1).mono ?_;rintro e w2 ⟨rfl,hb2⟩
     have hv2:=hv1.below hb2
     go_wp2_with fail
     refine(zAj _ _ _ (by decide) (by rfl) h3 hv2).mono ?_;rintro e w3 ⟨rfl,hb3⟩
     have hbe:=hb1.trans (hb2.mono hb1.size)
     go_wp2_with fail
     go_ret
     exact⟨zAH HE.out.symm,hbe.trans (hb3.mono hbe.size)⟩
    |false=>
     have HE:Hid (zAm true L i=seesAt L i (zCw true 123)):=by simp[Hid,zAm,h1,h2,h3]
     go_enter Tryz.func233,Tryz.ntmps233
     go_wp2_with fail
     refine(zAj _ _ _ (by decide) (by rfl) h1 hv).mono ?_;rintro e w1 ⟨rfl,hb1⟩
     have hv1:=hv.below hb1
     have c0:=hv1.c0
     have hr:=hv1.hrb
     go_wp2_with fail
     refine(zAj _ _ _ (by decide) (by rfl) h2 hv1).mono ?_;rintro e w2 ⟨rfl,hb2⟩
     have hv2:=hv1.below hb2
     go_wp2_with fail
     refine(zAj _ _ _ (by decide) (by rfl) h3 hv2).mono ?_;rintro e w3 ⟨rfl,hb3⟩
     have hbe:=hb1.trans (hb2.mono hb1.size)
     have hbe3:=hbe.trans (hb3.mono hbe.size)
     have hv3:=hv2.below hb3
     have c03:=hv3.c0
     have hr3:=hv3.hrb
     go_wp2_with fail
     refine(zBj 123 c03).mono ?_;rintro e w4 ⟨rfl,rfl⟩
     go_wp2_with fail
     refine(zAj _ _ _ (by decide) (zBk _ _) rfl hv3).mono ?_;rintro e w4 ⟨rfl,hb4⟩
     go_wp2_with fail
     go_ret
     exact⟨zAH HE.out.symm,hbe3.trans (hb4.mono hbe3.size)⟩
theorem zGr {s:Rst} {k:Nat} {ev:Value} (hv:RdS w rb ere mb mo cap L s k ev):
  Calls Tryz.prog 264 #[.pointer (some ⟨rb,0,none⟩)] w fun e w'=>e= .returned (.int .i64 (zEH L s.i).1)∧RdS w' rb ere mb mo cap L ⟨(zEH L s.i).2,s.ended⟩ k ev∧zA6 rb none w w':=by
 have hlen:=hv.m.len
 go_enter Tryz.func264,Tryz.ntmps264
 go_wp2_with fail
 go_loopw [3] (fun n wr=> ∃(j:Nat) (m:Int),n= .int .i64 m∧RdS wr rb ere mb mo cap L ⟨j,s.ended⟩ k ev∧zA6 rb none w wr∧Hid (zEH L s.i=zBo L (L.length - j) m j)∧ -1≤m∧m≤256) (fun _ wr=>L.length - (intOf ((wr.cell? ⟨rb,2,none⟩).getD undef)).toNat)
 case atStart=>exact⟨s.i,-1,rfl,hv,zA6.refl _ _ _,rfl,by omega,by omega⟩
 case round=>
  obtain⟨j,m,rfl,hr,hb,HS,hm1,hm2⟩:=hrel
  have c1:=hr.c1
  have c2:=hr.c2
  have rbl:=hr.lt
  have mbl:=hr.m.lt
  have hj:=hr.at_
  have f0:=hr.fz 2
  simp only at c2 hj
  by_cases hlt:j<L.length
  ·have cb:=hr.m.b j hlt
   have cp:=hr.m.p j hlt
   have hu:=hr.m.u j hlt
   have HR:=zQr hr
   have HB:=zQr hb
   clear hr hb hv
   generalize hm:zAI L j=mk at cb cp hu
   obtain⟨mby,mpl⟩:=mk
   have HM:=zQr hm
   clear hm
   simp only at cb cp hu
   cases mpl with
   |true=>
    have HE:Hid (zEH L s.i=(m,j)):=by
     rw[Hid,HS.out,show L.length - j=(L.length - j - 1)+1 by omega,zBo,if_neg (by omega),if_pos (by simp[HM.out])]
    go_wp2_with fail
    refine zAA (X:=none) 10 [] [0,1,2,3,4,5,6,7,8,9] (by kernel_rfl) (by kernel_rfl) rfl (fun _ _ _ _ _ h=>h) ?_
    simp only[zAK,zAC,zAD,zAB,List.getD_cons_zero,List.getD_cons_succ,List.drop_succ_cons,List.drop_nil]
    repeat (go_big_quiet_step (fail))
    refine wpQuiet_nil ?_
    go_wp2_with fail
    refine zAA (X:=none) 11 [([0,1,2,3,4,5,6,7,8,9],10)] [] (by kernel_rfl) (by kernel_rfl) rfl (fun _ _ _ _ _ h=>h) ?_
    simp only[zAK,zAC,zAE,zAD,zAB,List.getD_cons_zero,List.getD_cons_succ,List.drop_succ_cons,List.drop_zero]
    repeat (go_big_quiet_step (fail))
    refine wpQuiet_nil ?_
    go_wp2_with fail
    refine⟨zAn (zAn (zAc _ _)),wpQuiet_nil ?_⟩
    go_wp2_with fail
    go_ret
    rw[HE.out]
    exact⟨rfl,(HR.out.alloc _).drew.drew,(HB.out.alloc _).drew.drew⟩
   |false=>
    by_cases hlo:mby<48
    ·have HE:Hid (zEH L s.i=(m,j)):=by
      rw[Hid,HS.out,show L.length - j=(L.length - j - 1)+1 by omega,zBo,if_neg (by omega),if_pos (by simp[HM.out,hlo])]
     go_wp2_with fail
     refine zAA (X:=none) 10 [] [0,1,2,3,4,5,6,7,8,9] (by kernel_rfl) (by kernel_rfl) rfl (fun _ _ _ _ _ h=>h) ?_
     simp only[zAK,zAC,zAD,zAB,List.getD_cons_zero,List.getD_cons_succ,List.drop_succ_cons,List.drop_nil]
     repeat (go_big_quiet_step (fail))
     refine wpQuiet_nil ?_
     go_wp2_with fail
     refine zAA (X:=none) 11 [([0,1,2,3,4,5,6,7,8,9],10)] [] (by kernel_rfl) (by kernel_rfl) rfl (fun _ _ _ _ _ h=>h) ?_
     simp only[zAK,zAC,zAE,zAD,zAB,List.getD_cons_zero,List.getD_cons_succ,List.drop_succ_cons,List.drop_zero]
     repeat (go_big_quiet_step (fail))
     refine wpQuiet_nil ?_
     go_wp2_with fail
     refine⟨zAn (zAn (zAc _ _)),wpQuiet_nil ?_⟩
     go_wp2_with fail
     go_ret
     rw[HE.out]
     exact⟨rfl,(HR.out.alloc _).drew.drew,(HB.out.alloc _).drew.drew⟩
    ·by_cases hhi:57<mby
     ·have HE:Hid (zEH L s.i=(m,j)):=by
       rw[Hid,HS.out,show L.length - j=(L.length - j - 1)+1 by omega,zBo,if_neg (by omega),if_pos (by simp[HM.out,hhi])]
      go_wp2_with fail
      refine zAA (X:=none) 10 [] [0,1,2,3,4,5,6,7,8,9] (by kernel_rfl) (by kernel_rfl) rfl (fun _ _ _ _ _ h=>h) ?_
      simp only[zAK,zAC,zAD,zAB,List.getD_cons_zero,List.getD_cons_succ,List.drop_succ_cons,List.drop_nil]
      repeat (go_big_quiet_step (fail))
      refine wpQuiet_nil ?_
      go_wp2_with fail
      refine zAA (X:=none) 11 [([0,1,2,3,4,5,6,7,8,9],10)] [] (by kernel_rfl) (by kernel_rfl) rfl (fun _ _ _ _ _ h=>h) ?_
      simp only[zAK,zAC,zAE,zAD,zAB,List.getD_cons_zero,List.getD_cons_succ,List.drop_succ_cons,List.drop_zero]
      repeat (go_big_quiet_step (fail))
      refine wpQuiet_nil ?_
      go_wp2_with fail
      refine⟨zAn (zAn (zAc _ _)),wpQuiet_nil ?_⟩
      go_wp2_with fail
      go_ret
      rw[HE.out]
      exact⟨rfl,(HR.out.alloc _).drew.drew,(HB.out.alloc _).drew.drew⟩
     ·have HE:Hid (zEH L s.i=zBo L (L.length - (j+1)) (min (max m 0*10+((mby:Int) - 48)) 256) (j+1)):=by
       rw[Hid,HS.out,show L.length - j=(L.length - (j+1))+1 by omega,zBo,if_neg (by omega),if_neg (by simp[HM.out,hlo,hhi]),HM.out]
      go_wp2_with fail
      refine zAA (X:=none) 10 [] [0,1,2,3,4,5,6,7,8,9] (by kernel_rfl) (by kernel_rfl) rfl (fun _ _ _ _ _ h=>h) ?_
      simp only[zAK,zAC,zAD,zAB,List.getD_cons_zero,List.getD_cons_succ,List.drop_succ_cons,List.drop_nil]
      repeat (go_big_quiet_step (fail))
      refine wpQuiet_nil ?_
      go_wp2_with fail
      refine zAA (X:=none) 11 [([0,1,2,3,4,5,6,7,8,9],10)] [] (by kernel_rfl) (by kernel_rfl) rfl (fun _ _ _ _ _ h=>h) ?_
      simp only[zAK,zAC,zAE,zAD,zAB,List.getD_cons_zero,List.getD_cons_succ,List.drop_succ_cons,List.drop_zero]
      repeat (go_big_quiet_step (fail))
      refine wpQuiet_nil ?_
      go_wp2_with fail
      refine⟨zAn (zAn (zAc _ _)),wpQuiet_nil ?_⟩
      go_wp2_with fail
      have hx:(if 256<(if m<0 then 0 else m)*10+((mby:Int) - 48)then 256 else(if m<0 then 0 else m)*10+((mby:Int) - 48))=min (max m 0*10+((mby:Int) - 48)) 256:=by
       rw[Int.min_def,Int.max_def];split<;>split<;>split<;>split<;>omega
      have hr1:=HR.out.setAt (j:=j+1) hlt
      have hb1:=HB.out.store 2 (.int .i64 ((j+1:Nat):Int))
      rw[Int.natCast_add,show((1:Nat):Int)=1 from rfl]at hr1 hb1
      refine⟨⟨j+1,_,rfl,(hr1.alloc _).drew.drew,(hb1.alloc _).drew.drew,?_,?_,?_⟩,?_⟩
      ·rw[hx];exact HE.out
      ·split<;>split at* <;>omega
      ·split<;>split at* <;>omega
      ·have h2:=(hr1.alloc (.cells #[.int .u8 mby,.bool false] 166)).drew.drew.c2
       rw[h2,c2]
       simp[intOf]
       omega
  ·have HE:Hid (zEH L s.i=(m,j)):=by
    rw[Hid,HS.out,show L.length - j=0 by omega,zBo]
   have h1: ¬((j:Int)<(L.length:Int)):=by omega
   go_wp2_with fail
   refine zAA (X:=none) 10 [] [0,1,2,3,4,5,6,7,8,9] (by kernel_rfl) (by kernel_rfl) rfl (fun _ _ _ _ _ h=>h) ?_
   simp only[zAK,zAC,zAD,zAB,List.getD_cons_zero,List.getD_cons_succ,List.drop_succ_cons,List.drop_nil]
   repeat (go_big_quiet_step (fail))
   refine wpQuiet_nil ?_
   go_wp2_with fail
   go_ret
   rw[HE.out]
   exact⟨rfl,hr.drew,hb.drew⟩
end
end
section
open Go.RowKit
theorem zEN (ere:Bool):zAY ere≤2:=by cases ere<;>decide
theorem zA6.none {rb:Nat} {w w':World} (h:zA6 rb none w w') (eb:Option Nat):zA6 rb eb w w':=⟨h.os,h.tape,h.output,h.size,fun k hk h1 _=>h.block k hk h1 (by simp)⟩
theorem zDy (L:List Mk): ∀(f:Nat) (n:Int) (i:Nat),-1≤n→n≤256→ -1≤(zBo L f n i).1∧(zBo L f n i).1≤256
 |0,n,i,h1,h2=>⟨h1,h2⟩
 |f+1,n,i,h1,h2=>by
  unfold zBo
  split
  ·exact⟨h1,h2⟩
  ·split
   ·exact⟨h1,h2⟩
   ·rename_i h3
    simp only[Bool.or_eq_true,decide_eq_true_eq,not_or]at h3
    exact zDy L f _ _ (by omega) (by omega)
theorem zF6 (L:List Mk) (i:Nat): -1≤(zEH L i).1∧(zEH L i).1≤256:=zDy L _ _ _ (by omega) (by omega)
section
variable {w:World} {rb:Nat} {ere:Bool} {mb mo cap:Nat} {L:List Mk} {s:Rst} {k:Nat} {ev:Value}
def zBT (ere:Bool) (L:List Mk) (s:Rst) (lo hi:Int) (p:Nat):Out (Int × Int):=
 if decide (lo<0)||decide (255<lo)||decide (255<hi)||(decide (0≤hi)&&decide (hi<lo))|| !seesAt L p (zCw ere 125)then .no 43 s.i
 else .ok (lo,hi) ⟨p+zAY ere,s.ended⟩
theorem zIk (hv:RdS w rb ere mb mo cap L s k ev) (hs:s.i+zAY ere≤L.length):
  Calls Tryz.prog 250 #[.pointer (some ⟨rb,0,none⟩)] w (zI3 w rb ere mb mo cap L k ev (zAl ere L s) fun a v _ ev'=>v= .tuple #[.int .i64 a.1,.int .i64 a.2]∧ev'=ev):=by
 have hlen:=hv.m.len
 have hw:=zEN ere
 have hz:=zDG ere 123
 have hz2:=zDG ere 125
 have c0:=hv.c0
 have c2:=hv.c2
 have rbl:=hv.lt
 have f2:=hv.fz 2
 go_enter Tryz.func250,Tryz.ntmps250
 go_wp2_with fail
 refine zAA (X:=none) 10 [([0,1,2,3,4],5)] [6,7,8,9] (by kernel_rfl) (by kernel_rfl) rfl (fun _ _ _ _ _ h=>h) ?_
 simp only[zAK,zAC,zAE,zAD,zAB,List.getD_cons_zero,List.getD_cons_succ,List.drop_succ_cons,List.drop_zero]
 repeat (go_big_quiet_step (fail))
 refine wpQuiet_nil ?_
 go_wp2_with fail
 refine(zBj 123 (w:=w.drew) c0).mono ?_;rintro e w1 ⟨rfl,rfl⟩
 go_wp2_with fail
 refine⟨zAJ.refl _,?_⟩
 repeat (go_big_quiet_step (fail))
 refine wpQuiet_nil ?_
 go_wp2_with fail
 have hr1:=(hv.setAt hs).drew
 have hb1:=((zA6.refl rb ev.ownBlock w).store 2 (.int .i64 ((s.i+zAY ere:Nat):Int))).drew
 rw[Int.natCast_add]at hr1 hb1
 have HE:Hid (zAl ere L s=(let b:=if seesAt L (zEH L (s.i+zAY ere)).2 [44]then zEH L ((zEH L (s.i+zAY ere)).2+1)else zEH L (s.i+zAY ere);zBT ere L s (zEH L (s.i+zAY ere)).1 b.1 b.2)):=rfl
 have hnb:=zF6 L (s.i+zAY ere)
 refine(zGr hr1).mono ?_;rintro e w2 ⟨rfl,hr2,hb2⟩
 simp only at hr2
 generalize zEH L (s.i+zAY ere)=a at hr2 HE hnb ⊢
 obtain⟨lo,p⟩:=a
 simp only at hr2 HE hnb
 have hbe2:zA6 rb ev.ownBlock w w2:=hb1.trans (.inl rfl) (hb2.none _)
 have hp:=hr2.at_
 simp only at hp
 clear hr1 hb1 hb2 hv c0 c2 f2
 have rbl2:=hr2.lt
 have d2:=hr2.c2
 have f2:=hr2.fz 2
 cases hc:seesAt L p [44]with
 |true=>
  have hp1:=zBP (by decide) hc
  go_wp2_with fail
  refine(zAj _ _ _ (by decide) (by rfl) hc hr2.v).mono ?_;rintro e w3 ⟨rfl,hb3⟩
  have hr3:=hr2.below hb3
  have hbe3:=hbe2.below hb3
  have rbl3:=hr3.lt
  have d3:=hr3.c2
  have f3:=hr3.fz 2
  clear d2 f2 hb3
  go_wp2_with fail
  have hr4:=hr3.setAt (j:=p+1) (by simpa using hp1)
  have hb4:=hbe3.store 2 (.int .i64 ((p+1:Nat):Int))
  rw[Int.natCast_add,show((1:Nat):Int)=1 from rfl]at hr4 hb4
  have hnh:=zF6 L (p+1)
  simp only[hc,if_true]at HE
  refine(zGr hr4).mono ?_;rintro e wA ⟨rfl,hrA,hb5⟩
  simp only at hrA
  have hbA:zA6 rb ev.ownBlock w wA:=hb4.trans (.inl rfl) (hb5.none _)
  generalize zEH L (p+1)=bq at hrA HE hnh ⊢
  obtain⟨hi,q⟩:=bq
  simp only at hrA HE hnh
  clear hr2 hr3 hr4 hbe3 hb4 hb5 d3 f3 hbe2 hp1 rbl3
  have hqL:=hrA.at_
  simp only at hqL
  have rblA:=hrA.lt
  have cA:=hrA.c0
  have dA:=hrA.c2
  have fA:=hrA.fz 2
  have HB:=zQr hbA
  have HR:=zQr hrA
  clear hbA hrA
  by_cases g1:lo<0
  ·have HF:Hid (zAl ere L s= .no 43 s.i):=by rw[Hid,HE.out];simp[zBT,g1]
   go_wp2_with fail
   refine(zAr 43 s.i rfl rfl _).mono ?_;rintro e w9 ⟨rfl,rfl⟩
   go_wp2_with fail
   exact⟨rfl,HB.out,by rw[HF.out];rfl⟩
  by_cases g2:255<lo
  ·have HF:Hid (zAl ere L s= .no 43 s.i):=by rw[Hid,HE.out];simp[zBT,g2]
   go_wp2_with fail
   refine(zAr 43 s.i rfl rfl _).mono ?_;rintro e w9 ⟨rfl,rfl⟩
   go_wp2_with fail
   exact⟨rfl,HB.out,by rw[HF.out];rfl⟩
  by_cases g3:255<hi
  ·have HF:Hid (zAl ere L s= .no 43 s.i):=by rw[Hid,HE.out];simp[zBT,g3]
   go_wp2_with fail
   refine(zAr 43 s.i rfl rfl _).mono ?_;rintro e w9 ⟨rfl,rfl⟩
   go_wp2_with fail
   exact⟨rfl,HB.out,by rw[HF.out];rfl⟩
  by_cases g4:0≤hi
  ·by_cases g5:hi<lo
   ·have HF:Hid (zAl ere L s= .no 43 s.i):=by rw[Hid,HE.out];simp[zBT,g4,g5]
    go_wp2_with fail
    refine(zAr 43 s.i rfl rfl _).mono ?_;rintro e w9 ⟨rfl,rfl⟩
    go_wp2_with fail
    exact⟨rfl,HB.out,by rw[HF.out];rfl⟩
   have HG:Hid (zBT ere L s lo hi q=if !seesAt L q (zCw ere 125)then .no 43 s.i else .ok (lo,hi) ⟨q+zAY ere,s.ended⟩):=by simp[Hid,zBT,g1,g2,g3,g4,g5]
   cases hd:seesAt L q (zCw ere 125)with
   |false=>
    have HF:Hid (zAl ere L s= .no 43 s.i):=by rw[Hid,HE.out,HG.out,hd];rfl
    go_wp2_with fail
    refine(zBj 125 cA).mono ?_;rintro e w8 ⟨rfl,rfl⟩
    go_wp2_with fail
    refine(zAj _ _ _ (by rw[hz2];omega) (zBk _ _) hd HR.out.v).mono ?_;rintro e w8 ⟨rfl,hb8⟩
    have HB8:=zQr (HB.out.below hb8)
    clear hb8
    go_wp2_with fail
    refine(zAr 43 s.i rfl rfl _).mono ?_;rintro e w9 ⟨rfl,rfl⟩
    go_wp2_with fail
    exact⟨rfl,HB8.out,by rw[HF.out];rfl⟩
   |true=>
    have hq9:=zBn hd
    have HF:Hid (zAl ere L s= .ok (lo,hi) ⟨q+zAY ere,s.ended⟩):=by rw[Hid,HE.out,HG.out,hd];rfl
    go_wp2_with fail
    refine(zBj 125 cA).mono ?_;rintro e w8 ⟨rfl,rfl⟩
    go_wp2_with fail
    refine(zAj _ _ _ (by rw[hz2];omega) (zBk _ _) hd HR.out.v).mono ?_;rintro e w8 ⟨rfl,hb8⟩
    have HB8:=zQr (HB.out.below hb8)
    have hr8:=HR.out.below hb8
    have HR8:=zQr hr8
    have rbl8:=hr8.lt
    have c8:=hr8.c0
    have d8:=hr8.c2
    have f8:=hr8.fz 2
    clear hb8 hr8 cA dA fA
    go_wp2_with fail
    refine zAA (X:=none) 10 [([0,1,2,3,4],5)] [6,7,8,9] (by kernel_rfl) (by kernel_rfl) rfl (fun _ _ _ _ _ h=>h) ?_
    simp only[zAK,zAC,zAE,zAD,zAB,List.getD_cons_zero,List.getD_cons_succ,List.drop_succ_cons,List.drop_zero]
    repeat (go_big_quiet_step (fail))
    refine wpQuiet_nil ?_
    go_wp2_with fail
    refine(zBj 125 (w:=w8.drew) c8).mono ?_;rintro e w10 ⟨rfl,rfl⟩
    go_wp2_with fail
    refine⟨zAJ.refl _,?_⟩
    repeat (go_big_quiet_step (fail))
    refine wpQuiet_nil ?_
    go_wp2_with fail
    have hrZ:=(HR8.out.setAt (j:=q+zAY ere) hq9).drew
    have hbZ:=(HB8.out.store 2 (.int .i64 ((q+zAY ere:Nat):Int))).drew
    rw[Int.natCast_add]at hrZ hbZ
    go_ret2
    refine⟨hbZ,?_⟩
    rw[HF.out]
    exact⟨_,ev,rfl,hrZ,zBK.refl _ _,rfl,rfl⟩
  have HG:Hid (zBT ere L s lo hi q=if !seesAt L q (zCw ere 125)then .no 43 s.i else .ok (lo,hi) ⟨q+zAY ere,s.ended⟩):=by simp[Hid,zBT,g1,g2,g3,g4]
  cases hd:seesAt L q (zCw ere 125)with
  |false=>
   have HF:Hid (zAl ere L s= .no 43 s.i):=by rw[Hid,HE.out,HG.out,hd];rfl
   go_wp2_with fail
   refine(zBj 125 cA).mono ?_;rintro e w8 ⟨rfl,rfl⟩
   go_wp2_with fail
   refine(zAj _ _ _ (by rw[hz2];omega) (zBk _ _) hd HR.out.v).mono ?_;rintro e w8 ⟨rfl,hb8⟩
   have HB8:=zQr (HB.out.below hb8)
   clear hb8
   go_wp2_with fail
   refine(zAr 43 s.i rfl rfl _).mono ?_;rintro e w9 ⟨rfl,rfl⟩
   go_wp2_with fail
   exact⟨rfl,HB8.out,by rw[HF.out];rfl⟩
  |true=>
   have hq9:=zBn hd
   have HF:Hid (zAl ere L s= .ok (lo,hi) ⟨q+zAY ere,s.ended⟩):=by rw[Hid,HE.out,HG.out,hd];rfl
   go_wp2_with fail
   refine(zBj 125 cA).mono ?_;rintro e w8 ⟨rfl,rfl⟩
   go_wp2_with fail
   refine(zAj _ _ _ (by rw[hz2];omega) (zBk _ _) hd HR.out.v).mono ?_;rintro e w8 ⟨rfl,hb8⟩
   have HB8:=zQr (HB.out.below hb8)
   have hr8:=HR.out.below hb8
   have HR8:=zQr hr8
   have rbl8:=hr8.lt
   have c8:=hr8.c0
   have d8:=hr8.c2
   have f8:=hr8.fz 2
   clear hb8 hr8 cA dA fA
   go_wp2_with fail
   refine zAA (X:=none) 10 [([0,1,2,3,4],5)] [6,7,8,9] (by kernel_rfl) (by kernel_rfl) rfl (fun _ _ _ _ _ h=>h) ?_
   simp only[zAK,zAC,zAE,zAD,zAB,List.getD_cons_zero,List.getD_cons_succ,List.drop_succ_cons,List.drop_zero]
   repeat (go_big_quiet_step (fail))
   refine wpQuiet_nil ?_
   go_wp2_with fail
   refine(zBj 125 (w:=w8.drew) c8).mono ?_;rintro e w10 ⟨rfl,rfl⟩
   go_wp2_with fail
   refine⟨zAJ.refl _,?_⟩
   repeat (go_big_quiet_step (fail))
   refine wpQuiet_nil ?_
   go_wp2_with fail
   have hrZ:=(HR8.out.setAt (j:=q+zAY ere) hq9).drew
   have hbZ:=(HB8.out.store 2 (.int .i64 ((q+zAY ere:Nat):Int))).drew
   rw[Int.natCast_add]at hrZ hbZ
   go_ret2
   refine⟨hbZ,?_⟩
   rw[HF.out]
   exact⟨_,ev,rfl,hrZ,zBK.refl _ _,rfl,rfl⟩
 |false=>
  go_wp2_with fail
  refine(zAj _ _ _ (by decide) (by rfl) hc hr2.v).mono ?_;rintro e wA ⟨rfl,hb3⟩
  have hrA:=hr2.below hb3
  have hbA:=hbe2.below hb3
  simp only[hc,Bool.false_eq_true,if_false]at HE
  clear d2 f2 hb3 hr2 hbe2
  have hqL:=hrA.at_
  simp only at hqL
  have rblA:=hrA.lt
  have cA:=hrA.c0
  have dA:=hrA.c2
  have fA:=hrA.fz 2
  have HB:=zQr hbA
  have HR:=zQr hrA
  clear hbA hrA
  by_cases g1:lo<0
  ·have HF:Hid (zAl ere L s= .no 43 s.i):=by rw[Hid,HE.out];simp[zBT,g1]
   go_wp2_with fail
   refine(zAr 43 s.i rfl rfl _).mono ?_;rintro e w9 ⟨rfl,rfl⟩
   go_wp2_with fail
   exact⟨rfl,HB.out,by rw[HF.out];rfl⟩
  by_cases g2:255<lo
  ·have HF:Hid (zAl ere L s= .no 43 s.i):=by rw[Hid,HE.out];simp[zBT,g2]
   go_wp2_with fail
   refine(zAr 43 s.i rfl rfl _).mono ?_;rintro e w9 ⟨rfl,rfl⟩
   go_wp2_with fail
   exact⟨rfl,HB.out,by rw[HF.out];rfl⟩
  have g5: ¬lo<lo:=by omega
  have g4:0≤lo:=by omega
  have HG:Hid (zBT ere L s lo lo p=if !seesAt L p (zCw ere 125)then .no 43 s.i else .ok (lo,lo) ⟨p+zAY ere,s.ended⟩):=by simp[Hid,zBT,g1,g2]
  cases hd:seesAt L p (zCw ere 125)with
  |false=>
   have HF:Hid (zAl ere L s= .no 43 s.i):=by rw[Hid,HE.out,HG.out,hd];rfl
   go_wp2_with fail
   refine(zBj 125 cA).mono ?_;rintro e w8 ⟨rfl,rfl⟩
   go_wp2_with fail
   refine(zAj _ _ _ (by rw[hz2];omega) (zBk _ _) hd HR.out.v).mono ?_;rintro e w8 ⟨rfl,hb8⟩
   have HB8:=zQr (HB.out.below hb8)
   clear hb8
   go_wp2_with fail
   refine(zAr 43 s.i rfl rfl _).mono ?_;rintro e w9 ⟨rfl,rfl⟩
   go_wp2_with fail
   exact⟨rfl,HB8.out,by rw[HF.out];rfl⟩
  |true=>
   have hq9:=zBn hd
   have HF:Hid (zAl ere L s= .ok (lo,lo) ⟨p+zAY ere,s.ended⟩):=by rw[Hid,HE.out,HG.out,hd];rfl
   go_wp2_with fail
   refine(zBj 125 cA).mono ?_;rintro e w8 ⟨rfl,rfl⟩
   go_wp2_with fail
   refine(zAj _ _ _ (by rw[hz2];omega) (zBk _ _) hd HR.out.v).mono ?_;rintro e w8 ⟨rfl,hb8⟩
   have HB8:=zQr (HB.out.below hb8)
   have hr8:=HR.out.below hb8
   have HR8:=zQr hr8
   have rbl8:=hr8.lt
   have c8:=hr8.c0
   have d8:=hr8.c2
   have f8:=hr8.fz 2
   clear hb8 hr8 cA dA fA
   go_wp2_with fail
   refine zAA (X:=none) 10 [([0,1,2,3,4],5)] [6,7,8,9] (by kernel_rfl) (by kernel_rfl) rfl (fun _ _ _ _ _ h=>h) ?_
   simp only[zAK,zAC,zAE,zAD,zAB,List.getD_cons_zero,List.getD_cons_succ,List.drop_succ_cons,List.drop_zero]
   repeat (go_big_quiet_step (fail))
   refine wpQuiet_nil ?_
   go_wp2_with fail
   refine(zBj 125 (w:=w8.drew) c8).mono ?_;rintro e w10 ⟨rfl,rfl⟩
   go_wp2_with fail
   refine⟨zAJ.refl _,?_⟩
   repeat (go_big_quiet_step (fail))
   refine wpQuiet_nil ?_
   go_wp2_with fail
   have hrZ:=(HR8.out.setAt (j:=p+zAY ere) hq9).drew
   have hbZ:=(HB8.out.store 2 (.int .i64 ((p+zAY ere:Nat):Int))).drew
   rw[Int.natCast_add]at hrZ hbZ
   go_ret2
   refine⟨hbZ,?_⟩
   rw[HF.out]
   exact⟨_,ev,rfl,hrZ,zBK.refl _ _,rfl,rfl⟩
end
end
section
open Go.RowKit
def zEM (w:World) (B:Nat) (x:Nd):Prop:=w.heap[B]?=some (.cells (zAT x) 101 (0,0))
section
variable {w w':World} {B:Nat} {x:Nd}
theorem zEM.lt (h:zEM w B x):B<w.heap.size:=(zQz.1 h).1
theorem zEM.is (h:zEM w B x):zG1 w B:=⟨_,rfl,h⟩
theorem zEM.block (h:zEM w B x) (hb:w'.heap[B]?=w.heap[B]?):zEM w' B x:=hb.trans h
theorem zEM.below (h:zEM w B x) (hb:Below w.heap.size w w'):zEM w' B x:=(hb.block B h.lt).trans h
theorem zEM.store (h:zEM w B x) {b:Nat} (hb:B≠b) (o:Nat) (v:Value):zEM (w.setCell ⟨b,o,none⟩ v) B x:=(zQ1 _ _ _ _ hb).trans h
theorem zLR (h:zG1 w B) (hb:w'.heap[B]?=w.heap[B]?):zG1 w' B:=by
 obtain⟨cs,hs,hc⟩:=h
 exact⟨cs,hs,hb.trans hc⟩
theorem zCJ (h:zG1 w B) {b:Nat} (o:Nat) (v:Value) (hb:B≠b):zG1 (w.setCell ⟨b,o,none⟩ v) B:=by
 obtain⟨cs,hs,hc⟩:=h
 exact⟨cs,hs,(zQ1 _ _ _ _ hb).trans hc⟩
theorem zEM.cells (h:zEM w B x):w.cell? ⟨B,0,none⟩=some (.int .i8 x.op)∧w.cell? ⟨B,1,none⟩=some (.int .u64 x.set.w0.toNat)∧w.cell? ⟨B,2,none⟩=some (.int .u64 x.set.w1.toNat)∧w.cell? ⟨B,3,none⟩=some (.int .u64 x.set.w2.toNat)∧w.cell? ⟨B,4,none⟩=some (.int .u64 x.set.w3.toNat)∧w.cell? ⟨B,5,none⟩=some (.int .i64 x.n)∧w.cell? ⟨B,6,none⟩=some (.int .i64 x.min)∧w.cell? ⟨B,7,none⟩=some (.int .i64 x.max)∧w.cell? ⟨B,8,none⟩=some (.int .i64 x.kids)∧(∀o,w.frozen? ⟨B,o,none⟩=false):=by
 have hc: ∀j,w.cell? ⟨B,j,none⟩=(zAT x)[j]?:=fun j=>zQ6 w B j _ _ (0,0) h
 exact⟨hc 0,hc 1,hc 2,hc 3,hc 4,hc 5,hc 6,hc 7,hc 8,zAF h⟩
theorem zHN {fn:Func} {p:Tmp} (h:fn.results= #[.cell p 101]) {R:Ending→World→Prop} {a:Act} {W:World}
  (ha:a.tmps.getD p undef= .pointer (some ⟨B,0,none⟩)) (hd:a.defers=[]) (hB:zEM W B x) (hR:R (.returned (ndV x)) W):bodyPost Tryz.prog fn R .ret a W:=by
 refine zRQ (v:=ndV x) ?_ hd hR
 rw[zB8 h,ha]
 simp[asAddr,zIe hB,Result.andThen]
theorem zFc (h:zG1 w B) (s0 s1 s2 s3 s4 s5 s6 s7 s8:Int) (hx:zAT x= #[.int .i8 s0,.int .u64 s1,.int .u64 s2,.int .u64 s3,.int .u64 s4,.int .i64 s5,.int .i64 s6,.int .i64 s7,.int .i64 s8]):zEM (zKw w B s0 s1 s2 s3 s4 s5 s6 s7 s8) B x:=by
 unfold zEM
 rw[hx]
 exact zKB h _ _ _ _ _ _ _ _ _
end
section
variable {w w':World} {rb:Nat} {ere:Bool} {mb mo cap:Nat} {L:List Mk} {s:Rst} {k:Nat} {ev:Value}
theorem RdS.belowB {B:Nat} (h:RdS w rb ere mb mo cap L s k ev) (hb:Below B w w') (hr:rb<B) (he: ∀g,ev.ownBlock=some g→g<B):RdS w' rb ere mb mo cap L s k ev:=
 h.block (fun g hg=>hb.block g (he g hg)) (hb.block rb hr) (hb.block mb (Nat.lt_trans h.mlt hr)) hb.size
theorem zA6.belowB {eb:Option Nat} {w0:World} (h:zA6 rb eb w0 w) (hb:Below w0.heap.size w w'):zA6 rb eb w0 w':=
 ⟨hb.os.trans h.os,hb.tape.trans h.tape,hb.output.trans h.output,zRE h.size hb.size,fun k hk h1 h2=>(hb.block k hk).trans (h.block k hk h1 h2)⟩
end
section
variable {w:World} {rb:Nat} {ere:Bool} {mb mo cap:Nat} {L:List Mk} {s:Rst} {k:Nat} {ev:Value}
theorem zGI (hv:RdS w rb ere mb mo cap L s k ev) (hs:zAm ere L s.i=true):
  Calls Tryz.prog 234 #[.pointer (some ⟨rb,0,none⟩)] w (zI3 w rb ere mb mo cap L k ev (zGY ere L s) fun d v _ ev'=>v=ndV d∧ev'=ev):=by
 have hlen:=hv.m.len
 have hW: ∃W B2 B3,W=(zGV w).alloc (.cells #[.int .i8 6,.int .u64 0,.int .u64 0,.int .u64 0,.int .u64 0,.int .i64 0,.int .i64 0,.int .i64 (-1),.int .i64 1] 101)∧B2=w.heap.size∧B3=w.heap.size+1∧RdS W rb ere mb mo cap L s k ev∧zA6 rb ev.ownBlock w W∧zG1 W B2∧zEM W B3 (zGl 0 (-1))∧W.heap.size=B2+2∧Below w.heap.size w W:=by
  refine⟨_,_,_,rfl,rfl,rfl,?_,?_,?_,?_,?_,?_⟩
  ·exact(hv.below (zDK w)).alloc _
  ·exact((zA6.refl _ _ _).below (zDK w)).alloc _
  ·exact(zKM w).below ((zQs _ _).alloc (zQt _) _)
  ·have h:=zQ4 (zGV w) (.cells #[.int .i8 6,.int .u64 0,.int .u64 0,.int .u64 0,.int .u64 0,.int .i64 0,.int .i64 0,.int .i64 (-1),.int .i64 1] 101)
   rw[zC7]at h
   exact h
  ·simp[zC7]
  ·exact(zDK w).alloc (by rw[zC7];omega) _
 obtain⟨W,B2,B3,hW,hB2,hB3,hr,hb,hA,hN,hZ,hBl⟩:=hW
 have hrlt:=hv.lt
 have n2: ¬rb=B2:=by omega
 have n3: ¬rb=B3:=by omega
 have n4: ¬B2=B3:=by omega
 have hel: ∀g,ev.ownBlock=some g→g<B2:=fun g hg=>by have:=(hv.own.lt g hg).2;omega
 go_enter Tryz.func234,Tryz.ntmps234
 go_wp2_with fail
 rw[zG6,←hW,←hB3,←hB2]
 have HB2:=zQr hB2
 have HB3:=zQr hB3
 have HEL:=zQr hel
 clear hW hB2 hB3 hel
 cases h1:seesAt L s.i [42]with
 |true=>
  have HF:Hid (zGY ere L s= .ok (zGl 0 (-1)) ⟨s.i+1,s.ended⟩):=by simp[Hid,zGY,h1]
  have hj:s.i+1≤L.length:=by simpa using zBP (by decide) h1
  refine(zAj _ _ _ (by decide) (by rfl) h1 hr.v).mono ?_;rintro e WX ⟨rfl,hb9⟩
  have hrX:=hr.below hb9
  have hbX:=hb.below hb9
  have hAX:=hA.below hb9
  have hNX:=hN.below hb9
  clear hb9
  have HR:=zQr hrX
  have HB:=zQr hbX
  have HA:=zQr hAX
  have HN:=zQr hNX
  have rbl:=hrX.lt
  have d2:=hrX.c2
  have f2:=hrX.fz 2
  obtain⟨a0,a1,a2,a3,a4,a5,a6,a7,a8,A0,A1,A2,A3,A4,A5,A6,A7,A8,g0⟩:=hAX.cells
  obtain⟨N0,N1,N2,N3,N4,N5,N6,N7,N8,g1⟩:=hNX.cells
  simp only[zGl,Cls.zero]at N0 N1 N2 N3 N4 N5 N6 N7 N8
  have l2:=hAX.lt
  have l3:=hNX.lt
  clear hrX hbX hAX hNX
  go_wp2_with fail
  rw[zDA]
  have hlt:rb<B2:=by rw[HB2.out];exact hrlt
  have h23:B2≤B3:=by rw[HB2.out,HB3.out];omega
  have hwB:w.heap.size≤B3:=by rw[HB3.out];omega
  have hrZ:=(HR.out).setAt (j:=s.i+1) hj
  have hbZ:=(HB.out).store 2 (.int .i64 ((s.i+1:Nat):Int))
  rw[Int.natCast_add,show((1:Nat):Int)=1 from rfl]at hrZ hbZ
  refine zHN Tryz.results234 rfl rfl (x:=zGl 0 (-1)) (zFc (zCJ (HA.out) _ _ (Ne.symm n2)) _ _ _ _ _ _ _ _ _ rfl) ⟨hbZ.belowB (zBV (by rw[HB2.out];exact zQt _) _ _ _ _ _ _ _ _ _),?_⟩
  rw[HF.out]
  exact⟨_,ev,rfl,hrZ.belowB (zBV (zQt _) _ _ _ _ _ _ _ _ _) hlt HEL.out,zBK.refl _ _,rfl,rfl⟩
 |false=>
  refine(zAj _ _ _ (by decide) (by rfl) h1 hr.v).mono ?_;rintro e W1 ⟨rfl,hb9⟩
  have hr1:=hr.below hb9
  have hb1:=hb.below hb9
  have hA1:=hA.below hb9
  have hN1:=hN.below hb9
  clear hb9
  cases h2:seesAt L s.i [43]with
  |true=>
   have HF:Hid (zGY ere L s= .ok (zGl 1 (-1)) ⟨s.i+1,s.ended⟩):=by simp[Hid,zGY,h1,h2]
   have hj:s.i+1≤L.length:=by simpa using zBP (by decide) h2
   go_wp2_with fail
   refine(zAj _ _ _ (by decide) (by rfl) h2 hr1.v).mono ?_;rintro e WX ⟨rfl,hb9⟩
   have hrX:=hr1.below hb9
   have hbX:=hb1.below hb9
   have hAX:=hA1.below hb9
   have hNX:=hN1.below hb9
   clear hb9
   have HR:=zQr hrX
   have HB:=zQr hbX
   have HA:=zQr hAX
   have HN:=zQr hNX
   have rbl:=hrX.lt
   have d2:=hrX.c2
   have f2:=hrX.fz 2
   obtain⟨a0,a1,a2,a3,a4,a5,a6,a7,a8,A0,A1,A2,A3,A4,A5,A6,A7,A8,g0⟩:=hAX.cells
   obtain⟨N0,N1,N2,N3,N4,N5,N6,N7,N8,g1⟩:=hNX.cells
   simp only[zGl,Cls.zero]at N0 N1 N2 N3 N4 N5 N6 N7 N8
   have l2:=hAX.lt
   have l3:=hNX.lt
   clear hrX hbX hAX hNX
   go_wp2_with fail
   rw[zDA]
   have hlt:rb<B2:=by rw[HB2.out];exact hrlt
   have h23:B2≤B3:=by rw[HB2.out,HB3.out];omega
   have hwB:w.heap.size≤B3:=by rw[HB3.out];omega
   have hrY0:=(HR.out).belowB (B:=B2) ((zQs _ _).setCell (p:=⟨B3,6,none⟩) h23 (.int .i64 1)) hlt HEL.out
   have hbY0:=(HB.out).belowB ((zQs _ _).setCell (p:=⟨B3,6,none⟩) hwB (.int .i64 1))
   have hAY0:=zCJ (HA.out) 6 (.int .i64 1) n4
   have hrZ:=(hrY0).setAt (j:=s.i+1) hj
   have hbZ:=(hbY0).store 2 (.int .i64 ((s.i+1:Nat):Int))
   rw[Int.natCast_add,show((1:Nat):Int)=1 from rfl]at hrZ hbZ
   refine zHN Tryz.results234 rfl rfl (x:=zGl 1 (-1)) (zFc (zCJ (hAY0) _ _ (Ne.symm n2)) _ _ _ _ _ _ _ _ _ rfl) ⟨hbZ.belowB (zBV (by rw[HB2.out];exact zQt _) _ _ _ _ _ _ _ _ _),?_⟩
   rw[HF.out]
   exact⟨_,ev,rfl,hrZ.belowB (zBV (zQt _) _ _ _ _ _ _ _ _ _) hlt HEL.out,zBK.refl _ _,rfl,rfl⟩
  |false=>
   go_wp2_with fail
   refine(zAj _ _ _ (by decide) (by rfl) h2 hr1.v).mono ?_;rintro e W2 ⟨rfl,hb9⟩
   have hr2:=hr1.below hb9
   have hb2:=hb1.below hb9
   have hA2:=hA1.below hb9
   have hN2:=hN1.below hb9
   clear hb9
   cases h3:seesAt L s.i [63]with
   |true=>
    have HF:Hid (zGY ere L s= .ok (zGl 0 1) ⟨s.i+1,s.ended⟩):=by simp[Hid,zGY,h1,h2,h3]
    have hj:s.i+1≤L.length:=by simpa using zBP (by decide) h3
    go_wp2_with fail
    refine(zAj _ _ _ (by decide) (by rfl) h3 hr2.v).mono ?_;rintro e WX ⟨rfl,hb9⟩
    have hrX:=hr2.below hb9
    have hbX:=hb2.below hb9
    have hAX:=hA2.below hb9
    have hNX:=hN2.below hb9
    clear hb9
    have HR:=zQr hrX
    have HB:=zQr hbX
    have HA:=zQr hAX
    have HN:=zQr hNX
    have rbl:=hrX.lt
    have d2:=hrX.c2
    have f2:=hrX.fz 2
    obtain⟨a0,a1,a2,a3,a4,a5,a6,a7,a8,A0,A1,A2,A3,A4,A5,A6,A7,A8,g0⟩:=hAX.cells
    obtain⟨N0,N1,N2,N3,N4,N5,N6,N7,N8,g1⟩:=hNX.cells
    simp only[zGl,Cls.zero]at N0 N1 N2 N3 N4 N5 N6 N7 N8
    have l2:=hAX.lt
    have l3:=hNX.lt
    clear hrX hbX hAX hNX
    go_wp2_with fail
    rw[zDA]
    have hlt:rb<B2:=by rw[HB2.out];exact hrlt
    have h23:B2≤B3:=by rw[HB2.out,HB3.out];omega
    have hwB:w.heap.size≤B3:=by rw[HB3.out];omega
    have hrY0:=(HR.out).belowB (B:=B2) ((zQs _ _).setCell (p:=⟨B3,7,none⟩) h23 (.int .i64 1)) hlt HEL.out
    have hbY0:=(HB.out).belowB ((zQs _ _).setCell (p:=⟨B3,7,none⟩) hwB (.int .i64 1))
    have hAY0:=zCJ (HA.out) 7 (.int .i64 1) n4
    have hrZ:=(hrY0).setAt (j:=s.i+1) hj
    have hbZ:=(hbY0).store 2 (.int .i64 ((s.i+1:Nat):Int))
    rw[Int.natCast_add,show((1:Nat):Int)=1 from rfl]at hrZ hbZ
    refine zHN Tryz.results234 rfl rfl (x:=zGl 0 1) (zFc (zCJ (hAY0) _ _ (Ne.symm n2)) _ _ _ _ _ _ _ _ _ rfl) ⟨hbZ.belowB (zBV (by rw[HB2.out];exact zQt _) _ _ _ _ _ _ _ _ _),?_⟩
    rw[HF.out]
    exact⟨_,ev,rfl,hrZ.belowB (zBV (zQt _) _ _ _ _ _ _ _ _ _) hlt HEL.out,zBK.refl _ _,rfl,rfl⟩
   |false=>
    go_wp2_with fail
    refine(zAj _ _ _ (by decide) (by rfl) h3 hr2.v).mono ?_;rintro e W3 ⟨rfl,hb9⟩
    have hr3:=hr2.below hb9
    have hb3:=hb2.below hb9
    have hA3:=hA2.below hb9
    have hN3:=hN2.below hb9
    clear hb9
    have hs2:s.i+zAY ere≤L.length:=by
     refine zBn (c:=123) ?_
     have h:=hs
     simp only[zAm,h1,h2,h3]at h
     simpa using h
    go_wp2_with fail
    refine(zIk hr3 hs2).mono ?_
    rintro e W4 ⟨hb4,hp⟩
    cases hi:zAl ere L s with
    |no er pl=>
     have HF:Hid (zGY ere L s= .no er pl):=by simp[Hid,zGY,h1,h2,h3,hi]
     rw[hi]at hp
     simp only[zFP]at hp
     subst hp
     have hb5:=hb3.trans (.inl rfl) hb4
     go_wp2_with fail
     exact⟨rfl,hb5,by rw[HF.out];rfl⟩
    |ok a t=>
     obtain⟨lo,hh⟩:=a
     have HF:Hid (zGY ere L s= .ok (zGl lo hh) t):=by simp[Hid,zGY,h1,h2,h3,hi]
     rw[hi]at hp
     simp only at hp
     obtain⟨v,ev',rfl,hrX,hn4,rfl,rfl⟩:=hp
     have hbX:=hb3.trans (.inl rfl) hb4
     have hAX:zG1 W4 B2:=zLR hA3 (hb4.block _ hA3.lt (Ne.symm n2) (by intro e;have:=HEL.out _ e.symm;omega))
     have hNX:zEM W4 B3 (zGl 0 (-1)):=hN3.block (hb4.block _ hN3.lt (Ne.symm n3) (by intro e;have:=HEL.out _ e.symm;have:=HB2.out;have:=HB3.out;omega))
     have HR:=zQr hrX
     have HB:=zQr hbX
     have HA:=zQr hAX
     have HN:=zQr hNX
     have rbl:=hrX.lt
     have d2:=hrX.c2
     have f2:=hrX.fz 2
     obtain⟨a0,a1,a2,a3,a4,a5,a6,a7,a8,A0,A1,A2,A3,A4,A5,A6,A7,A8,g0⟩:=hAX.cells
     obtain⟨N0,N1,N2,N3,N4,N5,N6,N7,N8,g1⟩:=hNX.cells
     simp only[zGl,Cls.zero]at N0 N1 N2 N3 N4 N5 N6 N7 N8
     have l2:=hAX.lt
     have l3:=hNX.lt
     clear hrX hbX hAX hNX
     go_wp2_with fail
     rw[zDA]
     have hlt:rb<B2:=by rw[HB2.out];exact hrlt
     have h23:B2≤B3:=by rw[HB2.out,HB3.out];omega
     have hwB:w.heap.size≤B3:=by rw[HB3.out];omega
     have hrY0:=(HR.out).belowB (B:=B2) ((zQs _ _).setCell (p:=⟨B3,6,none⟩) h23 (.int .i64 lo)) hlt HEL.out
     have hbY0:=(HB.out).belowB ((zQs _ _).setCell (p:=⟨B3,6,none⟩) hwB (.int .i64 lo))
     have hAY0:=zCJ (HA.out) 6 (.int .i64 lo) n4
     have hrY1:=(hrY0).belowB (B:=B2) ((zQs _ _).setCell (p:=⟨B3,7,none⟩) h23 (.int .i64 hh)) hlt HEL.out
     have hbY1:=(hbY0).belowB ((zQs _ _).setCell (p:=⟨B3,7,none⟩) hwB (.int .i64 hh))
     have hAY1:=zCJ (hAY0) 7 (.int .i64 hh) n4
     refine zHN Tryz.results234 rfl rfl (x:=zGl lo hh) (zFc (hAY1) _ _ _ _ _ _ _ _ _ rfl) ⟨(hbY1).belowB (zBV (by rw[HB2.out];exact zQt _) _ _ _ _ _ _ _ _ _),?_⟩
     rw[HF.out]
     exact⟨_,_,rfl,(hrY1).belowB (zBV (zQt _) _ _ _ _ _ _ _ _ _) hlt HEL.out,zBK.refl _ _,rfl,rfl⟩
end
end
section
open Go.RowKit
def zFW (w0:World) (a:List Nd × Bool) (v:Value) (w':World) (ev':Value):Prop:= ∃v1,v= .tuple #[v1,.bool a.2]∧zA3 w0 a.1 v1 w' ev'
theorem zFL (x:Nd):(zAT x).size=9:=rfl
theorem zA3.lit {w0 w:World} {ev:Value} (x:Nd) (hs:w0.heap.size≤w.heap.size) (he: ∀g,ev.ownBlock=some g→g<w.heap.size):
  zA3 w0 [x] (.slice (some ⟨w.heap.size,0,none⟩) 1 1) (w.alloc (.cells (zAT x) 101)) ev:=by
 refine⟨?_,?_⟩
 ·have h:=World.ownsRow_lit (base:=w0.heap.size) (e:=101) (size:=9) w (zAT x) 1 hs (by decide) (by rw[zFL])
  simpa using h
 ·intro g hg he'
  simp only[Value.ownBlock,Option.some.injEq]at hg
  have:=he g he'.symm
  omega
theorem zA3.drew {w0 w:World} {re:List Nd} {v ev:Value} (h:zA3 w0 re v w ev):zA3 w0 re v w.drew ev:=⟨h.1.drew,h.2⟩
theorem zAR {w:World} {base base':Nat} {e:TypeId} {size:Nat} {v:Value} {n:Nat} {xs:List Value} (h:w.ownsRow base e size v n xs) (hb:base'≤base):w.ownsRow base' e size v n xs:=by
 refine⟨h.1,?_⟩
 rcases h.2 with h2|⟨g,cap,cur,hv,hg,r⟩
 ·exact .inl h2
 ·exact .inr ⟨g,cap,cur,hv,zRE hb hg,r⟩
theorem zA3.mono {w0 w1 w:World} {re:List Nd} {v ev:Value} (h:zA3 w1 re v w ev) (hs:w0.heap.size≤w1.heap.size):zA3 w0 re v w ev:=⟨zAR h.1 hs,h.2⟩
section
variable {w:World} {rb:Nat} {ere:Bool} {mb mo cap:Nat} {L:List Mk} {s:Rst} {k:Nat} {ev:Value}
theorem RdS.evlt (h:RdS w rb ere mb mo cap L s k ev): ∀g,ev.ownBlock=some g→g<w.heap.size:=fun g hg=>(h.own.lt g hg).2
theorem zBE {w0:World} {o:Out (List Nd × Bool)} {x:Nd} {b:Bool} {t:Rst} (ho:o= .ok ([x],b) t) (hr:RdS w rb ere mb mo cap L t k ev) (hb:zA6 rb ev.ownBlock w0 w) {n:Nat} (hn:w.heap.size=n):
  zI3 w0 rb ere mb mo cap L k ev o (zFW w0) (.returned (.tuple #[.slice (some ⟨n,0,none⟩) 1 1,.bool b])) (w.alloc (.cells (zAT x) 101)):=by
 subst ho hn
 exact⟨hb.alloc _,_,ev,rfl,hr.alloc _,zBK.refl _ _,_,rfl,zA3.lit x hb.size hr.evlt⟩
theorem zIx (hv:RdS w rb ere mb mo cap L s k ev) (hs:s.i<L.length) (fb:Bool):
  Calls Tryz.prog 206 #[.pointer (some ⟨rb,0,none⟩),.bool fb] w (zI3 w rb ere mb mo cap L k ev (zPP s) (zFW w)):=by
 have hlen:=hv.m.len
 have hrz:=zID 0 255 (by decide) (by decide)
 have HF:Hid (zPP s= .ok ([zOt (Cls.range 0 255)],true) ⟨s.i+1,s.ended⟩):=rfl
 generalize Cls.range 0 255=c at hrz HF
 obtain⟨x0,x1,x2,x3⟩:=c
 have rbl:=hv.lt
 have d2:=hv.c2
 have f2:=hv.fz 2
 go_enter Tryz.func206,Tryz.ntmps206
 go_wp2_with fail
 have hr1:=hv.setAt (j:=s.i+1) hs
 have hb1:=(zA6.refl rb ev.ownBlock w).store 2 (.int .i64 ((s.i+1:Nat):Int))
 rw[Int.natCast_add,show((1:Nat):Int)=1 from rfl]at hr1 hb1
 refine(hrz _).mono ?_;rintro e w1 ⟨rfl,hb2⟩
 have HR:=zQr (hr1.below hb2)
 have HB:=zQr (hb1.below hb2)
 clear hr1 hb1 hb2 hrz
 go_wp2_with fail
 go_ret2
 exact zBE HF.out HR.out HB.out (by simp)
theorem zM5 (hv:RdS w rb ere mb mo cap L s k ev) (hs:s.i<L.length) (fb:Bool):
  Calls Tryz.prog 209 #[.pointer (some ⟨rb,0,none⟩),.bool fb] w (zI3 w rb ere mb mo cap L k ev (zDk ere fb s) (zFW w)):=by
 have hlen:=hv.m.len
 have rbl:=hv.lt
 have c0:=hv.c0
 have d2:=hv.c2
 have f2:=hv.fz 2
 have hr1:=hv.setAt (j:=s.i+1) hs
 have hb1:=(zA6.refl rb ev.ownBlock w).store 2 (.int .i64 ((s.i+1:Nat):Int))
 rw[Int.natCast_add,show((1:Nat):Int)=1 from rfl]at hr1 hb1
 have HR:=zQr hr1
 have HB:=zQr hb1
 clear hr1 hb1
 have one:ere=false→fb=false→Calls Tryz.prog 209 #[.pointer (some ⟨rb,0,none⟩),.bool fb] w (zI3 w rb ere mb mo cap L k ev (zDk ere fb s) (zFW w)):=by
  rintro rfl rfl
  have HF:Hid (zDk false false s= .ok ([zEo 94],true) ⟨s.i+1,s.ended⟩):=rfl
  go_enter Tryz.func209,Tryz.ntmps209
  go_wp2_with fail
  refine(zEG 94 (by decide) _).mono ?_;rintro e w1 ⟨rfl,hb2⟩
  have HR1:=zQr (HR.out.below hb2)
  have HB1:=zQr (HB.out.below hb2)
  clear hb2
  generalize zEo 94=x at HF ⊢
  obtain⟨op,⟨x0,x1,x2,x3⟩,xn,xmin,xmax,xk⟩:=x
  go_wp2_with fail
  go_ret2
  exact zBE HF.out HR1.out HB1.out rfl
 have other:(ere=true∨fb=true)→Calls Tryz.prog 209 #[.pointer (some ⟨rb,0,none⟩),.bool fb] w (zI3 w rb ere mb mo cap L k ev (zDk ere fb s) (zFW w)):=by
  intro h
  have HF:Hid (zDk ere fb s= .ok ([zOm],false) ⟨s.i+1,s.ended⟩):=by rcases h with rfl|rfl<;>simp[Hid,zDk]
  cases ere with
  |true=>
   go_enter Tryz.func209,Tryz.ntmps209
   go_wp2_with fail
   go_ret2
   exact zBE HF.out HR.out HB.out (by simp[World.setCell])
  |false=>
   have hf:fb=true:=by simpa using h
   subst hf
   go_enter Tryz.func209,Tryz.ntmps209
   go_wp2_with fail
   go_ret2
   exact zBE HF.out HR.out HB.out (by simp[World.setCell])
 cases ere with
 |true=>exact other (.inl rfl)
 |false=>
  cases fb with
  |true=>exact other (.inr rfl)
  |false=>exact one rfl rfl
theorem zPJ (hv:RdS w rb ere mb mo cap L s k ev) (hs:s.i<L.length) (fb:Bool):
  Calls Tryz.prog 210 #[.pointer (some ⟨rb,0,none⟩),.bool fb] w (zI3 w rb ere mb mo cap L k ev (zLa ere L s) (zFW w)):=by
 have hlen:=hv.m.len
 have rbl:=hv.lt
 have d2:=hv.c2
 have f2:=hv.fz 2
 have hr1:=hv.setAt (j:=s.i+1) hs
 have hb1:=(zA6.refl rb ev.ownBlock w).store 2 (.int .i64 ((s.i+1:Nat):Int))
 rw[Int.natCast_add,show((1:Nat):Int)=1 from rfl]at hr1 hb1
 have HR:=zQr hr1
 have HB:=zQr hb1
 have R0:=hr1.c0
 have R1:=hr1.c1
 have R2:=hr1.c2
 have RL:=hr1.lt
 rw[Int.natCast_add,show((1:Nat):Int)=1 from rfl]at R2
 clear hr1 hb1
 go_enter Tryz.func210,Tryz.ntmps210
 go_upto_region 2 with fail
 clear d2 f2 rbl
 revert HR HB R0 R1 R2 RL
 generalize w.setCell ⟨rb,2,none⟩ (.int .i64 ((s.i:Int)+1))=W
 intro HR HB R0 R1 R2 RL
 cases ere with
 |true=>
  have HF:Hid (zLa true L s= .ok ([zP6],false) ⟨s.i+1,s.ended⟩):=rfl
  refine zAA (X:=none) 22 [([0,1,2,3,4,5,6,7,8,9,10,11,12,13,14,15,16,17,18],19)] [20,21] (by kernel_rfl) (by kernel_rfl) rfl (fun _ _ _ _ _ h=>h) ?_
  simp only[zAK,zAC,zAE,zAD,zAB,List.getD_cons_zero,List.getD_cons_succ,List.drop_succ_cons,List.drop_nil]
  repeat (go_big_quiet_step (fail))
  refine wpQuiet_nil ?_
  go_wp2_with fail
  refine⟨zAJ.refl _,?_⟩
  repeat (go_big_quiet_step (fail))
  refine wpQuiet_nil ?_
  go_wp2_with fail
  go_ret2
  exact zBE HF.out HR.out.drew HB.out.drew rfl
 |false=>
  by_cases hlt:s.i+1<L.length
  ·have hlt':((s.i:Int)+1<(L.length:Int)):=by omega
   cases hc:seesAt L (s.i+1) [92,41]with
   |true=>
    have HF:Hid (zLa false L s= .ok ([zP6],false) ⟨s.i+1,s.ended⟩):=by simp[Hid,zLa,hc]
    refine zAA (X:=none) 22 [([0,1,2,3,4,5,6,7,8,9,10,11,12,13,14,15,16,17,18],19)] [20,21] (by kernel_rfl) (by kernel_rfl) rfl (fun _ _ _ _ _ h=>h) ?_
    simp only[zAK,zAC,zAE,zAD,zAB,List.getD_cons_zero,List.getD_cons_succ,List.drop_succ_cons,List.drop_nil]
    repeat (go_big_quiet_step (fail))
    refine wpQuiet_nil ?_
    go_wp2_with fail
    refine(zAj _ _ _ (by decide) (by rfl) hc HR.out.drew.v).mono ?_;rintro e w1 ⟨rfl,hb2⟩
    have HR1:=zQr (HR.out.drew.below hb2)
    have HB1:=zQr (HB.out.drew.below hb2)
    have hk:=zAJ.of_below (X:=none) hb2
    go_wp2_with fail
    refine⟨hk,?_⟩
    repeat (go_big_quiet_step (fail))
    refine wpQuiet_nil ?_
    clear hk hb2
    go_wp2_with fail
    go_ret2
    exact zBE HF.out HR1.out HB1.out rfl
   |false=>
    have HF:Hid (zLa false L s= .ok ([zEo 36],true) ⟨s.i+1,s.ended⟩):=by simp[Hid,zLa,hc,hlt]
    refine zAA (X:=none) 22 [([0,1,2,3,4,5,6,7,8,9,10,11,12,13,14,15,16,17,18],19)] [20,21] (by kernel_rfl) (by kernel_rfl) rfl (fun _ _ _ _ _ h=>h) ?_
    simp only[zAK,zAC,zAE,zAD,zAB,List.getD_cons_zero,List.getD_cons_succ,List.drop_succ_cons,List.drop_nil]
    repeat (go_big_quiet_step (fail))
    refine wpQuiet_nil ?_
    go_wp2_with fail
    refine(zAj _ _ _ (by decide) (by rfl) hc HR.out.drew.v).mono ?_;rintro e w1 ⟨rfl,hb2⟩
    have HR1:=HR.out.drew.below hb2
    have HB1:=HB.out.drew.below hb2
    have hk:=zAJ.of_below (X:=none) hb2
    go_wp2_with fail
    refine⟨hk,?_⟩
    repeat (go_big_quiet_step (fail))
    refine wpQuiet_nil ?_
    clear hk hb2
    go_wp2_with fail
    refine(zEG 36 (by decide) _).mono ?_;rintro e w2 ⟨rfl,hb2⟩
    have HR2:=zQr (HR1.below hb2)
    have HB2:=zQr (HB1.below hb2)
    clear hb2 HR1 HB1
    generalize zEo 36=x at HF ⊢
    obtain⟨op,⟨x0,x1,x2,x3⟩,xn,xmin,xmax,xk⟩:=x
    go_wp2_with fail
    go_ret2
    exact zBE HF.out HR2.out HB2.out rfl
  ·have hlt': ¬((s.i:Int)+1<(L.length:Int)):=by omega
   have HF:Hid (zLa false L s= .ok ([zP6],false) ⟨s.i+1,s.ended⟩):=by simp[Hid,zLa,hlt]
   refine zAA (X:=none) 22 [([0,1,2,3,4,5,6,7,8,9,10,11,12,13,14,15,16,17,18],19)] [20,21] (by kernel_rfl) (by kernel_rfl) rfl (fun _ _ _ _ _ h=>h) ?_
   simp only[zAK,zAC,zAE,zAD,zAB,List.getD_cons_zero,List.getD_cons_succ,List.drop_succ_cons,List.drop_nil]
   repeat (go_big_quiet_step (fail))
   refine wpQuiet_nil ?_
   go_wp2_with fail
   refine⟨zAJ.refl _,?_⟩
   repeat (go_big_quiet_step (fail))
   refine wpQuiet_nil ?_
   go_wp2_with fail
   go_ret2
   exact zBE HF.out HR.out.drew HB.out.drew rfl
end
end
section
open Go.RowKit
def zEp (re:List Nd):List Value:=re.flatMap fun x=>(zAT x).toList
theorem zBp: ∀re:List Nd,(zEp re).length=re.length*9
 |[]=>rfl
 |x::l=>by
  have h:=zBp l
  simp only[zEp,List.flatMap_cons,List.length_append,List.length_cons]at h ⊢
  rw[h]
  simp only[zAT,List.length_cons,List.length_nil]
  omega
theorem zJe (a b:List Nd):zEp (a++b)=zEp a++zEp b:=by simp[zEp]
theorem zIO (x:Nd) (b:List Nd):zEp (x::b)=(zAT x).toList++zEp b:=rfl
theorem zNq (re:List Nd): ∀u∈zEp re,u.oneCell'=true:=by
 intro u hu
 simp only[zEp,List.mem_flatMap]at hu
 obtain⟨x,_,hu⟩:=hu
 simp only[zAT,List.mem_cons,List.not_mem_nil,or_false]at hu
 rcases hu with rfl|rfl|rfl|rfl|rfl|rfl|rfl|rfl|rfl<;>rfl
theorem zQY:ElT Tryz.prog 29 101 9 72 (.agg #[.int .i8 0,.int .u64 0,.int .u64 0,.int .u64 0,.int .u64 0,.int .i64 0,.int .i64 0,.int .i64 0,.int .i64 0]):=⟨Tryz.underlying29,by kernel_rfl,rfl,by decide⟩
theorem zQH:ElT Tryz.prog 142 4 1 1 (.bool false):=⟨Tryz.underlying142,by kernel_rfl,rfl,by decide⟩
def Nds (w:World) (base:Nat) (v:Value) (re:List Nd):Prop:=w.ownsRow base 101 9 v re.length (zEp re)
theorem Nds.nil (w:World) (base:Nat):Nds w base (.slice none 0 0) []:=zQ7 _ _ _ _
theorem Nds.lit (w:World) (base:Nat) (x:Nd) (hb:base≤w.heap.size):Nds (w.alloc (.cells (zAT x) 101)) base (.slice (some ⟨w.heap.size,0,none⟩) 1 1) [x]:=by
 have h:=World.ownsRow_lit (base:=base) (e:=101) (size:=9) w (zAT x) 1 hb (by decide) (by rw[zFL])
 simpa [Nds,zEp]using h
theorem Nds.src {w:World} {base:Nat} {v:Value} {re:List Nd} (h:Nds w base v re):Src w v re.length (zEp re):=Src.own h
theorem Nds.lt {w:World} {base:Nat} {v:Value} {re:List Nd} (h:Nds w base v re): ∀g,v.ownBlock=some g→base≤g∧g<w.heap.size:=World.ownsRow.lt h
theorem Nds.block {w w':World} {base:Nat} {v:Value} {re:List Nd} (h:Nds w base v re) (hb: ∀g,v.ownBlock=some g→w'.heap[g]?=w.heap[g]?):Nds w' base v re:=zAV h hb
theorem Nds.below {w w':World} {base:Nat} {v:Value} {re:List Nd} (h:Nds w base v re) (hb:Below w.heap.size w w'):Nds w' base v re:=h.block fun g hg=>hb.block g (h.lt g hg).2
theorem Nds.drew {w:World} {base:Nat} {v:Value} {re:List Nd} (h:Nds w base v re):Nds w.drew base v re:=World.ownsRow.drew h
theorem Nds.but {w w':World} {rb base:Nat} {eb:Option Nat} {v:Value} {re:List Nd} (h:Nds w base v re) (hb:zA6 rb eb w w') (hr:rb<base) (hne: ∀g,v.ownBlock=some g→some g≠eb):Nds w' base v re:=zJZ h hb hr hne
theorem Nds.mono {w:World} {base base':Nat} {v:Value} {re:List Nd} (h:Nds w base v re) (hb:base'≤base):Nds w base' v re:=zAR h hb
theorem Nds.head {w:World} {base:Nat} {v:Value} {re:List Nd} (h:Nds w base v re) (hn:0<re.length): ∃g cp,v= .slice (some ⟨g,0,none⟩) re.length cp∧g<w.heap.size∧w.cell? ⟨g,0,none⟩=some (.int .i8 (re.getD 0 Nd.zero).op):=by
 rcases h.2 with ⟨_,h0⟩|⟨g,cp,cur,rfl,hg1,hg2,_⟩
 ·omega
 ·refine⟨g,cp,rfl,(zQz.1 hg2).1,?_⟩
  have hc:=zRG h 0 (by omega)
  rw[hc]
  obtain⟨x,l,rfl⟩: ∃x l,re=x::l:=by
   cases re with
   |nil=>simp at hn
   |cons x l=>exact⟨x,l,rfl⟩
  rfl
theorem zA3.nds {w0 w:World} {re:List Nd} {v ev:Value} (h:zA3 w0 re v w ev):Nds w w0.heap.size v re:=h.1
theorem zA3.store {w0 w:World} {re:List Nd} {v ev:Value} (h:zA3 w0 re v w ev) {b:Nat} (hb: ∀g,v.ownBlock=some g→g≠b) (o:Nat) (u:Value):zA3 w0 re v (w.setCell ⟨b,o,none⟩ u) ev:=
 ⟨zAV h.1 fun g hg=>zQ1 _ _ _ _ (hb g hg),h.2⟩
theorem zA3.lt {w0 w:World} {re:List Nd} {v ev:Value} (h:zA3 w0 re v w ev): ∀g,v.ownBlock=some g→w0.heap.size≤g∧g<w.heap.size:=World.ownsRow.lt h.1
theorem zCG {w:World} {ops:Array Oper} {rest:List Oper} {o:Oper} {a:Act} {Q:Exit→Act→World→Prop}
  (hgd:o.guard=none) (s x:Operand) (ho:o.op= .call { callee:= .builtin .append,args:= #[s,x],argTypes:= #[29,29] })
  (base:Nat) {v sv:Value} {xs ys:List Nd} (hs:a.eval s=v) (hown:Nds w base v xs) (hx:a.eval x=sv) (hsrc:Src w sv ys.length (zEp ys))
  (hb:xs.length+ys.length≤100000) (hbase:base≤w.heap.size)
  (h: ∀v' w',Nds w' base v' (xs++ys)→w.grownBy w' v.ownBlock→(v'.ownBlock=v.ownBlock∨v'.ownBlock=some w.heap.size)→wpList Tryz.prog ops Q rest (a.put o.dst v') w'):
  wpList Tryz.prog ops Q (o::rest) a w:=by
 refine zAe zQY hgd s x ho base hs hown hx hsrc (zBp ys) (zNq ys) (by unfold maxLen;omega) (by omega) hbase ?_
 intro v' w' h1 h2 h3
 refine h v' w' ?_ h2 h3
 rw[Nds,zRB,zJe]
 exact h1
section
variable {w w':World} {rb:Nat} {ere:Bool} {mb mo cap:Nat} {L:List Mk} {s:Rst} {k:Nat} {ev:Value}
theorem RdS.not_rb (h:RdS w rb ere mb mo cap L s k ev) {b:Nat} (hb:b≤rb):some b≠ev.ownBlock:=fun e=>by have:=(h.own.lt b e.symm).1;omega
theorem RdS.pushEnded (h:RdS w rb ere mb mo cap L s k ev) (hg:w.grownBy w' ev.ownBlock) {ev':Value} {en:List Bool} (ho:w'.ownsRow (rb+1) 4 1 ev' en.length (en.map .bool)) (hl:en.length≤255):
  RdS (w'.setCell ⟨rb,3,none⟩ ev') rb ere mb mo cap L ⟨s.i,en⟩ k ev':=by
 have hr:w'.heap[rb]?=w.heap[rb]?:=hg.block rb h.lt (h.not_rb (zQt _))
 have hm:w'.heap[mb]?=w.heap[mb]?:=hg.block mb h.m.lt (h.not_rb (Nat.le_of_lt h.mlt))
 have hs:=hg.size
 exact {
  lt:=by simpa [World.setCell]using zQu h.lt hs
  c0:=(zAG _ _ _ _ _ (by decide)).trans ((zQv (w:=w) (a:=⟨rb,0,none⟩) hr).trans h.c0)
  c1:=(zAG _ _ _ _ _ (by decide)).trans ((zQv (w:=w) (a:=⟨rb,1,none⟩) hr).trans h.c1)
  c2:=(zAG _ _ _ _ _ (by decide)).trans ((zQv (w:=w) (a:=⟨rb,2,none⟩) hr).trans h.c2)
  c3:=zRA _ _ _ ((zQv (w:=w) (a:=⟨rb,3,none⟩) hr).trans h.c3)
  c4:=(zAG _ _ _ _ _ (by decide)).trans ((zQv (w:=w) (a:=⟨rb,4,none⟩) hr).trans h.c4)
  tb:=fun b hb=>(zAG _ _ _ _ _ (by omega)).trans ((zQv (w:=w) (a:=⟨rb,5+b,none⟩) hr).trans (h.tb b hb))
  fz:=fun o=>zAM _ _ _ _ ((zQw (w:=w) (a:=⟨rb,o,none⟩) hr).trans (h.fz o))
  own:=ownsRow_setCell_below ho (Nat.lt_succ_self _) _
  m:=zI4.store ⟨zQu h.m.lt hs,h.m.len,fun i hi=>(zQv (w:=w) (a:=⟨mb,mo+i*2,none⟩) hm).trans (h.m.b i hi),fun i hi=>(zQv (w:=w) (a:=⟨mb,mo+i*2+1,none⟩) hm).trans (h.m.p i hi),h.m.u⟩ h.mlt _ _
  mlt:=h.mlt
  at_:=h.at_
  el:=hl
  kl:=h.kl }
theorem zBK.grown {w:World} {eb eb':Option Nat} (h:eb'=eb∨eb'=some w.heap.size):zBK w eb eb':=by
 rcases h with h|h
 ·exact .inl h
 ·exact .inr fun g hg=>by rw[h]at hg;cases hg;exact zQt _
theorem zA6.grown {eb:Option Nat} {w0:World} (h:zA6 rb eb w0 w) {eb':Option Nat} (hn:zBK w0 eb eb') (hg:w.grownBy w' eb'):zA6 rb eb w0 w':=
 h.trans hn ⟨hg.os,hg.tape,hg.output,hg.size,fun i hi _ h2=>hg.block i hi h2⟩
theorem RdS.beside (h:RdS w rb ere mb mo cap L s k ev) {row:Option Nat} (hg:w.grownBy w' row) (hr: ∀g,row=some g→rb<g) (he: ∀g,ev.ownBlock=some g→some g≠row):RdS w' rb ere mb mo cap L s k ev:=
 h.block (fun g hge=>hg.block g (h.evlt g hge) (he g hge)) (hg.block rb h.lt (fun e=>by have:=hr rb e.symm;omega)) (hg.block mb h.m.lt (fun e=>by have:=hr mb e.symm;have:=h.mlt;omega)) hg.size
theorem zA6.beside {eb:Option Nat} {w0:World} (h:zA6 rb eb w0 w) {row:Option Nat} (hg:w.grownBy w' row) (hr: ∀g,row=some g→w0.heap.size≤g):zA6 rb eb w0 w':=
 ⟨hg.os.trans h.os,hg.tape.trans h.tape,hg.output.trans h.output,zRE h.size hg.size,fun i hi h1 h2=>(hg.block i (zQu hi h.size) (fun e=>by have:=hr i e.symm;omega)).trans (h.block i hi h1 h2)⟩
theorem RdS.note (h:RdS w rb ere mb mo cap L s k ev) {g cp:Nat} (hev:ev= .slice (some ⟨g,0,none⟩) s.ended.length cp) (j:Nat):RdS (w.setCell ⟨g,j,none⟩ (.bool true)) rb ere mb mo cap L ⟨s.i,s.ended.set j true⟩ k ev:=by
 subst hev
 have ho:=h.own
 have hg:=(ho.lt g rfl).1
 obtain⟨h1,h2⟩:=zRF ho j (.bool true)
 have hr:(w.setCell ⟨g,j,none⟩ (.bool true)).heap[rb]?=w.heap[rb]?:=zQ1 _ _ _ _ (by simp;omega)
 have hm:(w.setCell ⟨g,j,none⟩ (.bool true)).heap[mb]?=w.heap[mb]?:=zQ1 _ _ _ _ (by have:=h.mlt;simp;omega)
 exact {
  lt:=by simpa [World.setCell]using h.lt
  c0:=(zQv (w:=w) (a:=⟨rb,0,none⟩) hr).trans h.c0
  c1:=(zQv (w:=w) (a:=⟨rb,1,none⟩) hr).trans h.c1
  c2:=(zQv (w:=w) (a:=⟨rb,2,none⟩) hr).trans h.c2
  c3:=(zQv (w:=w) (a:=⟨rb,3,none⟩) hr).trans h.c3
  c4:=(zQv (w:=w) (a:=⟨rb,4,none⟩) hr).trans h.c4
  tb:=fun b hb=>(zQv (w:=w) (a:=⟨rb,5+b,none⟩) hr).trans (h.tb b hb)
  fz:=fun o=>(zQw (w:=w) (a:=⟨rb,o,none⟩) hr).trans (h.fz o)
  own:=by simpa [List.map_set]using h1
  m:=⟨by simpa [World.setCell]using h.m.lt,h.m.len,fun i hi=>(zQv (w:=w) (a:=⟨mb,mo+i*2,none⟩) hm).trans (h.m.b i hi),fun i hi=>(zQv (w:=w) (a:=⟨mb,mo+i*2+1,none⟩) hm).trans (h.m.p i hi),h.m.u⟩
  mlt:=h.mlt
  at_:=h.at_
  el:=by simpa using h.el
  kl:=h.kl }
theorem zA6.note {eb eb':Option Nat} {w0:World} (h:zA6 rb eb w0 w) (hn:zBK w0 eb eb') {g:Nat} (hg:eb'=some g) (j:Nat) (v:Value):zA6 rb eb w0 (w.setCell ⟨g,j,Option.none⟩ v):=
 h.trans hn ⟨rfl,rfl,rfl,by simp[World.setCell],fun i _ _ h2=>zQ1 _ _ _ _ (fun e=>h2 (by rw[hg,e]))⟩
theorem RdS.form (h:RdS w rb ere mb mo cap L s k ev): ∃oa oc,ev= .slice oa s.ended.length oc:=by
 rcases h.own.2 with ⟨h1,h2⟩|⟨g,cp,_,h1,_⟩
 ·exact⟨none,0,by rw[h1,h2]⟩
 ·exact⟨_,_,h1⟩
theorem RdS.row (h:RdS w rb ere mb mo cap L s k ev) (hn:0<s.ended.length): ∃g cp,ev= .slice (some ⟨g,0,none⟩) s.ended.length cp∧rb<g∧g<w.heap.size:=by
 rcases h.own.2 with ⟨_,h2⟩|⟨g,cp,_,h1,h3,h4,_⟩
 ·omega
 ·exact⟨g,cp,h1,h3,(zQz.1 h4).1⟩
end
end
section
open Go.RowKit
def zHF (rb:Nat) (ere:Bool) (mb mo cap:Nat) (L:List Mk) (k:Nat):Prop:= ∀(w:World) (s:Rst) (ev:Value) (fb:Bool),RdS w rb ere mb mo cap L s k ev→s.i+zAY ere≤L.length→
 Calls Tryz.prog 211 #[.pointer (some ⟨rb,0,none⟩),.bool fb] w (zI3 w rb ere mb mo cap L k ev (zBF (zAa ere L k s)) (zFW w))
def zKd (rb:Nat) (ere:Bool) (mb mo cap:Nat) (L:List Mk) (k:Nat):Prop:= ∀(w:World) (s:Rst) (ev:Value),RdS w rb ere mb mo cap L s k ev→
 Calls Tryz.prog 181 #[.pointer (some ⟨rb,0,none⟩)] w (zI3 w rb ere mb mo cap L k ev (zBt ere L k s) (zA3 w))
def zQM (rb:Nat) (ere:Bool) (mb mo cap:Nat) (L:List Mk) (k:Nat):Prop:= ∀(w:World) (s:Rst) (ev:Value),RdS w rb ere mb mo cap L s k ev→
 Calls Tryz.prog 212 #[.pointer (some ⟨rb,0,none⟩)] w (zI3 w rb ere mb mo cap L k ev (zGS ere (k==64) L (zAa ere L k) s) fun a v w' ev'=> ∃v1,v= .tuple #[.int .i64 (a.1:Nat),v1]∧zA3 w a.2 v1 w' ev')
section
variable {rb:Nat} {ere:Bool} {mb mo cap:Nat} {L:List Mk}
theorem zFC:zHF rb ere mb mo cap L 0:=by
 intro w s ev fb hv hs
 have c2:=hv.c2
 have c4:=hv.c4
 have rbl:=hv.lt
 simp only[Nat.sub_zero,show((64:Nat):Int)=64 from rfl]at c4
 clear hv
 go_enter Tryz.func211,Tryz.ntmps211
 go_wp2_with fail
 refine(zAr 46 s.i rfl rfl _).mono ?_;rintro e w9 ⟨rfl,rfl⟩
 go_wp2_with fail
 exact⟨rfl,zA6.refl _ _ _,rfl⟩
theorem zLU {k:Nat} (hk:k<64) (ih:zKd rb ere mb mo cap L k):zHF rb ere mb mo cap L (k+1):=by
 intro w s ev fb hv hs
 have hlen:=hv.m.len
 have hw:=zEN ere
 have hw0:=zCj ere
 have hz:=zDG ere 40
 have hz2:=zDG ere 41
 have hu:=hv.m.u
 have HG:=zQr (zJp ere L k hk s)
 have c2:=hv.c2
 have c3:=hv.c3
 have c4:=hv.c4
 have f3:=hv.fz 3
 have rbl:=hv.lt
 have hel:=hv.el
 obtain⟨o,ho⟩: ∃o:Nat,64 - (k+1)=o:=⟨_,rfl⟩
 rw[ho]at c4
 have HO:=zQr ho
 have hne4: ¬((o:Int)=64):=by omega
 have hle4:(o:Int)≤63:=by omega
 clear ho
 obtain⟨oa,oc,hev⟩:=hv.form
 have HV:=zQr hv
 have HEV:=zQr hev
 rw[hev]at c3
 clear hv hev
 by_cases h255:s.ended.length=255
 ·have h255':((s.ended.length:Nat):Int)=255:=by omega
  have HF:Hid (zBF (zAa ere L (k+1) s)= .no 47 s.i):=by rw[Hid,HG.out,if_pos h255];rfl
  clear hu
  go_enter Tryz.func211,Tryz.ntmps211
  go_wp2_with fail
  refine(zAr 47 s.i rfl rfl _).mono ?_;rintro e w9 ⟨rfl,rfl⟩
  go_wp2_with fail
  exact⟨rfl,zA6.refl _ _ _,by rw[HF.out];rfl⟩
 have h255': ¬((s.ended.length:Nat):Int)=255:=by omega
 have HU:=zQr hu
 clear hu
 go_enter Tryz.func211,Tryz.ntmps211
 go_wp2_with (at_builtin;refine zAe zQH rfl _ _ rfl (rb+1) rfl ((HEV.out▸HV.out.own).alloc _) rfl (Src.new w [.bool false] _ _ _) rfl (by simp[Value.oneCell']) (by unfold maxLen;omega) (by omega) (by simp;omega) ?_)
 intro v1 w1 hown1 hgr1 hblk1
 have hvA:=HV.out.alloc (.cells #[.bool false] 4)
 rw[←HEV.out]at hgr1 hblk1
 have hgb:w1.heap[rb]?=(w.alloc (.cells #[.bool false] 4)).heap[rb]?:=hgr1.block rb hvA.lt (hvA.not_rb (zQt _))
 have hr1:=hvA.pushEnded hgr1 (ev':=v1) (en:=s.ended++[false]) (by simpa using hown1) (by simp;omega)
 have hn1:zBK w ev.ownBlock v1.ownBlock:=by
  rcases hblk1 with h|h
  ·exact .inl h
  ·exact .inr fun g hg=>by rw[h]at hg;cases hg;omega
 have hb1:=((((zA6.refl rb ev.ownBlock w).alloc (.cells #[.bool false] 4)).grown (zBK.refl _ _) hgr1).store 3 v1)
 have D2:=(zQv (a:=⟨rb,2,none⟩) hgb).trans hvA.c2
 have D3:=(zQv (a:=⟨rb,3,none⟩) hgb).trans hvA.c3
 have D4:=(zQv (a:=⟨rb,4,none⟩) hgb).trans hvA.c4
 rw[HO.out]at D4
 have F3:=(zQw (a:=⟨rb,3,none⟩) hgb).trans (hvA.fz 3)
 have F4:=(zQw (a:=⟨rb,4,none⟩) hgb).trans (hvA.fz 4)
 obtain⟨g1,cp1,hv1,hg1,_⟩:=hr1.row (by simp)
 have hen:(s.ended++[false]).length=s.ended.length+1:=by simp
 rw[hen]at hv1
 subst hv1
 have HN1:=zQr hn1
 have hcast:((64 - k:Nat):Int)=(o:Int)+1:=by have:=HO.out;omega
 have hr2:=hr1.setOpen (k':=k) (by omega)
 have hb2:=hb1.store 4 (.int .i64 ((64 - k:Nat):Int))
 rw[hcast]at hr2 hb2
 have HR2:=zQr hr2
 have HB2:=zQr hb2
 have rb1:rb<w1.heap.size:=by simpa [World.setCell]using hr1.lt
 clear hr2 hb2 hr1 hb1 hn1 hgb hvA hown1 hgr1 hblk1 c2 c3 c4 f3 rbl hcast
 go_upto_region 9 with fail
 revert HR2 HB2
 clear D2 D3 D4 F3 F4 rb1
 generalize (w1.setCell ⟨rb,3,none⟩ (.slice (some ⟨g1,0,none⟩) (s.ended.length+1) cp1)).setCell ⟨rb,4,none⟩ (.int .i64 ((o:Int)+1))=W2
 intro HR2 HB2
 have c0:=HR2.out.c0
 have c2:=HR2.out.c2
 have f2:=HR2.out.fz 2
 have rbl:=HR2.out.lt
 simp only at c2
 refine zAA (X:=none) 10 [([0,1,2,3,4],5)] [6,7,8,9] (by kernel_rfl) (by kernel_rfl) rfl (fun _ _ _ _ _ h=>h) ?_
 simp only[zAK,zAC,zAE,zAD,zAB,List.getD_cons_zero,List.getD_cons_succ,List.drop_succ_cons,List.drop_zero]
 repeat (go_big_quiet_step (fail))
 refine wpQuiet_nil ?_
 go_wp2_with fail
 refine(zBj 40 (w:=W2.drew) c0).mono ?_;rintro e w3 ⟨rfl,rfl⟩
 go_wp2_with fail
 refine⟨zAJ.refl _,?_⟩
 repeat (go_big_quiet_step (fail))
 refine wpQuiet_nil ?_
 go_wp2_with fail
 have hr3:=HR2.out.setAt (j:=s.i+zAY ere) hs
 have hb3:=HB2.out.store 2 (.int .i64 ((s.i+zAY ere:Nat):Int))
 rw[Int.natCast_add]at hr3 hb3
 obtain⟨N,hN⟩: ∃N:Int,(s.ended.length:Int)+1=N:=⟨_,rfl⟩
 have hx:zCQ (s.ended.length+1)=⟨7,Cls.zero,N,0,0,1⟩:=by rw[zCQ,Int.natCast_add,show((1:Nat):Int)=1 from rfl,hN]
 have HX:=zQr hx
 have HNN:=zQr hN
 rw[hN]
 have hl3:=(Nds.lit (W2.setCell ⟨rb,2,none⟩ (.int .i64 ((s.i:Int)+(zAY ere:Int)))) w.heap.size ⟨7,Cls.zero,N,0,0,1⟩ hb3.size)
 have hr4:=(hr3.alloc (.cells (zAT ⟨7,Cls.zero,N,0,0,1⟩) 101)).drew
 have hb4:=(hb3.alloc (.cells (zAT ⟨7,Cls.zero,N,0,0,1⟩) 101)).drew
 have hsz3:(W2.setCell ⟨rb,2,none⟩ (.int .i64 ((s.i:Int)+(zAY ere:Int)))).heap.size=W2.heap.size:=by simp
 rw[hsz3]at hl3
 have hsz4: ∀o:Obj,((W2.setCell ⟨rb,2,none⟩ (.int .i64 ((s.i:Int)+(zAY ere:Int)))).alloc o).drew.heap.size=W2.heap.size+1:=fun o=>by
  show((W2.setCell ⟨rb,2,none⟩ (.int .i64 ((s.i:Int)+(zAY ere:Int)))).alloc o).heap.size=_
  simp
 have hlt1:=HR2.out.evlt g1 rfl
 have hW2:=HB2.out.size
 have hrw:rb<w.heap.size:=HV.out.lt
 clear hN hx hr3 hb3
 refine(ih _ _ _ hr4).mono ?_
 rintro e w5 ⟨hb5,hp5⟩
 cases hsd:zBt ere L k ⟨s.i+zAY ere,s.ended++[false]⟩with
 |no er p=>
  have HF:Hid (zBF (zAa ere L (k+1) s)= .no er p):=by rw[Hid,HG.out,if_neg h255,hsd];rfl
  rw[hsd]at hp5
  simp only[zFP]at hp5
  subst hp5
  have HBT:=zQr (hb4.trans HN1.out hb5)
  clear hb4 hb5 hr4 hl3
  go_wp2_with fail
  exact⟨rfl,HBT.out,by rw[HF.out];rfl⟩
 |ok re t=>
  have HG1:Hid (zAa ere L (k+1) s=if t.i=L.length then .no 41 s.i else .ok (zCQ (s.ended.length+1)::re) ⟨t.i+zAY ere,t.ended.set s.ended.length true⟩):=by rw[Hid,HG.out,if_neg h255,hsd]
  have hri:=zEB HU.out k (by simpa using hs) hsd
  have hsm:=zDX HU.out k (by simpa using hs) hsd
  have hst:=zJB k hsd
  have hti:=hri.le
  have hen2:=hri.ended
  rw[hen]at hen2
  rw[hsd]at hp5
  simp only at hp5 hsm
  obtain⟨v5,ev5,rfl,hr5,hn5,hrow5⟩:=hp5
  have hbT:=hb4.trans HN1.out hb5
  have hnT:=HN1.out.trans hb4.size hn5
  have hl5:=hl3.drew.but hb5 hrw (fun g hg=>by simp only[Value.ownBlock,Option.some.injEq,ne_eq]at hg ⊢;omega)
  have hev5: ∀g,ev5.ownBlock=some g→g≠W2.heap.size:=fun g hg=>by
   rcases hn5 with h|h
   ·rw[h]at hg;simp only[Value.ownBlock,Option.some.injEq]at hg;omega
   ·have h':=h g hg
    rw[hsz4]at h'
    omega
  have hrw5:=hbT.size
  clear hb4 hb5 hr4 hl3 hn5 hri hsd
  go_wp2_with (at_builtin;refine zCG rfl _ _ rfl w.heap.size rfl hl5 rfl hrow5.nds.src (by simp only[List.length_singleton];omega) hrw5 ?_)
  intro v6 w6 hnd6 hgr6 hblk6
  have hr6:=hr5.beside hgr6 (fun g hg=>by simp only[Value.ownBlock,Option.some.injEq]at hg;omega) (fun g hg=>by have:=hev5 g hg;simp only[Value.ownBlock,ne_eq,Option.some.injEq];omega)
  have hb6:=hbT.beside hgr6 (fun g hg=>by simp only[Value.ownBlock,Option.some.injEq]at hg;omega)
  have hrow6:zA3 w (zCQ (s.ended.length+1)::re) v6 w6 ev5:=by
   rw[HX.out]
   refine⟨hnd6,fun g hg he=>?_⟩
   have h7:=hev5 g he.symm
   have h8:=hr5.evlt g he.symm
   rcases hblk6 with h|h
   ·rw[h]at hg;simp only[Value.ownBlock,Option.some.injEq]at hg;omega
   ·rw[h]at hg;simp only[Option.some.injEq]at hg;omega
  obtain⟨g5,cp5,hv5,hg5,hg5l⟩:=hr6.row (by omega)
  have HR6:=zQr hr6
  have HB6:=zQr hb6
  have HN5:=zQr hnT
  have HROW:=zQr hrow6
  have HV5:=zQr hv5
  have HST:=zQr hst
  have c0:=hr6.c0
  have c1:=hr6.c1
  have c2:=hr6.c2
  have c3:=hr6.c3
  have c4:=hr6.c4
  have rbl:=hr6.lt
  have f2:=hr6.fz 2
  have f4:=hr6.fz 4
  rw[hv5]at c3
  have fg:w6.frozen? ⟨g5,s.ended.length,none⟩=false:=zRH (hv5▸hr6.own) _
  have cg:w6.cell? ⟨g5,s.ended.length,none⟩=some (.bool (t.ended.getD s.ended.length false)):=by
   rw[zRG (hv5▸hr6.own) _ (by omega)]
   simp[List.getD_eq_getElem?_getD,show s.ended.length<t.ended.length by omega]
  have ho1:((64 - k:Nat):Int)=(o:Int)+1:=by have:=HO.out;omega
  rw[ho1]at c4
  have hNI:=HNN.out
  have hne5: ¬rb=g5:=by omega
  clear hr6 hb6 hnT hrow6 hv5 hst hnd6 hgr6 hblk6 hr5 hbT hl5 hev5 hrow5 ho1
  subst hNI
  by_cases hend:t.i=L.length
  ·have HF:Hid (zBF (zAa ere L (k+1) s)= .no 41 s.i):=by rw[Hid,HG1.out,if_pos hend];rfl
   have hend':(t.i:Int)=(L.length:Int):=by omega
   go_wp2_with fail
   refine zAA (X:=none) 10 [] [0,1,2,3,4,5,6,7,8,9] (by kernel_rfl) (by kernel_rfl) rfl (fun _ _ _ _ _ h=>h) ?_
   simp only[zAK,zAC,zAD,zAB,List.getD_cons_zero,List.getD_cons_succ,List.drop_succ_cons,List.drop_nil]
   repeat (go_big_quiet_step (fail))
   refine wpQuiet_nil ?_
   go_wp2_with fail
   refine(zAr 41 s.i rfl rfl _).mono ?_;rintro e w9 ⟨rfl,rfl⟩
   go_wp2_with fail
   exact⟨rfl,HB6.out.drew,by rw[HF.out];rfl⟩
  ·have hti2:t.i+zAY ere≤L.length:=by
    rcases HST.out with h|h
    ·omega
    ·exact zBn h.1
   have HF:Hid (zBF (zAa ere L (k+1) s)= .ok (zCQ (s.ended.length+1)::re,true) ⟨t.i+zAY ere,t.ended.set s.ended.length true⟩):=by rw[Hid,HG1.out,if_neg hend];rfl
   have hend': ¬(t.i:Int)=(L.length:Int):=by omega
   go_wp2_with fail
   refine zAA (X:=none) 10 [] [0,1,2,3,4,5,6,7,8,9] (by kernel_rfl) (by kernel_rfl) rfl (fun _ _ _ _ _ h=>h) ?_
   simp only[zAK,zAC,zAD,zAB,List.getD_cons_zero,List.getD_cons_succ,List.drop_succ_cons,List.drop_nil]
   repeat (go_big_quiet_step (fail))
   refine wpQuiet_nil ?_
   go_wp2_with fail
   refine zAA (X:=none) 10 [([0,1,2,3,4],5)] [6,7,8,9] (by kernel_rfl) (by kernel_rfl) rfl (fun _ _ _ _ _ h=>h) ?_
   simp only[zAK,zAC,zAE,zAD,zAB,List.getD_cons_zero,List.getD_cons_succ,List.drop_succ_cons,List.drop_zero]
   repeat (go_big_quiet_step (fail))
   refine wpQuiet_nil ?_
   go_wp2_with fail
   refine(zBj 41 (w:=w6.drew.drew) c0).mono ?_;rintro e w7 ⟨rfl,rfl⟩
   go_wp2_with fail
   refine⟨zAJ.refl _,?_⟩
   repeat (go_big_quiet_step (fail))
   refine wpQuiet_nil ?_
   go_wp2_with fail
   go_ret2
   have hrA:=HR6.out.setAt hti2
   have hbA:=HB6.out.store 2 (.int .i64 ((t.i+zAY ere:Nat):Int))
   rw[Int.natCast_add]at hrA hbA
   have hrB:=hrA.setOpen (k':=k+1) (by omega)
   have hbB:=hbA.store 4 (.int .i64 ((64 - (k+1):Nat):Int))
   rw[HO.out]at hrB hbB
   have hrZ:=(hrB.note (HV5.out) s.ended.length).drew.drew
   have hbZ:=(hbB.note HN5.out (g:=g5) (by rw[HV5.out];rfl) s.ended.length (.bool true)).drew.drew
   have n1: ∀g,v6.ownBlock=some g→g≠rb:=fun g hg=>by have:=(HROW.out.lt g hg).1;omega
   have n2: ∀g,v6.ownBlock=some g→g≠g5:=fun g hg e=>HROW.out.2 g hg (by rw[HV5.out,e];rfl)
   refine⟨hbZ,?_⟩
   rw[HF.out]
   exact⟨_,ev5,rfl,hrZ,HN5.out,_,rfl,(((HROW.out.store n1 _ _).store n1 _ _).store n2 _ _).drew.drew⟩
end
end
section
open Go.RowKit
theorem zIa {L:List Mk} {at0 b0:Nat} : ∀(n i:Nat) (s:List Nat) (a:Th) (f:Nat × Nat),zCz L at0 b0 n i s=(a,some f)→0<f.1
 |0,_,_,_,_,h=>by simp only[zCz,Prod.mk.injEq,Option.some.injEq]at h;rw[←h.2];show 0<32;decide
 |n+1,i,s,a,f,h=>by
  unfold zCz at h
  split at h
  ·split at h
   ·simp only[Prod.mk.injEq,Option.some.injEq]at h;rw[←h.2];show 0<31;decide
   ·simp at h
  ·exact zIa n _ _ _ _ h
theorem zGX {L:List Mk} {at0 b0 c:Nat} {a:Th} {f:Nat × Nat} (h:zAo L at0 b0 c=(a,some f)):0<f.1:=by
 unfold zAo at h
 split at h
 ·simp only[Prod.mk.injEq,Option.some.injEq]at h;rw[←h.2];show 0<32;decide
 ·split at h
  ·simp only[Prod.mk.injEq,Option.some.injEq]at h;rw[←h.2];show 0<31;decide
  ·split at h
   ·simp only[Prod.mk.injEq,Option.some.injEq]at h;rw[←h.2];show 0<32;decide
   ·split at h
    ·simp only[Prod.mk.injEq,Option.some.injEq]at h;rw[←h.2];show 0<31;decide
    ·simp at h
theorem zFn {L:List Mk} {at0 n:Nat} {a:Th} {f:Nat × Nat} (h:zAp L at0 n=(a,some f)):0<f.1:=by
 unfold zAp at h
 split at h
 ·simp only[Prod.mk.injEq,Option.some.injEq]at h;rw[←h.2];show 0<32;decide
 ·split at h
  ·exact zIa _ _ _ _ _ h
  ·split at h
   ·exact zGX h
   ·simp at h
theorem zLO {L:List Mk} {at0 n:Nat} {first:Bool} {a:Th} {f:Nat × Nat} (h:zAt L at0 n first=(a,some f)):0<f.1:=by
 unfold zAt at h
 split at h
 ·rename_i hx
  simp only[Prod.mk.injEq,Option.some.injEq]at h
  rw[←h.2];exact zFn hx
 ·split at h
  ·split at h
   ·simp only[Prod.mk.injEq,Option.some.injEq]at h;rw[←h.2];show 0<32;decide
   ·simp only[Prod.mk.injEq,Option.some.injEq]at h;rw[←h.2];show 0<30;decide
  ·split at h
   ·simp at h
   ·split at h
    ·simp only[Prod.mk.injEq,Option.some.injEq]at h;rw[←h.2];show 0<30;decide
    ·split at h
     ·rename_i hx
      simp only[Prod.mk.injEq,Option.some.injEq]at h
      rw[←h.2];exact zFn hx
     ·split at h
      ·simp only[Prod.mk.injEq,Option.some.injEq]at h;rw[←h.2];show 0<30;decide
      ·simp at h
theorem zGz {L:List Mk} {at0:Nat} : ∀(n:Nat) (c:Cls) (i:Nat) (first:Bool) (f:Nat × Nat),zA1 L at0 n c i first= .error f→0<f.1
 |0,_,_,_,_,h=>by simp only[zA1,Except.error.injEq]at h;rw[←h];show 0<32;decide
 |n+1,c,i,first,f,h=>by
  unfold zA1 at h
  split at h
  ·cases h
  ·split at h
   ·rename_i hx
    cases h
    exact zLO hx
   ·exact zGz n _ _ _ _ h
theorem zIu {L:List Mk} {at0 e p:Nat} (h:zA9 L at0= .error (e,p)):0<e:=by
 unfold zA9 at h
 simp only at h
 split at h
 ·rename_i hx
  cases h
  exact zGz _ _ _ _ _ hx
 ·cases h
section
variable {w:World} {rb:Nat} {ere:Bool} {mb mo cap:Nat} {L:List Mk} {s:Rst} {k:Nat} {ev:Value}
theorem zJz (hv:RdS w rb ere mb mo cap L s k ev) (hs:signAt L s.i 91=true) (fb:Bool):
  Calls Tryz.prog 207 #[.pointer (some ⟨rb,0,none⟩),.bool fb] w (zI3 w rb ere mb mo cap L k ev (zDO L s) (zFW w)):=by
 have hlen:=hv.m.len
 have rbl:=hv.lt
 have c1:=hv.c1
 have c2:=hv.c2
 have HV:=zQr hv
 have hpa: ∀wx,Below w.heap.size w wx→Calls Tryz.prog 230 #[.slice (some ⟨mb,mo,none⟩) L.length cap,.int .i64 (s.i:Nat)] wx fun e w'=>e= .returned (brV (zA9 L s.i))∧Below wx.heap.size wx w':=fun wx hb=>zMJ (hv.below hb).m s.i rfl hs
 have HP:=zQr hpa
 clear hv hpa
 cases hbr:zA9 L s.i with
 |error f=>
  obtain⟨f,p⟩:=f
  have hf:=zIu hbr
  have HF:Hid (zDO L s= .no f p):=by simp[Hid,zDO,hbr]
  rw[hbr]at HP
  go_enter Tryz.func207,Tryz.ntmps207
  go_upto_region 1 with fail
  refine zBv (X:=none) 14 13 [([0,1,2,3,4,5,6,7],8)] [9,10,11,12] (by kernel_rfl) (by kernel_rfl) rfl (fun _ _ _ _ _ h=>h) ?_
  simp only[zDS,zAK,zAC,zAE,zAD,zAB,List.getD_cons_zero,List.getD_cons_succ,List.drop_succ_cons,List.drop_zero]
  repeat (go_big_quiet_step (fail))
  refine wpQuiet_nil ?_
  refine⟨?_,?_⟩
  ·go_wp2_with fail
   refine(HP.out _ (zQs _ _).drew).mono ?_;rintro e w1 ⟨rfl,hb1⟩
   have hk:=zAJ.of_below (X:=none) hb1
   simp only[brV,zDQ,Cls.zero]
   go_wp2_with fail
   refine⟨hk,?_⟩
   repeat (go_big_quiet_step (fail))
   refine wpQuiet_nil ?_
   go_wp2_with fail
   refine⟨zAc _ _,wpQuiet_nil ?_⟩
   clear hk
   have hfi: ¬((f:Int)=0):=by omega
   go_wp2_with fail
   refine(zAr f p rfl rfl _).mono ?_;rintro e w9 ⟨rfl,rfl⟩
   go_wp2_with fail
   exact⟨rfl,(((zA6.refl _ _ _).below (zQs _ _).drew).below hb1).alloc _,by rw[HF.out];rfl⟩
  ·go_wp2_with fail
   refine⟨zAn (zAc _ _),wpQuiet_nil ?_⟩
   go_wp2_with fail
   have hba:=((zQs w.heap.size w).alloc (zQt _) (.cells (zA5 Cls.zero) 99)).drew
   have hz0:zBy (w.alloc (.cells (zA5 Cls.zero) 99)).drew w.heap.size Cls.zero:=zQ4 w _
   simp only[zA5,Cls.zero,show(0#64).toNat=0 from rfl,Int.natCast_zero]at hba
   refine(HP.out _ hba).mono ?_;rintro e w1 ⟨rfl,hb1⟩
   have hk:=zAJ.of_below (X:=none) hb1
   have hz1:=hz0.below hb1
   obtain⟨z0,z1,z2,z3⟩:=hz1.cells
   have g0:=zAF hz1
   simp only[brV,zDQ,Cls.zero]
   go_wp2_with fail
   refine⟨hk,?_⟩
   repeat (go_big_quiet_step (fail))
   refine wpQuiet_nil ?_
   clear hk
   have hfi: ¬((f:Int)=0):=by omega
   have HB:=zQr (((zA6.refl rb ev.ownBlock w).belowB hba).below hb1)
   have hsz:=hba.size
   clear hba hb1
   go_wp2_with fail
   rw[zBs]
   refine(zAr f p rfl rfl _).mono ?_;rintro e w9 ⟨rfl,rfl⟩
   go_wp2_with fail
   exact⟨rfl,HB.out.belowB (zCl (zQt _) _ _ _ _),by rw[HF.out];rfl⟩
 |ok a=>
  obtain⟨c,p⟩:=a
  have HF:Hid (zDO L s= .ok ([zOt c],true) ⟨p,s.ended⟩):=by simp[Hid,zDO,hbr]
  have hp:=(zDL HV.out.m.u hbr).2
  have f2:=HV.out.fz 2
  rw[hbr]at HP
  simp only at hp
  obtain⟨x0,x1,x2,x3⟩:=c
  go_enter Tryz.func207,Tryz.ntmps207
  go_upto_region 1 with fail
  refine zBv (X:=none) 14 13 [([0,1,2,3,4,5,6,7],8)] [9,10,11,12] (by kernel_rfl) (by kernel_rfl) rfl (fun _ _ _ _ _ h=>h) ?_
  simp only[zDS,zAK,zAC,zAE,zAD,zAB,List.getD_cons_zero,List.getD_cons_succ,List.drop_succ_cons,List.drop_zero]
  repeat (go_big_quiet_step (fail))
  refine wpQuiet_nil ?_
  refine⟨?_,?_⟩
  ·go_wp2_with fail
   refine(HP.out _ (zQs _ _).drew).mono ?_;rintro e w1 ⟨rfl,hb1⟩
   have hk:=zAJ.of_below (X:=none) hb1
   have hr1:=HV.out.drew.below hb1
   have HR:=zQr hr1
   have HB:=zQr (((zA6.refl rb ev.ownBlock w).below (zQs _ _).drew).below hb1)
   have rbl1:=hr1.lt
   have d2:=hr1.c2
   have g2:=hr1.fz 2
   clear hr1
   simp only[brV,zDQ]
   go_wp2_with fail
   refine⟨hk,?_⟩
   repeat (go_big_quiet_step (fail))
   refine wpQuiet_nil ?_
   go_wp2_with fail
   refine⟨zAc _ _,wpQuiet_nil ?_⟩
   clear hk hb1
   go_wp2_with fail
   go_ret2
   exact zBE HF.out ((HR.out.setAt hp).alloc _) ((HB.out.store 2 _).alloc _) (by simp)
  ·go_wp2_with fail
   refine⟨zAn (zAc _ _),wpQuiet_nil ?_⟩
   go_wp2_with fail
   have hba:=((zQs w.heap.size w).alloc (zQt _) (.cells (zA5 Cls.zero) 99)).drew
   have hz0:zBy (w.alloc (.cells (zA5 Cls.zero) 99)).drew w.heap.size Cls.zero:=zQ4 w _
   simp only[zA5,Cls.zero,show(0#64).toNat=0 from rfl,Int.natCast_zero]at hba
   refine(HP.out _ hba).mono ?_;rintro e w1 ⟨rfl,hb1⟩
   have hk:=zAJ.of_below (X:=none) hb1
   have hz1:=hz0.below hb1
   obtain⟨z0,z1,z2,z3⟩:=hz1.cells
   have g0:=zAF hz1
   have hbb:=hba.trans (hb1.mono hba.size)
   have hr1:=HV.out.below hbb
   have HR:=zQr hr1
   have HB:=zQr ((zA6.refl rb ev.ownBlock w).below hbb)
   have rbl1:=hr1.lt
   have d2:=hr1.c2
   have g2:=hr1.fz 2
   have HI:=zQr hz1.is
   have hsz:=hz1.lt
   have hne: ¬rb=w.heap.size:=by omega
   clear hr1 hba hbb hz0 hz1
   simp only[brV,zDQ]
   go_wp2_with fail
   refine⟨hk,?_⟩
   repeat (go_big_quiet_step (fail))
   refine wpQuiet_nil ?_
   clear hk hb1
   go_wp2_with fail
   go_ret2
   rw[zBs]
   exact zBE HF.out ((HR.out.belowB (zCl (zQt _) _ _ _ _) rbl HV.out.evlt).setAt hp) ((HB.out.belowB (zCl (zQt _) _ _ _ _)).store 2 _) (by simp[zKx])
end
end
section
open Go.RowKit
structure zGP (w:World) (nb no:Nat) (re:List Nd):Prop where
 lt:nb<w.heap.size
 len:re.length≤4294967296
 c: ∀i,i<re.length→ ∀j,w.cell? ⟨nb,no+i*9+j,none⟩=(zAT (re.getD i Nd.zero))[j]?∨9≤j
 k: ∀x∈re,x.kids≤9223372036854775807
theorem zGP.below {w w':World} {nb no:Nat} {re:List Nd} (h:zGP w nb no re) (hb:Below w.heap.size w w'):zGP w' nb no re:=
 ⟨zQu h.lt hb.size,h.len,fun i hi j=>(h.c i hi j).imp (fun e=>(hb.cell (p:=⟨nb,no+i*9+j,none⟩) h.lt).trans e) id,h.k⟩
theorem zGP.cells {w:World} {nb no:Nat} {re:List Nd} (h:zGP w nb no re) {i:Nat} {x:Nd} (hx:re[i]?=some x):
  w.cell? ⟨nb,no+i*9,none⟩=some (.int .i8 x.op)∧w.cell? ⟨nb,no+i*9+1,none⟩=some (.int .u64 x.set.w0.toNat)∧w.cell? ⟨nb,no+i*9+2,none⟩=some (.int .u64 x.set.w1.toNat)∧w.cell? ⟨nb,no+i*9+3,none⟩=some (.int .u64 x.set.w2.toNat)∧w.cell? ⟨nb,no+i*9+4,none⟩=some (.int .u64 x.set.w3.toNat)∧
  w.cell? ⟨nb,no+i*9+5,none⟩=some (.int .i64 x.n)∧w.cell? ⟨nb,no+i*9+6,none⟩=some (.int .i64 x.min)∧w.cell? ⟨nb,no+i*9+7,none⟩=some (.int .i64 x.max)∧w.cell? ⟨nb,no+i*9+8,none⟩=some (.int .i64 x.kids):=by
 have hi:i<re.length:=(zQy.1 hx).1
 have hg:re.getD i Nd.zero=x:=by simp[List.getD_eq_getElem?_getD,hx]
 have hc: ∀j,j<9→w.cell? ⟨nb,no+i*9+j,none⟩=(zAT x)[j]?:=fun j hj=>by
  rw[←hg];exact(h.c i hi j).resolve_right (by omega)
 exact⟨hc 0 (by decide),hc 1 (by decide),hc 2 (by decide),hc 3 (by decide),hc 4 (by decide),hc 5 (by decide),hc 6 (by decide),hc 7 (by decide),hc 8 (by decide)⟩
def zLk (re:List Nd):Prop:= ∀x∈re,x.op=6→0≤x.min∧x.min≤255∧ -1≤x.max∧x.max≤255
theorem zFM {re:List Nd} {g:Nat→Option (Int × Nat)} (hg: ∀i r,g i=some r→1≤r.1∧r.1≤16385∧i<r.2∧r.2≤re.length): ∀(k:Nat) (sum:Int) (i:Nat) (r:Int × Nat),0≤sum→sum≤16385→i≤re.length→zDv g k sum i=some r→0≤r.1∧r.1≤16385∧i≤r.2∧r.2≤re.length
 |0,sum,i,r,h1,h2,h3,h=>by simp only[zDv,Option.some.injEq]at h;subst h;exact⟨h1,h2,zQt _,h3⟩
 |k+1,sum,i,r,h1,h2,h3,h=>by
  unfold zDv at h
  split at h
  ·cases h
  ·rename_i w nx hx
   have h4:=hg _ _ hx
   simp only at h4
   have h5:=zFM hg k _ _ _ (by omega) (by omega) h4.2.2.2 h
   omega
theorem zB4 {re:List Nd} (hr:zLk re): ∀(f i:Nat) (r:Int × Nat),zBc re f i=some r→1≤r.1∧r.1≤16385∧i<r.2∧r.2≤re.length
 |0,_,_,h=>by simp[zBc]at h
 |f+1,i,r,h=>by
  unfold zBc at h
  split at h
  ·cases h
  ·rename_i n hn
   have hi:i<re.length:=(zQy.1 hn).1
   split at h
   ·cases h
   ·rename_i sm nx hk
    have h1:=zFM (re:=re) (fun i r=>zB4 hr f i r) _ _ _ _ (by omega) (by omega) (by omega) hk
    simp only at h1
    cases h
    have ht:0≤zBM n:=by
     unfold zBM
     split
     ·rename_i h6
      have:=hr n (zRL hn) h6
      split<;>omega
     ·omega
    have hm:=Int.mul_nonneg ht h1.1
    simp only
    omega
theorem zFj {re:List Nd} {nb no cap:Nat} (hr:zLk re): ∀(f i:Nat) (r:Int × Nat) (w:World) (iv:Int),iv=i→zGP w nb no re→zBc re f i=some r→
  Calls Tryz.prog 113 #[.slice (some ⟨nb,no,none⟩) re.length cap,.int .i64 iv] w fun e w'=>e= .returned (.tuple #[.int .i64 r.1,.int .i64 (r.2:Nat)])∧Below w.heap.size w w'
 |0,_,_,_,_,_,_,h=>by simp[zBc]at h
 |f+1,i,r,w,iv,hiv,hn,h=>by
  subst hiv
  have ih:=fun(i:Nat) (r:Int × Nat) (w:World) (iv:Int) (hiv:iv=i) (h:zGP w nb no re) (hw:zBc re f i=some r)=>zFj (cap:=cap) hr f i r w iv hiv h hw
  have hbn:=zQr (fun i r=>zB4 hr f i r)
  have hb:=zB4 hr _ _ _ h
  unfold zBc at h
  cases hx:re[i]? with
  |none=>rw[hx]at h;cases h
  |some n=>
   rw[hx]at h
   simp only at h
   have hi:i<re.length:=(zQy.1 hx).1
   have hi':(i:Int)<(re.length:Int):=by omega
   have hlen:=hn.len
   obtain⟨c0,c1,c2,c3,c4,c5,c6,c7,c8⟩:=hn.cells hx
   have nbl:=hn.lt
   have hmem:=zRL hx
   have hkm:=hn.k n hmem
   have hrn:=zQr (hr n hmem)
   obtain⟨op,⟨x0,x1,x2,x3⟩,xn,xmin,xmax,xk⟩:=n
   simp only at c0 c1 c2 c3 c4 c5 c6 c7 c8 hkm hrn h
   have HN:=zQr hn
   have HIH:=zQr ih
   have H:=zQr h
   clear ih hn hx h
   cases hk:zDv (zBc re f) xk.toNat 0 (i+1)with
   |none=>have:=H.out;rw[hk]at this;cases this
   |some q=>
   obtain⟨sm,nx⟩:=q
   have HQ:=H.out
   rw[hk]at HQ
   simp only[Option.some.injEq]at HQ
   have HK:=zQr hk
   clear hk H hb
   subst HQ
   simp only
   have hx0:=xk.toNat
   go_enter Tryz.func113,Tryz.ntmps113
   go_wp2_with fail
   go_loopg [7,8,19] xk.toNat (fun g s t j wr=> ∃(sum:Int) (p d:Nat),s= .int .i64 sum∧t= .int .i64 (p:Nat)∧j= .int .i64 (d:Nat)∧g=xk.toNat - d∧d≤xk.toNat∧0≤sum∧sum≤16385∧p≤re.length∧Below w.heap.size w wr∧zEM wr w.heap.size ⟨op,⟨x0,x1,x2,x3⟩,xn,xmin,xmax,xk⟩∧
    Hid (zDv (zBc re f) (xk.toNat - d) sum p=some (sm,nx)))
   case atStart=>exact⟨0,i+1,0,rfl,by go_num,rfl,by omega,by omega,by omega,by omega,by omega,(zQs _ _).alloc (zQt _) _,zQ4 _ _,HK.out⟩
   case round=>
    obtain⟨sum,p,d,rfl,rfl,rfl,hg,hd,hs1,hs2,hp,hbe,hnd,HS⟩:=hrel
    have HG:=zQr hg
    clear hg
    by_cases hlt:d<xk.toNat
    ·have hlt':(d:Int)<xk:=by omega
     have HS1:=HS.out
     rw[show xk.toNat - d=(xk.toNat - (d+1))+1 by omega,zDv]at HS1
     cases hw:zBc re f p with
     |none=>rw[hw]at HS1;cases HS1
     |some q=>
      obtain⟨w2,n2⟩:=q
      rw[hw]at HS1
      simp only at HS1
      have hb2:=hbn.out _ _ hw
      simp only at hb2
      have HSZ:=zQr HS1
      have hih:=HIH.out p (w2,n2) wr p rfl (HN.out.below hbe) hw
      have HB:=zQr hbe
      have HD:=zQr hnd
      clear HS1 hw hbe hnd HS
      go_wp2_with fail
      refine hih.mono ?_;rintro e w3 ⟨rfl,hb3⟩
      have HB3:=zQr (HB.out.trans (hb3.mono HB.out.size))
      have HD3:=zQr (HD.out.below hb3)
      clear hih hb3
      by_cases hm:16385<sum+w2
      ·have he:min (sum+w2) 16385=16385:=by omega
       rw[he]at HSZ
       clear he
       go_wp2_with fail
       go_roundg (xk.toNat - (d+1))
       case measure=>have:=HG.out;omega
       case rel=>exact⟨16385,n2,d+1,rfl,rfl,by go_num,rfl,by omega,by omega,by omega,hb2.2.2.2,HB3.out,HD3.out,HSZ.out⟩
      ·have he:min (sum+w2) 16385=sum+w2:=by omega
       rw[he]at HSZ
       clear he
       go_wp2_with fail
       go_roundg (xk.toNat - (d+1))
       case measure=>have:=HG.out;omega
       case rel=>exact⟨sum+w2,n2,d+1,rfl,rfl,by go_num,rfl,by omega,by omega,by omega,hb2.2.2.2,HB3.out,HD3.out,HSZ.out⟩
    ·have hlt': ¬(d:Int)<xk:=by omega
     have HS1:=HS.out
     rw[show xk.toNat - d=0 by omega,zDv]at HS1
     simp only[Option.some.injEq,Prod.mk.injEq]at HS1
     obtain⟨e1,e2⟩:=HS1
     subst e1 e2
     obtain⟨d0,d1,d2,d3,d4,d5,d6,d7,d8,g0⟩:=hnd.cells
     simp only at d0 d1 d2 d3 d4 d5 d6 d7 d8
     have hBl:=hnd.lt
     have HB:=zQr hbe
     clear hnd hbe HS
     by_cases h6:op=6
     ·have hr6:=hrn.out h6
      subst h6
      by_cases hmx:xmax<0
      ·have ht:zBM ⟨6,⟨x0,x1,x2,x3⟩,xn,xmin,xmax,xk⟩=xmin+1:=by simp[zBM,hmx]
       have hmul:0≤sum*(xmin+1)∧sum*(xmin+1)≤16385*256:=⟨Int.mul_nonneg hs1 (by omega),Int.mul_le_mul hs2 (by omega) (by omega) (by omega)⟩
       have HT:=zQr (show zBM ⟨6,⟨x0,x1,x2,x3⟩,xn,xmin,xmax,xk⟩*sum=sum*(xmin+1)from by rw[ht];exact Int.mul_comm _ _)
       clear ht
       by_cases hm:16385<sum*(xmin+1)+1
       ·go_wp2_with fail
        go_ret2
        exact⟨by rw[HT.out,show min (sum*(xmin+1)+1) 16385=16385 by omega];rfl,HB.out⟩
       ·go_wp2_with fail
        go_ret2
        exact⟨by rw[HT.out,show min (sum*(xmin+1)+1) 16385=sum*(xmin+1)+1 by omega];rfl,HB.out⟩
      ·by_cases h1:xmax<1
       ·have ht:zBM ⟨6,⟨x0,x1,x2,x3⟩,xn,xmin,xmax,xk⟩=1:=by simp only[zBM,if_true,if_neg hmx];omega
        have HT:=zQr (show zBM ⟨6,⟨x0,x1,x2,x3⟩,xn,xmin,xmax,xk⟩*sum=sum from by rw[ht];exact Int.one_mul _)
        clear ht
        by_cases hm:16385<sum+1
        ·go_wp2_with fail
         go_ret2
         exact⟨by rw[HT.out,show min (sum+1) 16385=16385 by omega];rfl,HB.out⟩
        ·go_wp2_with fail
         go_ret2
         exact⟨by rw[HT.out,show min (sum+1) 16385=sum+1 by omega];rfl,HB.out⟩
       ·have ht:zBM ⟨6,⟨x0,x1,x2,x3⟩,xn,xmin,xmax,xk⟩=xmax:=by simp only[zBM,if_true,if_neg hmx];omega
        have hmul:0≤sum*xmax∧sum*xmax≤16385*255:=⟨Int.mul_nonneg hs1 (by omega),Int.mul_le_mul hs2 (by omega) (by omega) (by omega)⟩
        have HT:=zQr (show zBM ⟨6,⟨x0,x1,x2,x3⟩,xn,xmin,xmax,xk⟩*sum=sum*xmax from by rw[ht];exact Int.mul_comm _ _)
        clear ht
        by_cases hm:16385<sum*xmax+1
        ·go_wp2_with fail
         go_ret2
         exact⟨by rw[HT.out,show min (sum*xmax+1) 16385=16385 by omega];rfl,HB.out⟩
        ·go_wp2_with fail
         go_ret2
         exact⟨by rw[HT.out,show min (sum*xmax+1) 16385=sum*xmax+1 by omega];rfl,HB.out⟩
     ·have ht:zBM ⟨op,⟨x0,x1,x2,x3⟩,xn,xmin,xmax,xk⟩=1:=by simp[zBM,h6]
      have HT:=zQr (show zBM ⟨op,⟨x0,x1,x2,x3⟩,xn,xmin,xmax,xk⟩*sum=sum from by rw[ht];exact Int.one_mul _)
      clear ht
      by_cases hm:16385<sum+1
      ·go_wp2_with fail
       go_ret2
       exact⟨by rw[HT.out,show min (sum+1) 16385=16385 by omega];rfl,HB.out⟩
      ·go_wp2_with fail
       go_ret2
       exact⟨by rw[HT.out,show min (sum+1) 16385=sum+1 by omega];rfl,HB.out⟩
end
section
open Go.RowKit
structure AdB (w:World) (b:Nat) (k n v:Value):Prop where
 lt:b<w.heap.size
 c0:w.cell? ⟨b,0,none⟩=some k
 c1:w.cell? ⟨b,1,none⟩=some n
 c2:w.cell? ⟨b,2,none⟩=some v
 fz: ∀o,w.frozen? ⟨b,o,none⟩=false
section
variable {w w':World} {b:Nat} {k n v:Value}
theorem AdB.block (h:AdB w b k n v) (hb:w'.heap[b]?=w.heap[b]?) (hs:w.heap.size≤w'.heap.size):AdB w' b k n v:=
 ⟨zQu h.lt hs,(zQv (w:=w) (a:=⟨b,0,none⟩) hb).trans h.c0,(zQv (w:=w) (a:=⟨b,1,none⟩) hb).trans h.c1,(zQv (w:=w) (a:=⟨b,2,none⟩) hb).trans h.c2,fun o=>(zQw (w:=w) (a:=⟨b,o,none⟩) hb).trans (h.fz o)⟩
theorem AdB.below (h:AdB w b k n v) (hb:Below w.heap.size w w'):AdB w' b k n v:=h.block (hb.block b h.lt) hb.size
theorem AdB.nbut (h:AdB w b k n v) {base wb:Nat} (hb:zBU base wb w w') (h1:b<base) (h2:b≠wb):AdB w' b k n v:=h.block (hb.block b h1 h2) hb.size
theorem AdB.new (w:World) (k n v:Value):AdB (w.alloc (.cells #[k,n,v] 31)) w.heap.size k n v:=
 have hB:(w.alloc (.cells #[k,n,v] 31)).heap[w.heap.size]?=some (.cells #[k,n,v] 31 (0,0)):=zQ4 w _
 ⟨by simp,(zQ6 _ _ 0 _ _ (0,0) hB).trans rfl,(zQ6 _ _ 1 _ _ (0,0) hB).trans rfl,(zQ6 _ _ 2 _ _ (0,0) hB).trans rfl,fun o=>zAF hB o⟩
theorem AdB.set (h:AdB w b k n v) (k' n' v':Value):AdB (((w.setCell ⟨b,0,none⟩ k').setCell ⟨b,1,none⟩ n').setCell ⟨b,2,none⟩ v') b k' n' v' where
 lt:=by simpa [World.setCell]using h.lt
 c0:=(zAG _ _ _ _ _ (by decide)).trans ((zAG _ _ _ _ _ (by decide)).trans (zRA _ _ _ h.c0))
 c1:=(zAG _ _ _ _ _ (by decide)).trans (zRA _ _ _ ((zAG _ _ _ _ _ (by decide)).trans h.c1))
 c2:=zRA _ _ _ ((zAG _ _ _ _ _ (by decide)).trans ((zAG _ _ _ _ _ (by decide)).trans h.c2))
 fz:=fun o=>zAM _ _ _ _ (zAM _ _ _ _ (zAM _ _ _ _ (h.fz o)))
theorem AdB.set2 (h:AdB w b k n v) (v':Value):AdB (w.setCell ⟨b,2,none⟩ v') b k n v' where
 lt:=by simpa [World.setCell]using h.lt
 c0:=(zAG _ _ _ _ _ (by decide)).trans h.c0
 c1:=(zAG _ _ _ _ _ (by decide)).trans h.c1
 c2:=zRA _ _ _ h.c2
 fz:=fun o=>zAM _ _ _ _ (h.fz o)
theorem AdB.other (h:AdB w b k n v) {c:Nat} (hc:b≠c) (o:Nat) (x:Value):AdB (w.setCell ⟨c,o,none⟩ x) b k n v:=h.block (zQ1 _ _ _ _ hc) (by simp[World.setCell])
end
end
section
open Go.RowKit
section
variable {oa:Option Addr}
theorem zFx {fn:Func} {p:Tmp} (hf:fn.results= #[.cell p 31]) {Q:Ending→World→Prop} {a:Act} {w:World} {b:Nat} {len cp:Nat} {kk nn:Int} (hp:a.tmps.getD p undef= .pointer (some ⟨b,0,none⟩)) (hd:a.defers=[])
  (h:AdB w b (.int .i8 kk) (.int .i64 nn) (.slice oa len cp)) (hQ:Q (.returned (.agg #[.int .i8 kk,.int .i64 nn,.slice oa len cp])) w):bodyPost Tryz.prog fn Q .ret a w:=by
 refine zRQ (v:= .agg #[.int .i8 kk,.int .i64 nn,.slice oa len cp]) ?_ hd hQ
 have c0:=h.c0
 have c1:=h.c1
 have c2:=h.c2
 rw[zB8 hf,hp]
 simp[asAddr,go_sem,c0,c1,c2,Result.andThen]
end
end
end Go.Proofs.YtmaagpbjahjmhaaGreatDoor
