/- Parts: Sda Sdb Sdc Sdd Sde Si St Sv Sw Sj Sk Sl Sm Sn Su Xmn Sye So Sp. -/
import Derived.Test.YtfcemodgopdkkaaGreatDoorQ33
import Derived.Test.YtfcemodgopdkkaaGreatDoorQ34
import Derived.Test.YtfcemodgopdkkaaGreatDoorQ11
import Derived.Test.YtfcemodgopdkkaaGreatDoorQ27
import Derived.Test.YtfcemodgopdkkaaGreatDoorQ15
import Derived.Test.YtfcemodgopdkkaaGreatDoorQ2
import Derived.Test.YtfcemodgopdkkaaGreatDoorQ3
import Derived.Test.YtfcemodgopdkkaaGreatDoorQ9
import Derived.Test.YtfcemodgopdkkaaGreatDoorQ13
import Derived.Test.YtfcemodgopdkkaaGreatDoorQ8
import Derived.Test.YtfcemodgopdkkaaGreatDoorQ0
import Derived.Deep.Cut
import Derived.Deep.LoopGhost
import Derived.Lib.Hide
import Derived.LoopN
import Derived.Maps.AppendAt
import Derived.Laws.AppendOwnNone
import Derived.Laws.BytesArg
import Derived.Deep.WholeRow
import Derived.Deep.MidRow
import Derived.Laws.OwnMore
import Derived.ChangeKeysEq
import Derived.Laws.StructEq
import Derived.Shelf.Small.Strs
import Derived.Test.YtfcemodgopdkkaaGreatDoorChecked
import Derived.Lib.SlBytesConst
import Derived.Laws.EntriesVeiled
set_option maxHeartbeats 6400000
set_option maxRecDepth 100000
namespace Go.Proofs.YtfcemodgopdkkaaGreatDoor
section
open Go.RowKit
def zF4 (mu:Bool) (oa:Option Addr) (m ca:Nat):List (Nat × Value):=[(0,.slice oa m ca),(1,.pointer none),(2,.pointer none),(5,.int .i64 0),(7,.int .i64 0),(9,.pointer none),(12,.bool mu),(13,.bool false),(14,.bool false)]
def zBW:List Nat:=[19,21,22,23,24]
def zIw (i:Nat):TypeId × Nat:=if i=19 then(5,1)else if i=21 then(367,3)else(46,1)
def zGX (O:Nat→Option Nat) (k:Nat):Prop:= ∃i∈zBW,O i=some k
def upd (O:Nat→Option Nat) (i:Nat) (x:Option Nat) (j:Nat):Option Nat:=if j=i then x else O j
structure WlM (w:World) (b base:Nat) (mu:Bool) (oa:Option Addr) (m ca n u s:Nat) (O:Nat→Option Nat) (A:List Nat):Prop where
 lt:b<w.heap.size
 fx: ∀p∈zF4 mu oa m ca,w.cell? ⟨b,p.1,none⟩=some p.2
 c16:w.cell? ⟨b,16,none⟩=some (.int .i64 (n:Nat))
 c17:w.cell? ⟨b,17,none⟩=some (.int .i64 (u:Nat))
 c18: ∃t,w.cell? ⟨b,18,none⟩=some (.int .i64 (t:Nat))∧t≤s
 rows: ∀i∈zBW,∃v k cs,w.cell? ⟨b,i,none⟩=some v∧w.ownsRow base (zIw i).1 (zIw i).2 v k cs∧v.ownBlock=O i∧(i=19→k=A.length∧cs=u8s A)∧(i≠19→k≤s)
 dj: ∀i∈zBW,∀j∈zBW,i≠j→O i≠none→O i≠O j
 fz: ∀o,w.frozen? ⟨b,o,none⟩=false
section
variable {w w':World} {b base m ca n u s:Nat} {mu:Bool} {oa:Option Addr} {O:Nat→Option Nat} {A:List Nat}
theorem WlM.c0 (h:WlM w b base mu oa m ca n u s O A):w.cell? ⟨b,0,none⟩=some (.slice oa m ca):=h.fx (0,_) (by simp[zF4])
theorem WlM.c1 (h:WlM w b base mu oa m ca n u s O A):w.cell? ⟨b,1,none⟩=some (.pointer none):=h.fx (1,_) (by simp[zF4])
theorem WlM.c2 (h:WlM w b base mu oa m ca n u s O A):w.cell? ⟨b,2,none⟩=some (.pointer none):=h.fx (2,_) (by simp[zF4])
theorem WlM.c5 (h:WlM w b base mu oa m ca n u s O A):w.cell? ⟨b,5,none⟩=some (.int .i64 0):=h.fx (5,_) (by simp[zF4])
theorem WlM.c7 (h:WlM w b base mu oa m ca n u s O A):w.cell? ⟨b,7,none⟩=some (.int .i64 0):=h.fx (7,_) (by simp[zF4])
theorem WlM.c9 (h:WlM w b base mu oa m ca n u s O A):w.cell? ⟨b,9,none⟩=some (.pointer none):=h.fx (9,_) (by simp[zF4])
theorem WlM.c12 (h:WlM w b base mu oa m ca n u s O A):w.cell? ⟨b,12,none⟩=some (.bool mu):=h.fx (12,_) (by simp[zF4])
theorem WlM.c13 (h:WlM w b base mu oa m ca n u s O A):w.cell? ⟨b,13,none⟩=some (.bool false):=h.fx (13,_) (by simp[zF4])
theorem WlM.c14 (h:WlM w b base mu oa m ca n u s O A):w.cell? ⟨b,14,none⟩=some (.bool false):=h.fx (14,_) (by simp[zF4])
theorem WlM.footLt (h:WlM w b base mu oa m ca n u s O A) {k:Nat} (hk:zGX O k):base≤k∧k<w.heap.size:=by
 obtain⟨i,hi,e⟩:=hk
 obtain⟨v,_,_,_,h2,h3,_⟩:=h.rows i hi
 exact h2.lt k (h3.trans e)
theorem WlM.keep (h:WlM w b base mu oa m ca n u s O A) {S:Nat→Prop} (hk:zAb w w' S) (hS: ∀k,k<w.heap.size→S k→k≠b∧ ¬zGX O k):WlM w' b base mu oa m ca n u s O A:=by
 have hnb: ¬S b:=fun e=>(hS b h.lt e).1 rfl
 have c: ∀o,w'.cell? ⟨b,o,none⟩=w.cell? ⟨b,o,none⟩:=fun o=>hk.cell (p:=⟨b,o,none⟩) h.lt hnb
 refine⟨zMB h.lt hk.size,fun p hp=>(c p.1).trans (h.fx p hp),(c 16).trans h.c16,(c 17).trans h.c17,(by obtain⟨t,e,q⟩:=h.c18;exact⟨t,(c 18).trans e,q⟩),fun i hi=>?_,h.dj,fun o=>(zMD (w:=w) (a:=⟨b,o,none⟩) (hk.block b h.lt hnb)).trans (h.fz o)⟩
 obtain⟨v,k,cs,h1,h2,h3,h4⟩:=h.rows i hi
 exact⟨v,k,cs,(c i).trans h1,hk.row h2 fun x hx e=>(hS x (h2.lt x hx).2 e).2 ⟨i,hi,h3.symm.trans hx⟩,h3,h4⟩
theorem WlM.below (h:WlM w b base mu oa m ca n u s O A) (hb:Below w.heap.size w w'):WlM w' b base mu oa m ca n u s O A:=
 h.keep (zAb.of_below hb (fun k=>w.heap.size≤k) fun _ hj _=>hj) fun k hk e=>absurd hk (by omega)
theorem WlM.num (h:WlM w b base mu oa m ca n u s O A) (hb:b<base) {i:Nat} (hi:i=16∨i=17∨i=18) (v:Value) {W:World} (hW:w.setCell ⟨b,i,none⟩ v=W) {s':Nat} (hs:s≤s'):
  b<W.heap.size∧(∀p∈zF4 mu oa m ca,W.cell? ⟨b,p.1,none⟩=some p.2)∧(∀o,o≠i→W.cell? ⟨b,o,none⟩=w.cell? ⟨b,o,none⟩)∧(∀i∈zBW,∃v k cs,W.cell? ⟨b,i,none⟩=some v∧W.ownsRow base (zIw i).1 (zIw i).2 v k cs∧v.ownBlock=O i∧(i=19→k=A.length∧cs=u8s A)∧(i≠19→k≤s'))∧ ∀o,W.frozen? ⟨b,o,none⟩=false:=by
 subst hW
 have c: ∀o,o≠i→(w.setCell ⟨b,i,none⟩ v).cell? ⟨b,o,none⟩=w.cell? ⟨b,o,none⟩:=fun o ho=>zMQ _ _ _ _ (by intro e;cases e;exact ho rfl)
 have k:=zAb.setCell w ⟨b,i,none⟩ v
 refine⟨zMB h.lt k.size,fun p hp=>(c p.1 ?_).trans (h.fx p hp),c,fun j hj=>?_,fun o=>(World.frozen?_setCell _ _ _ _).trans (h.fz o)⟩
 ·simp only[zF4,List.mem_cons,List.not_mem_nil,or_false]at hp
  rcases hp with rfl|rfl|rfl|rfl|rfl|rfl|rfl|rfl|rfl<;>(simp only;omega)
 ·obtain⟨x,y,cs,h1,h2,h3,h4,h5⟩:=h.rows j hj
  refine⟨x,y,cs,(c j ?_).trans h1,k.row h2 fun z hz e=>by have:=(h2.lt z hz).1;have e':z=b:=e;omega,h3,h4,fun q=>zMV (h5 q) hs⟩
  simp only[zBW,List.mem_cons,List.not_mem_nil,or_false]at hj
  omega
theorem WlM.setN (h:WlM w b base mu oa m ca n u s O A) (hb:b<base) (n':Nat):WlM (w.setCell ⟨b,16,none⟩ (.int .i64 (n':Nat))) b base mu oa m ca n' u s O A:=by
 obtain⟨a1,a2,a3,a4,a5⟩:=h.num hb (i:=16) (by omega) (.int .i64 (n':Nat)) rfl (zMA s)
 obtain⟨t,e,q⟩:=h.c18
 exact⟨a1,a2,zMR _ _ _ h.c16,(a3 17 (by decide)).trans h.c17,⟨t,(a3 18 (by decide)).trans e,q⟩,a4,h.dj,a5⟩
theorem WlM.setU (h:WlM w b base mu oa m ca n u s O A) (hb:b<base) (u':Nat):WlM (w.setCell ⟨b,17,none⟩ (.int .i64 (u':Nat))) b base mu oa m ca n u' s O A:=by
 obtain⟨a1,a2,a3,a4,a5⟩:=h.num hb (i:=17) (by omega) (.int .i64 (u':Nat)) rfl (zMA s)
 obtain⟨t,e,q⟩:=h.c18
 exact⟨a1,a2,(a3 16 (by decide)).trans h.c16,zMR _ _ _ h.c17,⟨t,(a3 18 (by decide)).trans e,q⟩,a4,h.dj,a5⟩
theorem WlM.setS (h:WlM w b base mu oa m ca n u s O A) (hb:b<base) {s' t':Nat} (hs:s≤s') (ht:t'≤s'):WlM (w.setCell ⟨b,18,none⟩ (.int .i64 (t':Nat))) b base mu oa m ca n u s' O A:=by
 obtain⟨a1,a2,a3,a4,a5⟩:=h.num hb (i:=18) (by omega) (.int .i64 (t':Nat)) rfl hs
 obtain⟨t,e,q⟩:=h.c18
 exact⟨a1,a2,(a3 16 (by decide)).trans h.c16,(a3 17 (by decide)).trans h.c17,⟨t',zMR _ _ _ e,ht⟩,a4,h.dj,a5⟩
theorem WlM.mono (h:WlM w b base mu oa m ca n u s O A) {s':Nat} (hs:s≤s'):WlM w b base mu oa m ca n u s' O A:=by
 obtain⟨t,e,q⟩:=h.c18
 refine⟨h.lt,h.fx,h.c16,h.c17,⟨t,e,zMV q hs⟩,fun i hi=>?_,h.dj,h.fz⟩
 obtain⟨v,k,cs,h1,h2,h3,h4,h5⟩:=h.rows i hi
 exact⟨v,k,cs,h1,h2,h3,h4,fun q=>zMV (h5 q) hs⟩
theorem WlM.setRow (h:WlM w b base mu oa m ca n u s O A) (hb:b<base) {i:Nat} (hi:i∈zBW) {W:World} {v v':Value} {k:Nat} {cs:List Value} {A':List Nat} (hc:w.cell? ⟨b,i,none⟩=some v) (hg:w.grownBy W v.ownBlock) (hv:W.ownsRow base (zIw i).1 (zIw i).2 v' k cs) (hn: ∀x,v'.ownBlock=some x→v.ownBlock=some x∨w.heap.size≤x) (hA:i=19→k=A'.length∧cs=u8s A') (hB:i≠19→k≤s+1∧A'=A):
  WlM (W.setCell ⟨b,i,none⟩ v') b base mu oa m ca n u (s+1) (upd O i v'.ownBlock) A'∧zAb w (W.setCell ⟨b,i,none⟩ v') (fun k=>k=b∨zGX O k)∧ ∀k,zGX (upd O i v'.ownBlock) k→zGX O k∨w.heap.size≤k:=by
 obtain⟨v0,k0,cs0,e1,e2,e3,e4,e5⟩:=h.rows i hi
 have hv0:v0=v:=by rw[hc]at e1;exact((zMe e1).symm)
 subst hv0
 have hne:v0.ownBlock≠some b:=fun e=>by have:=(e2.lt b e).1;omega
 have hbl:W.heap[b]?=w.heap[b]?:=hg.block b h.lt (fun e=>hne e.symm)
 have cw: ∀o,W.cell? ⟨b,o,none⟩=w.cell? ⟨b,o,none⟩:=fun o=>zMC hbl
 have kc:zAb W (W.setCell ⟨b,i,none⟩ v') (fun k=>k=b):=zAb.setCell _ _ _
 have c: ∀o,o≠i→(W.setCell ⟨b,i,none⟩ v').cell? ⟨b,o,none⟩=w.cell? ⟨b,o,none⟩:=fun o ho=>(zMQ _ _ _ _ (by intro e;cases e;exact ho rfl)).trans (cw o)
 have hi':=hi
 simp only[zBW,List.mem_cons,List.not_mem_nil,or_false]at hi'
 have hKW:zAb w W (fun k=>zGX O k):=(zAb.of_grown hg).mono fun x _ hx=>⟨i,hi,by rw[←e3];exact hx.symm⟩
 refine⟨⟨zMB h.lt (zMV hg.size kc.size),fun p hp=>(c p.1 ?_).trans (h.fx p hp),(c 16 (by omega)).trans h.c16,(c 17 (by omega)).trans h.c17,(by obtain⟨t,e,q⟩:=h.c18;exact⟨t,(c 18 (by omega)).trans e,Nat.le_succ_of_le q⟩),fun j hj=>?_,fun j hj l hl hjl=>?_,fun o=>(World.frozen?_setCell _ _ _ _).trans ((zMD (w:=w) (a:=⟨b,o,none⟩) hbl).trans (h.fz o))⟩,(hKW.mono fun _ _ e=> .inr e).trans kc fun x _ e=> .inl e,fun x hx=>?_⟩
 ·simp only[zF4,List.mem_cons,List.not_mem_nil,or_false]at hp
  rcases hp with rfl|rfl|rfl|rfl|rfl|rfl|rfl|rfl|rfl<;>(simp only;omega)
 ·by_cases hji:j=i
  ·subst hji
   refine⟨v',k,cs,zMR _ _ _ ((cw j).trans hc),kc.row hv fun x hx e=>by have:=(hv.lt x hx).1;have e':x=b:=e;omega,by simp[upd],hA,fun q=>(hB q).1⟩
  ·obtain⟨x,y,cs',h1,h2,h3,h4,h5⟩:=h.rows j hj
   have hx: ∀z,x.ownBlock=some z→v0.ownBlock≠some z:=fun z hz q=>by
    have q1:O j≠none:=by rw[←h3,hz];simp
    exact h.dj j hj i hi hji q1 (by rw[←h3,←e3,hz,q])
   refine⟨x,y,cs',(c j hji).trans h1,kc.row ((zAb.of_grown hg).row h2 fun z hz e=>hx z hz e.symm) fun z hz e=>by have:=(h2.lt z hz).1;have e':z=b:=e;omega,by simp[upd,hji,h3],fun q=>?_,fun q=>Nat.le_succ_of_le (h5 q)⟩
   have:=hB (fun q2=>hji (q.trans q2.symm))
   rw[this.2];exact h4 q
 ·have old: ∀z∈zBW,∀x,O z=some x→x<w.heap.size:=fun z hz x hx=>(h.footLt ⟨z,hz,hx⟩).2
  unfold upd
  by_cases hji:j=i
  ·rw[if_pos hji,if_neg (fun q=>hjl (hji.trans q.symm))]
   intro q1 q2
   obtain⟨x,hx⟩:=Option.ne_none_iff_exists'.1 q1
   rcases hn x hx with q|q
   ·have:=h.dj i hi l hl (fun z=>hjl (hji.trans z)) (by rw[←e3,q];simp)
    exact this (by rw[←e3,q,←hx,q2])
   ·have:=old l hl x (q2.symm.trans hx);omega
  ·rw[if_neg hji]
   by_cases hli:l=i
   ·rw[if_pos hli]
    intro q1 q2
    obtain⟨x,hx⟩:=Option.ne_none_iff_exists'.1 q1
    have hx2:=q2.symm.trans hx
    rcases hn x hx2 with q|q
    ·exact h.dj j hj i hi hji q1 (by rw[←e3,q,hx])
    ·have:=old j hj x hx;omega
   ·rw[if_neg hli]
    exact h.dj j hj l hl hjl
 ·obtain⟨j,hj,hx⟩:=hx
  unfold upd at hx
  by_cases hji:j=i
  ·rw[if_pos hji]at hx
   rcases hn x hx with q|q
   ·exact .inl ⟨i,hi,by rw[←e3];exact q⟩
   ·exact .inr q
  ·rw[if_neg hji]at hx
   exact .inl ⟨j,hj,hx⟩
end
end
section
open Go.RowKit
theorem zK9:ElT Tryz.prog 47 367 3 48 (.agg #[.int .i64 0,.string ⟨#[]⟩,.slice none 0 0]):=⟨Tryz.underlying47,by kernel_rfl,rfl,by decide⟩
theorem zLU:ElT Tryz.prog 27 46 1 24 (.slice none 0 0):=⟨Tryz.underlying27,by kernel_rfl,rfl,by decide⟩
section
variable {w w':World} {b base m ca n u s:Nat} {mu:Bool} {oa:Option Addr} {O:Nat→Option Nat} {A:List Nat}
theorem Src.keep {v:Value} {k:Nat} {xs:List Value} (h:Src w v k xs) {S:Nat→Prop} (hk:zAb w w' S) (hS: ∀x,v.ownBlock=some x→ ¬S x):Src w' v k xs:=by
 rcases h with h|⟨a,c,h,hj⟩
 ·exact .inl h
 ·subst h
  exact .inr ⟨a,c,rfl,fun j u hu=>by
   have hc:=hj j u hu
   have e:(a.add j).block=a.block:=by unfold Addr.add;split<;>rfl
   exact(hk.cell (zMf w _ hc) (by rw[e];exact hS _ rfl)).trans hc⟩
structure zCw (w w':World) (b:Nat) (O O':Nat→Option Nat):Prop where
 kept:zAb w w' (fun k=>k=b∨zGX O k)
 grow: ∀k,zGX O' k→zGX O k∨w.heap.size≤k
theorem zCw.refl (w:World) (b:Nat) (O:Nat→Option Nat):zCw w w b O O:=⟨zAb.refl _ _,fun _ h=> .inl h⟩
theorem zCw.trans {w1:World} {O1 O2:Nat→Option Nat} (h:zCw w w1 b O O1) (h2:zCw w1 w' b O1 O2):zCw w w' b O O2:=
 ⟨h.kept.trans h2.kept fun k hk e=>e.elim .inl fun f=>(h.grow k f).elim .inr fun g=>absurd hk (by omega),fun k hk=>(h2.grow k hk).elim (fun f=>h.grow k f) fun g=> .inr (zMV h.kept.size g)⟩
theorem zCw.then (h:zCw w w' b O O) {w2:World} (hb:Below w'.heap.size w' w2):zCw w w2 b O O:=
 ⟨h.kept.trans (zAb.of_below hb (fun _=>False) fun j hj hj2=>absurd hj2 (by omega)) fun _ _ e=>e.elim,h.grow⟩
theorem zCw.below {O':Nat→Option Nat} (h:zCw w w' b O O') {w2:World} (hb:Below w'.heap.size w' w2):zCw w w2 b O O':=
 ⟨h.kept.trans (zAb.of_below hb (fun _=>False) fun j hj hj2=>absurd hj2 (by omega)) fun _ _ e=>e.elim,h.grow⟩
theorem zCw.set (w:World) (b:Nat) (O:Nat→Option Nat) (i:Nat) (v:Value):zCw w (w.setCell ⟨b,i,none⟩ v) b O O:=⟨(zAb.setCell w ⟨b,i,none⟩ v).mono fun _ _ e=> .inl e,fun _ h=> .inl h⟩
theorem WlM.grew (h:WlM w b base mu oa m ca n u s O A) (hb:b<base) {i:Nat} (hi:i∈zBW) {v v2:Value} (q:w.cell? ⟨b,i,none⟩=some v) {k:Nat} {cs:List Value} {A':List Nat} (hg:w.grownBy w' v.ownBlock) (ho:w'.ownsRow base (zIw i).1 (zIw i).2 v2 k cs) (hor:v2.ownBlock=v.ownBlock∨v2.ownBlock=some w.heap.size) (hA:i=19→k=A'.length∧cs=u8s A') (hB:i≠19→k≤s+1∧A'=A):
  Hid (WlM (w'.setCell ⟨b,i,none⟩ v2) b base mu oa m ca n u (s+1) (upd O i v2.ownBlock) A')∧Hid (zCw w (w'.setCell ⟨b,i,none⟩ v2) b O (upd O i v2.ownBlock))∧w'.cell? ⟨b,i,none⟩=some v∧w'.frozen? ⟨b,i,none⟩=false∧b<w'.heap.size:=by
 have hr:=h.setRow hb hi q hg ho (fun x hx=>hor.imp (fun e=>e.symm.trans hx) fun e=>Nat.le_of_eq (zMe (e.symm.trans hx))) hA hB
 obtain⟨v',k',cs',e1,e2,_⟩:=h.rows i hi
 cases q.symm.trans e1
 have hbl:w'.heap[b]?=w.heap[b]?:=hg.block b h.lt fun e=>by have:=(e2.lt b e.symm).1;omega
 exact⟨zL8 hr.1,zL8 ⟨hr.2.1,hr.2.2⟩,(zMC (a:=⟨b,i,none⟩) hbl).trans q,(zMD (a:=⟨b,i,none⟩) hbl).trans (h.fz i),zMB h.lt hg.size⟩
theorem zDV (h:WlM w b base mu oa m ca n u s O A) (hb:b<base) (hbw:base≤w.heap.size) (hs:s≤1099511627776) {kind:Int} (hki:kind=0∨kind=1) (name:ByteArray) {ob:Option Addr} {cb:Nat} {T:List Nat} (ht:Src w (.slice ob T.length cb) T.length (u8s T)) (hl:T.length≤1099511627776) (hx: ∀x,(Value.slice ob T.length cb).ownBlock=some x→x≠b):
  Calls Tryz.prog 295 #[.pointer (some ⟨b,0,none⟩),.int .i64 kind,.string name,.slice ob T.length cb] w fun e w'=>e= .returned (.tuple #[])∧ ∃O',WlM w' b base mu oa m ca n u (s+3+T.length) O' A∧zCw w w' b O O':=by
 have H:=zL8 h
 have HBB:=zL8 hb
 have HBW:=zL8 hbw
 have HKI:=zL8 hki
 have HT:=zL8 ht
 have HS:=zL8 hs
 have HL:=zL8 hl
 obtain⟨t,c18,ht18⟩:=h.c18
 have HT18:=zL8 ht18
 have y0:(t:Int)≤1099511627776:=by omega
 clear ht18
 have z18:=h.fz 18
 have hlt:=h.lt
 have c12:=h.c12
 have y1:(s:Int)≤1099511627776:=by omega
 have y2:(T.length:Int)≤1099511627776:=by omega
 have HX:=zL8 hx
 clear h hb hbw hs hl ht hx hki
 go_enter Tryz.func295,Tryz.ntmps295
 cases mu
 case true=>
  go_wp2_with fail
  refine zMi (results_none rfl _ _ _) rfl ?_
  rw[show(t:Int)+1+(T.length:Int)=((t+1+T.length:Nat):Int)by omega]
  exact⟨rfl,O,(H.out.setS HBB.out (s':=s+1+T.length) (t':=t+1+T.length) (by omega) (by have:=HT18.out;omega)).mono (by omega),zCw.set _ _ _ _ _⟩
 go_upto_region 2 with fail
 rw[show(t:Int)+1+(T.length:Int)=((t+1+T.length:Nat):Int)by omega]
 have H1:=zL8 (H.out.setS HBB.out (s':=s+1+T.length) (t':=t+1+T.length) (by omega) (by have:=HT18.out;omega))
 have HA1:=zL8 (zCw.set w b O 18 (.int .i64 ((t+1+T.length:Nat):Int)))
 have HT1:=zL8 (HT.out.keep (zAb.setCell w ⟨b,18,none⟩ (.int .i64 ((t+1+T.length:Nat):Int))) fun x hx e=>HX.out x hx e)
 obtain⟨v21,k21,cs21,q1,q2,q3,_,q5⟩:=H.out.rows 21 (by simp[zBW])
 have Q1:=zL8 ((zMQ w ⟨b,18,none⟩ ⟨b,21,none⟩ (.int .i64 ((t+1+T.length:Nat):Int)) (by intro e;cases e)).trans q1)
 have Q2:=zL8 ((zAb.setCell w ⟨b,18,none⟩ (.int .i64 ((t+1+T.length:Nat):Int))).row q2 fun z hz e=>by have:=(q2.lt z hz).1;have:=HBB.out;have e':z=b:=e;omega)
 have Q3:=zL8 q3
 have Q5:=zL8 (q5 (by decide))
 clear q1 q2 q3 q5
 obtain⟨W,hW⟩: ∃W,w.setCell ⟨b,18,none⟩ (.int .i64 ((t+1+T.length:Nat):Int))=W:=⟨_,rfl⟩
 rw[hW]at H1 HA1 HT1 Q1 Q2 ⊢
 clear hW c18 z18 hlt c12
 have hbd:Below W.heap.size W W.drew:=(zL9 _ _).drew
 have HC:=zL8 (zBh (HT1.out.below hbd) (by have:=HL.out;omega))
 have HAD:=zL8 (HA1.out.then hbd)
 have HHD:=zL8 (H1.out.below hbd)
 have HTD:=zL8 (HT1.out.below hbd)
 have q1:=Q1.out
 have Q2:=zL8 (zAK (w':=W.drew) Q2.out fun k hk=>rfl)
 have z21:=H1.out.fz 21
 have hlt:=H1.out.lt
 clear hbd
 refine zAA (X:=none) 11 [([0,1,2,3,4,5,6,7],8),([9],10)] [] (by kernel_rfl) (by kernel_rfl) rfl (fun _ _ _ _ _ h=>h) ?_
 simp only[zAJ,zAC,zAG,zAD,zAB,List.getD_cons_zero,List.getD_cons_succ,List.drop_succ_cons,List.drop_zero]
 repeat (go_big_quiet_step (fail))
 refine wpQuiet_nil ?_
 go_wp2_with fail
 refine HC.out.mono ?_;rintro e w1 ⟨⟨vT,rfl,hoT⟩,hb1⟩
 obtain⟨oT,cT,rfl⟩:=zAI hoT
 have HB1:=zL8 hb1
 have HH1:=zL8 (HHD.out.below hb1)
 have HT2:=zL8 (HTD.out.below hb1)
 have HA2:=zL8 (HAD.out.then hb1)
 have HO1:=zL8 (zAK Q2.out fun k hk=>hb1.block k (Q2.out.lt k hk).2)
 have HQ1:=zL8 ((hb1.cell (p:=⟨b,21,none⟩) hlt).trans q1)
 dsimp only
 go_wp2_with fail
 refine⟨zAP.of_below hb1,?_⟩
 repeat (go_big_quiet_step (fail))
 refine wpQuiet_nil ?_
 go_wp2_with fail
 refine⟨zA5 _ _,?_⟩
 repeat (go_big_quiet_step (fail))
 refine wpQuiet_nil ?_
 clear hoT hb1 q1 z21 hlt
 have hba:Below w1.heap.size w1 (w1.alloc (.cells #[.int .i64 kind,.string name,.slice oT T.length cT] 367)):=(zL9 _ _).alloc (zMA _) _
 have HHA:=zL8 (HH1.out.below hba)
 have HTA:=zL8 (HT2.out.below hba)
 have HAA:=zL8 (HA2.out.then hba)
 have HQA:=zL8 ((hba.cell (p:=⟨b,21,none⟩) HH1.out.lt).trans HQ1.out)
 clear hba
 go_wp2_with (at_builtin;refine zAN zK9 rfl _ _ rfl base (n:=k21) (m:=1) (news:=[.int .i64 kind,.string name,.slice oT T.length cT]) rfl (zAK HO1.out fun k hk=>zMM _ _ (HO1.out.lt k hk).2) rfl (Src.new w1 [.int .i64 kind,.string name,.slice oT T.length cT] _ _ _) rfl (by simp[Value.oneCell']) (by have:=Q5.out;have:=HS.out;unfold maxLen;omega) (by have:=Q5.out;have:=HS.out;omega) (by have:=HB1.out.size;have:=HBW.out;have:=HAD.out.kept.size;simp;omega) ?_)
 intro v2 w2 ho2 hg2 hor2
 obtain⟨o2,k2,rfl⟩:=zAI ho2
 obtain⟨HH3,HAX,c21,z21,hlt⟩:=HHA.out.grew HBB.out (i:=21) (by simp[zBW]) HQA.out hg2 ho2 (hor2.imp id fun e=>e.trans (by simp)) (A':=A) (fun e=>by cases e) (fun _=>⟨by have:=Q5.out;omega,rfl⟩)
 have HA3:=zL8 (HAA.out.trans HAX.out)
 clear ho2 hg2 hor2 HAX HC HT1 HQ1 HHA HAA HQA HTA HO1 HT2 HH1 HHD HAD HTD Q2 Q1 H1 HA1
 go_upto_region 3 with fail
 obtain⟨V,hV⟩: ∃V,w2.setCell ⟨b,21,none⟩ (.slice o2 (k21+1) k2)=V:=⟨_,rfl⟩
 rw[hV]at HH3 HA3 ⊢
 clear hV c21 z21 hlt
 rcases HKI.out with rfl|rfl
 ·go_wp2_with fail
  go_end0
  exact⟨rfl,_,HH3.out.mono (by omega),HA3.out⟩
 obtain⟨v22,k22,cs22,q1,q2,q3,_,q5⟩:=HH3.out.rows 22 (by simp[zBW])
 have Q5:=zL8 (q5 (by decide))
 have Q22:=zL8 q2
 have Q1:=zL8 q1
 have Q3:=zL8 q3
 obtain⟨o22,c22,rfl⟩:=zAI q2
 have z22:=HH3.out.fz 22
 have hlt:=HH3.out.lt
 clear q2 q3 q5
 have hba:Below V.heap.size V (V.alloc (.cells #[.slice ob T.length cb] 46)):=(zL9 _ _).alloc (zMA _) _
 have HHA:=zL8 (HH3.out.below hba)
 have HAA:=zL8 (HA3.out.below hba)
 have HQA:=zL8 ((hba.cell (p:=⟨b,22,none⟩) HH3.out.lt).trans q1)
 clear hba
 go_wp2_with (at_builtin;refine zAN zLU rfl _ _ rfl base (n:=k22) (m:=1) (news:=[.slice ob T.length cb]) rfl (zAK Q22.out fun k hk=>zMM _ _ (Q22.out.lt k hk).2) rfl (Src.new V [.slice ob T.length cb] _ _ _) rfl (by simp[Value.oneCell']) (by have:=Q5.out;have:=HS.out;unfold maxLen;omega) (by have:=Q5.out;have:=HS.out;omega) (by have:=HBW.out;have:=HA3.out.kept.size;simp;omega) ?_)
 intro v4 w4 ho4 hg4 hor4
 obtain⟨o4,k4,rfl⟩:=zAI ho4
 obtain⟨HH5,HAX,c22,z22,hlt⟩:=HHA.out.grew HBB.out (i:=22) (by simp[zBW]) HQA.out hg4 ho4 (hor4.imp id fun e=>e.trans (by simp)) (A':=A) (fun e=>by cases e) (fun _=>⟨by have:=Q5.out;omega,rfl⟩)
 have HA5:=zL8 (HAA.out.trans HAX.out)
 clear ho4 hg4 hor4 HAX HHA HAA HQA
 go_wp2_with fail
 go_end0
 exact⟨rfl,_,HH5.out.mono (by omega),HA5.out⟩
end
end
section
open Go.RowKit
section
variable {w w':World} {b base m ca n u s:Nat} {mu:Bool} {oa:Option Addr} {O:Nat→Option Nat} {A:List Nat}
theorem WlM.foot1 (h:WlM w b base mu oa m ca n u s O A) {w1:World} {O':Nat→Option Nat} (ha:zCw w1 w' b O O') {g k:Nat} {T:List Nat} (hg:zAt w1 w.heap.size g k T):zAt w' w.heap.size g k T:=by
 have:=hg.lt
 refine hg.block (ha.kept.block g this.2 fun e=>?_)
 rcases e with e|e
 ·have:=h.lt;omega
 ·have:=(h.footLt e).2;omega
theorem zHJ (h:WlM w b base mu oa m ca n u s O A) (hb:b<base) (hbw:base≤w.heap.size) (hmu:mu=false→s<500) {ob:Option Addr} {cb:Nat} {T:List Nat} (ht:BtM w ob T) (hl:T.length≤140737488355328):
  Calls Tryz.prog 301 #[.pointer (some ⟨b,0,none⟩),.slice ob T.length cb] w fun e w'=>(∃g,e= .returned (.slice (some ⟨g,0,none⟩) T.length (T.length+64))∧zAt w' w.heap.size g T.length T)∧ ∃O',WlM w' b base mu oa m ca n u (s+2) O' A∧zCw w w' b O O':=by
 have HX:=zL8 (zCn (cap:=cb) ht hl)
 have H:=zL8 h
 have HBB:=zL8 hb
 have HBW:=zL8 hbw
 have HMU:=zL8 hmu
 clear h ht hl hmu hb hbw
 go_enter Tryz.func301,Tryz.ntmps301
 go_wp2_with fail
 refine HX.out.mono ?_;rintro e w1 ⟨⟨g,rfl,hw⟩,hb⟩
 have HW:=zL8 hw
 have HB:=zL8 hb
 have H1:=zL8 (H.out.below hb)
 have HA1:=zL8 ((zCw.refl w b O).below hb)
 clear hw hb HX
 have c12:=H1.out.c12
 have hlt:=H1.out.lt
 cases mu
 case true=>
  go_wp2_with fail
  go_ret
  exact⟨⟨g,rfl,HW.out⟩,O,H1.out.mono (by omega),HA1.out⟩
 have HS5:Hid (s<500):=zL8 (HMU.out rfl)
 clear HMU
 obtain⟨v23,k23,cs23,q1,q2,q3,_,q5⟩:=H1.out.rows 23 (by simp[zBW])
 have Q5:=zL8 (q5 (by decide))
 have Q2:=zL8 q2
 have hk:(k23:Int)<1000:=by have:=q5 (by decide);have:=HS5.out;omega
 have hk':k23<1000:=by omega
 obtain⟨o23,c23,rfl⟩:=zAI q2
 have z23:=H1.out.fz 23
 have hba:Below w1.heap.size w1 (w1.alloc (.cells #[.slice (some ⟨g,0,none⟩) T.length (T.length+64)] 46)):=(zL9 _ _).alloc (zMA _) _
 have HHA:=zL8 (H1.out.below hba)
 have HQA:=zL8 ((hba.cell (p:=⟨b,23,none⟩) H1.out.lt).trans q1)
 have HBA:=zL8 hba
 clear hba q2 q3 q5
 go_wp2_with (at_builtin;refine zAN zLU rfl _ _ rfl base (n:=k23) (m:=1) (news:=[.slice (some ⟨g,0,none⟩) T.length (T.length+64)]) rfl (zAK Q2.out fun k hk=>zMM _ _ (Q2.out.lt k hk).2) rfl (Src.new w1 [.slice (some ⟨g,0,none⟩) T.length (T.length+64)] _ _ _) rfl (by simp[Value.oneCell']) (by unfold maxLen;omega) (by omega) (by have:=HBW.out;have:=HB.out.size;simp;omega) ?_)
 intro v2 w2 ho2 hg2 hor2
 obtain⟨o2,k2,rfl⟩:=zAI ho2
 obtain⟨HH3,HAX,c23,z23,hlt⟩:=HHA.out.grew HBB.out (i:=23) (by simp[zBW]) HQA.out hg2 ho2 (hor2.imp id fun e=>e.trans (by simp)) (A':=A) (fun e=>by cases e) (fun _=>⟨by have:=Q5.out;omega,rfl⟩)
 have HW3:=zL8 (H.out.foot1 HAX.out (HW.out.below HBA.out))
 have HG3:Hid (¬zGX (upd O 23 (Value.slice o2 (k23+1) k2).ownBlock) g):=zL8 (fun e=>(HAX.out.grow g e).elim (fun f=>by have:=(H.out.footLt f).2;have:=HW.out.lt;omega) (fun f=>by have:=HW.out.lt;have:=HBA.out.size;omega))
 have HA3:=zL8 ((HA1.out.below HBA.out).trans HAX.out)
 clear ho2 hg2 hor2 HHA HQA HBA HAX Q5 Q2 H1 hk hk' c12
 go_upto_region 4 with fail
 obtain⟨V,hV⟩: ∃V,w2.setCell ⟨b,23,none⟩ (.slice o2 (k23+1) k2)=V:=⟨_,rfl⟩
 rw[hV]at HH3 HA3 HW3 ⊢
 clear hV c23 z23 hlt
 obtain⟨v24,k24,cs24,q1,q2,q3,_,q5⟩:=HH3.out.rows 24 (by simp[zBW])
 have Q5:=zL8 (q5 (by decide))
 have HK24:Hid (k24<1000):=zL8 (by have:=q5 (by decide);have:=HS5.out;omega)
 have Q2:=zL8 q2
 obtain⟨o24,c24,rfl⟩:=zAI q2
 have z24:=HH3.out.fz 24
 have hlt:=HH3.out.lt
 have hba:Below V.heap.size V (V.alloc (.cells #[.slice ob T.length cb] 46)):=(zL9 _ _).alloc (zMA _) _
 have HHA:=zL8 (HH3.out.below hba)
 have HQA:=zL8 ((hba.cell (p:=⟨b,24,none⟩) HH3.out.lt).trans q1)
 have HBA:=zL8 hba
 clear hba q2 q3 q5
 go_wp2_with (at_builtin;refine zAN zLU rfl _ _ rfl base (n:=k24) (m:=1) (news:=[.slice ob T.length cb]) rfl (zAK Q2.out fun k hk=>zMM _ _ (Q2.out.lt k hk).2) rfl (Src.new V [.slice ob T.length cb] _ _ _) rfl (by simp[Value.oneCell']) (by have:=HK24.out;unfold maxLen;omega) (by have:=HK24.out;omega) (by have:=HBW.out;have:=HA3.out.kept.size;simp;omega) ?_)
 intro v4 w4 ho4 hg4 hor4
 obtain⟨o4,k4,rfl⟩:=zAI ho4
 obtain⟨HH5,HAX,c24,z24,hlt⟩:=HHA.out.grew HBB.out (i:=24) (by simp[zBW]) HQA.out hg4 ho4 (hor4.imp id fun e=>e.trans (by simp)) (A':=A) (fun e=>by cases e) (fun _=>⟨by have:=Q5.out;omega,rfl⟩)
 have HA5:=zL8 ((HA3.out.below HBA.out).trans HAX.out)
 have HW5:Hid (zAt (w4.setCell ⟨b,24,none⟩ (.slice o4 (k24+1) k4)) w.heap.size g T.length T):=zL8 (by
  have hw:=HW3.out.below HBA.out
  refine hw.block (HAX.out.kept.block g hw.lt.2 fun e=>?_)
  rcases e with e|e
  ·have:=H.out.lt;have:=hw.lt;omega
  ·exact HG3.out e)
 clear ho4 hg4 hor4 HAX HHA HQA
 go_wp2_with fail
 go_ret
 exact⟨⟨g,rfl,HW5.out⟩,_,HH5.out,HA5.out⟩
end
end
section
open Go.RowKit
section
variable {w w':World} {b base m ca n u s:Nat} {mu:Bool} {oa:Option Addr} {O:Nat→Option Nat} {A X:List Nat}
theorem zIL (h:WlM w b base mu oa m ca n u s O A) (hb:b<base) (hbw:base≤w.heap.size) (hs:s≤1099511627776) (hm:m≤n):
  Calls Tryz.prog 292 #[.pointer (some ⟨b,0,none⟩)] w fun e w'=>e= .returned (.tuple #[.slice none 0 0,.bool false])∧ ∃O',WlM w' b base mu oa m ca n u (s+3) O' A∧zCw w w' b O O':=by
 have HX:=zL8 (zDV h hb hbw hs (.inl rfl) ⟨#[]⟩ (T:=[]) (Src.nil w) (by decide) (fun x hx=>by cases hx))
 have hm':(m:Int)≤(n:Int):=by omega
 clear h hb hbw hs hm
 go_enter Tryz.func292,Tryz.ntmps292
 go_wp2_with fail
 refine HX.out.mono ?_;rintro e w1 ⟨rfl,O1,hw,hk⟩
 have HW:Hid (WlM w1 b base mu oa m ca n u (s+3) O1 A):=zL8 hw
 have HK:=zL8 hk
 have c1:=hw.c1
 have c0:=hw.c0
 have c16:=hw.c16
 have hlt:=hw.lt
 clear hw hk HX
 go_upto_region 4 with fail
 refine zAA (X:=none) 10 [] [0,1,2,3,4,5,6,7,8,9] (by kernel_rfl) (by kernel_rfl) rfl (fun _ _ _ _ _ h=>h) ?_
 simp only[zAJ,zAC,zAD,zAB,List.getD_cons_zero,List.getD_cons_succ,List.drop_succ_cons,List.drop_nil]
 repeat (go_big_quiet_step (fail))
 refine wpQuiet_nil ?_
 go_wp2_with fail
 go_ret2
 exact⟨rfl,O1,HW.out.below (zL9 _ _).drew,HK.out.below (zL9 _ _).drew⟩
def LnB (w:World) (B:Nat) (oa:Option Addr) (LL:List Lin):Prop:=
 0<LL.length→ ∃nb no,oa=some ⟨nb,no,none⟩∧nb<B∧ ∀i l,LL[i]?=some l→w.cell? ⟨nb,no+i,none⟩=some (.slice l.ob l.T.length l.cb)∧l.T.length≤140737488355328∧(0<l.T.length→ ∃g o,l.ob=some ⟨g,o,none⟩∧g<B∧ ∀j c,l.T[j]?=some c→w.cell? ⟨g,o+j,none⟩=some (.int .u8 (c:Nat)))
theorem LnB.below {B:Nat} {LL:List Lin} (h:LnB w B oa LL) (hb:Below B w w'):LnB w' B oa LL:=fun hp=>by
 obtain⟨nb,no,h1,h2,h3⟩:=h hp
 refine⟨nb,no,h1,h2,fun i l hl=>?_⟩
 obtain⟨e1,e2,e3⟩:=h3 i l hl
 refine⟨(hb.cell (p:=⟨nb,no+i,none⟩) h2).trans e1,e2,fun hq=>?_⟩
 obtain⟨g,o,q1,q2,q3⟩:=e3 hq
 exact⟨g,o,q1,q2,fun j c hj=>(hb.cell (p:=⟨g,o+j,none⟩) q2).trans (q3 j c hj)⟩
theorem zIK {B:Nat} (h:WlM w b base mu oa m ca n u s O A) (hb:b<base) (hbw:base≤w.heap.size) (hB:B≤b) (hs:s≤1099511627776) (hmu:mu=false→s<450) (hm:n<m) (hmz:m≤4611686018427387903) {LL:List Lin} (hL:LnB w B oa LL) {l:Lin} (hl:LL[n]?=some l):
  Calls Tryz.prog 292 #[.pointer (some ⟨b,0,none⟩)] w fun e w'=>(∃g,e= .returned (.tuple #[.slice (some ⟨g,0,none⟩) l.T.length (l.T.length+64),.bool true])∧zAt w' w.heap.size g l.T.length l.T)∧ ∃O',WlM w' b base mu oa m ca (n+1) u (s+5) O' A∧zCw w w' b O O':=by
 have HX:=zL8 (zDV h hb hbw hs (.inl rfl) ⟨#[]⟩ (T:=[]) (Src.nil w) (by decide) (fun x hx=>by cases hx))
 have HM:=zL8 hmu
 have HBW:=zL8 hbw
 have HO:Hid (∀k,zGX O k→base≤k∧k<w.heap.size):=zL8 fun _=>h.footLt
 have HL:=zL8 hL
 have HLL:=zL8 hl
 have HBB:=zL8 hb
 have HB:=zL8 hB
 have HLT:=zL8 h.lt
 have hm':(n:Int)<(m:Int):=by omega
 have hn2:(n:Int)≤4611686018427387903:=by omega
 clear h hb hbw hmu hB hs hm hmz hL hl
 go_enter Tryz.func292,Tryz.ntmps292
 go_wp2_with fail
 refine HX.out.mono ?_;rintro e w1 ⟨rfl,O1,hw,hk⟩
 have HW:Hid (WlM w1 b base mu oa m ca n u (s+3) O1 A):=zL8 hw
 have HK:=zL8 hk
 have c1:=hw.c1
 have c0:=hw.c0
 have c16:=hw.c16
 have hlt:=hw.lt
 clear hw hk HX
 go_upto_region 4 with fail
 refine zAA (X:=none) 10 [] [0,1,2,3,4,5,6,7,8,9] (by kernel_rfl) (by kernel_rfl) rfl (fun _ _ _ _ _ h=>h) ?_
 simp only[zAJ,zAC,zAD,zAB,List.getD_cons_zero,List.getD_cons_succ,List.drop_succ_cons,List.drop_nil]
 repeat (go_big_quiet_step (fail))
 refine wpQuiet_nil ?_
 clear c1 c0 c16
 have HW2:=zL8 (HW.out.below (zL9 _ _).drew)
 have HK2:=zL8 (HK.out.below (zL9 _ _).drew)
 obtain⟨W,hW⟩: ∃W,w1.drew=W:=⟨_,rfl⟩
 rw[hW]at HW2 HK2 ⊢
 clear hW hlt HW HK
 have c16:=HW2.out.c16
 have z16:=HW2.out.fz 16
 have hlt:=HW2.out.lt
 go_upto_region 7 with fail
 rw[show(n:Int)+1=((n+1:Nat):Int)by omega]
 have HW3:=zL8 (HW2.out.setN HBB.out (n+1))
 have HK3:=zL8 (HK2.out.trans (zCw.set W b O1 16 (.int .i64 ((n+1:Nat):Int))))
 obtain⟨V,hV⟩: ∃V,W.setCell ⟨b,16,none⟩ (.int .i64 ((n+1:Nat):Int))=V:=⟨_,rfl⟩
 rw[hV]at HW3 HK3 ⊢
 clear hV c16 z16 hlt HW2 HK2
 have hbe:Below B w V:=HK3.out.kept.below (by have:=HB.out;have:=HLT.out;omega) fun j hj e=>by have:=HB.out;exact e.elim (fun e=>by omega) fun e=>by have:=(HO.out _ e).1;have:=HBB.out;omega
 have hn:n<LL.length:=(zMF.1 HLL.out).1
 obtain⟨nb,no,hoa,hnb,hcell⟩:=(HL.out.below hbe) (by omega)
 obtain⟨e1,e2,e3⟩:=hcell n l HLL.out
 have hbt:BtM V.drew l.ob l.T:=fun hq=>by
  obtain⟨g,o,q1,q2,q3⟩:=e3 hq
  exact⟨g,o,q1,by have:=HW3.out.lt;have:=HB.out;show g<V.heap.size;omega,q3⟩
 have HLE:=zL8 (zHJ (HW3.out.below (zL9 _ _).drew) HBB.out (zMV HBW.out HK3.out.kept.size) (fun q=>by have:=HM.out q;omega) (cb:=l.cb) hbt e2)
 have c0:=HW3.out.c0
 have c16:=HW3.out.c16
 rw[hoa]at c0
 have hlt:=HW3.out.lt
 have hnl:nb<V.heap.size:=by have:=HB.out;omega
 have hk1:((n+1:Nat):Int) - 1=(n:Int):=by omega
 clear hbe hcell e3 hbt hn
 refine zAA (X:=none) 12 [] [0,1,2,3,4,5,6,7,8,9,10,11] (by kernel_rfl) (by kernel_rfl) rfl (fun _ _ _ _ _ h=>h) ?_
 simp only[zAJ,zAC,zAD,zAB,List.getD_cons_zero,List.getD_cons_succ,List.drop_succ_cons,List.drop_zero]
 repeat (go_big_quiet_step (fail))
 refine wpQuiet_nil ?_
 go_wp2_with fail
 refine HLE.out.mono ?_;rintro e w9 ⟨⟨g,rfl,hw9⟩,O9,hh9,hb9⟩
 have HH9:=zL8 hh9
 have HW9:=zL8 hw9
 have HB9:=zL8 hb9
 clear hw9 hb9 hh9
 go_wp2_with fail
 go_ret2
 exact⟨⟨g,rfl,⟨HW9.out.1,zAH HW9.out.2 HK3.out.kept.size⟩⟩,O9,HH9.out,(HK3.out.below (zL9 _ _).drew).trans HB9.out⟩
theorem zHl (h:WlM w b base mu oa m ca n u s O A) (hu:1≤u):
  Calls Tryz.prog 296 #[.pointer (some ⟨b,0,none⟩)] w fun e w'=>e= .returned (.int .i64 0)∧Below w.heap.size w w':=by
 have H:=zL8 h
 have c17:=h.c17
 have c5:=h.c5
 have hlt:=h.lt
 have q:((u:Int)==0)=false:=zME.2 (by omega)
 clear h
 go_enter Tryz.func296,Tryz.ntmps296
 go_upto_region 1 with fail
 refine zAA (X:=none) 9 [] [0,1,2,3,4,5,6,7,8] (by kernel_rfl) (by kernel_rfl) rfl (fun _ _ _ _ _ h=>h) ?_
 simp only[zAJ,zAC,zAD,zAB,List.getD_cons_zero,List.getD_cons_succ,List.drop_succ_cons,List.drop_nil]
 repeat (go_big_quiet_step (fail))
 refine wpQuiet_nil ?_
 clear c17 c5 hlt
 have hb1:Below w.heap.size w w.drew:=(zL9 _ _).drew
 have H1:=zL8 (H.out.below hb1)
 have HB1:=zL8 hb1
 obtain⟨W,hW⟩: ∃W,w.drew=W:=⟨_,rfl⟩
 rw[hW]at H1 HB1 ⊢
 clear hW hb1
 have c7:=H1.out.c7
 obtain⟨t18,c18,_⟩:=H1.out.c18
 have hlt:=H1.out.lt
 go_upto_region 3 with fail
 refine zAA (X:=none) 16 [] [0,1,2,3,4,5,6,7,8,9,10,11,12,13,14,15] (by kernel_rfl) (by kernel_rfl) rfl (fun _ _ _ _ _ h=>h) ?_
 simp only[zAJ,zAC,zAD,zAB,List.getD_cons_zero,List.getD_cons_succ,List.drop_succ_cons,List.drop_nil]
 repeat (go_big_quiet_step (fail))
 refine wpQuiet_nil ?_
 go_wp2_with fail
 go_ret
 exact⟨rfl,HB1.out.drew⟩
theorem zGi (h:WlM w b base mu oa m ca n u s O A):
  Calls Tryz.prog 291 #[.pointer (some ⟨b,0,none⟩)] w fun e w'=>e= .returned (.int .i64 (n:Nat))∧w=w':=by
 have c1:=h.c1
 have c16:=h.c16
 have hlt:=h.lt
 clear h
 go_enter Tryz.func291,Tryz.ntmps291
 go_wp2_with fail
 go_ret
 exact⟨rfl,rfl⟩
structure QuE (w:World) (b:Nat):Prop where
 lt:b<w.heap.size
 c0:w.cell? ⟨b,0,none⟩=some (.bool true)
 c1:w.cell? ⟨b,1,none⟩=some (.slice none 0 0)
 fz: ∀o,w.frozen? ⟨b,o,none⟩=false
theorem QuE.below {b:Nat} (h:QuE w b) (hb:Below w.heap.size w w'):QuE w' b:=
 ⟨zMB h.lt hb.size,(hb.cell (p:=⟨b,0,none⟩) h.lt).trans h.c0,(hb.cell (p:=⟨b,1,none⟩) h.lt).trans h.c1,fun o=>(zMD (w:=w) (a:=⟨b,o,none⟩) (hb.block b h.lt)).trans (h.fz o)⟩
theorem zHR {b:Nat} (h:QuE w b) (f g:Value):
  Calls Tryz.prog 140 #[.pointer (some ⟨b,0,none⟩),f,g] w fun e w'=>e= .returned (.int .i64 0)∧QuE w' b∧zAb w w' (fun k=>k=b):=by
 have H:=zL8 h
 have c0:=h.c0
 have c1:=h.c1
 have z1:=h.fz 1
 have hlt:=h.lt
 clear h
 go_enter Tryz.func140,Tryz.ntmps140
 go_wp2_with fail
 have hk:zAb w (w.setCell ⟨b,1,none⟩ (.slice none 0 0)) (fun k=>k=b):=zAb.setCell _ _ _
 have HK:=zL8 hk
 have HQ:Hid (QuE (w.setCell ⟨b,1,none⟩ (.slice none 0 0)) b):=zL8 ⟨zMB H.out.lt hk.size,(zMQ _ _ _ _ (by intro e;cases e)).trans H.out.c0,zMR _ _ _ H.out.c1,fun o=>(World.frozen?_setCell _ _ _ _).trans (H.out.fz o)⟩
 obtain⟨W,hW⟩: ∃W,w.setCell ⟨b,1,none⟩ (.slice none 0 0)=W:=⟨_,rfl⟩
 rw[hW]at HK HQ ⊢
 clear hW hk c0 c1 z1 hlt
 go_loopg [32] 1 (fun gk kv wr=>kv= .int .i64 0∧wr=W)
 case atStart=>exact⟨rfl,rfl⟩
 case round=>
 obtain⟨rfl,rfl⟩:=hrel
 go_wp2_with fail
 go_ret
 exact⟨rfl,HQ.out,HK.out⟩
theorem zIY (h:WlM w b base mu oa m ca n u s O A):
  Calls Tryz.prog 290 #[.pointer (some ⟨b,0,none⟩)] w fun e w'=>e= .returned (.bool (decide (0<n∧m≤n)))∧Below w.heap.size w w':=by
 obtain⟨R,hR⟩: ∃R,decide (0<n∧m≤n)=R:=⟨_,rfl⟩
 rw[hR]
 have HR:=zL8 hR
 have c14:=h.c14
 have c1:=h.c1
 have c16:=h.c16
 have c0:=h.c0
 have hlt:=h.lt
 clear h hR
 go_enter Tryz.func290,Tryz.ntmps290
 by_cases h0:0<n
 case neg=>
  have HF:=zL8 (show R=false by rw[←HR.out];exact zMK (by omega))
  go_upto_region 5 with fail
  refine zAA (X:=none) 18 [] [0,1,2,3,4,5,6,7,8,9,10,11,12,13,14,15,16,17] (by kernel_rfl) (by kernel_rfl) rfl (fun _ _ _ _ _ h=>h) ?_
  simp only[zAJ,zAC,zAD,zAB,List.getD_cons_zero,List.getD_cons_succ,List.drop_succ_cons,List.drop_nil]
  repeat (go_big_quiet_step (fail))
  refine wpQuiet_nil ?_
  go_wp2_with fail
  go_ret
  exact⟨zAE HF.out.symm,(zL9 _ _).drew⟩
 have HN:=zL8 h0
 by_cases h1:m≤n
 ·have HF:=zL8 (show R=true by rw[←HR.out];exact zMJ ⟨h0,h1⟩)
  have h1':(m:Int)≤(n:Int):=by omega
  go_upto_region 5 with fail
  refine zAA (X:=none) 18 [] [0,1,2,3,4,5,6,7,8,9,10,11,12,13,14,15,16,17] (by kernel_rfl) (by kernel_rfl) rfl (fun _ _ _ _ _ h=>h) ?_
  simp only[zAJ,zAC,zAD,zAB,List.getD_cons_zero,List.getD_cons_succ,List.drop_succ_cons,List.drop_nil]
  repeat (go_big_quiet_step (fail))
  refine wpQuiet_nil ?_
  go_wp2_with fail
  go_ret
  exact⟨zAE HF.out.symm,(zL9 _ _).drew⟩
 ·have HF:=zL8 (show R=false by rw[←HR.out];exact zMK (by omega))
  have h1':decide ((m:Int)≤(n:Int))=false:=zMK (by omega)
  have h2':decide (m≤n)=false:=zMK h1
  go_upto_region 5 with fail
  refine zAA (X:=none) 18 [] [0,1,2,3,4,5,6,7,8,9,10,11,12,13,14,15,16,17] (by kernel_rfl) (by kernel_rfl) rfl (fun _ _ _ _ _ h=>h) ?_
  simp only[zAJ,zAC,zAD,zAB,List.getD_cons_zero,List.getD_cons_succ,List.drop_succ_cons,List.drop_nil]
  repeat (go_big_quiet_step (fail))
  refine wpQuiet_nil ?_
  go_wp2_with fail
  go_ret
  exact⟨zAE HF.out.symm,(zL9 _ _).drew⟩
end
end
section
open Go.RowKit
section
variable {w w':World} {b base m ca n u s:Nat} {mu:Bool} {oa:Option Addr} {O:Nat→Option Nat} {A X:List Nat}
theorem zJK (h:WlM w b base mu oa m ca n u s O A) (hb:b<base) (hbw:base≤w.heap.size) (hs:s≤549755813888) (hu:u≤549755813888) {xb:Nat} {ox:Option Addr} {cx:Nat} (hX:w.ownsRow xb 5 1 (.slice ox X.length cx) X.length (u8s X)) (hxf: ∀x,(Value.slice ox X.length cx).ownBlock=some x→x≠b∧ ¬zGX O x) (hl:A.length+X.length≤549755813888):
  Calls Tryz.prog 293 #[.pointer (some ⟨b,0,none⟩),.slice ox X.length cx] w fun e w'=>e= .returned (.int .i64 0)∧ ∃O',WlM w' b base mu oa m ca n (u+1) (s+4+X.length) O' (A++X)∧zCw w w' b O O':=by
 have HX:=zL8 (zDV h hb hbw (by omega) (.inr rfl) ⟨#[]⟩ (Src.own hX) (by omega) (fun x hx=>(hxf x hx).1))
 have HR:=zL8 hX
 have HBB:=zL8 hb
 have HBW:=zL8 hbw
 have HXF:=zL8 hxf
 have HL:=zL8 hl
 have hu':(u:Int)≤2305843009213693951:=by omega
 clear h hb hbw hs hu hX hxf hl
 go_enter Tryz.func293,Tryz.ntmps293
 go_wp2_with fail
 refine HX.out.mono ?_;rintro e w1 ⟨rfl,O1,hw,hk⟩
 have HW1:=zL8 hw
 have HK1:=zL8 hk
 have c17:=hw.c17
 have z17:=hw.fz 17
 have hlt:=hw.lt
 clear hw hk HX
 go_upto_region 3 with fail
 rw[show(u:Int)+1=((u+1:Nat):Int)by omega]
 have HW2:=zL8 (HW1.out.setU HBB.out (u+1))
 have HK2:=zL8 (HK1.out.trans (zCw.set w1 b O1 17 (.int .i64 ((u+1:Nat):Int))))
 obtain⟨W,hW⟩: ∃W,w1.setCell ⟨b,17,none⟩ (.int .i64 ((u+1:Nat):Int))=W:=⟨_,rfl⟩
 rw[hW]at HW2 HK2 ⊢
 clear hW c17 z17 hlt HW1 HK1
 have HRW:=zL8 (HK2.out.kept.row HR.out fun k hk e=>e.elim (HXF.out k hk).1 (HXF.out k hk).2)
 obtain⟨v19,k19,cs19,q1,q2,q3,q4,_⟩:=HW2.out.rows 19 (by simp[zBW])
 obtain⟨rfl,rfl⟩:=q4 rfl
 have HV:=zL8 q2
 have HQ:=zL8 q1
 obtain⟨oA,kA,rfl⟩:=zAI q2
 have c2:=HW2.out.c2
 have c13:=HW2.out.c13
 have z19:=HW2.out.fz 19
 have hlt:=HW2.out.lt
 clear q2 q3 q4
 go_wp2_with (at_builtin;refine zAN (n:=A.length) (m:=X.length) (news:=u8s X) zK7 rfl _ _ rfl base rfl HV.out rfl (Src.own HRW.out) (by simp[u8s]) (zD9 X) (by have:=HL.out;unfold maxLen;omega) (by have:=HL.out;omega) (Nat.le_trans HBW.out HK2.out.kept.size) ?_)
 intro v3 w3 hown hgr hor
 obtain⟨o3,k3,rfl⟩:=zAI hown
 have hrow:w3.ownsRow base (zIw 19).1 (zIw 19).2 (.slice o3 (A.length+X.length) k3) (A++X).length (u8s (A++X)):=by
  rw[zMS,show u8s (A++X)=u8s A++u8s X by simp[u8s]];exact hown
 obtain⟨HWA,HAX,c19,z19,hlt⟩:=HW2.out.grew HBB.out (i:=19) (by simp[zBW]) HQ.out hgr hrow hor (A':=A++X) (fun _=>⟨rfl,rfl⟩) (fun e=>absurd rfl e)
 have HK3:=zL8 (HK2.out.trans HAX.out)
 clear hown hgr hor hrow q1
 go_upto_region 7 with fail
 obtain⟨V,hV⟩: ∃V,w3.setCell ⟨b,19,none⟩ (.slice o3 (A.length+X.length) k3)=V:=⟨_,rfl⟩
 rw[hV]at HWA HK3 ⊢
 clear hV c19 z19 hlt HAX
 have c9:=HWA.out.c9
 have hlt:=HWA.out.lt
 have HTD:=zL8 (zHl (HWA.out.below (zL9 _ _).drew) (by omega))
 refine zAA (X:=none) 16 [] [0,1,2,3,4,5,6,7,8,9,10,11,12,13,14,15] (by kernel_rfl) (by kernel_rfl) rfl (fun _ _ _ _ _ h=>h) ?_
 simp only[zAJ,zAC,zAD,zAB,List.getD_cons_zero,List.getD_cons_succ,List.drop_succ_cons,List.drop_nil]
 repeat (go_big_quiet_step (fail))
 refine wpQuiet_nil ?_
 go_wp2_with fail
 refine HTD.out.mono ?_;rintro e w9 ⟨rfl,hb9⟩
 have hb10:Below V.heap.size V w9:=(zL9 V.heap.size V).drew.trans hb9
 have HB10:=zL8 hb10
 clear hb9 hb10
 go_wp2_with fail
 go_ret
 exact⟨rfl,_,(HWA.out.below HB10.out).mono (by omega),HK3.out.below HB10.out⟩
end
end
section
open Go.RowKit
structure BkV (w:World) (b:Nat) (L:List (Nat × Value)):Prop where
 lt:b<w.heap.size
 fx: ∀p∈L,w.cell? ⟨b,p.1,none⟩=some p.2
 fz: ∀o,w.frozen? ⟨b,o,none⟩=false
theorem BkV.get {w:World} {b:Nat} {L:List (Nat × Value)} (h:BkV w b L) (j:Nat) {i:Nat} {v:Value} (e:L[j]?=some (i,v)):w.cell? ⟨b,i,none⟩=some v:=h.fx (i,v) (zMc e)
theorem BkV.same {w w':World} {b:Nat} {L:List (Nat × Value)} (h:BkV w b L) (hb:w'.heap[b]?=w.heap[b]?) (hs:w.heap.size≤w'.heap.size):BkV w' b L:=
 ⟨zMB h.lt hs,fun p hp=>(zMC (a:=⟨b,p.1,none⟩) hb).trans (h.fx p hp),fun o=>(zMD (w:=w) (a:=⟨b,o,none⟩) hb).trans (h.fz o)⟩
theorem BkV.set {w:World} {b:Nat} {L:List (Nat × Value)} (h:BkV w b L) (hn:(L.map (·.1)).Nodup) (j:Nat) {i:Nat} {v:Value} (e:L[j]?=some (i,v)) (v':Value):BkV (w.setCell ⟨b,i,none⟩ v') b (L.set j (i,v')):=by
 refine⟨by simpa [World.setCell]using h.lt,fun p hp=>?_,fun o=>(World.frozen?_setCell _ _ _ _).trans (h.fz o)⟩
 obtain⟨x,hx⟩:=List.mem_iff_getElem?.1 hp
 by_cases hj:j=x
 ·subst hj
  rw[List.getElem?_set_self (zMF.1 e).1]at hx
  cases hx
  exact zMR _ _ _ (h.get j e)
 ·rw[List.getElem?_set_ne hj]at hx
  have hne:p.1≠i:=fun q=>by
   have h1:(L.map (·.1))[x]?=some i:=by rw[List.getElem?_map,hx];simp[q]
   have h2:(L.map (·.1))[j]?=some i:=by rw[List.getElem?_map,e];rfl
   obtain⟨l1,e1⟩:=zMF.1 h1
   obtain⟨l2,e2⟩:=zMF.1 h2
   rcases Nat.lt_or_gt_of_ne hj with q1|q1
   ·exact List.pairwise_iff_getElem.1 hn j x l2 l1 q1 (e2.trans e1.symm)
   ·exact List.pairwise_iff_getElem.1 hn x j l1 l2 q1 (e1.trans e2.symm)
  exact(zMQ _ _ _ _ (by intro q;cases q;exact hne rfl)).trans (h.fx p (zMc hx))
structure CK where
 sb:Nat
 wb:Nat
 qb:Nat
 gb:Nat
 mb:Nat
 cb:Nat
 pb:Nat
 oc:Option Addr
 nc:Nat
 cc:Nat
 q:Bool
structure CS where
 fl:Bool
 pl:Int
 nx:Int
 st:Int
 er:Int
 si:Bool
def zCX (k:CK) (s:CS):List (Nat × Value):=
 [(0,.pointer (some ⟨k.sb,0,none⟩)),(1,.slice k.oc k.nc k.cc),(4,.bool k.q),(5,.iface 33 (.pointer (some ⟨k.wb,0,none⟩))),(8,.pointer (some ⟨k.qb,0,none⟩)),(9,.pointer (some ⟨k.gb,0,none⟩)),(122,.func (.func 79) #[.pointer (some ⟨k.cb,0,none⟩)] #[]),
  (266,.bool s.fl),(267,.int .i64 s.pl),(268,.int .i64 s.nx),(269,.int .i64 s.st),(270,.int .i64 s.er),(271,.bool s.si),(272,.bool false),(273,.bool false)]
theorem zF8 (k:CK) (s:CS):((zCX k s).map (·.1)).Nodup:=by
 show List.Nodup [0,1,4,5,8,9,122,266,267,268,269,270,271,272,273]
 decide
structure CmP (w:World) (pb:Nat) (l:List Value):Prop where
 lt:pb<w.heap.size
 cl:zBc l
 row:w.rangeAt pb 0 l
 ka:l[0]?=some (.int .i8 0)
 nt:l[6]?=some (.bool false)
 nm:l[7]?=some (.int .u8 112)
 r: ∀i,i=2∨i=5∨i=10→l[i]?=some (.slice none 0 0)
theorem CmP.same {w w':World} {pb:Nat} {l:List Value} (h:CmP w pb l) (hb:w'.heap[pb]?=w.heap[pb]?) (hs:w.heap.size≤w'.heap.size):CmP w' pb l:=
 ⟨zMB h.lt hs,h.cl,fun j v hv=>(zMC (a:=⟨pb,0+j,none⟩) hb).trans (h.row j v hv),h.ka,h.nt,h.nm,h.r⟩
def zC9 (k:CK) (pk:Option Nat) (x:Nat):Prop:=(k.qb≤x∧x≤k.mb)∨pk=some x
structure MaS (w:World) (k:CK) (s:CS) (T:List Nat) (pk:Option Nat):Prop where
 mlt:k.mb<w.heap.size
 m0:w.cell? ⟨k.mb,0,none⟩=some (.pointer (some ⟨k.cb,0,none⟩))
 co:BkV w k.cb (zCX k s)
 sp:zFK w k.sb T pk
 qu:QuE w k.qb
 ga: ∃og cg,w.cell? ⟨k.gb,0,none⟩=some (.slice og k.nc cg)
 cm:k.nc=1→k.oc=some ⟨k.pb,0,none⟩∧k.cb<k.pb∧k.pb<k.sb∧ ∃l,CmP w k.pb l
 or1:k.qb<k.cb∧k.cb<k.sb∧k.sb<k.gb∧k.gb<k.mb
 opk: ∀x,pk=some x→k.mb<x
 n01:k.nc=0∨k.nc=1
section
variable {w w':World} {k:CK} {s s':CS} {T T':List Nat} {pk pk':Option Nat}
theorem MaS.pkLt (h:MaS w k s T pk) {x:Nat} (hx:zC9 k pk x):x<w.heap.size:=hx.elim (fun e=>Nat.lt_of_le_of_lt e.2 h.mlt) fun e=>h.sp.pkLt e
theorem MaS.keep (h:MaS w k s T pk) {S:Nat→Prop} (hk:zAb w w' S) (hS: ∀x,x<w.heap.size→S x→ ¬zC9 k pk x):MaS w' k s T pk:=by
 obtain⟨o1,o2,o3,o4⟩:=h.or1
 have hm:=h.mlt
 have r: ∀x,k.qb≤x→x≤k.mb→ ¬S x:=fun x h1 h2 e=>hS x (by omega) e (.inl ⟨h1,h2⟩)
 have bl: ∀x,k.qb≤x→x≤k.mb→w'.heap[x]?=w.heap[x]?:=fun x h1 h2=>hk.block x (by omega) (r x h1 h2)
 refine⟨zMB hm hk.size,(zMC (a:=⟨k.mb,0,none⟩) (bl k.mb (by omega) (by omega))).trans h.m0,h.co.same (bl k.cb (by omega) (by omega)) hk.size,h.sp.keep hk (r _ (by omega) (by omega)) fun x hx e=>hS x (h.sp.pkLt hx) e (.inr hx),⟨zMB h.qu.lt hk.size,(zMC (a:=⟨k.qb,0,none⟩) (bl k.qb (by omega) (by omega))).trans h.qu.c0,(zMC (a:=⟨k.qb,1,none⟩) (bl k.qb (by omega) (by omega))).trans h.qu.c1,fun o=>(zMD (w:=w) (a:=⟨k.qb,o,none⟩) (bl k.qb (by omega) (by omega))).trans (h.qu.fz o)⟩,?_,fun e=>?_,h.or1,h.opk,h.n01⟩
 ·obtain⟨og,cg,e⟩:=h.ga
  exact⟨og,cg,(zMC (a:=⟨k.gb,0,none⟩) (bl k.gb (by omega) (by omega))).trans e⟩
 ·obtain⟨e1,e2,e3,l,e4⟩:=h.cm e
  exact⟨e1,e2,e3,l,e4.same (bl k.pb (by omega) (by omega)) hk.size⟩
theorem MaS.below (h:MaS w k s T pk) (hb:Below w.heap.size w w'):MaS w' k s T pk:=
 h.keep (zAb.of_below hb (fun x=>w.heap.size≤x) fun _ e _=>e) fun x e1 e2=>by omega
theorem MaS.set (h:MaS w k s T pk) (j:Nat) {i:Nat} {v:Value} (e:(zCX k s)[j]?=some (i,v)) (v':Value) (hs:(zCX k s).set j (i,v')=zCX k s'):MaS (w.setCell ⟨k.cb,i,none⟩ v') k s' T pk∧zAb w (w.setCell ⟨k.cb,i,none⟩ v') (zC9 k pk):=by
 obtain⟨o1,o2,o3,o4⟩:=h.or1
 have hk:zAb w (w.setCell ⟨k.cb,i,none⟩ v') (fun x=>x=k.cb):=zAb.setCell _ _ _
 have bl: ∀x,x≠k.cb→(w.setCell ⟨k.cb,i,none⟩ v').heap[x]?=w.heap[x]?:=fun x hx=>zMI _ _ _ _ hx
 have hsz:w.heap.size≤(w.setCell ⟨k.cb,i,none⟩ v').heap.size:=hk.size
 refine⟨⟨zMB h.mlt hsz,(zMC (a:=⟨k.mb,0,none⟩) (bl k.mb (by omega))).trans h.m0,hs▸h.co.set (zF8 k s) j e v',h.sp.keep hk (by omega) fun x hx=>by have:=h.opk x hx;omega,⟨zMB h.qu.lt hsz,(zMC (a:=⟨k.qb,0,none⟩) (bl k.qb (by omega))).trans h.qu.c0,(zMC (a:=⟨k.qb,1,none⟩) (bl k.qb (by omega))).trans h.qu.c1,fun o=>(zMD (w:=w) (a:=⟨k.qb,o,none⟩) (bl k.qb (by omega))).trans (h.qu.fz o)⟩,?_,fun e=>?_,h.or1,h.opk,h.n01⟩,hk.mono fun x _ e=> .inl (by omega)⟩
 ·obtain⟨og,cg,e⟩:=h.ga
  exact⟨og,cg,(zMC (a:=⟨k.gb,0,none⟩) (bl k.gb (by omega))).trans e⟩
 ·obtain⟨e1,e2,e3,l,e4⟩:=h.cm e
  exact⟨e1,e2,e3,l,e4.same (bl k.pb (by omega)) hsz⟩
theorem MaS.space (h:MaS w k s T pk) (hk:zAb w w' (fun x=>x=k.sb)) (hs:zFK w' k.sb T' pk') (hp: ∀x,pk'=some x→w.heap.size≤x):MaS w' k s T' pk':=by
 obtain⟨o1,o2,o3,o4⟩:=h.or1
 have hm:=h.mlt
 have bl: ∀x,x<w.heap.size→x≠k.sb→w'.heap[x]?=w.heap[x]?:=fun x hx hn=>hk.block x hx hn
 refine⟨zMB hm hk.size,(zMC (a:=⟨k.mb,0,none⟩) (bl k.mb (by omega) (by omega))).trans h.m0,h.co.same (bl k.cb (by omega) (by omega)) hk.size,hs,⟨zMB h.qu.lt hk.size,(zMC (a:=⟨k.qb,0,none⟩) (bl k.qb (by omega) (by omega))).trans h.qu.c0,(zMC (a:=⟨k.qb,1,none⟩) (bl k.qb (by omega) (by omega))).trans h.qu.c1,fun o=>(zMD (w:=w) (a:=⟨k.qb,o,none⟩) (bl k.qb (by omega) (by omega))).trans (h.qu.fz o)⟩,?_,fun e=>?_,h.or1,fun x hx=>by have:=hp x hx;omega,h.n01⟩
 ·obtain⟨og,cg,e⟩:=h.ga
  exact⟨og,cg,(zMC (a:=⟨k.gb,0,none⟩) (bl k.gb (by omega) (by omega))).trans e⟩
 ·obtain⟨e1,e2,e3,l,e4⟩:=h.cm e
  exact⟨e1,e2,e3,l,e4.same (bl k.pb (by omega) (by omega)) hk.size⟩
theorem MaS.queue (h:MaS w k s T pk) (hk:zAb w w' (fun x=>x=k.qb)) (hs:QuE w' k.qb):MaS w' k s T pk:=by
 obtain⟨o1,o2,o3,o4⟩:=h.or1
 have hm:=h.mlt
 have bl: ∀x,x<w.heap.size→x≠k.qb→w'.heap[x]?=w.heap[x]?:=fun x hx hn=>hk.block x hx hn
 refine⟨zMB hm hk.size,(zMC (a:=⟨k.mb,0,none⟩) (bl k.mb (by omega) (by omega))).trans h.m0,h.co.same (bl k.cb (by omega) (by omega)) hk.size,h.sp.keep hk (by omega) fun x hx=>by have:=h.opk x hx;omega,hs,?_,fun e=>?_,h.or1,h.opk,h.n01⟩
 ·obtain⟨og,cg,e⟩:=h.ga
  exact⟨og,cg,(zMC (a:=⟨k.gb,0,none⟩) (bl k.gb (by omega) (by omega))).trans e⟩
 ·obtain⟨e1,e2,e3,l,e4⟩:=h.cm e
  exact⟨e1,e2,e3,l,e4.same (bl k.pb (by omega) (by omega)) hk.size⟩
end
end
section
open Go.RowKit
theorem zJc:ElT Tryz.prog 140 4 1 1 (.bool false):=⟨Tryz.underlying140,by kernel_rfl,rfl,by decide⟩
section
variable {w w':World}
theorem zAl (w:World) (o:Obj):w.heap.size<(w.alloc o).heap.size:=by simp
theorem zAL (w:World) (cs:Array Value) (t:TypeId) (j:Nat):(w.alloc (.cells cs t)).cell? ⟨w.heap.size,j,none⟩=cs[j]?:=zMN _ _ j _ _ (0,0) (zML w _)
theorem zC1 (w:World) (cs:Array Value) (t:TypeId) (j:Nat):(w.alloc (.cells cs t)).frozen? ⟨w.heap.size,j,none⟩=false:=zAm (zML w _) j
theorem zEw (w:World):Calls Tryz.prog 25 #[] w fun e w'=>e= .returned (.pointer (some ⟨w.heap.size,0,none⟩))∧QuE w' w.heap.size∧Below w.heap.size w w':=by
 go_enter Tryz.func25,Tryz.ntmps25
 go_wp2_with fail
 go_ret
 exact⟨rfl,⟨zAl _ _,zAL _ _ _ 0,zAL _ _ _ 1,zC1 _ _ _⟩,(zL9 _ _).alloc (zMA _) _⟩
theorem zGr (w:World):Calls Tryz.prog 27 #[.int .i64 1048576] w fun e w'=>e= .returned (.tuple #[.pointer (some ⟨w.heap.size,0,none⟩),.int .i64 0])∧zFK w' w.heap.size [] none∧Below w.heap.size w w':=by
 go_enter Tryz.func27,Tryz.ntmps27
 go_wp2_with fail
 go_ret2
 exact⟨rfl,⟨zAl _ _,⟨_,zAL _ _ _ 0,zMO _ _ _ _,rfl⟩,⟨_,zAL _ _ _ 1⟩,zAL _ _ _ 2,zAL _ _ _ 3,zC1 _ _ _,by decide⟩,(zL9 _ _).alloc (zMA _) _⟩
theorem zHP {n:Nat} (hn:n≤1):
  Calls Tryz.prog 28 #[.int .i64 (n:Nat)] w fun e w'=> ∃gb og cg,e= .returned (.tuple #[.pointer (some ⟨gb,0,none⟩),.int .i64 0])∧w.heap.size≤gb∧gb<w'.heap.size∧w'.cell? ⟨gb,0,none⟩=some (.slice og n cg)∧Below w.heap.size w w':=by
 obtain⟨i0,hi,hz0,hz1,hz2⟩:=info_parts (zJc).hi
 have h1: ¬(n:Int)<0:=by omega
 have h2: ¬(4096:Int)<(n:Int):=by omega
 go_enter Tryz.func28,Tryz.ntmps28
 go_wp2_with (at_make;refine wpList_make_full _ rfl _ _ 140 rfl w.heap.size 4 i0 _ 1 Tryz.underlying140 hi hz0 hz1 .i64 .i64 (n:Int) (n:Int) n rfl rfl (by omega) (by omega) (by rw[hz2];omega) (by unfold maxLen;omega) (Nat.le_refl _) ?_)
 intro w1 hown hgr
 have HB:=zL8 ((zL9 w.heap.size w).grown hgr (zMA _) (fun k hk=>by cases hk))
 have hs:=HB.out.size
 clear hown hgr hi hz0 hz1 hz2
 go_wp2_with fail
 go_ret2
 exact⟨_,_,_,rfl,hs,zAl _ _,zAL _ _ _ 0,HB.out.alloc hs _⟩
end
end
section
open Go.RowKit Go.Shelf
def shp.lays137_ren:Go.Shelf.Ren:=⟨fun|137=>146|217=>176|266=>207|n=>n,fun|9=>9|5=>5|3=>3|n=>n,fun|n=>n⟩
theorem shp.lays137:Go.Proofs.Lays.n137 Tryz.prog shp.lays137_ren:= {
 mixed:=by kernel_rfl
 f137:=Tryz.func146.trans (congrArg some (by kernel_rfl))
 f217:=Tryz.func176.trans (congrArg some (by kernel_rfl))
 f266:=Tryz.func207.trans (congrArg some (by kernel_rfl))
 t3:=Tryz.underlying3
 a3:=Tryz.isAgg3
 z3:=Tryz.sizeOf3
 v3:=Tryz.zeroValue3
 t5:=Tryz.underlying5
 a5:=Tryz.isAgg5
 z5:=Tryz.sizeOf5
 v5:=Tryz.zeroValue5
 t9:=Tryz.underlying9
 a9:=Tryz.isAgg9
 z9:=Tryz.sizeOf9
 v9:=Tryz.zeroValue9 }
open Go.RowKit in
theorem shp.strings_IndexByte (s:ByteArray) (c:Int) (w:World):
  Calls Tryz.prog 146 #[.string s,.int .u8 c] w fun e w'=>e= .returned (.int .i64 (Lib.indexByte s.data.toList c.toNat.toUInt8))∧w'=w:=Any.strings_IndexByte shp.lays137 s c w
theorem zLv:Lib.indexByte (⟨#[125,58]⟩:ByteArray).data.toList (112:Int).toNat.toUInt8= -1:=by decide+kernel
theorem zLu:Lib.indexByte (⟨#[61,97,105,113,114]⟩:ByteArray).data.toList (112:Int).toNat.toUInt8= -1:=by decide+kernel
theorem zLt:Lib.indexByte (⟨#[123,98,99,100,68,103,71,104,72,108,110,78,112,80,115,116,119,120,121]⟩:ByteArray).data.toList (112:Int).toNat.toUInt8=12:=by decide+kernel
structure PcV (l:List Value):Prop where
 cl:zBc l
 a0:l[0]?=some (.int .i8 0)
 a1:l[1]?=some (.int .i64 0)
 a2:l[2]?=some (.slice none 0 0)
 b0:l[3]?=some (.int .i8 0)
 b1:l[4]?=some (.int .i64 0)
 b2:l[5]?=some (.slice none 0 0)
 nt:l[6]?=some (.bool false)
 nm:l[7]?=some (.int .u8 112)
 pl:l[8]?=some (.int .i64 0)
 tx:l[9]?=some (.slice none 0 0)
 re:l[10]?=some (.slice none 0 0)
 fi:l[11]?=some (.slice none 0 0)
 co:l[12]?=some (.int .i64 0)
 al:l[13]?=some (.bool false)
 pr:l[14]?=some (.bool false)
 wr:l[15]?=some (.bool false)
 tb:l.drop 16=List.replicate 256 (.int .u8 0)
noncomputable def pcs:List Value:=Tryz.zeroCells71.toList.set 7 (.int .u8 112)
theorem PcV.mine:PcV pcs:=⟨zBc.zero.set 7 rfl,by kernel_rfl,by kernel_rfl,by kernel_rfl,by kernel_rfl,by kernel_rfl,by kernel_rfl,by kernel_rfl,by kernel_rfl,by kernel_rfl,by kernel_rfl,by kernel_rfl,by kernel_rfl,by kernel_rfl,by kernel_rfl,by kernel_rfl,by kernel_rfl,by kernel_rfl⟩
section
variable {w w':World} {l:List Value}
theorem zKq:Calls Tryz.prog 105 #[.int .u8 112] w fun e w'=>e= .returned (.int .i64 2)∧w=w':=by
 have H0:=zL8 (fun w=>shp.strings_IndexByte ⟨#[125,58]⟩ 112 w)
 have H1:=zL8 (fun w=>shp.strings_IndexByte ⟨#[61,97,105,113,114]⟩ 112 w)
 have H2:=zL8 (fun w=>shp.strings_IndexByte ⟨#[123,98,99,100,68,103,71,104,72,108,110,78,112,80,115,116,119,120,121]⟩ 112 w)
 rw[zLv]at H0
 rw[zLu]at H1
 rw[zLt]at H2
 go_enter Tryz.func105,Tryz.ntmps105
 go_wp2_with fail
 refine(H0.out _).mono ?_;rintro e w1 ⟨rfl,rfl⟩
 go_wp2_with fail
 refine(H1.out _).mono ?_;rintro e w1 ⟨rfl,rfl⟩
 go_wp2_with fail
 refine(H2.out _).mono ?_;rintro e w1 ⟨rfl,rfl⟩
 go_wp2_with fail
 go_ret
 exact⟨rfl,rfl⟩
theorem zJ8:Calls Tryz.prog 106 #[.agg #[.int .i8 0,.int .i64 0,.slice none 0 0]] w fun e w'=>e= .returned (.bool true)∧Below w.heap.size w w':=by
 go_enter Tryz.func106,Tryz.ntmps106
 go_wp2_with fail
 go_ret
 exact⟨rfl,(zL9 _ _).alloc (zMA _) _⟩
theorem zKg (h:PcV l):Calls Tryz.prog 107 #[.agg l.toArray] w fun e w'=>e= .returned (.bool true)∧Below w.heap.size w w':=by
 have hb:=CmB.new h.cl w
 have c7:(w.alloc (.cells l.toArray 71)).cell? ⟨w.heap.size,7,none⟩=some (.int .u8 112):=(hb.cell 7).trans h.nm
 have c9:(w.alloc (.cells l.toArray 71)).cell? ⟨w.heap.size,9,none⟩=some (.slice none 0 0):=(hb.cell 9).trans h.tx
 have HB:=zL8 ((zL9 w.heap.size w).alloc (zMA _) (.cells l.toArray 71))
 have hl:=zAl w (.cells l.toArray 71)
 clear h hb
 go_enter Tryz.func107,Tryz.ntmps107
 go_upto_region 1 with fail
 obtain⟨W,hW⟩: ∃W,w.alloc (.cells l.toArray 71)=W:=⟨_,rfl⟩
 rw[hW]at HB c7 c9 hl ⊢
 clear hW
 obtain⟨b,hbz⟩: ∃b,w.heap.size=b:=⟨_,rfl⟩
 rw[hbz]at c7 c9 hl ⊢
 have HZ:=zL8 hbz
 clear hbz
 go_wp2_with fail
 go_ret
 exact⟨rfl,HB.out⟩
theorem zGC (h7:l[7]?=some (.int .u8 112)) (hc:zBc l):Calls Tryz.prog 60 #[.agg l.toArray] w fun e w'=>e= .returned (.bool false)∧Below w.heap.size w w':=by
 have hb:=CmB.new hc w
 have c7:(w.alloc (.cells l.toArray 71)).cell? ⟨w.heap.size,7,none⟩=some (.int .u8 112):=(hb.cell 7).trans h7
 have HB:=zL8 ((zL9 w.heap.size w).alloc (zMA _) (.cells l.toArray 71))
 have hl:=zAl w (.cells l.toArray 71)
 clear h7 hc hb
 go_enter Tryz.func60,Tryz.ntmps60
 go_upto_region 1 with fail
 obtain⟨W,hW⟩: ∃W,w.alloc (.cells l.toArray 71)=W:=⟨_,rfl⟩
 rw[hW]at HB c7 hl ⊢
 clear hW
 obtain⟨b,hbz⟩: ∃b,w.heap.size=b:=⟨_,rfl⟩
 rw[hbz]at c7 hl ⊢
 have HZ:=zL8 hbz
 clear hbz
 go_wp2_with fail
 go_ret
 exact⟨rfl,HB.out⟩
end
end
section
open Go.RowKit
section
variable {w w':World} {l:List Value}
structure AdZ (w:World) (sb:Nat):Prop where
 lt:sb<w.heap.size
 k: ∀k,k<2→w.cell? ⟨sb,k*3,none⟩=some (.int .i8 0)∧w.cell? ⟨sb,k*3+1,none⟩=some (.int .i64 0)∧w.cell? ⟨sb,k*3+2,none⟩=some (.slice none 0 0)
theorem zI7 (h:PcV l):Calls Tryz.prog 59 #[.agg l.toArray] w fun e w'=>e= .returned (.bool true)∧Below w.heap.size w w':=by
 have HP:=zL8 h
 have HB:=zL8 ((zL9 w.heap.size w).alloc (zMA _) (.cells l.toArray 71))
 have HN:=zL8 (CmB.new h.cl w)
 clear h
 go_enter Tryz.func59,Tryz.ntmps59
 go_upto_region 1 with fail
 obtain⟨W,hW⟩: ∃W,w.alloc (.cells l.toArray 71)=W:=⟨_,rfl⟩
 rw[hW]at HB HN ⊢
 clear hW
 obtain⟨b,hbz⟩: ∃b,w.heap.size=b:=⟨_,rfl⟩
 have HBZ:=zL8 hbz
 rw[hbz]at HN ⊢
 clear hbz
 have c7:W.cell? ⟨b,7,none⟩=some (.int .u8 112):=(HN.out.cell 7).trans HP.out.nm
 have HMO:=zL8 (zKq (w:=W))
 go_wp2_with fail
 refine HMO.out.mono ?_;rintro e w1 ⟨rfl,rfl⟩
 clear HMO
 have c0:W.cell? ⟨b,0,none⟩=some (.int .i8 0):=(HN.out.cell 0).trans HP.out.a0
 have c1:W.cell? ⟨b,1,none⟩=some (.int .i64 0):=(HN.out.cell 1).trans HP.out.a1
 have c2:W.cell? ⟨b,2,none⟩=some (.slice none 0 0):=(HN.out.cell 2).trans HP.out.a2
 have c3:W.cell? ⟨b,3,none⟩=some (.int .i8 0):=(HN.out.cell 3).trans HP.out.b0
 have c4:W.cell? ⟨b,4,none⟩=some (.int .i64 0):=(HN.out.cell 4).trans HP.out.b1
 have c5:W.cell? ⟨b,5,none⟩=some (.slice none 0 0):=(HN.out.cell 5).trans HP.out.b2
 have hbl:=HN.out.lt
 go_wp2_with fail
 have hnw:=zML W (.cells #[.int .i8 0,.int .i64 0,.slice none 0 0,.int .i8 0,.int .i64 0,.slice none 0 0] 66)
 have hbw:=(zL9 W.heap.size W).alloc (zMA _) (.cells #[.int .i8 0,.int .i64 0,.slice none 0 0,.int .i8 0,.int .i64 0,.slice none 0 0] 66)
 have HAR:Hid (AdZ (W.alloc (.cells #[.int .i8 0,.int .i64 0,.slice none 0 0,.int .i8 0,.int .i64 0,.slice none 0 0] 66)) W.heap.size):=zL8 ⟨zAl _ _,fun k hk=>by
  rcases(show k=0∨k=1 by omega)with rfl|rfl
  ·exact⟨zAL _ _ _ 0,zAL _ _ _ 1,zAL _ _ _ 2⟩
  ·exact⟨zAL _ _ _ 3,zAL _ _ _ 4,zAL _ _ _ 5⟩⟩
 have HBW:=zL8 hbw
 clear hnw hbw c0 c1 c2 c3 c4 c5 c7 hbl
 obtain⟨sb,hsb⟩: ∃k,W.heap.size=k:=⟨_,rfl⟩
 have HSB:=zL8 hsb
 obtain⟨W2,hW2⟩: ∃X,W.alloc (.cells #[.int .i8 0,.int .i64 0,.slice none 0 0,.int .i8 0,.int .i64 0,.slice none 0 0] 66)=X:=⟨_,rfl⟩
 rw[hW2]at HAR HBW ⊢
 rw[hsb]at HAR ⊢
 clear hW2 hsb
 go_loopg [4,16] 2 (fun gk mv kv wr=> ∃k:Nat,mv= .int .i64 0∧kv= .int .i64 (k:Nat)∧gk=2 - k∧k≤2∧Below W2.heap.size W2 wr)
 case atStart=>exact⟨0,rfl,rfl,rfl,by omega,zL9 _ _⟩
 case round=>
 obtain⟨k,rfl,rfl,hg,hk,hbr⟩:=hrel
 have HG:=zL8 hg
 have HK:=zL8 hk
 have HBR:=zL8 hbr
 clear hg hk hbr
 by_cases hk2:k<2
 case neg=>
  obtain rfl:k=2:=by have:=HK.out;omega
  have hbt:Below b w wr:=(HBZ.out▸HB.out).trans ((HBW.out.trans (HBR.out.mono HBW.out.size)).mono (by have:=HB.out.size;rw[HBZ.out]at this;exact this))
  have hbl:b<W.heap.size:=HN.out.lt
  have HR:Hid (CmB wr b l):=zL8 ((HN.out.below HBW.out).below HBR.out)
  have HBT:=zL8 hbt
  have HCI:Hid ((Tryz.prog.info? 71).map (·.size)=some l.toArray.size):=zL8 (by rw[zAd,List.size_toArray,HP.out.cl.len])
  have HSA:=zL8 (zKg (w:=wr) HP.out)
  obtain⟨Z,hZ⟩: ∃Z:List Value,List.replicate 256 (Value.int .u8 0)=Z:=⟨_,rfl⟩
  have HZI:Hid ((Tryz.prog.info? 69).map (·.size)=some Z.length):=zL8 (by rw[←hZ,List.length_replicate];kernel_rfl)
  have HQ:Hid (∀w,(Op.equalIn 10000 69 (.agg Z.toArray) (.agg Tryz.zeroCells69)).run Tryz.prog w= .ok true w):=zL8 (by rw[←hZ];exact zHc)
  have HTB:Hid (l.drop 16=Z):=zL8 (by rw[HP.out.tb,hZ])
  have c0:wr.cell? ⟨b,0,none⟩=some (.int .i8 0):=(HR.out.cell 0).trans HP.out.a0
  have c6:wr.cell? ⟨b,6,none⟩=some (.bool false):=(HR.out.cell 6).trans HP.out.nt
  have c7:wr.cell? ⟨b,7,none⟩=some (.int .u8 112):=(HR.out.cell 7).trans HP.out.nm
  have c8:wr.cell? ⟨b,8,none⟩=some (.int .i64 0):=(HR.out.cell 8).trans HP.out.pl
  have hbl:=HR.out.lt
  clear hbt hZ HBW HBR HAR HK hk2 HN HB
  go_wp2_with (refine zAT rfl 71 _ rfl b rfl 71 l.toArray (0,0) _ HR.out.heap Tryz.underlying71 rfl HCI.out ?_)
  refine HSA.out.mono ?_;rintro e w6 ⟨rfl,hb6⟩
  have HR6:=zL8 (HR.out.below hb6)
  have HB6:=zL8 (HBT.out.trans (hb6.mono (by have:=HR.out.lt;omega)))
  have HZ6:Hid (w6.rangeAt b 16 Z):=zL8 (by have:=HR6.out.tab2;rw[HTB.out]at this;exact this)
  have d7:w6.cell? ⟨b,7,none⟩=some (.int .u8 112):=(HR6.out.cell 7).trans HP.out.nm
  have d10:w6.cell? ⟨b,10,none⟩=some (.slice none 0 0):=(HR6.out.cell 10).trans HP.out.re
  have d11:w6.cell? ⟨b,11,none⟩=some (.slice none 0 0):=(HR6.out.cell 11).trans HP.out.fi
  have d12:w6.cell? ⟨b,12,none⟩=some (.int .i64 0):=(HR6.out.cell 12).trans HP.out.co
  have d13:w6.cell? ⟨b,13,none⟩=some (.bool false):=(HR6.out.cell 13).trans HP.out.al
  have d14:w6.cell? ⟨b,14,none⟩=some (.bool false):=(HR6.out.cell 14).trans HP.out.pr
  have d15:w6.cell? ⟨b,15,none⟩=some (.bool false):=(HR6.out.cell 15).trans HP.out.wr
  have hbl:=HR6.out.lt
  clear hb6 c0 c6 c7 c8 HSA HR HTB
  go_wp2_with (first|refine zAV rfl 69 _ rfl b 16 rfl Z _ HZ6.out Tryz.underlying69 rfl HZI.out ?_|refine zES rfl _ _ rfl rfl rfl HQ.out ?_)
  go_ret
  exact⟨rfl,HBZ.out.symm▸HB6.out⟩
 have hk2':(k:Int)<2:=by omega
 have hlt:sb<wr.heap.size:=zMB HAR.out.lt HBR.out.size
 obtain⟨e0,e1,e2⟩:=HAR.out.k k hk2
 have a0:=(HBR.out.cell (p:=⟨sb,k*3,none⟩) HAR.out.lt).trans e0
 have a1:=(HBR.out.cell (p:=⟨sb,k*3+1,none⟩) HAR.out.lt).trans e1
 have a2:=(HBR.out.cell (p:=⟨sb,k*3+2,none⟩) HAR.out.lt).trans e2
 clear e0 e1 e2
 have HRT: ∀W:World,Hid _:=fun W=>zL8 (zJ8 (w:=W))
 go_wp2_with fail
 refine(HRT _).out.mono ?_;rintro e w5 ⟨rfl,hb5⟩
 have d0:=(hb5.cell (p:=⟨wr.heap.size,0,none⟩) (zAl wr _)).trans (zAL wr #[.int .i8 0,.int .i64 0,.slice none 0 0] 66 0)
 have hl5:wr.heap.size<w5.heap.size:=zMB (zAl wr (.cells #[.int .i8 0,.int .i64 0,.slice none 0 0] 66)) hb5.size
 have HB5:=zL8 ((HBR.out.alloc HBR.out.size (.cells #[.int .i8 0,.int .i64 0,.slice none 0 0] 66)).trans (hb5.mono (by have:=HBR.out.size;have:=zAl wr (.cells #[.int .i8 0,.int .i64 0,.slice none 0 0] 66);omega)))
 clear hb5 HRT a0 a1 a2 hlt
 have d0:w5.cell? ⟨wr.heap.size,0,none⟩=some (.int .i8 0):=d0
 obtain⟨q,hq⟩: ∃q,wr.heap.size=q:=⟨_,rfl⟩
 rw[hq]at d0 hl5 ⊢
 clear hq
 go_wp2_with fail
 go_roundg (2 - (k+1))
 case measure=>have:=HG.out;omega
 case rel=>exact⟨k+1,rfl,by go_num,rfl,by omega,HB5.out⟩
end
end
section
open Go.RowKit
theorem zLp (n:Nat) (v:Value) (w:World):(Go.method (n+1) 33 v "Out").run Tryz.prog w= .ok (293,v) w:=by kernel_rfl
theorem zKv (n:Nat) (v:Value) (w:World):(Go.method (n+1) 33 v "Next").run Tryz.prog w= .ok (292,v) w:=by kernel_rfl
theorem zLO (n:Nat) (v:Value) (w:World):(Go.method (n+1) 33 v "Line").run Tryz.prog w= .ok (291,v) w:=by kernel_rfl
theorem zLP (n:Nat) (v:Value) (w:World):(Go.method (n+1) 33 v "Last").run Tryz.prog w= .ok (290,v) w:=by kernel_rfl
structure Grw (w w':World) (F F':Nat→Prop):Prop where
 kept:zAb w w' F
 grow: ∀x,F' x→F x∨w.heap.size≤x
def zA6 (k:CK) (O:Nat→Option Nat) (pk:Option Nat) (x:Nat):Prop:=x=k.wb∨zGX O x∨zC9 k pk x
structure StS (w:World) (k:CK) (s:CS) (T:List Nat) (pk:Option Nat) (base:Nat) (mu:Bool) (oa:Option Addr) (m ca n u z:Nat) (O:Nat→Option Nat) (A:List Nat):Prop where
 ma:MaS w k s T pk
 wl:WlM w k.wb base mu oa m ca n u z O A
 blt:k.wb<base
 bq:base≤k.qb
 dj: ∀x,zGX O x→ ¬zC9 k pk x
section
variable {w w' w2:World} {F F1 F2:Nat→Prop}
theorem Grw.refl (w:World) (F:Nat→Prop):Grw w w F F:=⟨zAb.refl _ _,fun _=> .inl⟩
theorem Grw.trans (h:Grw w w' F F1) (h2:Grw w' w2 F1 F2):Grw w w2 F F2:=
 ⟨h.kept.trans h2.kept fun x hx e=>(h.grow x e).elim id fun q=>by omega,fun x hx=>(h2.grow x hx).elim (fun e=>h.grow x e) fun q=> .inr (zMV h.kept.size q)⟩
theorem Grw.below (h:Grw w w' F F1) (hb:Below w'.heap.size w' w2):Grw w w2 F F1:=
 ⟨h.kept.trans (zAb.of_below hb (fun _=>False) fun j hj hj2=>absurd hj2 (by omega)) fun _ _ e=>e.elim,h.grow⟩
variable {k:CK} {s s':CS} {T T' X:List Nat} {pk pk':Option Nat} {base:Nat} {mu:Bool} {oa:Option Addr} {m ca n n' u u' z z':Nat} {O O':Nat→Option Nat} {A A':List Nat}
theorem StS.bw (h:StS w k s T pk base mu oa m ca n u z O A):base≤w.heap.size:=by
 obtain⟨o1,o2,o3,o4⟩:=h.ma.or1
 have:=h.bq;have:=h.ma.mlt
 omega
theorem StS.pq (h:StS w k s T pk base mu oa m ca n u z O A) {x:Nat} (hx:zC9 k pk x):k.wb<x:=by
 obtain⟨o1,o2,o3,o4⟩:=h.ma.or1
 have:=h.bq;have:=h.blt
 rcases hx with ⟨e,_⟩|e
 ·omega
 ·have:=h.ma.opk x e;omega
theorem StS.world (h:StS w k s T pk base mu oa m ca n u z O A) (hw:WlM w' k.wb base mu oa m ca n' u' z' O' A') (ha:zCw w w' k.wb O O'):StS w' k s T pk base mu oa m ca n' u' z' O' A'∧Grw w w' (zA6 k O pk) (zA6 k O' pk):=by
 refine⟨⟨h.ma.keep ha.kept fun x hx e q=>e.elim (fun e=>by have:=h.pq q;omega) fun e=>h.dj x e q,hw,h.blt,h.bq,fun x hx q=>(ha.grow x hx).elim (fun e=>h.dj x e q) fun e=>by have:=h.ma.pkLt q;omega⟩,ha.kept.mono fun x _ e=>e.elim .inl fun e=> .inr (.inl e),fun x hx=>?_⟩
 rcases hx with e|e|e
 ·exact .inl (.inl e)
 ·exact(ha.grow x e).imp (fun e=> .inr (.inl e)) id
 ·exact .inl (.inr (.inr e))
theorem StS.mach (h:StS w k s T pk base mu oa m ca n u z O A) (hm:MaS w' k s' T' pk') (hk:zAb w w' (zC9 k pk)) (hp:pk'=pk∨ ∀x,pk'=some x→w.heap.size≤x):StS w' k s' T' pk' base mu oa m ca n u z O A∧Grw w w' (zA6 k O pk) (zA6 k O pk'):=by
 have hq: ∀x,zC9 k pk' x→zC9 k pk x∨w.heap.size≤x:=fun x e=>by
  rcases e with e|e
  ·exact .inl (.inl e)
  ·rcases hp with q|q
   ·exact .inl (.inr (q▸e))
   ·exact .inr (q x e)
 refine⟨⟨hm,h.wl.keep hk fun x hx e=>⟨by have:=h.pq e;omega,fun q=>h.dj x q e⟩,h.blt,h.bq,fun x hx e=>(hq x e).elim (h.dj x hx) fun q=>by have:=(h.wl.footLt hx).2;omega⟩,hk.mono fun x _ e=> .inr (.inr e),fun x hx=>?_⟩
 rcases hx with e|e|e
 ·exact .inl (.inl e)
 ·exact .inl (.inr (.inl e))
 ·exact(hq x e).imp (fun e=> .inr (.inr e)) id
theorem StS.below (h:StS w k s T pk base mu oa m ca n u z O A) (hb:Below w.heap.size w w'):StS w' k s T pk base mu oa m ca n u z O A:=⟨h.ma.below hb,h.wl.below hb,h.blt,h.bq,h.dj⟩
theorem zIu (h:MaS w k s T pk):Calls Tryz.prog 12 #[.pointer (some ⟨k.mb,0,none⟩)] w fun e w'=>e= .returned (.int .i64 s.pl)∧w=w':=by
 have m0:=h.m0
 have hl:=h.mlt
 have c:=h.co.get 8 rfl
 have hc:=h.co.lt
 clear h
 go_enter Tryz.func12,Tryz.ntmps12
 go_wp2_with fail
 go_ret
 exact⟨rfl,rfl⟩
theorem zGH (h:StS w k s T pk base mu oa m ca n u z O A) (hz:z≤549755813888) (hu:u≤549755813888) {ox:Option Addr} {cx:Nat} (hX:Src w (.slice ox X.length cx) X.length (u8s X)) (hl:X.length≤1048576) (hA:A.length≤274877906944):
  Calls Tryz.prog 95 #[.pointer (some ⟨k.cb,0,none⟩),.slice ox X.length cx] w fun e w'=>e= .returned (.int .i64 0)∧ ∃O',StS w' k s T pk base mu oa m ca n (u+1) (z+(X.length+8)) O' (A++(X++[10]))∧Grw w w' (zA6 k O pk) (zA6 k O' pk):=by
 have H:=zL8 (h.below (zL9 _ _).drew)
 have hL:=zGv (w:=w.drew) (hX.below (zL9 _ _).drew) hl
 obtain⟨Y,hY⟩: ∃Y,X++[10]=Y:=⟨_,rfl⟩
 have hyl:Y.length=X.length+1:=by rw[←hY];simp
 have HYL:Hid (Y.length=X.length+1∧Y.length≤1048577):=zL8 (by omega)
 rw[hY]at hL ⊢
 have HL:=zL8 hL
 have HZ:=zL8 hz
 have HU:=zL8 hu
 have HA:=zL8 hA
 have c5:=h.ma.co.get 3 rfl
 have hc:=h.ma.co.lt
 clear h hX hz hu hl hA hL hY hyl
 go_enter Tryz.func95,Tryz.ntmps95
 go_upto_region 1 with fail
 refine zAA (X:=none) 8 [([0,1,2,3,4,6,7],5)] [] (by kernel_rfl) (by kernel_rfl) rfl (fun _ _ _ _ _ h=>h) ?_
 simp only[zAJ,zAC,zAG,zAD,zAB,List.getD_cons_zero,List.getD_cons_succ,List.drop_succ_cons,List.drop_zero]
 repeat (go_big_quiet_step (fail))
 refine wpQuiet_nil ?_
 go_wp2_with fail
 refine HL.out.mono ?_;rintro e w1 ⟨⟨v,rfl,hv⟩,hb⟩
 obtain⟨o1,k1,rfl⟩:=zAI hv
 have HV:=zL8 hv
 have HB:=zL8 hb
 have H1:=zL8 (H.out.below hb)
 dsimp only
 go_wp2_with fail
 refine⟨zAP.of_below hb,?_⟩
 repeat (go_big_quiet_step (fail))
 refine wpQuiet_nil ?_
 clear hv hb
 have HO:=zL8 (zJK H1.out.wl H1.out.blt H1.out.bw HZ.out HU.out (X:=Y) HV.out (fun x hx=>by
  have h1:=(HV.out.lt x hx).1
  exact⟨fun e=>by have:=H.out.wl.lt;omega,fun e=>by have:=(H.out.wl.footLt e).2;omega⟩) (by have:=HYL.out.2;have:=HA.out;omega))
 have hm:=zLp
 go_wp2_with fail
 refine HO.out.mono ?_;rintro e w2 ⟨rfl,O2,hw,ha⟩
 have HS:=zL8 (H1.out.world (hw.mono (s':=z+(X.length+8)) (by have:=HYL.out.1;omega)) ha)
 have HG:=zL8 (((Grw.refl w (zA6 k O pk)).below (zL9 _ _).drew).below HB.out)
 clear hw ha HO hm
 go_wp2_with fail
 go_ret
 exact⟨rfl,O2,HS.out.1,HG.out.trans HS.out.2⟩
end
end
section
open Go.RowKit
section
variable {w w' w2:World} {k:CK} {s s':CS} {T T' X:List Nat} {pk pk':Option Nat} {base:Nat} {mu:Bool} {oa:Option Addr} {m ca n n' u u' z z':Nat} {O O':Nat→Option Nat} {A A':List Nat}
theorem zDN (h:MaS w k s T pk):
  Calls Tryz.prog 96 #[.pointer (some ⟨k.cb,0,none⟩)] w fun e w'=>e= .returned (.int .i64 0)∧MaS w' k s T pk∧zAb w w' (zC9 k pk):=by
 have H:=zL8 (h.below (zL9 _ _).drew)
 have HF: ∀f g,Hid _:=fun f g=>zL8 (zHR (h.below (zL9 _ _).drew).qu f g)
 have c5:=h.co.get 3 rfl
 have c8:=h.co.get 4 rfl
 have hc:=h.co.lt
 clear h
 go_enter Tryz.func96,Tryz.ntmps96
 go_upto_region 1 with fail
 refine zAA (X:=none) 16 [] [0,1,2,3,4,5,6,7,8,9,10,11,12,13,14,15] (by kernel_rfl) (by kernel_rfl) rfl (fun _ _ _ _ _ h=>h) ?_
 simp only[zAJ,zAC,zAD,zAB,List.getD_cons_zero,List.getD_cons_succ,List.drop_succ_cons,List.drop_zero]
 repeat (go_big_quiet_step (fail))
 refine wpQuiet_nil ?_
 go_wp2_with fail
 refine(HF _ _).out.mono ?_;rintro e w1 ⟨rfl,hq,hk⟩
 have HQ:=zL8 hq
 have HK:=zL8 hk
 clear hq hk
 go_wp2_with fail
 go_ret
 have hk:zAb w w1 (zC9 k pk):=((zAb.drew w (fun x=>x=k.qb)).trans HK.out fun _ _ e=>e).mono fun x _ e=> .inl (by have:=H.out.or1;omega)
 exact⟨rfl,H.out.queue HK.out HQ.out,hk⟩
theorem zFU (h:StS w k s T pk base mu oa m ca n u z O A) (hz:z≤549755813888) (hu:u≤549755813888) (hA:A.length≤274877906944) (i c b:Value):
  Calls Tryz.prog 79 #[.pointer (some ⟨k.cb,0,none⟩),i,c,b] w fun e w'=>e= .returned (.int .i64 0)∧ ∃O',StS w' k s T pk base mu oa m ca n (u+1) (z+(T.length+8)) O' (A++(T++[10]))∧Grw w w' (zA6 k O pk) (zA6 k O' pk):=by
 have H:=zL8 h
 have HP:=zL8 (zBo h.ma.sp)
 have HZ:=zL8 hz
 have HU:=zL8 hu
 have HA:=zL8 hA
 obtain⟨Y,hY⟩: ∃Y,A++(T++[10])=Y:=⟨_,rfl⟩
 have HY:=zL8 hY
 rw[hY]
 have c0:=h.ma.co.get 0 rfl
 have hc:=h.ma.co.lt
 clear h hz hu hA hY
 go_enter Tryz.func79,Tryz.ntmps79
 go_wp2_with fail
 refine HP.out.mono ?_;rintro e w1 ⟨⟨v,rfl,hv⟩,hb⟩
 obtain⟨o1,k1,rfl⟩:=zAI hv
 have HR:=zL8 (zGH (H.out.below hb) HZ.out HU.out (Src.own hv) H.out.ma.sp.tl HA.out)
 rw[HY.out]at HR
 have HB:=zL8 hb
 clear hv hb
 go_wp2_with fail
 refine HR.out.mono ?_;rintro e w2 ⟨rfl,O2,hs,hg⟩
 have HS:=zL8 hs
 have HG:=zL8 (((Grw.refl w (zA6 k O pk)).below HB.out).trans hg)
 clear hs hg
 go_wp2_with fail
 go_ret
 exact⟨rfl,O2,HS.out,HG.out⟩
theorem zFA (h:MaS w k s T pk) {i:Nat} (hi:i≤k.nc):
  Calls Tryz.prog 47 #[.pointer (some ⟨k.cb,0,none⟩),.int .i64 (i:Nat)] w fun e w'=>e= .returned (.tuple #[])∧MaS w' k { s with pl:=(i:Nat) } T pk∧zAb w w' (zC9 k pk):=by
 have HS:=zL8 (h.set 8 rfl (.int .i64 (i:Nat)) (s':= { s with pl:=(i:Nat) }) rfl)
 have c1:=h.co.get 1 rfl
 have c8:=h.co.get 8 rfl
 have hc:=h.co.lt
 have z8:=h.co.fz 267
 have HD:Hid (¬i<k.nc∨(i=0∧k.nc=1∧k.oc=some ⟨k.pb,0,none⟩∧k.pb<w.heap.size∧w.cell? ⟨k.pb,7,none⟩=some (.int .u8 112))):=zL8 (by
  rcases h.n01 with e|e
  ·exact .inl (by omega)
  ·by_cases q:i<k.nc
   ·obtain⟨e1,_,_,l,e2⟩:=h.cm e
    have:=e2.row 7 _ e2.nm
    exact .inr ⟨by omega,e,e1,e2.lt,by simpa using this⟩
   ·exact .inl q)
 obtain⟨nc,hnc⟩: ∃nc,k.nc=nc:=⟨_,rfl⟩
 obtain⟨oc,hoc⟩: ∃oc,k.oc=oc:=⟨_,rfl⟩
 rw[hnc,hoc]at c1
 rw[hnc,hoc]at HD
 clear h hi hnc hoc
 go_enter Tryz.func47,Tryz.ntmps47
 go_wp2_with fail
 go_loopg [1] 1 (fun gk iv wr=>iv= .int .i64 (i:Nat)∧wr=w)
 case atStart=>exact⟨rfl,rfl⟩
 case round=>
 obtain⟨rfl,rfl⟩:=hrel
 rcases HD.out with q|⟨rfl,rfl,rfl,q1,q2⟩
 ·have q': ¬(i:Int)<(nc:Int):=by omega
  go_wp2_with fail
  go_end0
  exact⟨rfl,HS.out.1,HS.out.2⟩
 ·go_wp2_with fail
  go_end0
  exact⟨rfl,HS.out.1,HS.out.2⟩
end
end
section
open Go.RowKit
def zLL (k:CK):Value:= .func (.func 44) #[.pointer (some ⟨k.sb,0,none⟩)] #[]
section
variable {w w' w2:World} {k:CK} {s s':CS} {T T' X:List Nat} {pk pk':Option Nat} {base:Nat} {mu:Bool} {oa:Option Addr} {m ca n n' u u' z z':Nat} {O O':Nat→Option Nat} {A A':List Nat}
theorem zGq (h:StS w k s T pk base mu oa m ca n u z O A) (hz:z≤549755813888) (hm:m≤n) (p:Value):
  Calls Tryz.prog 43 #[.pointer (some ⟨k.cb,0,none⟩),p] w fun e w'=>e= .returned (.int .i64 0)∧ ∃O',StS w' k { s with nx:= -2 } T pk base mu oa m ca n u (z+3) O' A∧Grw w w' (zA6 k O pk) (zA6 k O' pk):=by
 have H:=zL8 h
 have HN:=zL8 (zIL h.wl h.blt h.bw (by omega) hm)
 have c5:=h.ma.co.get 3 rfl
 have hc:=h.ma.co.lt
 clear h hz hm
 have hmn:=zKv
 go_enter Tryz.func43,Tryz.ntmps43
 go_wp2_with fail
 refine HN.out.mono ?_;rintro e w1 ⟨rfl,O1,hw,ha⟩
 obtain⟨hs,hg⟩:=H.out.world hw ha
 have hs2:=hs.ma.set 9 rfl (.int .i64 (-2)) (s':= { s with nx:= -2 }) rfl
 have hs3:=hs.mach hs2.1 hs2.2 (.inl rfl)
 have HS:=zL8 hs3.1
 have HG:=zL8 (hg.trans hs3.2)
 have c9:=hs.ma.co.get 9 rfl
 have hc:=hs.ma.co.lt
 have z9:=hs.ma.co.fz 268
 clear hw ha hs hg hs2 hs3 hmn
 go_wp2_with fail
 go_ret
 exact⟨rfl,O1,HS.out,HG.out⟩
theorem zGp (h:StS w k s T pk base mu oa m ca n u z O A) (hz:z≤549755813888) (hmu:mu=false→z<450) (hm:n<m) (hmz:m≤4611686018427387903) {B:Nat} (hB:B≤k.wb) {LL:List Lin} (hL:LnB w B oa LL) {l:Lin} (hl:LL[n]?=some l) (hll:l.T.length≤1048576):
  Calls Tryz.prog 43 #[.pointer (some ⟨k.cb,0,none⟩),zLL k] w fun e w'=>e= .returned (.int .i64 0)∧ ∃O' pk',StS w' k { s with fl:=false } l.T pk' base mu oa m ca (n+1) u (z+5) O' A∧Grw w w' (zA6 k O pk) (zA6 k O' pk'):=by
 have H:=zL8 h
 have HN:=zL8 (zIK h.wl h.blt h.bw hB (by omega) hmu hm hmz hL hl)
 have HLL:=zL8 hll
 have c5:=h.ma.co.get 3 rfl
 have hc:=h.ma.co.lt
 clear h hz hmu hm hmz hB hL hl hll
 have hmn:=zKv
 unfold zLL
 go_enter Tryz.func43,Tryz.ntmps43
 go_wp2_with fail
 refine HN.out.mono ?_;rintro e w1 ⟨⟨g,rfl,hwd⟩,O1,hw,ha⟩
 obtain⟨hs,hg⟩:=H.out.world hw ha
 have hs2:=hs.ma.set 7 rfl (.bool false) (s':= { s with fl:=false }) rfl
 have hs3:=hs.mach hs2.1 hs2.2 (.inl rfl)
 have HS:=zL8 hs3.1
 have HG:=zL8 (hg.trans hs3.2)
 have HW:Hid (zAt (w1.setCell ⟨k.cb,266,none⟩ (.bool false)) w.heap.size g l.T.length l.T):=zL8 (hwd.block (zMI _ _ _ _ (by have:=hwd.lt.1;have:=H.out.ma.co.lt;show g≠k.cb;omega)))
 have c7:=hs.ma.co.get 7 rfl
 have hc:=hs.ma.co.lt
 have z7:=hs.ma.co.fz 266
 clear hw ha hs hg hs2 hs3 hmn hwd
 go_upto_region 6 with fail
 obtain⟨W,hW⟩: ∃W,w1.setCell ⟨k.cb,266,none⟩ (.bool false)=W:=⟨_,rfl⟩
 rw[hW]at HS HG HW ⊢
 clear hW c7 z7 hc
 have HP:=zL8 (zHq (X:=l.T) (oa:=some ⟨g,0,none⟩) (cap:=l.T.length+64) HS.out.ma.sp (fun hp=>⟨g,0,rfl,fun j hj=>by
  rw[Nat.zero_add,HW.out.at_ (b:=l.T.getD j 0) (by rw[zMT hj,zMH,zMP hj];rfl)]⟩) (fun _ _ _ e=>by injection e with e;injection e with _ _ e;cases e) HLL.out)
 have hc:=HS.out.ma.co.lt
 go_wp2_with fail
 refine HP.out.mono ?_;rintro e w2 ⟨rfl,⟨pk2,hs,hp⟩,hk⟩
 have h3:=HS.out.mach (HS.out.ma.space hk hs hp) (hk.mono fun x _ e=> .inl (by have:=HS.out.ma.or1;omega)) (.inr hp)
 have HS3:=zL8 h3.1
 have HG3:=zL8 (HG.out.trans h3.2)
 clear hs hp hk h3
 go_wp2_with fail
 go_ret
 exact⟨rfl,O1,pk2,HS3.out,HG3.out⟩
end
end
section
open Go.RowKit
section
variable {w w' w2:World} {k:CK} {s s':CS} {T T' X:List Nat} {pk pk':Option Nat} {base:Nat} {mu:Bool} {oa:Option Addr} {m ca n n' u u' z z':Nat} {O O':Nat→Option Nat} {A A':List Nat}
theorem zHx (h:StS w k s T pk base mu oa m ca n u z O A) (hz:z≤549755813888) (hu:u≤549755813888) (hA:A.length≤274877906944) (hsi:s.si=false):
  Calls Tryz.prog 45 #[.pointer (some ⟨k.cb,0,none⟩)] w fun e w'=>e= .returned (.int .i64 0)∧ ∃O' u',u'≤u+1∧StS w' k { s with nx:= -1 } T pk base mu oa m ca n u' (z+(T.length+8)) O' (A++bif k.q then []else T++[10])∧Grw w w' (zA6 k O pk) (zA6 k O' pk):=by
 obtain⟨fl,pl,nx,st,er,si⟩:=s
 cases hsi
 have H:=zL8 h
 have HP:=zL8 (zBo h.ma.sp)
 have HZ:=zL8 hz
 have HU:=zL8 hu
 have HA:=zL8 hA
 have c0:=h.ma.co.get 0 rfl
 have c4:=h.ma.co.get 2 rfl
 have c13:=h.ma.co.get 12 rfl
 have z13:=h.ma.co.fz 271
 have hc:=h.ma.co.lt
 clear h hz hu hA
 cases hq:k.q with
 |true=>
  rw[hq]at c4
  dsimp only[cond_true]
  have HS0:=H
  have HG0:=zL8 (Grw.refl w (zA6 k O pk))
  clear HP hq c0 c13 z13
  go_enter Tryz.func45,Tryz.ntmps45
  go_upto_region 5 with fail
  clear c4 hc
  obtain⟨hs1,hk1⟩:=HS0.out.ma.set 12 rfl (.bool false) (s':=⟨fl,pl,nx,st,er,false⟩) rfl
  obtain⟨hs2,hg2⟩:=HS0.out.mach hs1 hk1 (.inl rfl)
  have HS1:=zL8 hs2
  have HG1:=zL8 (HG0.out.trans hg2)
  clear hs1 hk1 hs2 hg2
  have c13:=HS0.out.ma.co.get 12 rfl
  have z13:=HS0.out.ma.co.fz 271
  have hc:=HS0.out.ma.co.lt
  go_upto_region 6 with fail
  obtain⟨V,hV⟩: ∃V,w.setCell ⟨k.cb,271,none⟩ (.bool false)=V:=⟨_,rfl⟩
  rw[hV]at HS1 HG1 ⊢
  clear hV c13 z13 hc HS0 HG0
  have HF:=zL8 (zDN HS1.out.ma)
  go_wp2_with fail
  refine HF.out.mono ?_;rintro e w5 ⟨rfl,hm5,hk5⟩
  obtain⟨hs5,hg5⟩:=HS1.out.mach hm5 hk5 (.inl rfl)
  obtain⟨hm6,hk6⟩:=hm5.set 9 rfl (.int .i64 (-1)) (s':=⟨fl,pl,-1,st,er,false⟩) rfl
  obtain⟨hs6,hg6⟩:=hs5.mach hm6 hk6 (.inl rfl)
  have HS6:=zL8 hs6
  have HG6:=zL8 ((HG1.out.trans hg5).trans hg6)
  have c14:=hm5.co.get 13 rfl
  have c15:=hm5.co.get 14 rfl
  have c9:=hm5.co.get 9 rfl
  have z9:=hm5.co.fz 268
  have hc:=hm5.co.lt
  clear hm5 hk5 hs5 hg5 hm6 hk6 hs6 hg6 HF HS1 HG1
  go_wp2_with fail
  go_ret
  exact⟨rfl,O,u,by omega,⟨HS6.out.ma,by rw[List.append_nil];exact HS6.out.wl.mono (by omega),HS6.out.blt,HS6.out.bq,HS6.out.dj⟩,HG6.out⟩
 |false=>
  rw[hq]at c4
  dsimp only[cond_false]
  obtain⟨Y,hY⟩: ∃Y,A++(T++[10])=Y:=⟨_,rfl⟩
  have HY:=zL8 hY
  rw[hY]
  clear hq hY z13
  go_enter Tryz.func45,Tryz.ntmps45
  go_wp2_with fail
  refine HP.out.mono ?_;rintro e w1 ⟨⟨v,rfl,hv⟩,hb⟩
  obtain⟨o1,k1,rfl⟩:=zAI hv
  have HR:=zL8 (zGH (H.out.below hb) HZ.out HU.out (Src.own hv) H.out.ma.sp.tl HA.out)
  rw[HY.out]at HR
  have HB:=zL8 hb
  clear hv hb
  go_wp2_with fail
  refine HR.out.mono ?_;rintro e w2 ⟨rfl,O2,hs,hg⟩
  have HS0:=zL8 hs
  have HG0:=zL8 (((Grw.refl w (zA6 k O pk)).below HB.out).trans hg)
  clear hs hg HR HP HB H c0 c4 c13 hc HY
  go_upto_region 5 with fail
  obtain⟨hs1,hk1⟩:=HS0.out.ma.set 12 rfl (.bool false) (s':=⟨fl,pl,nx,st,er,false⟩) rfl
  obtain⟨hs2,hg2⟩:=HS0.out.mach hs1 hk1 (.inl rfl)
  have HS1:=zL8 hs2
  have HG1:=zL8 (HG0.out.trans hg2)
  clear hs1 hk1 hs2 hg2
  have c13:=HS0.out.ma.co.get 12 rfl
  have z13:=HS0.out.ma.co.fz 271
  have hc:=HS0.out.ma.co.lt
  go_upto_region 6 with fail
  obtain⟨V,hV⟩: ∃V,w2.setCell ⟨k.cb,271,none⟩ (.bool false)=V:=⟨_,rfl⟩
  rw[hV]at HS1 HG1 ⊢
  clear hV c13 z13 hc HS0 HG0
  have HF:=zL8 (zDN HS1.out.ma)
  go_wp2_with fail
  refine HF.out.mono ?_;rintro e w5 ⟨rfl,hm5,hk5⟩
  obtain⟨hs5,hg5⟩:=HS1.out.mach hm5 hk5 (.inl rfl)
  obtain⟨hm6,hk6⟩:=hm5.set 9 rfl (.int .i64 (-1)) (s':=⟨fl,pl,-1,st,er,false⟩) rfl
  obtain⟨hs6,hg6⟩:=hs5.mach hm6 hk6 (.inl rfl)
  have HS6:=zL8 hs6
  have HG6:=zL8 ((HG1.out.trans hg5).trans hg6)
  have c14:=hm5.co.get 13 rfl
  have c15:=hm5.co.get 14 rfl
  have c9:=hm5.co.get 9 rfl
  have z9:=hm5.co.fz 268
  have hc:=hm5.co.lt
  clear hm5 hk5 hs5 hg5 hm6 hk6 hs6 hg6 HF HS1 HG1
  go_wp2_with fail
  go_ret
  exact⟨rfl,O2,u+1,by omega,HS6.out,HG6.out⟩
end
end
section
open Go.RowKit
theorem zB0 {P:Program} {o:Oper} {a:Act} {W:World} {K:Act→Prop} (ty:TypeId) (x:Operand) (ho:o.op= .load ty x) (b off:Nat) (hx:a.eval x= .pointer (some ⟨b,off,none⟩)) (cs:List Value) (d:TypeDesc) (hc:W.rangeAt b off cs) (hb:b<W.heap.size)
  (hu:P.underlying ty=some d) (hd:d.isRow=true) (hi:(P.info? ty).map (·.size)=some cs.length) (hk:K (a.put o.dst (.agg cs.toArray))):o.quiet P a (fun w'=> ∃g,w'=wgr none W g) K:=by
 refine⟨_,fun w hw=>?_,hk⟩
 obtain⟨g,rfl⟩:=hw
 have hr:(wgr none W g).rangeAt b off cs:=fun j v hv=>((zBZ (X:=none) W g).cell ⟨b,off+j,none⟩ hb (by simp)).trans (hc j v hv)
 unfold Oper.quietAt execOp
 simp only[ho,hx,Instr.loadAt,Instr.sureAddr,Sem.run_bind,Sem.run_pure,Result.andThen_ok,run_loadVar_mid _ b off ty cs d hr hu hd hi]
 exact⟨rfl,rfl⟩
section
variable {w w' w2:World} {k:CK} {s s':CS} {T T' X:List Nat} {pk pk':Option Nat} {base:Nat} {mu:Bool} {oa:Option Addr} {m ca n n' u u' z z':Nat} {O O':Nat→Option Nat} {A A':List Nat}
theorem zGl {cs:Array Value} (hka:cs[0]?=some (.int .i8 0)) (hnt:cs[6]?=some (.bool false)) {gb:Nat} {og:Option Addr} {nc cg:Nat} (hg:w.cell? ⟨gb,0,none⟩=some (.slice og nc cg)) (hn:0<nc) (line:Int) (last:Bool) (fn:Fn) (fs fc:Array Value):
  Calls Tryz.prog 99 #[.pointer (some ⟨gb,0,none⟩),.int .i64 0,.agg cs,.int .i64 line,.bool last,.func fn fs fc] w fun e w'=>e= .returned (.tuple #[.bool true,.bool false])∧Below w.heap.size w w':=by
 have hmf: ∀(fn:Fn) (first cap:Array Value) (w:World),(Instr.makeFunc fn first cap).run Tryz.prog w= .ok (.func fn first cap) w:=fun _ _ _ _=>rfl
 have hgl:gb<w.heap.size:=zMf w _ hg
 have hB:Below w.heap.size w ((((w.alloc (.cells cs 71)).alloc (.cells #[.int .i64 line] 3)).alloc (.cells #[.bool last] 4)).alloc (.cells #[.func fn fs fc] 168)):=((((zL9 _ _).alloc (zMA _) _).alloc (by simp) _).alloc (by simp;omega) _).alloc (by simp;omega) _
 have hcl: ∀j,((((w.alloc (.cells cs 71)).alloc (.cells #[.int .i64 line] 3)).alloc (.cells #[.bool last] 4)).alloc (.cells #[.func fn fs fc] 168)).cell? ⟨w.heap.size,j,none⟩=cs[j]?:=fun j=>by
  have h1:(w.alloc (.cells cs 71)).heap[w.heap.size]?=some (.cells cs 71 (0,0)):=zML w _
  have h2:=(zMM (((w.alloc (.cells cs 71)).alloc (.cells #[.int .i64 line] 3)).alloc (.cells #[.bool last] 4)) (.cells #[.func fn fs fc] 168) (r:=w.heap.size) (by simp;omega)).trans ((zMM ((w.alloc (.cells cs 71)).alloc (.cells #[.int .i64 line] 3)) (.cells #[.bool last] 4) (r:=w.heap.size) (by simp;omega)).trans ((zMM (w.alloc (.cells cs 71)) (.cells #[.int .i64 line] 3) (r:=w.heap.size) (by simp)).trans h1))
  rw[zMN _ _ j _ _ (0,0) h2]
 have HG:=zL8 ((hB.cell (p:=⟨gb,0,none⟩) hgl).trans hg)
 have HB:=zL8 hB
 have HCL:=zL8 hcl
 have HS:Hid (w.heap.size<((((w.alloc (.cells cs 71)).alloc (.cells #[.int .i64 line] 3)).alloc (.cells #[.bool last] 4)).alloc (.cells #[.func fn fs fc] 168)).heap.size):=zL8 (by simp;omega)
 have hnc:(0:Int)<(nc:Int):=by omega
 clear hg hn hB hcl
 go_enter Tryz.func99,Tryz.ntmps99
 go_upto_region 1 with fail
 obtain⟨W,hW⟩: ∃W,(((w.alloc (.cells cs 71)).alloc (.cells #[.int .i64 line] 3)).alloc (.cells #[.bool last] 4)).alloc (.cells #[.func fn fs fc] 168)=W:=⟨_,rfl⟩
 rw[hW]at HG HB HCL HS ⊢
 clear hW
 obtain⟨c,hcz⟩: ∃c,w.heap.size=c:=⟨_,rfl⟩
 rw[hcz]at HB HCL HS hgl ⊢
 have HCZ:=zL8 hcz
 clear hcz
 have g0:=HG.out
 have hgl':gb<W.heap.size:=by have:=HS.out;omega
 have hcl':=HS.out
 have a0:=(HCL.out 0).trans hka
 have a6:=(HCL.out 6).trans hnt
 clear hka hnt
 go_wp2_with fail
 go_ret2
 exact⟨rfl,HCZ.out▸HB.out⟩
end
end
section
open Go.RowKit
structure TbP (w:World) (cb:Nat) (L:List (Nat × Value)):Prop where
 bk:BkV w cb L
 ex: ∀o,10≤o→o<266→ ∃v,w.cell? ⟨cb,o,none⟩=some v
def zKm:List Nat:=[0,1,4,5,8,9,122,266,267,268,269,270,271,272,273]
section
variable {w w':World} {cb:Nat} {L:List (Nat × Value)}
theorem TbP.set (h:TbP w cb L) {o:Nat} (hn: ∀p∈L,p.1≠o) (v:Value):TbP (w.setCell ⟨cb,o,none⟩ v) cb L:=by
 refine⟨⟨by simpa [World.setCell]using h.bk.lt,fun p hp=>(zMQ _ _ _ _ (by intro q;cases q;exact hn p hp rfl)).trans (h.bk.fx p hp),fun x=>(World.frozen?_setCell _ _ _ _).trans (h.bk.fz x)⟩,fun x h1 h2=>?_⟩
 obtain⟨u,hu⟩:=h.ex x h1 h2
 by_cases e:x=o
 ·subst e;exact⟨v,zMR _ _ _ hu⟩
 ·exact⟨u,(zMQ _ _ _ _ (by intro q;cases q;exact e rfl)).trans hu⟩
theorem TbP.same (h:TbP w cb L) (hb:w'.heap[cb]?=w.heap[cb]?) (hs:w.heap.size≤w'.heap.size):TbP w' cb L:=
 ⟨h.bk.same hb hs,fun o h1 h2=>by obtain⟨v,hv⟩:=h.ex o h1 h2;exact⟨v,(zMC (a:=⟨cb,o,none⟩) hb).trans hv⟩⟩
theorem TbP.put (h:TbP w cb L) (hn:(L.map (·.1)).Nodup) (j:Nat) {o:Nat} {u:Value} (e:L[j]?=some (o,u)) (v:Value):TbP (w.setCell ⟨cb,o,none⟩ v) cb (L.set j (o,v)):=by
 refine⟨h.bk.set hn j e v,fun x h1 h2=>?_⟩
 obtain⟨u,hu⟩:=h.ex x h1 h2
 by_cases q:x=o
 ·subst q;exact⟨v,zMR _ _ _ hu⟩
 ·exact⟨u,(zMQ _ _ _ _ (by intro z;cases z;exact q rfl)).trans hu⟩
variable {k:CK} {s:CS}
def zDl (k:CK) (s:CS):List (Nat × Value):=(zCX k s).set 6 (122,.nilFunc)
theorem zFF (k:CK) (s:CS):(zDl k s).map (·.1)=zKm:=rfl
theorem zIj (k:CK) (s:CS):(zCX k s).map (·.1)=zKm:=rfl
theorem zA0 {L:List (Nat × Value)} (h:L.map (·.1)=zKm) {o:Nat} (ho:o∉zKm): ∀p∈L,p.1≠o:=fun _ hp e=>ho (h▸e▸List.mem_map_of_mem hp)
def zKV:List Nat:=[103,71,104,72,120]
theorem zKK: ∀j,j<5→zKV.getD j 0<256∧zKV.getD j 0+10∉zKm:=by decide
theorem zIU (w:World): ∀j,j<5→(w.alloc (.cells #[.int .u8 103,.int .u8 71,.int .u8 104,.int .u8 72,.int .u8 120] 5 (5,6))).cell? ⟨w.heap.size,j,none⟩=some (.int .u8 (zKV.getD j 0:Nat)):=fun j hj=>by
 rw[zMN _ _ j _ _ (5,6) (zML w _)]
 rcases(show j=0∨j=1∨j=2∨j=3∨j=4 by omega)with rfl|rfl|rfl|rfl|rfl<;>rfl
theorem zDq (h:TbP w k.cb (zDl k s)):
  Calls Tryz.prog 31 #[.pointer (some ⟨k.cb,0,none⟩)] w fun e w'=>e= .returned (.tuple #[])∧BkV w' k.cb (zCX k s)∧zAb w w' (fun x=>x=k.cb):=by
 have hmf: ∀(fn:Fn) (first cap:Array Value) (w:World),(Instr.makeFunc fn first cap).run Tryz.prog w= .ok (.func fn first cap) w:=fun _ _ _ _=>rfl
 have hcv:=Lib.run_convert_bytes_const (P:=Tryz.prog) w 46 5 #[.int .u8 103,.int .u8 71,.int .u8 104,.int .u8 72,.int .u8 120] 5 5 Tryz.underlying46 Tryz.underlying5
 rw[show(#[Value.int .u8 103,.int .u8 71,.int .u8 104,.int .u8 72,.int .u8 120]:Array Value).size=5 from rfl]at hcv
 have hL:=zIj k s
 obtain⟨cb,hcb⟩: ∃cb,k.cb=cb:=⟨_,rfl⟩
 have hfin: ∀W,TbP W k.cb (zDl k s)→TbP (W.setCell ⟨k.cb,122,none⟩ (.func (.func 79) #[.pointer (some ⟨k.cb,0,none⟩)] #[])) k.cb (zCX k s):=fun W hW=>hW.put (by rw[zFF];decide) 6 rfl _
 have hL0:=zFF k s
 rw[hcb]at h hfin ⊢
 generalize zDl k s=L0 at h hL0 hfin
 generalize zCX k s=L at hL hfin ⊢
 have HFIN:=zL8 hfin
 have HL:=zL8 hL
 have HL0:=zL8 hL0
 have hlit:=zIU w
 have HT0:=zL8 (h.same (w':=w.alloc (.cells #[.int .u8 103,.int .u8 71,.int .u8 104,.int .u8 72,.int .u8 120] 5 (5,6))) (zMM _ _ h.bk.lt) (by simp))
 have HK0:Hid (zAb w (w.alloc (.cells #[.int .u8 103,.int .u8 71,.int .u8 104,.int .u8 72,.int .u8 120] 5 (5,6))) (fun x=>x=cb)):=zL8 (zAb.alloc _ _ _)
 have HDL:Hid (w.heap.size<(w.alloc (.cells #[.int .u8 103,.int .u8 71,.int .u8 104,.int .u8 72,.int .u8 120] 5 (5,6))).heap.size):=zL8 (zAl _ _)
 have HCT:=zL8 h.bk.lt
 have HLIT:=zL8 hlit
 clear h hfin hL hL0 hlit hcb
 go_enter Tryz.func31,Tryz.ntmps31
 go_wp2_with fail
 clear hcv
 obtain⟨W,hW⟩: ∃W,w.alloc (.cells #[.int .u8 103,.int .u8 71,.int .u8 104,.int .u8 72,.int .u8 120] 5 (5,6))=W:=⟨_,rfl⟩
 rw[hW]at HT0 HK0 HLIT HDL ⊢
 clear hW
 obtain⟨d,hd⟩: ∃d,w.heap.size=d:=⟨_,rfl⟩
 rw[hd]at HLIT HDL HCT ⊢
 clear hd
 go_loopg [7] 6 (fun gk kv wr=> ∃j:Nat,kv= .int .i64 (j:Nat)∧gk+j=6∧j≤5∧TbP wr cb L0∧zAb w wr (fun x=>x=cb)∧(∀j,j<5→wr.cell? ⟨d,j,none⟩=some (.int .u8 (zKV.getD j 0:Nat)))∧d<wr.heap.size)
 case atStart=>exact⟨0,rfl,rfl,by decide,HT0.out,HK0.out,HLIT.out,HDL.out⟩
 case round=>
 obtain⟨j,rfl,hgk,hj,ht,hk,hlit,hdl⟩:=hrel
 have HGK:=zL8 hgk
 have HT:=zL8 ht
 have HK:=zL8 hk
 have HLI:=zL8 hlit
 have HDR:=zL8 hdl
 by_cases hj5:j<5
 ·have hj5':(j:Int)<5:=by omega
  obtain⟨hb,hno⟩:=zKK j hj5
  have hlj:=hlit j hj5
  obtain⟨b,hbe⟩: ∃b,zKV.getD j 0=b:=⟨_,rfl⟩
  rw[hbe]at hb hno hlj
  obtain⟨v,hv⟩:=ht.ex (10+b) (by omega) (by omega)
  have hz:=ht.bk.fz (10+b)
  have hc:=ht.bk.lt
  have hb':(b:Int)<256:=by omega
  have HT2:=zL8 (ht.set (o:=10+b) (zA0 HL0.out (by rw[Nat.add_comm];exact hno)) (.func (.func 69) #[.pointer (some ⟨cb,0,none⟩)] #[]))
  have HK2:=zL8 (hk.trans (zAb.setCell wr ⟨cb,10+b,none⟩ (.func (.func 69) #[.pointer (some ⟨cb,0,none⟩)] #[])) fun _ _ e=>e)
  have HL2:Hid (∀j,j<5→(wr.setCell ⟨cb,10+b,none⟩ (.func (.func 69) #[.pointer (some ⟨cb,0,none⟩)] #[])).cell? ⟨d,j,none⟩=some (.int .u8 (zKV.getD j 0:Nat))):=zL8 fun j hj=>(zMC (a:=⟨d,j,none⟩) (zMI _ _ _ _ (by show d≠cb;have:=HCT.out;omega))).trans (hlit j hj)
  have HD2:Hid (d<(wr.setCell ⟨cb,10+b,none⟩ (.func (.func 69) #[.pointer (some ⟨cb,0,none⟩)] #[])).heap.size):=zL8 (by simpa [World.setCell]using hdl)
  clear ht hk hlit hgk hj hno hbe
  go_wp2_with fail
  go_roundg (gk - 1)
  case measure=>have:=HGK.out;omega
  case rel=>exact⟨j+1,by go_num,by have:=HGK.out;omega,by omega,HT2.out,HK2.out,HL2.out,HD2.out⟩
 clear ht hk hlit hgk HLI HDR hdl HDL HLIT HT0 HK0
 have hj5': ¬(j:Int)<5:=by omega
 go_upto_region 5 with fail
 obtain⟨v,hv⟩:=HT.out.ex 71 (by decide) (by decide)
 have hz:=HT.out.bk.fz 71
 have hc:=HT.out.bk.lt
 have HT2:=zL8 (HT.out.set (o:=71) (zA0 HL0.out (by decide)) (.func (.func 70) #[.pointer (some ⟨cb,0,none⟩)] #[]))
 have HK2:=zL8 (HK.out.trans (zAb.setCell wr ⟨cb,71,none⟩ (.func (.func 70) #[.pointer (some ⟨cb,0,none⟩)] #[])) fun _ _ e=>e)
 clear HT HK
 go_upto_region 6 with fail
 obtain⟨W1,hW⟩: ∃V,wr.setCell ⟨cb,71,none⟩ (.func (.func 70) #[.pointer (some ⟨cb,0,none⟩)] #[])=V:=⟨_,rfl⟩
 rw[hW]at HT2 HK2 ⊢
 clear hW hv hz hc
 have HT:=HT2
 have HK:=HK2
 clear HT2 HK2
 obtain⟨v,hv⟩:=HT.out.ex 107 (by decide) (by decide)
 have hz:=HT.out.bk.fz 107
 have hc:=HT.out.bk.lt
 have HT2:=zL8 (HT.out.set (o:=107) (zA0 HL0.out (by decide)) (.func (.func 71) #[.pointer (some ⟨cb,0,none⟩)] #[]))
 have HK2:=zL8 (HK.out.trans (zAb.setCell W1 ⟨cb,107,none⟩ (.func (.func 71) #[.pointer (some ⟨cb,0,none⟩)] #[])) fun _ _ e=>e)
 clear HT HK
 go_upto_region 7 with fail
 obtain⟨W2,hW⟩: ∃V,W1.setCell ⟨cb,107,none⟩ (.func (.func 71) #[.pointer (some ⟨cb,0,none⟩)] #[])=V:=⟨_,rfl⟩
 rw[hW]at HT2 HK2 ⊢
 clear hW hv hz hc
 have HT:=HT2
 have HK:=HK2
 clear HT2 HK2
 obtain⟨v,hv⟩:=HT.out.ex 108 (by decide) (by decide)
 have hz:=HT.out.bk.fz 108
 have hc:=HT.out.bk.lt
 have HT2:=zL8 (HT.out.set (o:=108) (zA0 HL0.out (by decide)) (.func (.func 72) #[.pointer (some ⟨cb,0,none⟩)] #[]))
 have HK2:=zL8 (HK.out.trans (zAb.setCell W2 ⟨cb,108,none⟩ (.func (.func 72) #[.pointer (some ⟨cb,0,none⟩)] #[])) fun _ _ e=>e)
 clear HT HK
 go_upto_region 8 with fail
 obtain⟨W3,hW⟩: ∃V,W2.setCell ⟨cb,108,none⟩ (.func (.func 72) #[.pointer (some ⟨cb,0,none⟩)] #[])=V:=⟨_,rfl⟩
 rw[hW]at HT2 HK2 ⊢
 clear hW hv hz hc
 have HT:=HT2
 have HK:=HK2
 clear HT2 HK2
 obtain⟨v,hv⟩:=HT.out.ex 109 (by decide) (by decide)
 have hz:=HT.out.bk.fz 109
 have hc:=HT.out.bk.lt
 have HT2:=zL8 (HT.out.set (o:=109) (zA0 HL0.out (by decide)) (.func (.func 73) #[.pointer (some ⟨cb,0,none⟩)] #[]))
 have HK2:=zL8 (HK.out.trans (zAb.setCell W3 ⟨cb,109,none⟩ (.func (.func 73) #[.pointer (some ⟨cb,0,none⟩)] #[])) fun _ _ e=>e)
 clear HT HK
 go_upto_region 9 with fail
 obtain⟨W4,hW⟩: ∃V,W3.setCell ⟨cb,109,none⟩ (.func (.func 73) #[.pointer (some ⟨cb,0,none⟩)] #[])=V:=⟨_,rfl⟩
 rw[hW]at HT2 HK2 ⊢
 clear hW hv hz hc
 have HT:=HT2
 have HK:=HK2
 clear HT2 HK2
 obtain⟨v,hv⟩:=HT.out.ex 110 (by decide) (by decide)
 have hz:=HT.out.bk.fz 110
 have hc:=HT.out.bk.lt
 have HT2:=zL8 (HT.out.set (o:=110) (zA0 HL0.out (by decide)) (.func (.func 74) #[.pointer (some ⟨cb,0,none⟩)] #[]))
 have HK2:=zL8 (HK.out.trans (zAb.setCell W4 ⟨cb,110,none⟩ (.func (.func 74) #[.pointer (some ⟨cb,0,none⟩)] #[])) fun _ _ e=>e)
 clear HT HK
 go_upto_region 10 with fail
 obtain⟨W5,hW⟩: ∃V,W4.setCell ⟨cb,110,none⟩ (.func (.func 74) #[.pointer (some ⟨cb,0,none⟩)] #[])=V:=⟨_,rfl⟩
 rw[hW]at HT2 HK2 ⊢
 clear hW hv hz hc
 have HT:=HT2
 have HK:=HK2
 clear HT2 HK2
 obtain⟨v,hv⟩:=HT.out.ex 78 (by decide) (by decide)
 have hz:=HT.out.bk.fz 78
 have hc:=HT.out.bk.lt
 have HT2:=zL8 (HT.out.set (o:=78) (zA0 HL0.out (by decide)) (.func (.func 75) #[.pointer (some ⟨cb,0,none⟩)] #[]))
 have HK2:=zL8 (HK.out.trans (zAb.setCell W5 ⟨cb,78,none⟩ (.func (.func 75) #[.pointer (some ⟨cb,0,none⟩)] #[])) fun _ _ e=>e)
 clear HT HK
 go_upto_region 11 with fail
 obtain⟨W6,hW⟩: ∃V,W5.setCell ⟨cb,78,none⟩ (.func (.func 75) #[.pointer (some ⟨cb,0,none⟩)] #[])=V:=⟨_,rfl⟩
 rw[hW]at HT2 HK2 ⊢
 clear hW hv hz hc
 have HT:=HT2
 have HK:=HK2
 clear HT2 HK2
 obtain⟨v,hv⟩:=HT.out.ex 115 (by decide) (by decide)
 have hz:=HT.out.bk.fz 115
 have hc:=HT.out.bk.lt
 have HT2:=zL8 (HT.out.set (o:=115) (zA0 HL0.out (by decide)) (.func (.func 76) #[.pointer (some ⟨cb,0,none⟩)] #[]))
 have HK2:=zL8 (HK.out.trans (zAb.setCell W6 ⟨cb,115,none⟩ (.func (.func 76) #[.pointer (some ⟨cb,0,none⟩)] #[])) fun _ _ e=>e)
 clear HT HK
 go_upto_region 12 with fail
 obtain⟨W7,hW⟩: ∃V,W6.setCell ⟨cb,115,none⟩ (.func (.func 76) #[.pointer (some ⟨cb,0,none⟩)] #[])=V:=⟨_,rfl⟩
 rw[hW]at HT2 HK2 ⊢
 clear hW hv hz hc
 have HT:=HT2
 have HK:=HK2
 clear HT2 HK2
 obtain⟨v,hv⟩:=HT.out.ex 118 (by decide) (by decide)
 have hz:=HT.out.bk.fz 118
 have hc:=HT.out.bk.lt
 have HT2:=zL8 (HT.out.set (o:=118) (zA0 HL0.out (by decide)) (.func (.func 77) #[.pointer (some ⟨cb,0,none⟩)] #[]))
 have HK2:=zL8 (HK.out.trans (zAb.setCell W7 ⟨cb,118,none⟩ (.func (.func 77) #[.pointer (some ⟨cb,0,none⟩)] #[])) fun _ _ e=>e)
 clear HT HK
 go_upto_region 13 with fail
 obtain⟨W8,hW⟩: ∃V,W7.setCell ⟨cb,118,none⟩ (.func (.func 77) #[.pointer (some ⟨cb,0,none⟩)] #[])=V:=⟨_,rfl⟩
 rw[hW]at HT2 HK2 ⊢
 clear hW hv hz hc
 have HT:=HT2
 have HK:=HK2
 clear HT2 HK2
 obtain⟨v,hv⟩:=HT.out.ex 120 (by decide) (by decide)
 have hz:=HT.out.bk.fz 120
 have hc:=HT.out.bk.lt
 have HT2:=zL8 (HT.out.set (o:=120) (zA0 HL0.out (by decide)) (.func (.func 78) #[.pointer (some ⟨cb,0,none⟩)] #[]))
 have HK2:=zL8 (HK.out.trans (zAb.setCell W8 ⟨cb,120,none⟩ (.func (.func 78) #[.pointer (some ⟨cb,0,none⟩)] #[])) fun _ _ e=>e)
 clear HT HK
 go_upto_region 14 with fail
 obtain⟨W9,hW⟩: ∃V,W8.setCell ⟨cb,120,none⟩ (.func (.func 78) #[.pointer (some ⟨cb,0,none⟩)] #[])=V:=⟨_,rfl⟩
 rw[hW]at HT2 HK2 ⊢
 clear hW hv hz hc
 have HT:=HT2
 have HK:=HK2
 clear HT2 HK2
 obtain⟨v,hv⟩:=HT.out.ex 88 (by decide) (by decide)
 have hz:=HT.out.bk.fz 88
 have hc:=HT.out.bk.lt
 have HT2:=zL8 (HT.out.set (o:=88) (zA0 HL0.out (by decide)) (.func (.func 78) #[.pointer (some ⟨cb,0,none⟩)] #[]))
 have HK2:=zL8 (HK.out.trans (zAb.setCell W9 ⟨cb,88,none⟩ (.func (.func 78) #[.pointer (some ⟨cb,0,none⟩)] #[])) fun _ _ e=>e)
 clear HT HK
 go_upto_region 15 with fail
 obtain⟨W10,hW⟩: ∃V,W9.setCell ⟨cb,88,none⟩ (.func (.func 78) #[.pointer (some ⟨cb,0,none⟩)] #[])=V:=⟨_,rfl⟩
 rw[hW]at HT2 HK2 ⊢
 clear hW hv hz hc
 have HT:=HT2
 have HK:=HK2
 clear HT2 HK2
 obtain⟨v,hv⟩:=HT.out.ex 122 (by decide) (by decide)
 have hz:=HT.out.bk.fz 122
 have hc:=HT.out.bk.lt
 have HT2:=zL8 (HFIN.out _ HT.out)
 have HK2:=zL8 (HK.out.trans (zAb.setCell W10 ⟨cb,122,none⟩ (.func (.func 79) #[.pointer (some ⟨cb,0,none⟩)] #[])) fun _ _ e=>e)
 clear HT HK
 go_upto_region 16 with fail
 obtain⟨W11,hW⟩: ∃V,W10.setCell ⟨cb,122,none⟩ (.func (.func 79) #[.pointer (some ⟨cb,0,none⟩)] #[])=V:=⟨_,rfl⟩
 rw[hW]at HT2 HK2 ⊢
 clear hW hv hz hc
 have HT:=HT2
 have HK:=HK2
 clear HT2 HK2
 obtain⟨v,hv⟩:=HT.out.ex 90 (by decide) (by decide)
 have hz:=HT.out.bk.fz 90
 have hc:=HT.out.bk.lt
 have HT2:=zL8 (HT.out.set (o:=90) (zA0 HL.out (by decide)) (.func (.func 80) #[.pointer (some ⟨cb,0,none⟩)] #[]))
 have HK2:=zL8 (HK.out.trans (zAb.setCell W11 ⟨cb,90,none⟩ (.func (.func 80) #[.pointer (some ⟨cb,0,none⟩)] #[])) fun _ _ e=>e)
 clear HT HK
 go_upto_region 17 with fail
 obtain⟨W12,hW⟩: ∃V,W11.setCell ⟨cb,90,none⟩ (.func (.func 80) #[.pointer (some ⟨cb,0,none⟩)] #[])=V:=⟨_,rfl⟩
 rw[hW]at HT2 HK2 ⊢
 clear hW hv hz hc
 have HT:=HT2
 have HK:=HK2
 clear HT2 HK2
 obtain⟨v,hv⟩:=HT.out.ex 123 (by decide) (by decide)
 have hz:=HT.out.bk.fz 123
 have hc:=HT.out.bk.lt
 have HT2:=zL8 (HT.out.set (o:=123) (zA0 HL.out (by decide)) (.func (.func 81) #[.pointer (some ⟨cb,0,none⟩)] #[]))
 have HK2:=zL8 (HK.out.trans (zAb.setCell W12 ⟨cb,123,none⟩ (.func (.func 81) #[.pointer (some ⟨cb,0,none⟩)] #[])) fun _ _ e=>e)
 clear HT HK
 go_upto_region 18 with fail
 obtain⟨W13,hW⟩: ∃V,W12.setCell ⟨cb,123,none⟩ (.func (.func 81) #[.pointer (some ⟨cb,0,none⟩)] #[])=V:=⟨_,rfl⟩
 rw[hW]at HT2 HK2 ⊢
 clear hW hv hz hc
 have HT:=HT2
 have HK:=HK2
 clear HT2 HK2
 obtain⟨v,hv⟩:=HT.out.ex 124 (by decide) (by decide)
 have hz:=HT.out.bk.fz 124
 have hc:=HT.out.bk.lt
 have HT2:=zL8 (HT.out.set (o:=124) (zA0 HL.out (by decide)) (.func (.func 82) #[.pointer (some ⟨cb,0,none⟩)] #[]))
 have HK2:=zL8 (HK.out.trans (zAb.setCell W13 ⟨cb,124,none⟩ (.func (.func 82) #[.pointer (some ⟨cb,0,none⟩)] #[])) fun _ _ e=>e)
 clear HT HK
 go_upto_region 19 with fail
 obtain⟨W14,hW⟩: ∃V,W13.setCell ⟨cb,124,none⟩ (.func (.func 82) #[.pointer (some ⟨cb,0,none⟩)] #[])=V:=⟨_,rfl⟩
 rw[hW]at HT2 HK2 ⊢
 clear hW hv hz hc
 have HT:=HT2
 have HK:=HK2
 clear HT2 HK2
 obtain⟨v,hv⟩:=HT.out.ex 125 (by decide) (by decide)
 have hz:=HT.out.bk.fz 125
 have hc:=HT.out.bk.lt
 have HT2:=zL8 (HT.out.set (o:=125) (zA0 HL.out (by decide)) (.func (.func 83) #[.pointer (some ⟨cb,0,none⟩)] #[]))
 have HK2:=zL8 (HK.out.trans (zAb.setCell W14 ⟨cb,125,none⟩ (.func (.func 83) #[.pointer (some ⟨cb,0,none⟩)] #[])) fun _ _ e=>e)
 clear HT HK
 go_upto_region 20 with fail
 obtain⟨W15,hW⟩: ∃V,W14.setCell ⟨cb,125,none⟩ (.func (.func 83) #[.pointer (some ⟨cb,0,none⟩)] #[])=V:=⟨_,rfl⟩
 rw[hW]at HT2 HK2 ⊢
 clear hW hv hz hc
 have HT:=HT2
 have HK:=HK2
 clear HT2 HK2
 obtain⟨v,hv⟩:=HT.out.ex 126 (by decide) (by decide)
 have hz:=HT.out.bk.fz 126
 have hc:=HT.out.bk.lt
 have HT2:=zL8 (HT.out.set (o:=126) (zA0 HL.out (by decide)) (.func (.func 84) #[.pointer (some ⟨cb,0,none⟩)] #[]))
 have HK2:=zL8 (HK.out.trans (zAb.setCell W15 ⟨cb,126,none⟩ (.func (.func 84) #[.pointer (some ⟨cb,0,none⟩)] #[])) fun _ _ e=>e)
 clear HT HK
 go_upto_region 21 with fail
 obtain⟨W16,hW⟩: ∃V,W15.setCell ⟨cb,126,none⟩ (.func (.func 84) #[.pointer (some ⟨cb,0,none⟩)] #[])=V:=⟨_,rfl⟩
 rw[hW]at HT2 HK2 ⊢
 clear hW hv hz hc
 have HT:=HT2
 have HK:=HK2
 clear HT2 HK2
 obtain⟨v,hv⟩:=HT.out.ex 129 (by decide) (by decide)
 have hz:=HT.out.bk.fz 129
 have hc:=HT.out.bk.lt
 have HT2:=zL8 (HT.out.set (o:=129) (zA0 HL.out (by decide)) (.func (.func 85) #[.pointer (some ⟨cb,0,none⟩)] #[]))
 have HK2:=zL8 (HK.out.trans (zAb.setCell W16 ⟨cb,129,none⟩ (.func (.func 85) #[.pointer (some ⟨cb,0,none⟩)] #[])) fun _ _ e=>e)
 clear HT HK
 go_upto_region 22 with fail
 obtain⟨W17,hW⟩: ∃V,W16.setCell ⟨cb,129,none⟩ (.func (.func 85) #[.pointer (some ⟨cb,0,none⟩)] #[])=V:=⟨_,rfl⟩
 rw[hW]at HT2 HK2 ⊢
 clear hW hv hz hc
 have HT:=HT2
 have HK:=HK2
 clear HT2 HK2
 obtain⟨v,hv⟩:=HT.out.ex 131 (by decide) (by decide)
 have hz:=HT.out.bk.fz 131
 have hc:=HT.out.bk.lt
 have HT2:=zL8 (HT.out.set (o:=131) (zA0 HL.out (by decide)) (.func (.func 86) #[.pointer (some ⟨cb,0,none⟩)] #[]))
 have HK2:=zL8 (HK.out.trans (zAb.setCell W17 ⟨cb,131,none⟩ (.func (.func 86) #[.pointer (some ⟨cb,0,none⟩)] #[])) fun _ _ e=>e)
 clear HT HK
 go_wp2_with fail
 go_end0
 exact⟨rfl,HT2.out.bk,HK2.out⟩
end
end
section
open Go.RowKit
def spL:List (Nat × Value):=[(0,.slice none 0 0),(1,.slice none 0 0),(2,.int .i64 1048576),(3,.bool true)]
section
variable {w w':World} {b sb cb:Nat}
theorem zFV (w:World):Calls Tryz.prog 27 #[.int .i64 1048576] w fun e w'=>e= .returned (.tuple #[.pointer (some ⟨w.heap.size,0,none⟩),.int .i64 0])∧BkV w' w.heap.size spL∧Below w.heap.size w w':=by
 go_enter Tryz.func27,Tryz.ntmps27
 go_wp2_with fail
 go_ret2
 refine⟨rfl,⟨zAl _ _,fun p hp=>?_,zC1 _ _ _⟩,(zL9 _ _).alloc (zMA _) _⟩
 simp only[spL,List.mem_cons,List.not_mem_nil,or_false]at hp
 rcases hp with rfl|rfl|rfl|rfl<;>exact zAL _ _ _ _
theorem zHr (h:BkV w sb spL):Calls Tryz.prog 93 #[.pointer (some ⟨sb,0,none⟩)] w fun e w'=>e= .returned (.bool false)∧w=w':=by
 have c3:=h.get 3 rfl
 have hl:=h.lt
 clear h
 go_enter Tryz.func93,Tryz.ntmps93
 go_wp2_with fail
 go_ret
 exact⟨rfl,rfl⟩
theorem zGt (h:BkV w sb spL):Calls Tryz.prog 48 #[.pointer (some ⟨sb,0,none⟩)] w fun e w'=>(∃o k,e= .returned (.slice o 0 k))∧Below w.heap.size w w':=by
 have c0:=h.get 0 rfl
 have hl:=h.lt
 have HN:=zL8 (zHr h)
 have HC:=zL8 (zBT (w:=w) (oa:=none) (T:=[]) (cap:=0) (fun e=>by cases e) (by decide) (fun _ _ _ e=>by cases e))
 clear h
 go_enter Tryz.func48,Tryz.ntmps48
 go_wp2_with fail
 refine HN.out.mono ?_;rintro e wq ⟨rfl,rfl⟩
 go_wp2_with fail
 refine HC.out.mono ?_;rintro e w1 ⟨v1,rfl,hv1,hb1⟩
 obtain⟨o1,k1,rfl⟩:=zAI hv1
 have HB:=zL8 hb1
 clear hv1 hb1
 go_wp2_with fail
 go_ret
 exact⟨⟨_,_,rfl⟩,HB.out⟩
theorem zJ5 (h:BkV w sb spL):Calls Tryz.prog 49 #[.pointer (some ⟨sb,0,none⟩)] w fun e w'=>(∃o k,e= .returned (.slice o 0 k))∧Below w.heap.size w w':=by
 have c0:=h.get 1 rfl
 have hl:=h.lt
 have HN:=zL8 (zHr h)
 have HC:=zL8 (zBT (w:=w) (oa:=none) (T:=[]) (cap:=0) (fun e=>by cases e) (by decide) (fun _ _ _ e=>by cases e))
 clear h
 go_enter Tryz.func49,Tryz.ntmps49
 go_wp2_with fail
 refine HN.out.mono ?_;rintro e wq ⟨rfl,rfl⟩
 go_wp2_with fail
 refine HC.out.mono ?_;rintro e w1 ⟨v1,rfl,hv1,hb1⟩
 obtain⟨o1,k1,rfl⟩:=zAI hv1
 have HB:=zL8 hb1
 clear hv1 hb1
 go_wp2_with fail
 go_ret
 exact⟨⟨_,_,rfl⟩,HB.out⟩
theorem zKs:Calls Tryz.prog 11 #[.pointer none] w fun e w'=>e= .returned (.int .i64 1)∧w=w':=by
 go_enter Tryz.func11,Tryz.ntmps11
 go_wp2_with fail
 go_ret
 exact⟨rfl,rfl⟩
theorem zKr (h:w.cell? ⟨b,0,none⟩=some (.pointer none)):Calls Tryz.prog 11 #[.pointer (some ⟨b,0,none⟩)] w fun e w'=>e= .returned (.int .i64 1)∧w=w':=by
 go_enter Tryz.func11,Tryz.ntmps11
 go_wp2_with fail
 go_ret
 exact⟨rfl,rfl⟩
theorem zLr:Calls Tryz.prog 12 #[.pointer none] w fun e w'=>e= .returned (.int .i64 (-2))∧w=w':=by
 go_enter Tryz.func12,Tryz.ntmps12
 go_wp2_with fail
 go_ret
 exact⟨rfl,rfl⟩
theorem zLq (h:w.cell? ⟨b,0,none⟩=some (.pointer none)):Calls Tryz.prog 12 #[.pointer (some ⟨b,0,none⟩)] w fun e w'=>e= .returned (.int .i64 (-2))∧w=w':=by
 go_enter Tryz.func12,Tryz.ntmps12
 go_wp2_with fail
 go_ret
 exact⟨rfl,rfl⟩
theorem zKI:Calls Tryz.prog 13 #[.pointer none] w fun e w'=>e= .returned (.int .i64 0)∧w=w':=by
 go_enter Tryz.func13,Tryz.ntmps13
 go_wp2_with fail
 go_ret
 exact⟨rfl,rfl⟩
theorem zKH (h:w.cell? ⟨b,0,none⟩=some (.pointer none)):Calls Tryz.prog 13 #[.pointer (some ⟨b,0,none⟩)] w fun e w'=>e= .returned (.int .i64 0)∧w=w':=by
 go_enter Tryz.func13,Tryz.ntmps13
 go_wp2_with fail
 go_ret
 exact⟨rfl,rfl⟩
theorem zIR:Calls Tryz.prog 14 #[.pointer none] w fun e w'=>e= .returned (.slice none 0 0)∧w=w':=by
 go_enter Tryz.func14,Tryz.ntmps14
 go_wp2_with fail
 go_ret
 exact⟨rfl,rfl⟩
theorem zIQ (h:w.cell? ⟨b,0,none⟩=some (.pointer none)):Calls Tryz.prog 14 #[.pointer (some ⟨b,0,none⟩)] w fun e w'=>e= .returned (.slice none 0 0)∧w=w':=by
 go_enter Tryz.func14,Tryz.ntmps14
 go_wp2_with fail
 go_ret
 exact⟨rfl,rfl⟩
theorem zKx:Calls Tryz.prog 15 #[.pointer none] w fun e w'=>e= .returned (.slice none 0 0)∧w=w':=by
 go_enter Tryz.func15,Tryz.ntmps15
 go_wp2_with fail
 go_ret
 exact⟨rfl,rfl⟩
theorem zKw (h:w.cell? ⟨b,0,none⟩=some (.pointer none)):Calls Tryz.prog 15 #[.pointer (some ⟨b,0,none⟩)] w fun e w'=>e= .returned (.slice none 0 0)∧w=w':=by
 go_enter Tryz.func15,Tryz.ntmps15
 go_wp2_with fail
 go_ret
 exact⟨rfl,rfl⟩
theorem zK0:Calls Tryz.prog 16 #[.pointer none] w fun e w'=>e= .returned (.bool false)∧w=w':=by
 go_enter Tryz.func16,Tryz.ntmps16
 go_wp2_with fail
 go_ret
 exact⟨rfl,rfl⟩
theorem zKz (h:w.cell? ⟨b,0,none⟩=some (.pointer none)):Calls Tryz.prog 16 #[.pointer (some ⟨b,0,none⟩)] w fun e w'=>e= .returned (.bool false)∧w=w':=by
 go_enter Tryz.func16,Tryz.ntmps16
 go_wp2_with fail
 go_ret
 exact⟨rfl,rfl⟩
theorem zKu:Calls Tryz.prog 17 #[.pointer none,.int .i64 0] w fun e w'=>e= .returned (.bool false)∧w=w':=by
 go_enter Tryz.func17,Tryz.ntmps17
 go_wp2_with fail
 go_ret
 exact⟨rfl,rfl⟩
theorem zKt (h:w.cell? ⟨b,0,none⟩=some (.pointer none)):Calls Tryz.prog 17 #[.pointer (some ⟨b,0,none⟩),.int .i64 0] w fun e w'=>e= .returned (.bool false)∧w=w':=by
 go_enter Tryz.func17,Tryz.ntmps17
 go_wp2_with fail
 go_ret
 exact⟨rfl,rfl⟩
structure MaN (w:World) (mb cb sb:Nat):Prop where
 m0:w.cell? ⟨mb,0,none⟩=some (.pointer (some ⟨cb,0,none⟩))
 ml:mb<w.heap.size
 c0:w.cell? ⟨cb,0,none⟩=some (.pointer (some ⟨sb,0,none⟩))
 c8:w.cell? ⟨cb,266,none⟩=some (.bool false)
 c9:w.cell? ⟨cb,267,none⟩=some (.int .i64 (-1))
 cs:w.cell? ⟨cb,269,none⟩=some (.int .i64 0)
 cl:cb<w.heap.size
 sp:BkV w sb spL
theorem MaN.below {mb:Nat} (h:MaN w mb cb sb) (hb:Below w.heap.size w w'):MaN w' mb cb sb:=
 ⟨(hb.cell (p:=⟨mb,0,none⟩) h.ml).trans h.m0,zMB h.ml hb.size,(hb.cell (p:=⟨cb,0,none⟩) h.cl).trans h.c0,(hb.cell (p:=⟨cb,266,none⟩) h.cl).trans h.c8,(hb.cell (p:=⟨cb,267,none⟩) h.cl).trans h.c9,(hb.cell (p:=⟨cb,269,none⟩) h.cl).trans h.cs,zMB h.cl hb.size,h.sp.same (hb.block sb h.sp.lt) hb.size⟩
theorem zLs {mb:Nat} (h:MaN w mb cb sb):Calls Tryz.prog 12 #[.pointer (some ⟨mb,0,none⟩)] w fun e w'=>e= .returned (.int .i64 (-1))∧w=w':=by
 have m0:=h.m0
 have ml:=h.ml
 have c8:=h.c8
 have c9:=h.c9
 have cs:=h.cs
 have cl:=h.cl
 clear h
 go_enter Tryz.func12,Tryz.ntmps12
 go_wp2_with fail
 go_ret
 exact⟨rfl,rfl⟩
theorem zKJ {mb:Nat} (h:MaN w mb cb sb):Calls Tryz.prog 13 #[.pointer (some ⟨mb,0,none⟩)] w fun e w'=>e= .returned (.int .i64 0)∧w=w':=by
 have m0:=h.m0
 have ml:=h.ml
 have c8:=h.c8
 have c9:=h.c9
 have cs:=h.cs
 have cl:=h.cl
 clear h
 go_enter Tryz.func13,Tryz.ntmps13
 go_wp2_with fail
 go_ret
 exact⟨rfl,rfl⟩
theorem zK1 {mb:Nat} (h:MaN w mb cb sb):Calls Tryz.prog 16 #[.pointer (some ⟨mb,0,none⟩)] w fun e w'=>e= .returned (.bool false)∧w=w':=by
 have m0:=h.m0
 have ml:=h.ml
 have c8:=h.c8
 have c9:=h.c9
 have cs:=h.cs
 have cl:=h.cl
 clear h
 go_enter Tryz.func16,Tryz.ntmps16
 go_wp2_with fail
 go_ret
 exact⟨rfl,rfl⟩
theorem zIS {mb:Nat} (h:MaN w mb cb sb):Calls Tryz.prog 14 #[.pointer (some ⟨mb,0,none⟩)] w fun e w'=>(∃o k,e= .returned (.slice o 0 k))∧Below w.heap.size w w':=by
 have m0:=h.m0
 have ml:=h.ml
 have c0:=h.c0
 have cl:=h.cl
 have HP:=zL8 (zGt h.sp)
 clear h
 go_enter Tryz.func14,Tryz.ntmps14
 go_wp2_with fail
 refine HP.out.mono ?_;rintro e w1 ⟨⟨o,k,rfl⟩,hb⟩
 have HB:=zL8 hb
 clear hb
 go_wp2_with fail
 go_ret
 exact⟨⟨_,_,rfl⟩,HB.out⟩
theorem zKy {mb:Nat} (h:MaN w mb cb sb):Calls Tryz.prog 15 #[.pointer (some ⟨mb,0,none⟩)] w fun e w'=>(∃o k,e= .returned (.slice o 0 k))∧Below w.heap.size w w':=by
 have m0:=h.m0
 have ml:=h.ml
 have c0:=h.c0
 have cl:=h.cl
 have HP:=zL8 (zJ5 h.sp)
 clear h
 go_enter Tryz.func15,Tryz.ntmps15
 go_wp2_with fail
 refine HP.out.mono ?_;rintro e w1 ⟨⟨o,k,rfl⟩,hb⟩
 have HB:=zL8 hb
 clear hb
 go_wp2_with fail
 go_ret
 exact⟨⟨_,_,rfl⟩,HB.out⟩
end
end
section
open Go.RowKit
section
variable {w w':World} {k:CK} {s:CS} {T:List Nat} {pk:Option Nat} {oa:Option Addr} {m ca:Nat} {LL:List Lin}
theorem zGo (h:MaS w k s T pk):Calls Tryz.prog 13 #[.pointer (some ⟨k.mb,0,none⟩)] w fun e w'=>e= .returned (.int .i64 s.st)∧w=w':=by
 have m0:=h.m0
 have hl:=h.mlt
 have c:=h.co.get 10 rfl
 have hc:=h.co.lt
 clear h
 go_enter Tryz.func13,Tryz.ntmps13
 go_wp2_with fail
 go_ret
 exact⟨rfl,rfl⟩
theorem zEK (h:MaS w k s T pk):Calls Tryz.prog 14 #[.pointer (some ⟨k.mb,0,none⟩)] w fun e w'=>(∃v,e= .returned v∧w'.ownsRow w.heap.size 5 1 v T.length (u8s T))∧Below w.heap.size w w':=by
 have HP:=zL8 (zBo h.sp)
 have m0:=h.m0
 have hl:=h.mlt
 have c:=h.co.get 0 rfl
 have hc:=h.co.lt
 clear h
 go_enter Tryz.func14,Tryz.ntmps14
 go_wp2_with fail
 refine HP.out.mono ?_;rintro e w1 ⟨⟨v,rfl,hv⟩,hb⟩
 have HV:=zL8 hv
 have HB:=zL8 hb
 clear hv hb
 go_wp2_with fail
 go_ret
 exact⟨⟨v,rfl,HV.out⟩,HB.out⟩
end
end
section
open Go.RowKit
section
variable {w w' w2:World} {k:CK} {s s':CS} {T T' X:List Nat} {pk pk':Option Nat} {base:Nat} {mu:Bool} {oa:Option Addr} {m ca n n' u u' z z':Nat} {O O':Nat→Option Nat} {A A':List Nat}
theorem zJN (f:Fn) (a b:Array Value) (w:World):(binOp .neq 87 (.func f a b) .nilFunc).run Tryz.prog w= .ok (.bool true) w:=by kernel_rfl
structure CoX (w:World) (k:CK) (c:Nat):Prop where
 lt:c+1<w.heap.size
 b0:w.cell? ⟨c,0,none⟩=some (.pointer (some ⟨k.cb,0,none⟩))
 b1:w.cell? ⟨c+1,0,none⟩=some (.int .i64 0)
theorem CoX.keep {c:Nat} (h:CoX w k c) {S:Nat→Prop} (hk:zAb w w' S) (h0: ¬S c) (h1: ¬S (c+1)):CoX w' k c:=
 ⟨zMB h.lt hk.size,(hk.cell (p:=⟨c,0,none⟩) (by have:=h.lt;show c<_;omega) h0).trans h.b0,(hk.cell (p:=⟨c+1,0,none⟩) h.lt h1).trans h.b1⟩
theorem CoX.below {c:Nat} (h:CoX w k c) (hb:Below w.heap.size w w'):CoX w' k c:=
 h.keep (zAb.of_below hb (fun x=>w.heap.size≤x) fun _ e _=>e) (by have:=h.lt;omega) (by have:=h.lt;omega)
theorem zEB (h:StS w k s T pk base mu oa m ca n u z O A) (hn:k.nc=1) (hz:z≤549755813888) (hu:u≤549755813888) (hA:A.length≤274877906944) (hs0:0≤s.st) (hs1:s.st≤1099511627776):
  Calls Tryz.prog 46 #[.pointer (some ⟨k.cb,0,none⟩),.int .i64 0] w fun e w'=>e= .returned (.int .i64 0)∧ ∃O',StS w' k { s with st:=s.st+1,nx:=1 } T pk base mu oa m ca n (u+1) (z+(T.length+8)) O' (A++(T++[10]))∧Grw w w' (zA6 k O pk) (zA6 k O' pk):=by
 obtain⟨fl,pl,nx,st,er,si⟩:=s
 dsimp only at hs0 hs1 ⊢
 have hmf: ∀(fn:Fn) (first cap:Array Value) (w:World),(Instr.makeFunc fn first cap).run Tryz.prog w= .ok (.func fn first cap) w:=fun _ _ _ _=>rfl
 have HZ:=zL8 hz
 have HU:=zL8 hu
 have HA:=zL8 hA
 have hN:=hn
 have HN:=zL8 hN
 obtain⟨hoc,hp1,hp2,_⟩:=h.ma.cm hn
 have HOC:=zL8 hoc
 obtain⟨Y,hY⟩: ∃Y,A++(T++[10])=Y:=⟨_,rfl⟩
 have HY:=zL8 hY
 rw[hY]
 have hba:Below w.heap.size w ((w.alloc (.cells #[.pointer (some ⟨k.cb,0,none⟩)] 52)).alloc (.cells #[.int .i64 0] 3)):=((zL9 _ _).alloc (zMA _) _).alloc (by simp) _
 have H1:=zL8 (h.below hba)
 have HB1:=zL8 hba
 have HCX:Hid (CoX ((w.alloc (.cells #[.pointer (some ⟨k.cb,0,none⟩)] 52)).alloc (.cells #[.int .i64 0] 3)) k w.heap.size):=zL8 ⟨by simp,by
   rw[zMN _ _ 0 _ _ (0,0) ((zMM (w.alloc (.cells #[.pointer (some ⟨k.cb,0,none⟩)] 52)) _ (r:=w.heap.size) (by simp)).trans (zML w _))];rfl,by
   have e:=zML (w.alloc (.cells #[.pointer (some ⟨k.cb,0,none⟩)] 52)) (.cells #[.int .i64 0] 3)
   have q:(w.alloc (.cells #[.pointer (some ⟨k.cb,0,none⟩)] 52)).heap.size=w.heap.size+1:=by simp
   rw[q]at e
   rw[zMN _ _ 0 _ _ (0,0) e];rfl⟩
 have HCT:=zL8 h.ma.co.lt
 clear h hz hu hA hN hoc hY hba hp1 hp2
 go_enter Tryz.func46,Tryz.ntmps46
 go_upto_region 1 with fail
 obtain⟨W,hW⟩: ∃W,(w.alloc (.cells #[.pointer (some ⟨k.cb,0,none⟩)] 52)).alloc (.cells #[.int .i64 0] 3)=W:=⟨_,rfl⟩
 rw[hW]at H1 HB1 HCX ⊢
 clear hW
 obtain⟨c,hcz⟩: ∃c,w.heap.size=c:=⟨_,rfl⟩
 rw[hcz]at HCX HCT HB1 ⊢
 have HCZ:=zL8 hcz
 clear hcz
 have b0:=HCX.out.b0
 have b1:=HCX.out.b1
 have hc1:=HCX.out.lt
 have c11:=H1.out.ma.co.get 10 rfl
 have hc:=H1.out.ma.co.lt
 have z11:=H1.out.ma.co.fz 269
 dsimp only at c11
 go_upto_region 2 with fail
 obtain⟨hm2,hk2⟩:=H1.out.ma.set 10 rfl (.int .i64 (st+1)) (s':=⟨fl,pl,nx,st+1,er,si⟩) rfl
 obtain⟨hs2,hg2⟩:=H1.out.mach hm2 hk2 (.inl rfl)
 have HS2:=zL8 hs2
 have HG2:=zL8 (((Grw.refl w (zA6 k O pk)).below (HCZ.out▸HB1.out)).trans hg2)
 have HX2:=zL8 (HCX.out.keep (zAb.setCell W ⟨k.cb,269,none⟩ (.int .i64 (st+1))) (by show c≠k.cb;have:=HCT.out;omega) (by show c+1≠k.cb;have:=HCT.out;omega))
 obtain⟨V,hV⟩: ∃V,W.setCell ⟨k.cb,269,none⟩ (.int .i64 (st+1))=V:=⟨_,rfl⟩
 rw[hV]at HS2 HG2 HX2 ⊢
 clear hV hm2 hk2 hs2 hg2 b0 b1 hc1 c11 hc z11 HB1 H1 HCX
 have b0:=HX2.out.b0
 have b1:=HX2.out.b1
 have hc1:=HX2.out.lt
 have hc0:c<V.heap.size:=by omega
 have hc:=HS2.out.ma.co.lt
 have c1:=HS2.out.ma.co.get 1 rfl
 rw[HOC.out,HN.out]at c1
 refine zAA (X:=none) 8 [([0,1,2,3,4,5,6],7)] [] (by kernel_rfl) (by kernel_rfl) rfl (fun _ _ _ _ _ h=>h) ?_
 simp only[zAJ,zAC,zAG,zAD,zAB,List.getD_cons_zero,List.getD_cons_succ,List.drop_succ_cons,List.drop_zero]
 repeat (go_big_quiet_step (fail))
 refine wpQuiet_nil ?_
 go_wp2_with fail
 refine⟨zA5 _ _,?_⟩
 repeat (go_big_quiet_step (fail))
 refine wpQuiet_nil ?_
 go_upto_region 4 with fail
 have hba:Below V.heap.size V (V.alloc (.cells #[.pointer (some ⟨k.pb,0,none⟩)] 166)).drew:=((zL9 _ _).alloc (zMA _) _).drew
 have HS3:=zL8 (HS2.out.below hba)
 have HG3:=zL8 (HG2.out.below hba)
 have HX3:=zL8 (HX2.out.below hba)
 have HB5:Hid ((V.alloc (.cells #[.pointer (some ⟨k.pb,0,none⟩)] 166)).drew.cell? ⟨V.heap.size,0,none⟩=some (.pointer (some ⟨k.pb,0,none⟩))):=zL8 (by
  show(V.alloc (.cells #[.pointer (some ⟨k.pb,0,none⟩)] 166)).cell? ⟨V.heap.size,0,none⟩=_
  rw[zMN _ _ 0 _ _ (0,0) (zML V (.cells #[.pointer (some ⟨k.pb,0,none⟩)] 166))];rfl)
 obtain⟨d,hd⟩: ∃d,V.heap.size=d:=⟨_,rfl⟩
 have HDL:Hid (d<(V.alloc (.cells #[.pointer (some ⟨k.pb,0,none⟩)] 166)).drew.heap.size∧c+1<d):=zL8 ⟨by rw[←hd];show V.heap.size<(V.alloc _).heap.size;simp,by omega⟩
 obtain⟨X,hX⟩: ∃X,(V.alloc (.cells #[.pointer (some ⟨k.pb,0,none⟩)] 166)).drew=X:=⟨_,rfl⟩
 rw[hX]at HS3 HG3 HX3 HB5 HDL ⊢
 rw[hd]at HB5 ⊢
 clear hX hba hd HS2 HG2 HX2 b0 b1 hc1 hc0 hc c1
 have b0:=HX3.out.b0
 have b1:=HX3.out.b1
 have b2:=HB5.out
 have hc1:=HX3.out.lt
 have hc0:c<X.heap.size:=by omega
 have hc2:=HDL.out.1
 have hc:=HS3.out.ma.co.lt
 have c5:=HS3.out.ma.co.get 3 rfl
 have c9:=HS3.out.ma.co.get 5 rfl
 obtain⟨_,_,_,l,hcm⟩:=HS3.out.ma.cm HN.out
 have HCM:=zL8 hcm
 have HCI:Hid ((Tryz.prog.info? 71).map (·.size)=some l.length):=zL8 (by rw[hcm.cl.len];exact zAd)
 have hpl:=hcm.lt
 have HRL:=zL8 hcm.row
 obtain⟨og,cg,hga⟩:=HS3.out.ma.ga
 have hgl:k.gb<X.heap.size:=by have:=HS3.out.ma.or1;have:=HS3.out.ma.mlt;omega
 clear hcm
 refine zAA (X:=none) 25 [([0,1,2,3,4,5,6,7,8,9,10,11,13,14,15,16,18],12),([],17),([],19)] [20,21,22,23,24] (by kernel_rfl) (by kernel_rfl) rfl (fun _ _ _ _ _ h=>h) ?_
 simp only[zAJ,zAC,zAG,zAD,zAB,List.getD_cons_zero,List.getD_cons_succ,List.drop_succ_cons,List.drop_nil]
 go_big_quiet_step (fail)
 go_big_quiet_step (fail)
 go_big_quiet_step (fail)
 go_big_quiet_step (fail)
 go_big_quiet_step (fail)
 go_big_quiet_step (fail)
 go_big_quiet_step (fail)
 go_big_quiet_want
 refine zB0 71 _ rfl k.pb 0 rfl l _ HRL.out hpl Tryz.underlying71 rfl HCI.out ?_
 go_big_quiet_on
 simp only[Act.put,List.setIfInBounds_toArray,List.set_cons_succ,List.set_cons_zero]
 repeat (go_big_quiet_step (fail))
 refine wpQuiet_nil ?_
 have hbd:Below X.heap.size X X.drew:=(zL9 _ _).drew
 have HSD:=zL8 (HS3.out.below hbd)
 have HGD:=zL8 (HG3.out.below hbd)
 have HXD:=zL8 (HX3.out.below hbd)
 have HBD:=zL8 ((hbd.cell (p:=⟨d,0,none⟩) hc2).trans b2)
 have HGA:=zL8 ((hbd.cell (p:=⟨k.gb,0,none⟩) hgl).trans hga)
 have HLN:=zL8 (zGi HSD.out.wl)
 have HLA:=zL8 (zIY HSD.out.wl)
 obtain⟨R,hR⟩: ∃R,decide (0<n∧m≤n)=R:=⟨_,rfl⟩
 rw[hR]at HLA
 have HKA:=zL8 HCM.out.ka
 have HNT:=zL8 HCM.out.nt
 clear hR hbd b0 b1 b2 hc1 hc0 hc2 hc c5 c9 hga hgl hpl HRL HCI HS3 HG3 HX3 HB5
 have hm1:=zLO
 go_wp2_with fail
 refine HLN.out.mono ?_;rintro e wq ⟨rfl,hwq⟩
 subst hwq
 clear hm1
 go_wp2_with fail
 refine⟨zAP.refl _,?_⟩
 repeat (go_big_quiet_step (fail))
 refine wpQuiet_nil ?_
 have hm2:=zLP
 go_wp2_with fail
 refine HLA.out.mono ?_;rintro e w4 ⟨rfl,hb4⟩
 have HB4:=zL8 hb4
 clear hm2 hb4
 go_wp2_with fail
 refine⟨zAP.of_below HB4.out,?_⟩
 repeat (go_big_quiet_step (fail))
 refine wpQuiet_nil ?_
 have HTK: ∀(ln:Int),Hid _:=fun ln=>zL8 (zGl (w:=w4) (cs:=l.toArray) (by simpa using HKA.out) (by simpa using HNT.out) ((HB4.out.cell (p:=⟨k.gb,0,none⟩) (by have:=HSD.out.ma.or1;have:=HSD.out.ma.mlt;show k.gb<_;omega)).trans HGA.out) (by rw[HN.out];decide) ln R (.func 97) #[] #[.pointer (some ⟨c,0,none⟩),.pointer (some ⟨c+1,0,none⟩),.pointer (some ⟨d,0,none⟩)])
 go_wp2_with fail
 refine(HTK _).out.mono ?_;rintro e w5 ⟨rfl,hb5⟩
 have HS5:=zL8 ((HSD.out.below HB4.out).below hb5)
 have HG5:=zL8 ((HGD.out.below HB4.out).below hb5)
 have HX5:=zL8 ((HXD.out.below HB4.out).below hb5)
 have HBD5:=zL8 (((HB4.out.trans (hb5.mono HB4.out.size)).cell (p:=⟨d,0,none⟩) HDL.out.1).trans HBD.out)
 have HDL5:Hid (d<w5.heap.size∧c+1<d):=zL8 ⟨by have:=HB4.out.size;have:=hb5.size;have:=HDL.out.1;have:X.heap.size=X.drew.heap.size:=rfl;omega,HDL.out.2⟩
 go_wp2_with fail
 refine⟨zAP.of_below hb5,?_⟩
 repeat (go_big_quiet_step (fail))
 refine wpQuiet_nil ?_
 clear hb5 HTK HLA HLN HB4 HSD HGD HXD HBD HGA HKA HNT HCM HDL
 have b0:=HX5.out.b0
 have b1:=HX5.out.b1
 have hc1:=HX5.out.lt
 have hc0:c<w5.heap.size:=by omega
 have c9:=HS5.out.ma.co.get 9 rfl
 have z9:=HS5.out.ma.co.fz 268
 have hc:=HS5.out.ma.co.lt
 obtain⟨hm2,hk2⟩:=HS5.out.ma.set 9 rfl (.int .i64 1) (s':=⟨fl,pl,1,st+1,er,si⟩) rfl
 obtain⟨hs2,hg2⟩:=HS5.out.mach hm2 hk2 (.inl rfl)
 have HS6:=zL8 hs2
 have HG6:=zL8 (HG5.out.trans hg2)
 have HX6:=zL8 (HX5.out.keep (zAb.setCell w5 ⟨k.cb,268,none⟩ (.int .i64 1)) (by show c≠k.cb;have:=HCT.out;omega) (by show c+1≠k.cb;have:=HCT.out;omega))
 have HBD6:=zL8 ((zMC (w:=w5) (w':=w5.setCell ⟨k.cb,268,none⟩ (.int .i64 1)) (a:=⟨d,0,none⟩) (zMI _ _ _ _ (by show d≠k.cb;have:=HCT.out;have:=HDL5.out;omega))).trans HBD5.out)
 have HDL6:Hid (d<(w5.setCell ⟨k.cb,268,none⟩ (.int .i64 1)).heap.size):=zL8 (by have:=HDL5.out.1;simpa [World.setCell]using this)
 clear hm2 hk2 hs2 hg2
 go_upto_region 6 with fail
 obtain⟨U,hU⟩: ∃U,w5.setCell ⟨k.cb,268,none⟩ (.int .i64 1)=U:=⟨_,rfl⟩
 rw[hU]at HS6 HG6 HX6 HBD6 HDL6 ⊢
 clear hU b0 b1 hc1 hc0 c9 z9 hc HS5 HG5 HX5 HBD5 HDL5
 have b0:=HX6.out.b0
 have b1:=HX6.out.b1
 have b2:=HBD6.out
 have hc1:=HX6.out.lt
 have hc0:c<U.heap.size:=by omega
 have hc2:=HDL6.out
 have hc:=HS6.out.ma.co.lt
 have c22:=HS6.out.ma.co.get 6 rfl
 obtain⟨_,_,_,l6,hcm⟩:=HS6.out.ma.cm HN.out
 have n7:U.cell? ⟨k.pb,7,none⟩=some (.int .u8 112):=by simpa using hcm.row 7 _ hcm.nm
 have hpl:=hcm.lt
 clear hcm
 have hnq:=zJN
 refine zAA (X:=none) 14 [] [0,1,2,3,4,5,6,7,8,9,10,11,12,13] (by kernel_rfl) (by kernel_rfl) rfl (fun _ _ _ _ _ h=>h) ?_
 simp only[zAJ,zAC,zAD,zAB,List.getD_cons_zero,List.getD_cons_succ,List.drop_succ_cons,List.drop_nil]
 repeat (go_big_quiet_step (fail))
 refine wpQuiet_nil ?_
 clear hnq
 have hbd:Below U.heap.size U U.drew:=(zL9 _ _).drew
 have HS7:=zL8 (HS6.out.below hbd)
 have HG7:=zL8 (HG6.out.below hbd)
 have HX7:=zL8 (HX6.out.below hbd)
 have HBD7:=zL8 ((hbd.cell (p:=⟨d,0,none⟩) hc2).trans b2)
 have HDL7:Hid (d<U.drew.heap.size):=HDL6
 obtain⟨M,hM⟩: ∃M,U.drew=M:=⟨_,rfl⟩
 rw[hM]at HS7 HG7 HX7 HBD7 HDL7 ⊢
 clear hM hbd b0 b1 b2 hc1 hc0 hc2 hc c22 n7 hpl HS6 HG6 HX6 HBD6 HDL6
 have b0:=HX7.out.b0
 have b1:=HX7.out.b1
 have b2:=HBD7.out
 have hc1:=HX7.out.lt
 have hc0:c<M.heap.size:=by omega
 have hc2:=HDL7.out
 have hc:=HS7.out.ma.co.lt
 have c22:=HS7.out.ma.co.get 6 rfl
 obtain⟨_,_,_,l7,hcm⟩:=HS7.out.ma.cm HN.out
 have n7:M.cell? ⟨k.pb,7,none⟩=some (.int .u8 112):=by simpa using hcm.row 7 _ hcm.nm
 have hpl:=hcm.lt
 clear hcm
 have HP:=zL8 (zFU (HS7.out.below (zL9 _ _).drew) HZ.out HU.out HA.out (.int .i64 0) (.pointer (some ⟨k.pb,0,none⟩)) (.bool false))
 rw[HY.out]at HP
 go_upto_region 7 with fail
 refine zAA (X:=none) 12 [] [0,1,2,3,4,5,6,7,8,9,10,11] (by kernel_rfl) (by kernel_rfl) rfl (fun _ _ _ _ _ h=>h) ?_
 simp only[zAJ,zAC,zAD,zAB,List.getD_cons_zero,List.getD_cons_succ,List.drop_succ_cons,List.drop_zero]
 repeat (go_big_quiet_step (fail))
 refine wpQuiet_nil ?_
 go_wp2_with fail
 refine HP.out.mono ?_;rintro e w8 ⟨rfl,O8,hs,hg⟩
 have HS8:=zL8 hs
 have HG8:=zL8 ((HG7.out.below (zL9 _ _).drew).trans hg)
 clear hs hg HP
 go_wp2_with fail
 go_ret
 exact⟨rfl,O8,HS8.out,HG8.out⟩
end
end
section
open Go.RowKit
section
variable {w w' w2:World} {k:CK} {s s':CS} {T T' X:List Nat} {pk pk':Option Nat} {base:Nat} {mu:Bool} {oa:Option Addr} {m ca n n' u u' z z':Nat} {O O':Nat→Option Nat} {A A':List Nat}
theorem StS.put (h:StS w k s T pk base mu oa m ca n u z O A) (j:Nat) {i:Nat} {v:Value} (e:(zCX k s)[j]?=some (i,v)) (v':Value) (hs:(zCX k s).set j (i,v')=zCX k s'):StS (w.setCell ⟨k.cb,i,none⟩ v') k s' T pk base mu oa m ca n u z O A∧Grw w (w.setCell ⟨k.cb,i,none⟩ v') (zA6 k O pk) (zA6 k O pk):=by
 obtain⟨h1,h2⟩:=h.ma.set j e v' hs
 exact h.mach h1 h2 (.inl rfl)
theorem zHp (h:StS w k s T pk base mu oa m ca n u z O A) (hp:s.pl= -1) (hz:z≤549755813888) (hm:m≤n):
  Calls Tryz.prog 11 #[.pointer (some ⟨k.mb,0,none⟩)] w fun e w'=>e= .returned (.int .i64 0)∧ ∃O',StS w' k { s with pl:= -2,nx:= -2,er:=0 } T pk base mu oa m ca n u (z+3) O' A∧Grw w w' (zA6 k O pk) (zA6 k O' pk):=by
 obtain⟨fl,pl,nx,st,er,si⟩:=s
 dsimp only at hp
 subst hp
 dsimp only
 have hmf: ∀(fn:Fn) (first cap:Array Value) (w:World),(Instr.makeFunc fn first cap).run Tryz.prog w= .ok (.func fn first cap) w:=fun _ _ _ _=>rfl
 obtain⟨hs1,hg1⟩:=h.put 9 rfl (.int .i64 0) (s':=⟨fl,-1,0,st,er,si⟩) rfl
 have HS1:=zL8 hs1
 have HG1:=zL8 hg1
 have HZ:=zL8 hz
 have HM:=zL8 hm
 have m0:=h.ma.m0
 have ml:=h.ma.mlt
 have c8:=h.ma.co.get 8 rfl
 have c9:=h.ma.co.get 9 rfl
 have z9:=h.ma.co.fz 268
 have hc:=h.ma.co.lt
 clear h hz hm hs1 hg1
 go_enter Tryz.func11,Tryz.ntmps11
 go_upto_region 10 with fail
 obtain⟨W,hW⟩: ∃W,w.setCell ⟨k.cb,268,none⟩ (.int .i64 0)=W:=⟨_,rfl⟩
 rw[hW]at HS1 HG1 ⊢
 clear hW m0 ml c8 c9 z9 hc
 have c0:=HS1.out.ma.co.get 0 rfl
 have hc:=HS1.out.ma.co.lt
 have HR: ∀p,Hid _:=fun p=>zL8 (zGq HS1.out HZ.out HM.out p)
 go_wp2_with fail
 refine(HR _).out.mono ?_;rintro e w1 ⟨rfl,O1,hs,hg⟩
 obtain⟨hs2,hg2⟩:=hs.put 11 rfl (.int .i64 0) (s':=⟨fl,-1,-2,st,0,si⟩) rfl
 have HS2:=zL8 hs2
 have HG2:=zL8 ((HG1.out.trans hg).trans hg2)
 have c11:=hs.ma.co.get 11 rfl
 have z11:=hs.ma.co.fz 270
 have hc:=hs.ma.co.lt
 clear hs hg hs2 hg2 HR c0
 go_upto_region 14 with fail
 obtain⟨V,hV⟩: ∃V,w1.setCell ⟨k.cb,270,none⟩ (.int .i64 0)=V:=⟨_,rfl⟩
 rw[hV]at HS2 HG2 ⊢
 clear hV c11 z11 hc HS1 HG1
 obtain⟨hs3,hg3⟩:=HS2.out.put 8 rfl (.int .i64 (-2)) (s':=⟨fl,-2,-2,st,0,si⟩) rfl
 have HS3:=zL8 hs3
 have HG3:=zL8 (HG2.out.trans hg3)
 have c11:=HS2.out.ma.co.get 11 rfl
 have c9:=HS2.out.ma.co.get 9 rfl
 have c8:=HS2.out.ma.co.get 8 rfl
 have z8:=HS2.out.ma.co.fz 267
 have hc:=HS2.out.ma.co.lt
 clear hs3 hg3
 go_upto_region 18 with fail
 obtain⟨U,hU⟩: ∃U,V.setCell ⟨k.cb,267,none⟩ (.int .i64 (-2))=U:=⟨_,rfl⟩
 rw[hU]at HS3 HG3 ⊢
 clear hU c11 c9 c8 z8 hc HS2 HG2
 have c11:=HS3.out.ma.co.get 11 rfl
 have hc:=HS3.out.ma.co.lt
 go_wp2_with fail
 go_ret
 exact⟨rfl,O1,HS3.out,HG3.out⟩
end
end
end Go.Proofs.YtfcemodgopdkkaaGreatDoor
