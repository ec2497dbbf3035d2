/- Parts: Ro Rp Pa Fa Fp Fq Fr. -/
import Derived.Test.YtfjbnpdffillbaaGreatDoorQ14
import Derived.Test.YtfjbnpdffillbaaGreatDoorQ15
import Derived.Test.YtfjbnpdffillbaaGreatDoorQ6
import Derived.Test.YtfjbnpdffillbaaGreatDoorQ1
import Derived.Laws.EntriesVeiled
set_option maxHeartbeats 6400000
set_option maxRecDepth 100000
namespace Go.Proofs.YtfjbnpdffillbaaGreatDoor
section
open Go.RowKit
def zOo (re:List Nd) (p:Nat):Prop:= ∃x,re[p]?=some x∧zAl x=true∧x.kids≤re.length
theorem zDt {re:List Nd} {g:Nat→List Bool→Option (Nat × List Bool)} (hg: ∀i en r,g i en=some r→i<r.1∧r.1≤re.length∧ ∀p,i≤p→p<r.1→zOo re p):
  ∀(k i:Nat) (en:List Bool) (r:Nat × List Bool),i≤re.length→zAy g k i en=some r→i+k≤r.1∧r.1≤re.length∧ ∀p,i≤p→p<r.1→zOo re p
 |0,i,en,r,hi,h=>by simp only[zAy,Option.some.injEq]at h;subst h;exact⟨zPh _,hi,fun p h1 h2=>by simp only at h2;omega⟩
 |k+1,i,en,r,hi,h=>by
  unfold zAy at h
  split at h
  ·cases h
  ·rename_i j en1 h1
   have h2:=hg _ _ _ h1
   simp only at h2
   have h3:=zDt hg k _ _ _ h2.2.1 h
   refine⟨by omega,h3.2.1,fun p hp1 hp2=>?_⟩
   by_cases hj:p<j
   ·exact h2.2.2 p hp1 hj
   ·exact h3.2.2 p (by omega) hp2
theorem zDQ (re:List Nd): ∀(f g i:Nat) (en:List Bool) (r:Nat × List Bool),zAi re f g i en=some r→i<r.1∧r.1≤re.length∧ ∀p,i≤p→p<r.1→zOo re p
 |0,_,_,_,_,h=>by simp[zAi]at h
 |f+1,g,i,en,r,h=>by
  unfold zAi at h
  split at h
  ·cases h
  ·rename_i n hn
   split at h
   ·cases h
   ·rename_i hgd
    have hgd':zAl n=true:=by simpa using hgd
    have hi:i<re.length:=(zPm.1 hn).1
    have fin: ∀(g':Nat) (en1:List Bool) (r1:Nat × List Bool),zAy (zAi re f g') n.kids.toNat (i+1) en1=some r1→i<r1.1∧r1.1≤re.length∧ ∀p,i≤p→p<r1.1→zOo re p:=fun g' en1 r1 hk=>by
     have h1:=zDt (re:=re) (fun i en r=>zDQ re f g' i en r) _ _ _ _ (by omega) hk
     refine⟨by have:=h1.1;omega,h1.2.1,fun p hp1 hp2=>?_⟩
     by_cases he:p=i
     ·subst he
      exact⟨n,hn,hgd',by have:=h1.1;have:=h1.2.1;omega⟩
     ·exact h1.2.2 p (by omega) hp2
    split at h
    ·cases h
    ·split at h
     ·split at h
      ·cases h
      ·split at h
       ·cases h
       ·rename_i hk
        cases h
        have:=fin _ _ _ hk
        exact this
     ·exact fin _ _ _ h
theorem zEj {re:List Nd} (h: ∀p,p<re.length→zOo re p):zMo re∧ ∀x∈re,x.kids≤re.length:=by
 have all: ∀x∈re,zAl x=true∧x.kids≤re.length:=fun x hx=>by
  obtain⟨p,hp⟩:=List.mem_iff_getElem?.1 hx
  obtain⟨y,hy,hg⟩:=h p (zPm.1 hp).1
  rw[hp]at hy;cases hy;exact hg
 refine⟨fun x hx h6=>?_,fun x hx=>(all x hx).2⟩
 have:=(all x hx).1
 simp only[zAl,h6,if_true,Bool.and_eq_true,decide_eq_true_eq,Bool.or_eq_true,beq_iff_eq]at this
 omega
def zA5 (ere:Bool) (L:List Mk):Except (Nat × Nat) (List Nd):=
 if 4096<L.length then .error (2,4096)
 else if L.length=0 then .error (45,0)
 else match zBG ere L 64 ⟨0,[]⟩with
  | .no e i=> .error (e,i)
  | .ok re _=>match zBj re 260 0 with
   |some (w,_)=>if 16384<w then .error (48,L.length)else .ok re
   |none=> .error (0,0)
end
section
open Go.RowKit
def zN1 (w:World) (r:Except (Nat × Nat) (List Nd)) (e:Ending) (w':World):Prop:=
 match r with
 | .error (er,i)=>e= .returned (.tuple #[.slice none 0 0,.int .i64 (er:Nat),.int .i64 (i:Nat)])
 | .ok re=> ∃v,e= .returned (.tuple #[v,.int .i64 0,.int .i64 0])∧Nds w' w.heap.size v re
theorem zH6: ∀(re:List Nd) (i j:Nat),i<re.length→j<9→(zG8 re)[i*9+j]?=(zAO (re.getD i Nd.zero))[j]?
 |[],i,j,h,_=>by simp at h
 |x::l,0,j,_,hj=>by
  rw[zIr,zP0 (by simp[zAO];omega)]
  simp
 |x::l,i+1,j,h,hj=>by
  rw[zIr,zP1 (by simp[zAO];omega)]
  have:=zH6 l i j (by simpa using h) hj
  simpa [zAO,show(i+1)*9+j - 9=i*9+j by omega]using this
theorem Nds.at {w:World} {base:Nat} {v:Value} {re:List Nd} (h:Nds w base v re) (hn:0<re.length) (hl:re.length≤4294967296) (hk: ∀x∈re,x.kids≤re.length): ∃g cp,v= .slice (some ⟨g,0,none⟩) re.length cp∧base≤g∧zG1 w g 0 re:=by
 rcases h.2 with ⟨_,h0⟩|⟨g,cp,cur,rfl,hg1,hg2,_⟩
 ·omega
 ·refine⟨g,cp,rfl,hg1,⟨(zPn.1 hg2).1,hl,fun i hi j=>?_,fun x hx=>by have:=hk x hx;omega⟩⟩
  by_cases hj:j<9
  ·left
   rw[zP4 h _ (by omega),show 0+i*9+j=i*9+j by omega,zH6 re i j hi hj]
  ·right;omega
theorem zCE {tmps:Array Value} {W:World} {b4 b5 b6:Nat} {oa:Option Addr} {n cp:Nat} {e i:Int} (t4:tmps.getD 4 undef= .pointer (some ⟨b4,0,none⟩)) (t5:tmps.getD 5 undef= .pointer (some ⟨b5,0,none⟩)) (t6:tmps.getD 6 undef= .pointer (some ⟨b6,0,none⟩))
  (c4:W.cell? ⟨b4,0,none⟩=some (.slice oa n cp)) (c5:W.cell? ⟨b5,0,none⟩=some (.int .i64 e)) (c6:W.cell? ⟨b6,0,none⟩=some (.int .i64 i)):
  (results Tryz.f51 tmps).run Tryz.prog W= .ok (.tuple #[.slice oa n cp,.int .i64 e,.int .i64 i]) W:=by
 simp only[Array.getD_eq_getD_getElem?]at t4 t5 t6
 simp[results,Tryz.results51,go_sem,t4,t5,t6,c4,c5,c6]
structure zHk (w W:World) (b4 b5 b6:Nat) (x y z:Value):Prop where
 c4:W.cell? ⟨b4,0,none⟩=some x
 c5:W.cell? ⟨b5,0,none⟩=some y
 c6:W.cell? ⟨b6,0,none⟩=some z
 z4:W.frozen? ⟨b4,0,none⟩=false
 z5:W.frozen? ⟨b5,0,none⟩=false
 z6:W.frozen? ⟨b6,0,none⟩=false
 b:Below w.heap.size w W
 l4:w.heap.size≤b4
 l5:b5=b4+1
 l6:b6=b4+1+1
 lt:b4+1+1<W.heap.size
theorem zHk.new (w:World) (x y z:Value):zHk w (((w.alloc (.cells #[x] 52)).alloc (.cells #[y] 55)).alloc (.cells #[z] 3)) w.heap.size (w.heap.size+1) (w.heap.size+1+1) x y z:=by
 have s1:(w.alloc (.cells #[x] 52)).heap.size=w.heap.size+1:=by simp
 have s2:((w.alloc (.cells #[x] 52)).alloc (.cells #[y] 55)).heap.size=w.heap.size+1+1:=by simp
 have h4:(((w.alloc (.cells #[x] 52)).alloc (.cells #[y] 55)).alloc (.cells #[z] 3)).heap[w.heap.size]?=some (.cells #[x] 52 (0,0)):=
  (zPt _ _ (by omega)).trans ((zPt _ _ (by omega)).trans (zPs _ _))
 have h5:(((w.alloc (.cells #[x] 52)).alloc (.cells #[y] 55)).alloc (.cells #[z] 3)).heap[w.heap.size+1]?=some (.cells #[y] 55 (0,0)):=
  (zPt _ _ (by omega)).trans (by rw[←s1];exact zPs _ _)
 have h6:(((w.alloc (.cells #[x] 52)).alloc (.cells #[y] 55)).alloc (.cells #[z] 3)).heap[w.heap.size+1+1]?=some (.cells #[z] 3 (0,0)):=by
  rw[←s2];exact zPs _ _
 exact⟨(zPu _ _ 0 _ _ (0,0) h4).trans rfl,(zPu _ _ 0 _ _ (0,0) h5).trans rfl,(zPu _ _ 0 _ _ (0,0) h6).trans rfl,frozen_of_row _ _ _ _ _ h4,frozen_of_row _ _ _ _ _ h5,frozen_of_row _ _ _ _ _ h6,
  (((zPg _ _).alloc (zPh _) _).alloc (by omega) _).alloc (by omega) _,zPh _,rfl,rfl,by simp⟩
theorem zHk.keep {w W W':World} {b4 b5 b6:Nat} {x y z:Value} (h:zHk w W b4 b5 b6 x y z) (hb: ∀k,k≤b4+1+1→W'.heap[k]?=W.heap[k]?) (hB:Below w.heap.size W W'):zHk w W' b4 b5 b6 x y z:=by
 have e4:=hb b4 (by omega)
 have e5:=hb b5 (by rw[h.l5];omega)
 have e6:=hb b6 (by rw[h.l6];omega)
 exact⟨(zPj (w:=W) (a:=⟨b4,0,none⟩) e4).trans h.c4,(zPj (w:=W) (a:=⟨b5,0,none⟩) e5).trans h.c5,(zPj (w:=W) (a:=⟨b6,0,none⟩) e6).trans h.c6,
  (zPk (w:=W) (a:=⟨b4,0,none⟩) e4).trans h.z4,(zPk (w:=W) (a:=⟨b5,0,none⟩) e5).trans h.z5,(zPk (w:=W) (a:=⟨b6,0,none⟩) e6).trans h.z6,
  h.b.trans hB,h.l4,h.l5,h.l6,zPi h.lt hB.size⟩
theorem zHk.set {w W:World} {b4 b5 b6:Nat} {x y z:Value} (h:zHk w W b4 b5 b6 x y z) (a b c:Value):zHk w (((W.setCell ⟨b4,0,none⟩ a).setCell ⟨b5,0,none⟩ b).setCell ⟨b6,0,none⟩ c) b4 b5 b6 a b c:=by
 obtain⟨c4,c5,c6,z4,z5,z6,hb,l4,rfl,rfl,lt⟩:=h
 refine⟨?_,?_,?_,zAP _ _ _ _ (zAP _ _ _ _ (zAP _ _ _ _ z4)),zAP _ _ _ _ (zAP _ _ _ _ (zAP _ _ _ _ z5)),zAP _ _ _ _ (zAP _ _ _ _ (zAP _ _ _ _ z6)),
  ((hb.setCell l4 _).setCell (by show _≤b4+1;omega) _).setCell (by show _≤b4+1+1;omega) _,l4,rfl,rfl,by simpa using lt⟩
 ·rw[zPx _ _ _ _ (by simp only[ne_eq,Addr.mk.injEq,not_and];omega),zPx _ _ _ _ (by simp only[ne_eq,Addr.mk.injEq,not_and];omega)]
  exact zPy _ _ _ c4
 ·rw[zPx _ _ _ _ (by simp only[ne_eq,Addr.mk.injEq,not_and];omega)]
  exact zPy _ _ _ ((zPx _ _ _ _ (by simp only[ne_eq,Addr.mk.injEq,not_and];omega)).trans c5)
 ·exact zPy _ _ _ ((zPx _ _ _ _ (by simp only[ne_eq,Addr.mk.injEq,not_and];omega)).trans ((zPx _ _ _ _ (by simp only[ne_eq,Addr.mk.injEq,not_and];omega)).trans c6))
theorem zHk.set1 {w W:World} {b4 b5 b6:Nat} {x y z:Value} (h:zHk w W b4 b5 b6 x y z) (a:Value):zHk w (W.setCell ⟨b4,0,none⟩ a) b4 b5 b6 a y z:=by
 obtain⟨c4,c5,c6,z4,z5,z6,hb,l4,rfl,rfl,lt⟩:=h
 exact⟨zPy _ _ _ c4,(zPx _ _ _ _ (by simp only[ne_eq,Addr.mk.injEq,not_and];omega)).trans c5,(zPx _ _ _ _ (by simp only[ne_eq,Addr.mk.injEq,not_and];omega)).trans c6,
  zAP _ _ _ _ z4,zAP _ _ _ _ z5,zAP _ _ _ _ z6,hb.setCell l4 _,l4,rfl,rfl,by simpa using lt⟩
theorem Nds.store {w:World} {base:Nat} {v:Value} {re:List Nd} (h:Nds w base v re) {b:Nat} (hb: ∀g,v.ownBlock=some g→g≠b) (u:Value):Nds (w.setCell ⟨b,0,none⟩ u) base v re:=h.block fun g hg=>zPp _ _ _ _ (hb g hg)
theorem Nds.alloc {w:World} {base:Nat} {v:Value} {re:List Nd} (h:Nds w base v re) (o:Obj):Nds (w.alloc o) base v re:=h.below ((zPg _ _).alloc (zPh _) _)
theorem zG1.store {w:World} {nb no:Nat} {re:List Nd} (h:zG1 w nb no re) {b:Nat} (hb:nb≠b) (u:Value):zG1 (w.setCell ⟨b,0,none⟩ u) nb no re:=
 ⟨by simpa [World.setCell]using h.lt,h.len,fun i hi j=>(h.c i hi j).imp (fun e=>(zPx _ _ _ _ (by simp only[ne_eq,Addr.mk.injEq,not_and];intro e;exact absurd e.symm hb)).trans e) id,h.k⟩
theorem zHk.alloc {w W:World} {b4 b5 b6:Nat} {x y z:Value} (h:zHk w W b4 b5 b6 x y z) (o:Obj):zHk w (W.alloc o) b4 b5 b6 x y z:=
 h.keep (fun k hk=>Below.heap_alloc _ _ _ (by have:=h.lt;omega)) ((zPg _ _).alloc h.b.size _)
theorem zHk.drew {w W:World} {b4 b5 b6:Nat} {x y z:Value} (h:zHk w W b4 b5 b6 x y z):zHk w W.drew b4 b5 b6 x y z:=
 h.keep (fun _ _=>rfl) (zPg _ _).drew
theorem zK6 {ere:Bool} {L:List Mk} {oa:Option Addr} {cap:Nat} {w:World} (hL:4096<L.length):
  Calls Tryz.prog 51 #[.bool ere,.slice oa L.length cap] w fun e w'=>zN1 w (zA5 ere L) e w'∧Below w.heap.size w w':=by
 have hL':(4096:Int)<(L.length:Int):=by omega
 have HP:Hid (zA5 ere L= .error (2,4096)):=by rw[Hid,zA5,if_pos hL]
 go_enter_defers Tryz.func51,Tryz.ntmps51
 go_wp2_with fail
 have hv:=zHk.new w (.slice none 0 0) (.int .i64 2) (.int .i64 4096)
 exact⟨_,zCE rfl rfl rfl hv.c4 hv.c5 hv.c6,by rw[HP.out];rfl,hv.b⟩
theorem zK5 {ere:Bool} {L:List Mk} {oa:Option Addr} {cap:Nat} {w:World} (hL:L.length=0):
  Calls Tryz.prog 51 #[.bool ere,.slice oa L.length cap] w fun e w'=>zN1 w (zA5 ere L) e w'∧Below w.heap.size w w':=by
 have HP:Hid (zA5 ere L= .error (45,0)):=by rw[Hid,zA5,if_neg (by omega),if_pos hL]
 rw[hL]
 clear hL
 go_enter_defers Tryz.func51,Tryz.ntmps51
 go_wp2_with fail
 have hv:=zHk.new w (.slice none 0 0) (.int .i64 45) (.int .i64 0)
 exact⟨_,zCE rfl rfl rfl hv.c4 hv.c5 hv.c6,by rw[HP.out];rfl,hv.b⟩
theorem zK4 {ere:Bool} {L:List Mk} {mb mo cap:Nat} {w:World} (hL:0<L.length) (hm:zE8 w mb mo L):
  Calls Tryz.prog 51 #[.bool ere,.slice (some ⟨mb,mo,none⟩) L.length cap] w fun e w'=>zN1 w (zA5 ere L) e w'∧Below w.heap.size w w':=by
 have hmf: ∀(fn:Fn) (first cap:Array Value) (w:World),(Instr.makeFunc fn first cap).run Tryz.prog w= .ok (.func fn first cap) w:=fun _ _ _ _=>rfl
 have h1: ¬(4096:Int)<(L.length:Int):=by have:=hm.len;omega
 have h2: ¬(L.length:Int)=0:=by omega
 have HP:Hid (zA5 ere L=match zBG ere L 64 ⟨0,[]⟩with
  | .no e i=> .error (e,i)
  | .ok re _=>match zBj re 260 0 with
   |some (w,_)=>if 16384<w then .error (48,L.length)else .ok re
   |none=> .error (0,0)):=by rw[Hid,zA5,if_neg (by omega),if_neg (by omega)]<;>rfl
 have HM:=zPf hm
 clear hm
 go_enter_defers Tryz.func51,Tryz.ntmps51
 go_wp2_with fail
 have hv:=zHk.new w (.slice none 0 0) (.int .i64 0) (.int .i64 0)
 revert hv
 generalize ((w.alloc (.cells #[.slice none 0 0] 52)).alloc (.cells #[.int .i64 0] 55)).alloc (.cells #[.int .i64 0] 3)=W3
 intro hv
 have HB3:=zPf hv.b
 refine(zIq ere (HM.out.below hv.b)).mono ?_
 rintro e W4 ⟨rfl,hr4,hb4⟩
 have HV4:=zPf (hv.keep (fun k hk=>hb4.block k (by have:=hv.lt;omega)) (hb4.mono hv.b.size))
 have hlt3:=hv.lt
 clear hv
 obtain⟨rb,hrb⟩: ∃rb,W3.heap.size=rb:=⟨_,rfl⟩
 rw[hrb]at hr4 hb4 hlt3
 have HR4:=zPf hr4
 clear hr4
 go_wp2_with fail
 refine(zLr (zPh 64) W4 ⟨0,[]⟩ _ HR4.out).mono ?_
 rintro e W5 ⟨hb5,hp5⟩
 have hV5:=HV4.out.keep (fun k hk=>hb5.block k (by have:=HV4.out.lt;omega) (by omega) (by simp[Value.ownBlock]))
  ⟨hb5.os,hb5.tape,hb5.output,hb5.size,fun k hk=>hb5.block k (by have:=HV4.out.lt;omega) (by omega) (by simp[Value.ownBlock])⟩
 have HV5:=zPf hV5
 cases hs:zBG ere L 64 ⟨0,[]⟩with
 |no er p=>
  have HF:Hid (zA5 ere L= .error (er,p)):=by rw[Hid,HP.out,hs]
  rw[hs]at hp5
  simp only[zFm]at hp5
  subst hp5
  clear hV5 hb5 hb4
  go_wp2_with fail
  refine leaves_cons (f:=102) (args:= #[.pointer (some ⟨w.heap.size,0,none⟩),.pointer (some ⟨w.heap.size+1,0,none⟩),.pointer (some ⟨w.heap.size+1+1,0,none⟩)]) (by simp) (by simp[go_sem]) ?_
  refine(zJ8 _ _ _ er p [] W5 HV5.out.c4 HV5.out.c5 HV5.out.c6 HV5.out.z4 HV5.out.z5 HV5.out.z6 (by omega) (by omega) (by omega)).mono ?_
  rintro e u' w'' ⟨rfl,rfl,rfl⟩
  have hve:=((HV5.out.set (.slice none 0 0) (.int .i64 (er:Nat)) (.int .i64 (p:Nat))).alloc (.cells #[.int .i64 (er:Nat),.int .i64 (p:Nat)] 150)).drew
  exact⟨_,zCE rfl rfl rfl hve.c4 hve.c5 hve.c6,by rw[HF.out];rfl,hve.b⟩
 |ok re t=>
  rw[hs]at hp5
  simp only at hp5
  obtain⟨v,ev5,rfl,hr5,hn5,hrow5⟩:=hp5
  have htop:=zCm hs
  have hgood:=zDQ re _ _ _ _ _ htop
  have hok:=zEj (fun p hp=>hgood.2.2 p (Nat.zero_le _) hp)
  have hpos:0<re.length:=hgood.1
  have hsm:=zCT HM.out.u 64 (by simp) hs
  have hri:=(zCv HM.out.u 64 (by simp) hs).le
  obtain⟨wt,hwt⟩:=zBa re _ _ _ _ _ _ htop
  obtain⟨g,cp,rfl,hg1,hnd⟩:=hrow5.nds.at hpos (by simp only at hsm;omega) hok.2
  have HF:Hid (zA5 ere L=if 16384<wt then .error (48,L.length)else .ok re):=by rw[Hid,HP.out,hs];simp only[hwt]
  have d4:=hV5.c4
  have y4:=hV5.z4
  have l4:w.heap.size<W5.heap.size:=by have:=hV5.lt;omega
  have HROW:=zPf hrow5
  have HND:=zPf hnd
  clear hV5 hr5 hn5 htop hgood hnd hrow5
  go_wp2_with fail
  have hlw:=HV4.out.lt
  have hg4:g≠w.heap.size:=by omega
  refine(zGA hok.1 260 0 (wt,re.length) _ 0 rfl (HND.out.store hg4 _) hwt).mono ?_
  rintro e W7 ⟨rfl,hb7⟩
  have hV6:=HV5.out.set1 (.slice (some ⟨g,0,none⟩) re.length cp)
  have hV7:=hV6.keep (fun k hk=>hb7.block k (by have:=hV6.lt;omega)) (hb7.mono hV6.b.size)
  have hN7:=((HROW.out.nds.mono HV4.out.b.size).store (b:=w.heap.size) (fun x hx=>by simp only[Value.ownBlock,Option.some.injEq]at hx;omega) (.slice (some ⟨g,0,none⟩) re.length cp)).below hb7
  have HV7:=zPf hV7
  have HN7:=zPf hN7
  have e4:=hV7.c4
  have e5:=hV7.c5
  have e6:=hV7.c6
  have x4:=hV7.z4
  have x5:=hV7.z5
  have x6:=hV7.z6
  have l7:=hV7.lt
  have l71:w.heap.size<W7.heap.size:=by omega
  have l72:w.heap.size+1<W7.heap.size:=by omega
  clear hV6 hV7 hN7 hb7 d4 y4 l4
  by_cases hw:16384<wt
  ·have HE:Hid (zA5 ere L= .error (48,L.length)):=by rw[Hid,HF.out,if_pos hw]
   go_wp2_with fail
   refine leaves_cons (f:=102) (args:= #[.pointer (some ⟨w.heap.size,0,none⟩),.pointer (some ⟨w.heap.size+1,0,none⟩),.pointer (some ⟨w.heap.size+1+1,0,none⟩)]) (by simp) (by simp[go_sem]) ?_
   refine(zHi _ _ _ _).mono ?_
   rintro e u' w'' ⟨rfl,rfl,rfl⟩
   have hve:=(HV7.out.set (.slice none 0 0) (.int .i64 48) (.int .i64 (L.length:Nat))).alloc (.cells #[.int .i64 0,.int .i64 0] 150)
   exact⟨_,zCE rfl rfl rfl hve.c4 hve.c5 hve.c6,by rw[HE.out];rfl,hve.b⟩
  ·have HE:Hid (zA5 ere L= .ok re):=by rw[Hid,HF.out,if_neg hw]
   go_wp2_with fail
   refine leaves_cons (f:=102) (args:= #[.pointer (some ⟨w.heap.size,0,none⟩),.pointer (some ⟨w.heap.size+1,0,none⟩),.pointer (some ⟨w.heap.size+1+1,0,none⟩)]) (by simp) (by simp[go_sem]) ?_
   refine(zHi _ _ _ _).mono ?_
   rintro e u' w'' ⟨rfl,rfl,rfl⟩
   have hve:=(HV7.out.set (.slice (some ⟨g,0,none⟩) re.length cp) (.int .i64 0) (.int .i64 0)).alloc (.cells #[.int .i64 0,.int .i64 0] 150)
   have n1: ∀x,(Value.slice (some ⟨g,0,none⟩) re.length cp).ownBlock=some x→x≠w.heap.size:=fun x hx=>by simp only[Value.ownBlock,Option.some.injEq]at hx;omega
   have n2: ∀x,(Value.slice (some ⟨g,0,none⟩) re.length cp).ownBlock=some x→x≠w.heap.size+1:=fun x hx=>by simp only[Value.ownBlock,Option.some.injEq]at hx;omega
   have n3: ∀x,(Value.slice (some ⟨g,0,none⟩) re.length cp).ownBlock=some x→x≠w.heap.size+1+1:=fun x hx=>by simp only[Value.ownBlock,Option.some.injEq]at hx;omega
   have hne:=(((HN7.out.store n1 (.slice (some ⟨g,0,none⟩) re.length cp)).store n2 (.int .i64 0)).store n3 (.int .i64 0)).alloc (.cells #[.int .i64 0,.int .i64 0] 150)
   exact⟨_,zCE rfl rfl rfl hve.c4 hve.c5 hve.c6,by rw[HE.out];exact⟨_,rfl,hne⟩,hve.b⟩
theorem zHT {ere:Bool} {L:List Mk} {oa:Option Addr} {cap:Nat} {w:World} (hm:0<L.length→L.length≤4096→ ∃mb mo,oa=some ⟨mb,mo,none⟩∧zE8 w mb mo L):
  Calls Tryz.prog 51 #[.bool ere,.slice oa L.length cap] w fun e w'=>zN1 w (zA5 ere L) e w'∧Below w.heap.size w w':=by
 by_cases h1:4096<L.length
 ·exact zK6 h1
 ·by_cases h2:L.length=0
  ·exact zK5 h2
  ·obtain⟨mb,mo,rfl,h⟩:=hm (by omega) (by omega)
   exact zK4 (by omega) h
end
section
def Bad (L:List Mk) (e i:Nat):Prop:=e≠0∧i≤L.length∧(e=40∨e=42∨e=44∨e=46∨e=47→i<L.length)
theorem Bad.mk' {L:List Mk} {e i:Nat} (h0:e≠0) (h:i<L.length):Bad L e i:=⟨h0,Nat.le_of_lt h,fun _=>h⟩
theorem f3 {L:List Mk} {e i:Nat} {f:Nat × Nat} (h:(e,i)=f) (h1:30≤e) (h2:e≤32) (h3:i<L.length):30≤f.1∧f.1≤32∧f.2<L.length:=by
 subst h;exact⟨h1,h2,h3⟩
theorem zIu {L:List Mk} {at0 b:Nat} (ha:at0<L.length) (hb:b<L.length): ∀(n i:Nat) (s:List Nat) (x:Th) (f:Nat × Nat),zCj L at0 b n i s=(x,some f)→30≤f.1∧f.1≤32∧f.2<L.length
 |0,_,_,_,_,h=>by simp only[zCj,Prod.mk.injEq,Option.some.injEq]at h;exact f3 h.2 (by decide) (by decide) ha
 |n+1,i,s,x,f,h=>by
  unfold zCj at h
  split at h
  ·split at h
   ·simp only[Prod.mk.injEq,Option.some.injEq]at h;exact f3 h.2 (by decide) (by decide) hb
   ·simp at h
  ·exact zIu ha hb n _ _ _ _ h
theorem zGC {L:List Mk} {at0 b:Nat} {x:Th} {f:Nat × Nat} (ha:at0<L.length) (h:zAT L at0 b=(x,some f)):30≤f.1∧f.1≤32∧f.2<L.length:=by
 unfold zAT at h
 split at h
 ·simp only[Prod.mk.injEq,Option.some.injEq]at h;exact f3 h.2 (by decide) (by decide) ha
 ·rename_i hb
  split at h
  ·unfold zC9 at h;exact zIu ha (by omega) _ _ _ _ _ h
  ·split at h
   ·unfold zAf at h
    repeat' (split at h)
    all_goals first
     |(simp only[Prod.mk.injEq,Option.some.injEq]at h;exact f3 h.2 (by decide) (by decide) (by omega))
     |(simp at h;done)
   ·simp at h
theorem zKi {L:List Mk} {at0 b:Nat} {x:Th} (h:zAT L at0 b=(x,none)):b<L.length:=by
 unfold zAT at h
 split at h
 ·simp at h
 ·omega
theorem zLH {L:List Mk} {at0 b:Nat} {fst:Bool} {x:Th} {f:Nat × Nat} (ha:at0<L.length) (h:zAb L at0 b fst=(x,some f)):30≤f.1∧f.1≤32∧f.2<L.length:=by
 unfold zAb at h
 split at h
 ·rename_i hx
  simp only[Prod.mk.injEq,Option.some.injEq]at h
  rw[←h.2]
  exact zGC ha hx
 ·rename_i a hx
  have hb:=zKi hx
  repeat' (split at h)
  all_goals first
   |(simp only[Prod.mk.injEq,Option.some.injEq]at h;first|exact f3 h.2 (by decide) (by decide) ha|exact f3 h.2 (by decide) (by decide) hb)
   |(rename_i hy;simp only[Prod.mk.injEq,Option.some.injEq]at h;rw[←h.2];exact zGC ha hy)
   |(simp at h;done)
theorem zHb {L:List Mk} {at0:Nat} (ha:at0<L.length): ∀(n:Nat) (c:Cls) (i:Nat) (fst:Bool) (f:Nat × Nat),zA1 L at0 n c i fst= .error f→30≤f.1∧f.1≤32∧f.2<L.length
 |0,_,_,_,_,h=>by simp only[zA1,Except.error.injEq]at h;exact f3 h (by decide) (by decide) ha
 |n+1,c,i,fst,f,h=>by
  unfold zA1 at h
  split at h
  ·cases h
  ·split at h
   ·rename_i hx
    cases h
    exact zLH ha hx
   ·exact zHb ha n _ _ _ _ h
theorem zLS {L:List Mk} {s:Rst} {e i:Nat} (ha:s.i<L.length) (h:zDD L s= .no e i):Bad L e i:=by
 unfold zDD at h
 split at h
 ·rename_i hx
  cases h
  unfold zAs at hx
  simp only at hx
  split at hx
  ·rename_i hy
   cases hx
   have:=zHb ha _ _ _ _ _ hy
   simp only at this
   exact⟨by omega,by omega,fun _=>by omega⟩
  ·cases hx
 ·cases h
theorem zJ4 {ere:Bool} {L:List Mk} {grp:Rst→Out (List Nd)} {s:Rst} {e i:Nat} (hs:s.i<L.length) (hg:s.i+zAY ere≤L.length→grp s= .no e i→Bad L e i) (h:zA0 ere L grp s= .no e i):Bad L e i:=by
 unfold zA0 at h
 split at h
 ·cases h;exact Bad.mk' (by decide) hs
 ·rename_i hne
  split at h
  ·cases h;exact Bad.mk' (by decide) hs
  ·simp only at h
   split at h
   ·rename_i he
    have hw:zAY ere=2:=by cases ere<;>simp_all[zAY]
    unfold zAx at h
    split at h
    ·cases h
    ·rename_i hx;cases h;exact hg (by omega) hx
   ·split at h
    ·cases h
    ·split at h
     ·cases h
     ·split at h
      ·split at h
       ·cases h;exact Bad.mk' (by decide) hs
       ·split at h
        ·cases h;exact Bad.mk' (by decide) hs
        ·cases h
      ·cases h;exact Bad.mk' (by decide) hs
theorem zMh {ere first:Bool} {L:List Mk} {grp:Rst→Out (List Nd)} {s:Rst} {e i:Nat} (hs:s.i<L.length) (hg:s.i+zAY ere≤L.length→grp s= .no e i→Bad L e i) (h:zCG ere first L grp s= .no e i):Bad L e i:=by
 unfold zCG at h
 simp only at h
 split at h
 ·cases h
 ·split at h
  ·unfold zNx at h;cases h
  ·split at h
   ·exact zLS hs h
   ·split at h
    ·exact zJ4 hs hg h
    ·split at h
     ·unfold zDj at h;split at h<;>cases h
     ·split at h
      ·unfold zKU at h;split at h<;>cases h
      ·split at h
       ·rename_i he
        have hw:zAY ere=1:=by cases ere<;>simp_all[zAY]
        unfold zAx at h
        split at h
        ·cases h
        ·rename_i hx;cases h;exact hg (by omega) hx
       ·cases h
theorem zIy {ere:Bool} {L:List Mk} {s:Rst} {e i:Nat} (h:zAZ ere L s= .no e i):e=43∧i=s.i:=by
 unfold zAZ at h
 obtain⟨b,hb⟩: ∃b,b=(if seesAt L (zDO L (s.i+zAY ere)).2 [44]then zDO L ((zDO L (s.i+zAY ere)).2+1)else zDO L (s.i+zAY ere)):=⟨_,rfl⟩
 simp only[←hb]at h
 split at h
 ·cases h;exact⟨rfl,rfl⟩
 ·cases h
theorem zNY {ere:Bool} {L:List Mk} {s:Rst} {e i:Nat} (hs:s.i≤L.length) (h:zEY ere L s= .no e i):Bad L e i:=by
 unfold zEY at h
 repeat' (split at h)
 all_goals first
  |(cases h;done)
  |(rename_i hx
    cases h
    obtain⟨rfl,rfl⟩:=zIy hx
    exact⟨by decide,hs,fun h=>by omega⟩)
theorem zF0 {ere top:Bool} {L:List Mk} {grp:Rst→Out (List Nd)} (hu: ∀i,i<L.length→(zAH L i).b<256) (hg: ∀s re t,s.i+zAY ere≤L.length→grp s= .ok re t→Adv L s t) (hn: ∀s e i,s.i+zAY ere≤L.length→grp s= .no e i→Bad L e i):
  ∀(f:Nat) (all:List Nd) (n:Nat) (lead:Bool) (s:Rst) (e i:Nat),L.length<f+s.i→zEe ere top L grp f all n lead s= .no e i→s.i≤L.length→Bad L e i
 |0,_,_,_,s,_,_,hf,_,hs=>by omega
 |f+1,all,n,lead,s,e,i,hf,h,hs=>by
  unfold zEe at h
  split at h
  ·cases h
  ·rename_i hlt
   split at h
   ·cases h
   ·split at h
    ·split at h
     ·cases h;exact Bad.mk' (by decide) (by omega)
     ·cases h
    ·split at h
     ·cases h;exact Bad.mk' (by decide) (by omega)
     ·split at h
      ·rename_i hx
       cases h
       exact zMh (by omega) (fun hw=>hn s _ _ hw) hx
      ·rename_i re takes u hx
       have h1:=zDy hu (by omega) (fun re t=>hg s re t) hx
       have h1l:=h1.lt
       have h1e:=h1.le
       simp only at h
       split at h
       ·rename_i hr
        simp only[Bool.and_eq_true]at hr
        split at h
        ·rename_i hd
         cases h
         exact zNY h1e hd
        ·rename_i d v hd
         have h2:=zE1 hr.2 hd
         have h2l:=h2.lt
         have h2e:=h2.le
         exact zF0 hu hg hn f _ _ _ _ _ _ (by omega) h h2e
       ·exact zF0 hu hg hn f _ _ _ _ _ _ (by omega) h h1e
theorem zFC {ere:Bool} {L:List Mk} {row:Rst→Out (Nat × List Nd)} (hr: ∀s r t,s.i≤L.length→row s= .ok r t→zJH L s t) (hn: ∀s e i,s.i≤L.length→row s= .no e i→Bad L e i):
  ∀(f:Nat) (all:List Nd) (n:Nat) (s:Rst) (e i:Nat),L.length<f+s.i→s.i≤L.length→zBf ere L row f all n s= .no e i→Bad L e i
 |0,_,_,s,_,_,hf,hs,_=>by omega
 |f+1,all,n,s,e,i,hf,hs,h=>by
  unfold zBf at h
  split at h
  ·rename_i hx
   cases h
   exact hn _ _ _ hs hx
  ·rename_i parts r u hx
   have h1:=hr _ _ _ hs hx
   have h1l:=h1.lt
   have h1e:=h1.le
   simp only at h
   split at h
   ·cases h;exact⟨by decide,h1e,fun h=>by omega⟩
   ·split at h
    ·cases h
    ·rename_i hm
     have hm':(ere&&seesAt L u.i [124])=true:=by simpa using hm
     simp only[Bool.and_eq_true]at hm'
     have h2:=zBU (by simp) hm'.2
     simp only[List.length_singleton]at h2
     exact zFC hr hn f _ _ _ _ _ (by show L.length<f+(u.i+1);omega) h2 h
theorem zHd {ere:Bool} {L:List Mk} (hu: ∀i,i<L.length→(zAH L i).b<256): ∀(k:Nat) (s:Rst) (e i:Nat),s.i+zAY ere≤L.length→zAN ere L k s= .no e i→Bad L e i
 |0,s,e,i,hs,h=>by
  have hw:=zCR ere
  simp only[zAN,Out.no.injEq]at h
  rw[←h.1,←h.2]
  exact Bad.mk' (by decide) (by omega)
 |k+1,s,e,i,hs,h=>by
  have hw:=zCR ere
  unfold zAN at h
  split at h
  ·cases h;exact Bad.mk' (by decide) (by omega)
  ·split at h
   ·rename_i hx
    cases h
    exact zFC (fun _ _ _ h0 h=>zCz hu k h0 h) (fun s e i h0 h=>zF0 hu (fun s re t=>zB7 hu k s re t) (fun s e i=>zHd hu k s e i) _ _ _ _ s e i (by omega) h h0) _ _ _ _ _ _ (by omega) (by simpa using hs) hx
   ·split at h
    ·cases h;exact Bad.mk' (by decide) (by omega)
    ·cases h
theorem zKp {ere:Bool} {L:List Mk} (hu: ∀i,i<L.length→(zAH L i).b<256) (k:Nat) {s:Rst} {e i:Nat} (hs:s.i≤L.length) (h:zBG ere L k s= .no e i):Bad L e i:=
 zFC (fun _ _ _ h0 h=>zCz hu k h0 h) (fun s e i h0 h=>zF0 hu (fun s re t=>zB7 hu k s re t) (fun s e i=>zHd hu k s e i) _ _ _ _ s e i (by omega) h h0) _ _ _ _ _ _ (by omega) hs h
theorem zFI {ere:Bool} {L:List Mk} (hu: ∀i,i<L.length→(zAH L i).b<256) {e i:Nat} (h:zA5 ere L= .error (e,i)):Bad L e i:=by
 unfold zA5 at h
 split at h
 ·cases h;exact⟨by decide,by omega,fun h=>by omega⟩
 ·split at h
  ·cases h;exact⟨by decide,Nat.zero_le _,fun h=>by omega⟩
  ·split at h
   ·rename_i hx
    cases h
    exact zKp hu 64 (by simp) hx
   ·rename_i re t hx
    obtain⟨wt,hwt⟩:=zBa re _ _ _ _ _ _ (zCm hx)
    rw[hwt]at h
    simp only at h
    split at h
    ·cases h;exact⟨by decide,zPh _,fun h=>by omega⟩
    ·cases h
theorem zL7 {ere:Bool} {L:List Mk} {re:List Nd} (h:zA5 ere L= .ok re):0<L.length∧L.length≤4096∧ ∃t w,zBG ere L 64 ⟨0,[]⟩= .ok re t∧zBj re 260 0=some (w,re.length)∧w≤16384:=by
 unfold zA5 at h
 split at h
 ·cases h
 ·split at h
  ·cases h
  ·split at h
   ·cases h
   ·rename_i re' t hx
    obtain⟨wt,hwt⟩:=zBa re' _ _ _ _ _ _ (zCm hx)
    rw[hwt]at h
    simp only at h
    split at h
    ·cases h
    ·cases h
     exact⟨by omega,by omega,t,wt,hx,hwt,by omega⟩
end
section
structure Ad where
 kind:Int
 n:Int
 re:List Nd
def Ad.zero:Ad:=⟨0,0,[]⟩
def zCa (ere:Bool) (T:List Nat) (i:Nat):Ad × Nat × Nat:=
 if T.length≤i then(Ad.zero,0,i)
 else
  let b:=T.getD i 0
  if 48≤b∧b≤57 then
   match zIK T 2147483647 i with
   |none=>(Ad.zero,71,i)
   |some (v,j)=>if v=0 then(Ad.zero,71,j)else(⟨1,v,[]⟩,0,j)
  else if b=36 then(⟨2,0,[]⟩,0,i+1)
  else if b=92∧T.length≤i+1 then(Ad.zero,70,i+1)
  else if b=47∨b=92 then
   let k:=if b=92 then i+1 else i
   match zCM T (T.getD k 0) false (k+1)with
   |none=>(Ad.zero,70,k+1)
   |some (l,j)=>
    if l=[]then(⟨3,0,[]⟩,0,j)
    else match zA5 ere l with
     | .error e=>(Ad.zero,e.1,j)
     | .ok re=>(⟨3,0,re⟩,0,j)
  else(Ad.zero,0,i)
theorem zNh {ere:Bool} {T:List Nat} {i:Nat} (hi:i≤T.length):i≤(zCa ere T i).2.2∧(zCa ere T i).2.2≤T.length:=by
 unfold zCa
 split
 ·simp only;omega
 ·simp only
  split
  ·split
   ·simp only;omega
   ·rename_i v j h
    have:=zOJ h hi
    simp only at this
    split<;>simp only<;>omega
  ·split
   ·simp only;omega
   ·split
    ·simp only;omega
    ·rename_i h1
     split
     ·split
      ·simp only
       split<;>omega
      ·rename_i l j h
       have:=zF3 h
       simp only at this
       have hk:i≤(if T.getD i 0=92 then i+1 else i):=by split<;>omega
       split
       ·simp only;omega
       ·split<;>simp only<;>omega
     ·simp only;omega
def zMr (kind n line:Int) (last hit:Bool):Bool:=
 if kind=1 then n==line else if kind=2 then last else if kind=3 then hit else false
def zDo (ka na kb nb:Int) (not:Bool) (line:Int) (last opened hit:Bool):Bool × Bool × Bool:=
 if ka=0 then(true !=not,false,opened)
 else if kb=0 then(zMr ka na line last hit !=not,false,opened)
 else if opened=true then
  let c:=if kb=1 then decide (nb≤line)else zMr kb nb line last hit
  (true !=not,c,!c)
 else if zMr ka na line last hit=true then
  let c:=kb==1&&decide (nb≤line)||kb==2&&last
  (true !=not,c,!c)
 else(false !=not,false,false)
end
section
open Go.RowKit
structure GtS (w:World) (gb bb n:Nat) (op:Nat→Bool):Prop where
 lt:gb<w.heap.size
 ltb:bb<w.heap.size
 ne:bb≠gb
 c0:w.cell? ⟨gb,0,none⟩=some (.slice (some ⟨bb,0,none⟩) n n)
 op: ∀i,i<n→w.cell? ⟨bb,i,none⟩=some (.bool (op i))
 fz: ∀o,w.frozen? ⟨bb,o,none⟩=false
 nl:n≤4096
structure zPB (cs:Array Value) (ka na:Int) (oa:Option Addr) (la ca:Nat) (kb nb:Int) (ob:Option Addr) (lb cb:Nat) (nt:Bool):Prop where
 a0:cs[0]?=some (.int .i8 ka)
 a1:cs[1]?=some (.int .i64 na)
 a2:cs[2]?=some (.slice oa la ca)
 b0:cs[3]?=some (.int .i8 kb)
 b1:cs[4]?=some (.int .i64 nb)
 b2:cs[5]?=some (.slice ob lb cb)
 n:cs[6]?=some (.bool nt)
section
variable {w w':World} {gb bb n:Nat} {op:Nat→Bool}
theorem GtS.block (h:GtS w gb bb n op) (h1:w'.heap[gb]?=w.heap[gb]?) (h2:w'.heap[bb]?=w.heap[bb]?) (hs:w.heap.size≤w'.heap.size):GtS w' gb bb n op:=
 ⟨zPi h.lt hs,zPi h.ltb hs,h.ne,(zPj (w:=w) (a:=⟨gb,0,none⟩) h1).trans h.c0,fun i hi=>(zPj (w:=w) (a:=⟨bb,i,none⟩) h2).trans (h.op i hi),fun o=>(zPk (w:=w) (a:=⟨bb,o,none⟩) h2).trans (h.fz o),h.nl⟩
theorem GtS.below (h:GtS w gb bb n op) (hb:Below w.heap.size w w'):GtS w' gb bb n op:=h.block (hb.block _ h.lt) (hb.block _ h.ltb) hb.size
theorem GtS.set (h:GtS w gb bb n op) {i:Nat} (hi:i<n) (x:Bool):GtS (w.setCell ⟨bb,i,none⟩ (.bool x)) gb bb n (fun j=>if j=i then x else op j) where
 lt:=by simpa [World.setCell]using h.lt
 ltb:=by simpa [World.setCell]using h.ltb
 ne:=h.ne
 c0:=(zPx _ _ _ _ (by simp only[ne_eq,Addr.mk.injEq,not_and];intro e;exact absurd e h.ne)).trans h.c0
 op:=fun j hj=>by
  by_cases e:j=i
  ·subst e
   rw[if_pos rfl]
   exact zPy _ _ _ (h.op j hj)
  ·rw[if_neg e]
   exact(zAG _ _ _ _ _ e).trans (h.op j hj)
 fz:=fun o=>zAP _ _ _ _ (h.fz o)
 nl:=h.nl
theorem GtS.same (h:GtS w gb bb n op) (i:Nat):GtS w gb bb n (fun j=>if j=i then op i else op j):=by
 have e:(fun j=>if j=i then op i else op j)=op:=by funext j;split;(rename_i e;rw[e]);rfl
 rw[e];exact h
theorem zIm (h:GtS w gb bb n op) {i:Nat} (hi:i<n):
  Calls Tryz.prog 42 #[.pointer (some ⟨gb,0,none⟩),.int .i64 (i:Nat)] w fun e w'=>e= .returned (.bool (op i))∧w=w':=by
 have c0:=h.c0
 have c1:=h.op i hi
 have hn:(i:Int)<(n:Int):=by omega
 have hl:=h.nl
 clear h
 go_enter Tryz.func42,Tryz.ntmps42
 go_wp2_with fail
 go_ret
 exact⟨rfl,rfl⟩
theorem zIi {lb:Nat} {line:Int} (k x:Int) (o:Option Addr) (l c:Nat) (hl:w.cell? ⟨lb,0,none⟩=some (.int .i64 line)):
  Calls Tryz.prog 92 #[.agg #[.int .i8 k,.int .i64 x,.slice o l c],.pointer (some ⟨lb,0,none⟩)] w fun e w'=>e= .returned (.bool (k==1&&decide (x≤line)))∧Below w.heap.size w w':=by
 have hll:=zQC w _ hl
 by_cases hk:k=1
 ·subst hk
  go_enter Tryz.func92,Tryz.ntmps92
  go_wp2_with fail
  go_ret
  exact⟨rfl,(zPg _ _).alloc (zPh _) _⟩
 ·have qk:(k==1)=false:=zPl.2 hk
  rw[qk]
  go_enter Tryz.func92,Tryz.ntmps92
  go_wp2_with fail
  go_ret
  exact⟨rfl,(zPg _ _).alloc (zPh _) _⟩
theorem zFT {lb tb hb:Nat} {line:Int} {last:Bool} (k x:Int) (o:Option Addr) (l c:Nat) (hk: ¬k=3) (hl:w.cell? ⟨lb,0,none⟩=some (.int .i64 line)) (ht:w.cell? ⟨tb,0,none⟩=some (.bool last)):
  Calls Tryz.prog 90 #[.agg #[.int .i8 k,.int .i64 x,.slice o l c],.pointer (some ⟨lb,0,none⟩),.pointer (some ⟨tb,0,none⟩),.pointer (some ⟨hb,0,none⟩)] w fun e w'=>e= .returned (.bool (zMr k x line last false))∧Below w.heap.size w w':=by
 have hll:=zQC w _ hl
 have htl:=zQC w _ ht
 by_cases h1:k=1
 ·subst h1
  go_enter Tryz.func90,Tryz.ntmps90
  go_wp2_with fail
  go_ret
  exact⟨rfl,(zPg _ _).alloc (zPh _) _⟩
 by_cases h2:k=2
 ·subst h2
  go_enter Tryz.func90,Tryz.ntmps90
  go_wp2_with fail
  go_ret
  exact⟨rfl,(zPg _ _).alloc (zPh _) _⟩
 have q1:(k==1)=false:=zPl.2 h1
 have q2:(k==2)=false:=zPl.2 h2
 have q3:(k==3)=false:=zPl.2 hk
 have HS:Hid (zMr k x line last false=false):=zPf (by unfold zMr;rw[if_neg h1,if_neg h2,if_neg hk])
 clear h1 h2 hk
 go_enter Tryz.func90,Tryz.ntmps90
 go_wp2_with fail
 go_ret
 exact⟨by rw[HS.out];rfl,(zPg _ _).alloc (zPh _) _⟩
end
end
section
open Go.RowKit
structure TkS (w:World) (c:Nat) (ka na:Int) (oa:Option Addr) (la ca:Nat) (kb nb:Int) (ob:Option Addr) (lb cb:Nat) (nt:Bool) (line:Int) (last:Bool):Prop where
 lt:c+1+1+1<w.heap.size
 a0:w.cell? ⟨c,0,none⟩=some (.int .i8 ka)
 a1:w.cell? ⟨c,1,none⟩=some (.int .i64 na)
 a2:w.cell? ⟨c,2,none⟩=some (.slice oa la ca)
 b0:w.cell? ⟨c,3,none⟩=some (.int .i8 kb)
 b1:w.cell? ⟨c,4,none⟩=some (.int .i64 nb)
 b2:w.cell? ⟨c,5,none⟩=some (.slice ob lb cb)
 n:w.cell? ⟨c,6,none⟩=some (.bool nt)
 l:w.cell? ⟨c+1,0,none⟩=some (.int .i64 line)
 t:w.cell? ⟨c+1+1,0,none⟩=some (.bool last)
section
variable {w w':World} {c gb bb n:Nat} {op:Nat→Bool} {ka na:Int} {oa:Option Addr} {la ca:Nat} {kb nb:Int} {ob:Option Addr} {lb cb:Nat} {nt:Bool} {line:Int} {last:Bool} {cs:Array Value}
theorem TkS.same (h:TkS w c ka na oa la ca kb nb ob lb cb nt line last) (h0:w'.heap[c]?=w.heap[c]?) (h1:w'.heap[c+1]?=w.heap[c+1]?) (h2:w'.heap[c+1+1]?=w.heap[c+1+1]?) (hs:w.heap.size≤w'.heap.size):TkS w' c ka na oa la ca kb nb ob lb cb nt line last:=
 ⟨zPi h.lt hs,(zPj (w:=w) (a:=⟨c,0,none⟩) h0).trans h.a0,(zPj (w:=w) (a:=⟨c,1,none⟩) h0).trans h.a1,(zPj (w:=w) (a:=⟨c,2,none⟩) h0).trans h.a2,
  (zPj (w:=w) (a:=⟨c,3,none⟩) h0).trans h.b0,(zPj (w:=w) (a:=⟨c,4,none⟩) h0).trans h.b1,(zPj (w:=w) (a:=⟨c,5,none⟩) h0).trans h.b2,(zPj (w:=w) (a:=⟨c,6,none⟩) h0).trans h.n,
  (zPj (w:=w) (a:=⟨c+1,0,none⟩) h1).trans h.l,(zPj (w:=w) (a:=⟨c+1+1,0,none⟩) h2).trans h.t⟩
theorem TkS.below (h:TkS w c ka na oa la ca kb nb ob lb cb nt line last) (hb:Below w.heap.size w w'):TkS w' c ka na oa la ca kb nb ob lb cb nt line last:=
 have:=h.lt
 h.same (hb.block _ (by omega)) (hb.block _ (by omega)) (hb.block _ (by omega)) hb.size
theorem TkS.store (h:TkS w c ka na oa la ca kb nb ob lb cb nt line last) {b:Nat} (hb:b<c) (o:Nat) (v:Value):TkS (w.setCell ⟨b,o,none⟩ v) c ka na oa la ca kb nb ob lb cb nt line last:=
 h.same (zPp _ _ _ _ (by show c≠b;omega)) (zPp _ _ _ _ (by show c+1≠b;omega)) (zPp _ _ _ _ (by show c+1+1≠b;omega)) (by simp[World.setCell])
def tkW (w:World) (cs:Array Value) (line:Int) (last:Bool) (hv:Value):World:=
 (((w.alloc (.cells cs 91)).alloc (.cells #[.int .i64 line] 3)).alloc (.cells #[.bool last] 4)).alloc (.cells #[hv] 102)
theorem zIR (w:World) (cs:Array Value) (line:Int) (last:Bool) (hv:Value):Below w.heap.size w (tkW w cs line last hv):=((((zPg _ _).alloc (zPh _) _).alloc (by simp) _).alloc (by simp;omega) _).alloc (by simp;omega) _
theorem zM3 (w:World) (cs:Array Value) (line:Int) (last:Bool) (hv:Value):(tkW w cs line last hv).heap[w.heap.size]?=some (.cells cs 91 (0,0))∧(tkW w cs line last hv).heap[w.heap.size+1]?=some (.cells #[.int .i64 line] 3 (0,0))∧
  (tkW w cs line last hv).heap[w.heap.size+1+1]?=some (.cells #[.bool last] 4 (0,0))∧(tkW w cs line last hv).heap[w.heap.size+1+1+1]?=some (.cells #[hv] 102 (0,0))∧(tkW w cs line last hv).heap.size=w.heap.size+1+1+1+1:=by
 have s1:(w.alloc (.cells cs 91)).heap.size=w.heap.size+1:=by simp
 have s2:((w.alloc (.cells cs 91)).alloc (.cells #[.int .i64 line] 3)).heap.size=w.heap.size+1+1:=by simp
 have s3:(((w.alloc (.cells cs 91)).alloc (.cells #[.int .i64 line] 3)).alloc (.cells #[.bool last] 4)).heap.size=w.heap.size+1+1+1:=by simp
 refine⟨(zPt _ _ (by omega)).trans ((zPt _ _ (by omega)).trans ((zPt _ _ (by omega)).trans (zPs _ _))),(zPt _ _ (by omega)).trans ((zPt _ _ (by omega)).trans (by rw[←s1];exact zPs _ _)),
  (zPt _ _ (by omega)).trans (by rw[←s2];exact zPs _ _),by rw[←s3];exact zPs _ _,by simp[tkW]⟩
theorem TkS.new (hc:zPB cs ka na oa la ca kb nb ob lb cb nt) (w:World) (line:Int) (last:Bool) (hv:Value):TkS (tkW w cs line last hv) w.heap.size ka na oa la ca kb nb ob lb cb nt line last:=by
 obtain⟨h0,h1,h2,h3,h4⟩:=zM3 w cs line last hv
 have hl: ∀j,(tkW w cs line last hv).cell? ⟨w.heap.size,j,none⟩=cs[j]?:=fun j=>zPu _ _ j _ _ (0,0) h0
 exact⟨by omega,(hl 0).trans hc.a0,(hl 1).trans hc.a1,(hl 2).trans hc.a2,(hl 3).trans hc.b0,(hl 4).trans hc.b1,(hl 5).trans hc.b2,(hl 6).trans hc.n,cell_of_one h1,cell_of_one h2⟩
theorem zEJ (hc:zPB cs ka na oa la ca kb nb ob lb cb nt) (hg:GtS w gb bb n op) {i:Nat} (hi:i<n) (ha: ¬ka=3) (hb: ¬kb=3) (line:Int) (last:Bool) {f:FuncId} :
  Calls Tryz.prog 35 #[.pointer (some ⟨gb,0,none⟩),.int .i64 (i:Nat),.agg cs,.int .i64 line,.bool last,.func (.func f) #[] #[]] w fun e w'=>
   e= .returned (.tuple #[.bool (zDo ka na kb nb nt line last (op i) false).1,.bool (zDo ka na kb nb nt line last (op i) false).2.1])∧
    GtS w' gb bb n (fun j=>if j=i then(zDo ka na kb nb nt line last (op i) false).2.2 else op j)∧zBi w.heap.size bb w w':=by
 have hmf: ∀(fn:Fn) (first cap:Array Value) (w:World),(Instr.makeFunc fn first cap).run Tryz.prog w= .ok (.func fn first cap) w:=fun _ _ _ _=>rfl
 have HK:=zPf (TkS.new hc w line last (.func (.func f) #[] #[]))
 have HG:=zPf (hg.below (zIR w cs line last (.func (.func f) #[] #[])))
 have HB:=zPf (zBi.of_below (wb:=bb) (zIR w cs line last (.func (.func f) #[] #[])) (zPh _))
 have hbl:=hg.ltb
 have hgl:=hg.lt
 have hin:(i:Int)<(n:Int):=by omega
 have hnl:=hg.nl
 have hnge: ¬(n:Int)≤(i:Int):=by omega
 obtain⟨r,hr⟩: ∃r,zDo ka na kb nb nt line last (op i) false=r:=⟨_,rfl⟩
 rw[hr]
 have HR:=zPf hr
 have HI:=zPf hi
 have HC:=zPf hc
 clear hc hg hr hi
 go_enter Tryz.func35,Tryz.ntmps35
 go_upto_region 1 with fail
 have hW:(((w.alloc (.cells cs 91)).alloc (.cells #[.int .i64 line] 3)).alloc (.cells #[.bool last] 4)).alloc (.cells #[.func (.func f) #[] #[]] 102)=tkW w cs line last (.func (.func f) #[] #[]):=rfl
 rw[hW]
 clear hW
 obtain⟨W,hW⟩: ∃W,tkW w cs line last (.func (.func f) #[] #[])=W:=⟨_,rfl⟩
 rw[hW]at HK HG HB ⊢
 clear hW
 obtain⟨c,hcz⟩: ∃c,w.heap.size=c:=⟨_,rfl⟩
 rw[hcz]at HK HB hbl hgl ⊢
 have HCZ:=zPf hcz
 clear hcz
 have g0:=HG.out.c0
 have g1:=HG.out.op i HI.out
 have g2:=HG.out.fz
 have gl:=HG.out.lt
 have gbl:=HG.out.ltb
 have a0:=HK.out.a0
 have a1:=HK.out.a1
 have a2:=HK.out.a2
 have b0:=HK.out.b0
 have b1:=HK.out.b1
 have b2:=HK.out.b2
 have kn:=HK.out.n
 have kl:=HK.out.lt
 by_cases ha0:ka=0
 ·subst ha0
  have HE:Hid (r=(true !=nt,false,op i)):=zPf (by rw[←HR.out];rfl)
  go_wp2_with fail
  go_ret2
  rw[HE.out]
  exact⟨by cases nt<;>rfl,HG.out.same i,HCZ.out▸HB.out⟩
 have qa0:(ka==0)=false:=zPl.2 ha0
 have HA0:=zPf ha0
 clear ha0
 have HSA:=zPf (zFT (hb:=c+1+1+1) ka na oa la ca ha HK.out.l HK.out.t)
 obtain⟨sa,hsa⟩: ∃sa,zMr ka na line last false=sa:=⟨_,rfl⟩
 rw[hsa]at HSA
 have HSE:=zPf hsa
 clear hsa
 by_cases hb0:kb=0
 ·subst hb0
  have HE:Hid (r=(sa !=nt,false,op i)):=zPf (by rw[←HR.out,←HSE.out];unfold zDo;rw[if_neg HA0.out,if_pos rfl])
  go_wp2_with fail
  refine HSA.out.mono ?_;rintro e w1 ⟨rfl,hb1⟩
  have HK1:=zPf (HK.out.below hb1)
  have HG1:=zPf (HG.out.below hb1)
  have HB1:=zPf (HB.out.below hb1 (by omega))
  have kn1:=HK1.out.n
  clear hb1
  go_wp2_with fail
  go_ret2
  rw[HE.out]
  exact⟨by cases nt<;>cases sa<;>rfl,HG1.out.same i,HCZ.out▸HB1.out⟩
 have qb0:(kb==0)=false:=zPl.2 hb0
 have HB0:=zPf hb0
 clear hb0
 obtain⟨oi,hoi⟩: ∃oi,op i=oi:=⟨_,rfl⟩
 rw[hoi]at g1 HR
 have HOI:=zPf hoi
 clear hoi
 cases oi with
 |true=>
  have HPB:=zPf (zIi kb nb ob lb cb HK.out.l)
  obtain⟨pb,hpb⟩: ∃pb,(kb==1&&decide (nb≤line))=pb:=⟨_,rfl⟩
  rw[hpb]at HPB
  have HPE:=zPf hpb
  clear hpb
  have HE0:Hid (r=(true !=nt,(if kb=1 then decide (nb≤line)else zMr kb nb line last false),!(if kb=1 then decide (nb≤line)else zMr kb nb line last false))):=zPf (by rw[←HR.out];unfold zDo;rw[if_neg HA0.out,if_neg HB0.out,if_pos rfl])
  cases pb with
  |true=>
   have hp:=HPE.out
   simp only[Bool.and_eq_true,beq_iff_eq,decide_eq_true_eq]at hp
   have HE:Hid (r=(true !=nt,true,false)):=zPf (by rw[HE0.out,if_pos hp.1,zPq hp.2];rfl)
   clear hp
   go_wp2_with fail
   refine HPB.out.mono ?_;rintro e w1 ⟨rfl,hb1⟩
   have HKz:=zPf (HK.out.below hb1)
   have HGz:=zPf (HG.out.below hb1)
   have HBz:=zPf (HB.out.below hb1 (by have:=HK.out.lt;omega))
   have knz:=HKz.out.n
   have b0z:=HKz.out.b0
   have b1z:=HKz.out.b1
   have klz:=HKz.out.lt
   have g0z:=HGz.out.c0
   have g1z:=HGz.out.op i HI.out
   have g2z:=HGz.out.fz
   clear hb1
   go_wp2_with fail
   go_ret2
   rw[HE.out]
   exact⟨by cases nt<;>rfl,HGz.out.set HI.out _,HCZ.out▸HBz.out.store (.inl rfl) _ _⟩
  |false=>
   by_cases hb1':kb=1
   ·have hp:=HPE.out
    rw[hb1']at hp
    have HE:Hid (r=(true !=nt,false,true)):=zPf (by
     rw[HE0.out,if_pos hb1']
     have hp2:decide (nb≤line)=false:=hp
     rw[hp2];rfl)
    clear hp
    subst hb1'
    go_wp2_with fail
    refine HPB.out.mono ?_;rintro e w1 ⟨rfl,hb1⟩
    have HKz:=zPf (HK.out.below hb1)
    have HGz:=zPf (HG.out.below hb1)
    have HBz:=zPf (HB.out.below hb1 (by have:=HK.out.lt;omega))
    have knz:=HKz.out.n
    have b0z:=HKz.out.b0
    have b1z:=HKz.out.b1
    have klz:=HKz.out.lt
    have g0z:=HGz.out.c0
    have g1z:=HGz.out.op i HI.out
    have g2z:=HGz.out.fz
    clear hb1
    go_wp2_with fail
    go_ret2
    rw[HE.out]
    exact⟨by cases nt<;>rfl,HGz.out.set HI.out _,HCZ.out▸HBz.out.store (.inl rfl) _ _⟩
   ·have qb1:(kb==1)=false:=zPl.2 hb1'
    have qn1:(kb !=1)=true:=bne_iff_ne.2 hb1'
    have HB1':=zPf hb1'
    clear hb1'
    go_wp2_with fail
    refine HPB.out.mono ?_;rintro e w1 ⟨rfl,hb1⟩
    have HSB:=zPf (zFT (hb:=c+1+1+1) kb nb ob lb cb hb (HK.out.below hb1).l (HK.out.below hb1).t)
    obtain⟨sb,hsb⟩: ∃sb,zMr kb nb line last false=sb:=⟨_,rfl⟩
    rw[hsb]at HSB
    have HE:Hid (r=(true !=nt,sb,!sb)):=zPf (by rw[HE0.out,if_neg HB1'.out,hsb])
    have HK0:=zPf (HK.out.below hb1)
    have HG0:=zPf (HG.out.below hb1)
    have HB0':=zPf (HB.out.below hb1 (by omega))
    have b0':=HK0.out.b0
    have b1':=HK0.out.b1
    have b2':=HK0.out.b2
    have kl0:=HK0.out.lt
    clear hb1 hsb
    go_wp2_with fail
    refine HSB.out.mono ?_;rintro e w2 ⟨rfl,hb2⟩
    have HKz:=zPf (HK0.out.below hb2)
    have HGz:=zPf (HG0.out.below hb2)
    have HBz:=zPf (HB0'.out.below hb2 (by have:=HK0.out.lt;omega))
    have knz:=HKz.out.n
    have b0z:=HKz.out.b0
    have b1z:=HKz.out.b1
    have klz:=HKz.out.lt
    have g0z:=HGz.out.c0
    have g1z:=HGz.out.op i HI.out
    have g2z:=HGz.out.fz
    clear hb2
    go_wp2_with fail
    go_ret2
    rw[HE.out]
    exact⟨by cases nt<;>rfl,HGz.out.set HI.out _,HCZ.out▸HBz.out.store (.inl rfl) _ _⟩
 |false=>
  cases sa with
  |false=>
   have HE:Hid (r=(false !=nt,false,false)):=zPf (by rw[←HR.out];unfold zDo;rw[if_neg HA0.out,if_neg HB0.out,if_neg (by decide),HSE.out];rfl)
   go_wp2_with fail
   refine HSA.out.mono ?_;rintro e w1 ⟨rfl,hb1⟩
   have HK1:=zPf (HK.out.below hb1)
   have HG1:=zPf (HG.out.below hb1)
   have HB1:=zPf (HB.out.below hb1 (by omega))
   have kn1:=HK1.out.n
   clear hb1
   go_wp2_with fail
   go_ret2
   rw[HE.out]
   exact⟨by cases nt<;>rfl,by have h:=HG1.out.same i;rwa[HOI.out]at h,HCZ.out▸HB1.out⟩
  |true=>
   have HE0:Hid (r=(true !=nt,(kb==1&&decide (nb≤line)||kb==2&&last),!(kb==1&&decide (nb≤line)||kb==2&&last))):=zPf (by rw[←HR.out];unfold zDo;rw[if_neg HA0.out,if_neg HB0.out,if_neg (by decide),HSE.out,if_pos rfl])
   go_wp2_with fail
   refine HSA.out.mono ?_;rintro e w1 ⟨rfl,hb1⟩
   have HK1:=zPf (HK.out.below hb1)
   have HG1:=zPf (HG.out.below hb1)
   have HB1:=zPf (HB.out.below hb1 (by omega))
   have b0':=HK1.out.b0
   have b1':=HK1.out.b1
   have b2':=HK1.out.b2
   have kl1:=HK1.out.lt
   have HPB:=zPf (zIi kb nb ob lb cb HK1.out.l)
   obtain⟨pb,hpb⟩: ∃pb,(kb==1&&decide (nb≤line))=pb:=⟨_,rfl⟩
   rw[hpb]at HPB HE0
   have HPE:=zPf hpb
   clear hpb hb1
   cases pb with
   |true=>
    have HE:Hid (r=(true !=nt,true,false)):=zPf HE0.out
    go_wp2_with fail
    refine HPB.out.mono ?_;rintro e w2 ⟨rfl,hb2⟩
    have HKz:=zPf (HK1.out.below hb2)
    have HGz:=zPf (HG1.out.below hb2)
    have HBz:=zPf (HB1.out.below hb2 (by have:=HK1.out.lt;omega))
    have knz:=HKz.out.n
    have b0z:=HKz.out.b0
    have b1z:=HKz.out.b1
    have klz:=HKz.out.lt
    have g0z:=HGz.out.c0
    have g1z:=HGz.out.op i HI.out
    have g2z:=HGz.out.fz
    clear hb2
    go_wp2_with fail
    go_ret2
    rw[HE.out]
    exact⟨by cases nt<;>rfl,HGz.out.set HI.out _,HCZ.out▸HBz.out.store (.inl rfl) _ _⟩
   |false=>
    by_cases hk2:kb=2
    ·have HE:Hid (r=(true !=nt,last,!last)):=zPf (by rw[HE0.out,hk2];rfl)
     subst hk2
     go_wp2_with fail
     refine HPB.out.mono ?_;rintro e w2 ⟨rfl,hb2⟩
     have kt2:=(HK1.out.below hb2).t
     have b0'':=(HK1.out.below hb2).b0
     have HKz:=zPf (HK1.out.below hb2)
     have HGz:=zPf (HG1.out.below hb2)
     have HBz:=zPf (HB1.out.below hb2 (by have:=HK1.out.lt;omega))
     have knz:=HKz.out.n
     have b0z:=HKz.out.b0
     have b1z:=HKz.out.b1
     have klz:=HKz.out.lt
     have g0z:=HGz.out.c0
     have g1z:=HGz.out.op i HI.out
     have g2z:=HGz.out.fz
     clear hb2
     go_wp2_with fail
     go_ret2
     rw[HE.out]
     exact⟨by cases nt<;>rfl,HGz.out.set HI.out _,HCZ.out▸HBz.out.store (.inl rfl) _ _⟩
    ·have qk2:(kb==2)=false:=zPl.2 hk2
     have HE:Hid (r=(true !=nt,false,true)):=zPf (by rw[HE0.out,qk2];rfl)
     clear hk2
     go_wp2_with fail
     refine HPB.out.mono ?_;rintro e w2 ⟨rfl,hb2⟩
     have b0'':=(HK1.out.below hb2).b0
     have HKz:=zPf (HK1.out.below hb2)
     have HGz:=zPf (HG1.out.below hb2)
     have HBz:=zPf (HB1.out.below hb2 (by have:=HK1.out.lt;omega))
     have knz:=HKz.out.n
     have b0z:=HKz.out.b0
     have b1z:=HKz.out.b1
     have klz:=HKz.out.lt
     have g0z:=HGz.out.c0
     have g1z:=HGz.out.op i HI.out
     have g2z:=HGz.out.fz
     clear hb2
     go_wp2_with fail
     go_ret2
     rw[HE.out]
     exact⟨by cases nt<;>rfl,HGz.out.set HI.out _,HCZ.out▸HBz.out.store (.inl rfl) _ _⟩
end
end
section
open Go.RowKit
theorem zLD (n j:Nat) (h:j<n):(madeCells #[Value.bool false] n).toList[j]?=some (.bool false):=by
 simp only[madeCells,Array.toList_map,Array.toList_range,List.getElem?_map]
 rw[List.getElem?_range (by omega)]
 simp only[Option.map_some]
 rw[show(#[Value.bool false]:Array Value).size=1 from rfl,Nat.mod_one]
 rfl
theorem GtS.new {w w1:World} {n:Nat} (hn:n≤4096) (h:w1.ownsRow w.heap.size 4 1 (.slice (some ⟨w.heap.size,0,none⟩) n n) n (madeCells #[.bool false] n).toList):
  GtS (w1.alloc (.cells #[.slice (some ⟨w.heap.size,0,none⟩) n n] 138)) w1.heap.size w.heap.size n (fun _=>false):=by
 have hB:(w1.alloc (.cells #[.slice (some ⟨w.heap.size,0,none⟩) n n] 138)).heap[w1.heap.size]?=some (.cells #[.slice (some ⟨w.heap.size,0,none⟩) n n] 138 (0,0)):=zPs w1 _
 have hlt:w.heap.size<w1.heap.size:=(World.ownsRow.lt h _ rfl).2
 have hold:(w1.alloc (.cells #[.slice (some ⟨w.heap.size,0,none⟩) n n] 138)).heap[w.heap.size]?=w1.heap[w.heap.size]?:=zPt _ _ hlt
 exact⟨by simp,by simp;omega,by omega,(zPu _ _ 0 _ _ (0,0) hB).trans rfl,fun i hi=>(zPj (w:=w1) (a:=⟨w.heap.size,i,none⟩) hold).trans ((zP4 h i (by omega)).trans (zLD n i hi)),
  fun o=>(zPk (w:=w1) (a:=⟨w.heap.size,o,none⟩) hold).trans (zP5 h o),hn⟩
theorem zMR {w:World} {n:Nat} (hn:n≤4096):
  Calls Tryz.prog 32 #[.int .i64 (n:Nat)] w fun e w'=> ∃gb bb,e= .returned (.tuple #[.pointer (some ⟨gb,0,none⟩),.int .i64 0])∧w.heap.size≤gb∧w.heap.size≤bb∧GtS w' gb bb n (fun _=>false)∧Below w.heap.size w w':=by
 obtain⟨i0,hi,hz0,hz1,hz2⟩:=info_parts (zO8).hi
 have h1: ¬(n:Int)<0:=by omega
 have h2: ¬(4096:Int)<(n:Int):=by omega
 go_enter Tryz.func32,Tryz.ntmps32
 go_wp2_with (at_make;refine wpList_make_full _ rfl _ _ 92 rfl w.heap.size 4 i0 _ 1 Tryz.underlying92 hi hz0 hz1 .i64 .i64 (n:Int) (n:Int) n rfl rfl (by omega) (by omega) (by rw[hz2];omega) (by unfold maxLen;omega) (Nat.le_refl _) ?_)
 intro w1 hown hgr
 have HG:=zPf (GtS.new hn hown)
 have HB:=zPf ((zPg w.heap.size w).grown hgr (zPh _) (fun k hk=>by cases hk))
 have hs:=HB.out.size
 clear hown hgr hi hz0 hz1 hz2
 go_wp2_with fail
 go_ret2
 exact⟨_,_,rfl,hs,zPh _,HG.out,HB.out.alloc hs _⟩
end
end Go.Proofs.YtfjbnpdffillbaaGreatDoor
