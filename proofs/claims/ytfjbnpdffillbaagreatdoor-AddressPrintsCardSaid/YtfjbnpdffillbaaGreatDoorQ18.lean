/- Parts: Te Tf Tga Ud. -/
import Derived.Test.YtfjbnpdffillbaaGreatDoorQ11
import Derived.Test.YtfjbnpdffillbaaGreatDoorQ17
namespace Go.Proofs.YtfjbnpdffillbaaGreatDoor
open Go.RowKit
theorem kidsN_each {P:Nat→Prop} {g:Nat→List Bool→Option (Nat × List Bool)} (hg: ∀i en r,g i en=some r→i<r.1∧ ∀p,i≤p→p<r.1→P p):
  ∀(k i:Nat) (en:List Bool) (r:Nat × List Bool),kidsN g k i en=some r→i≤r.1∧ ∀p,i≤p→p<r.1→P p
 |0,i,en,r,h=>by simp only[kidsN,Option.some.injEq]at h;subst h;exact⟨Nat.le_refl _,fun p h1 h2=>by simp only at h2;omega⟩
 |k+1,i,en,r,h=>by
  unfold kidsN at h
  split at h
  ·cases h
  ·rename_i j en1 h1
   have h2:=hg _ _ _ h1
   simp only at h2
   have h3:=kidsN_each hg k _ _ _ h
   refine⟨by omega,fun p hp1 hp2=>?_⟩
   by_cases hj:p<j
   ·exact h2.2 p hp1 hj
   ·exact h3.2 p (by omega) hp2
theorem nodeN_each (re:List Nd): ∀(f g i:Nat) (en:List Bool) (r:Nat × List Bool),nodeN re f g i en=some r→i<r.1∧ ∀p,i≤p→p<r.1→ ∃q,weighN re f p=some q
 |0,_,_,_,_,h=>by simp[nodeN]at h
 |f+1,g,i,en,r,h=>by
  obtain⟨rj,ren⟩:=r
  obtain⟨wi,hwi⟩:=weighN_of_nodeN re _ _ _ _ _ _ h
  have fin: ∀(g' k:Nat) (en1:List Bool) (r1:Nat × List Bool),kidsN (nodeN re f g') k (i+1) en1=some r1→i<r1.1∧ ∀p,i≤p→p<r1.1→ ∃q,weighN re (f+1) p=some q:=fun g' k en1 r1 hk=>by
   have h1:=kidsN_each (fun i en r=>nodeN_each re f g' i en r) _ _ _ _ hk
   refine⟨by have:=h1.1;omega,fun p hp1 hp2=>?_⟩
   by_cases he:p=i
   ·exact⟨_,he▸hwi⟩
   ·obtain⟨q,hq⟩:=h1.2 p (by omega) hp2
    exact⟨q,weighN_succ _ _ _ _ hq⟩
  unfold nodeN at h
  split at h
  ·cases h
  ·split at h
   ·cases h
   ·split at h
    ·cases h
    ·split at h
     ·split at h
      ·cases h
      ·split at h
       ·cases h
       ·rename_i hk
        cases h
        have:=fin _ _ _ _ hk
        exact this
     ·exact fin _ _ _ _ h
theorem shapedN_spec {re:List Nd} (h:shapedN re=true):RepOk re∧ ∀p,p<re.length→ ∃q,weighN re 260 p=some q:=by
 unfold shapedN at h
 split at h
 ·cases h
 ·rename_i j en hn
  simp only[Bool.and_eq_true,decide_eq_true_eq]at h
  obtain⟨rfl,_⟩:=h
  exact⟨(shaped_ok fun p hp=>(nodeN_good re _ _ _ _ _ hn).2.2 p (Nat.zero_le _) hp).1,fun p hp=>(nodeN_each re _ _ _ _ _ hn).2 p (Nat.zero_le _) hp⟩
structure NdV (w:World) (oa:Option Addr) (re:List Nd):Prop where
 len:re.length≤4294967296
 at_:0<re.length→ ∃nb no,oa=some ⟨nb,no,none⟩∧NdAt w nb no re
theorem NdV.below {w w':World} {oa:Option Addr} {re:List Nd} (h:NdV w oa re) (hb:Below w.heap.size w w'):NdV w' oa re:=
 ⟨h.len,fun hp=>by obtain⟨nb,no,h1,h2⟩:=h.at_ hp;exact⟨nb,no,h1,h2.below hb⟩⟩
theorem RBut.toBelow {xb:Nat} {w0 w w':World} (hb:Below w0.heap.size w0 w) (hx:w0.heap.size≤xb) (h:RBut xb Option.none w w'):Below w0.heap.size w0 w' where
 os:=h.os.trans hb.os
 tape:=h.tape.trans hb.tape
 output:=h.output.trans hb.output
 size:=Nat.le_trans hb.size h.size
 block:=fun k hk=>(h.block k (Nat.lt_of_lt_of_le hk hb.size) (by omega) (by simp)).trans (hb.block k hk)
set_option maxRecDepth 100000 in
set_option maxHeartbeats 1600000 in
theorem node_empty {w:World} {xb cap:Nat} {oa:Option Addr} (xl:xb<w.heap.size) (c0:w.cell? ⟨xb,0,none⟩=some (.slice oa 0 cap)) (c1:w.cell? ⟨xb,1,none⟩=some (.int .i64 0)):
  Calls Tryz.prog 144 #[.pointer (some ⟨xb,0,none⟩),.int .i64 0,.int .i64 0] w fun e w'=>e= .returned (.bool false)∧Below w.heap.size w w':=by
 go_enter Tryz.func144,Tryz.ntmps144
 go_wp2_with fail
 refine wp_region_segs (X:=none) 28 [([0,1,2,3,4,5,6,7,8,9,10,11,12,13,14,15,16,17,18,19,20,21,22,23,24],25)] [26,27] (by kernel_rfl) (by kernel_rfl) rfl (fun _ _ _ _ _ h=>h) ?_
 simp only[wpSegs,pickSegs_nil,pickSegs_cons,pickOps_nil,pickOps_cons,List.getD_cons_zero,List.getD_cons_succ,List.drop_succ_cons,List.drop_nil]
 repeat (go_big_quiet_step (fail))
 refine wpQuiet_nil ?_
 go_wp2_with fail
 refine⟨Keeps.refl _,?_⟩
 repeat (go_big_quiet_step (fail))
 refine wpQuiet_nil ?_
 go_wp2_with fail
 go_ret
 exact⟨rfl,(Below.refl _ _).drew⟩
theorem look_cells (w:World) (oa:Option Addr) (n cap:Nat) (j:Nat):(w.alloc (.cells #[.slice oa n cap,.int .i64 0,.slice none 0 0] 213)).cell? ⟨w.heap.size,j,none⟩=(#[.slice oa n cap,.int .i64 0,.slice none 0 0]:Array Value)[j]?:=
 cell_of_row _ _ j _ _ (0,0) (heap_alloc_new w _)
theorem look_new {w:World} {nb no cap:Nat} {re:List Nd} (hn:NdAt w nb no re):LkS (w.alloc (.cells #[.slice (some ⟨nb,no,none⟩) re.length cap,.int .i64 0,.slice none 0 0] 213)) w.heap.size (some ⟨nb,no,none⟩) nb no cap re 0 [] (.slice none 0 0) where
 lt:=by simp
 c0:=look_cells _ _ _ _ 0
 c1:=look_cells _ _ _ _ 1
 c2:=look_cells _ _ _ _ 2
 fz:=frozen_cls (heap_alloc_new w _)
 own:=World.ownsRow_nil _ _ _ _
 nd:=fun _=>⟨rfl,hn.below ((Below.refl _ _).alloc (Nat.le_refl _) _)⟩
 nlt:=hn.lt
 len:=hn.len
 at_:=Nat.zero_le _
 el:=by simp
set_option maxRecDepth 100000 in
set_option maxHeartbeats 1600000 in
theorem shaped_empty {oa:Option Addr} {cap:Nat} {w:World} :
  Calls Tryz.prog 111 #[.slice oa 0 cap] w fun e w'=>e= .returned (.bool false)∧Below w.heap.size w w':=by
 have hb0:=(Below.refl w.heap.size w).alloc (Nat.le_refl _) (.cells #[.slice oa 0 cap,.int .i64 0,.slice none 0 0] 213)
 go_enter Tryz.func111,Tryz.ntmps111
 go_wp2_with fail
 refine(node_empty (oa:=oa) (cap:=cap) (by simp) (look_cells w oa 0 cap 0) (look_cells w oa 0 cap 1)).mono ?_;rintro e w1 ⟨rfl,hb1⟩
 have hb:=hb0.trans (hb1.mono hb0.size)
 clear hb1 hb0
 go_wp2_with fail
 go_ret
 exact⟨rfl,hb⟩
set_option maxRecDepth 100000 in
set_option maxHeartbeats 1600000 in
theorem shaped_some {re:List Nd} {nb no cap:Nat} {w:World} (_:0<re.length) (hn:NdAt w nb no re):
  Calls Tryz.prog 111 #[.slice (some ⟨nb,no,none⟩) re.length cap] w fun e w'=>e= .returned (.bool (shapedN re))∧Below w.heap.size w w':=by
 have hb0:=(Below.refl w.heap.size w).alloc (Nat.le_refl _) (.cells #[.slice (some ⟨nb,no,none⟩) re.length cap,.int .i64 0,.slice none 0 0] 213)
 have HN:=Lib.hid hn
 have nbl:=hn.lt
 have hlen:=hn.len
 have hv:=Lib.hid (look_new (cap:=cap) hn)
 clear hn
 go_enter Tryz.func111,Tryz.ntmps111
 go_wp2_with fail
 refine(node_any 260 0 0 [] _ _ 0 0 (by omega) rfl rfl (by omega) hv.out).mono ?_;rintro e w1 ⟨hb1,hr⟩
 have HB:=Lib.hid (hb1.toBelow hb0 (Nat.le_refl _))
 clear hb1 hb0 hv
 have HD:=Lib.hid (HN.out.below HB.out)
 cases hq:nodeN re 260 0 0 []with
 |none=>
  have HS:Hid (shapedN re=false):=by rw[Hid,shapedN,hq]
  rw[hq]at hr
  subst hr
  go_wp2_with fail
  go_ret
  exact⟨by rw[HS.out];rfl,HB.out⟩
 |some q=>
  obtain⟨j,en⟩:=q
  rw[hq]at hr
  obtain⟨ev,rfl,hl,_⟩:=hr
  have c1:=hl.c1
  have xl:=hl.lt
  have hj:=hl.at_
  clear hl
  by_cases hjl:j=re.length
  ·obtain⟨W,hw⟩:=weighN_of_nodeN re _ _ _ _ _ _ hq
   have HS:Hid (shapedN re=decide (W≤16384)):=by rw[Hid,shapedN,hq,hw];simp[hjl]
   have hok:RepOk re:=(shaped_ok fun p hp=>(nodeN_good re _ _ _ _ _ hq).2.2 p (Nat.zero_le _) (by omega)).1
   have HW:=Lib.hid (weigh_any (cap:=cap) hok 260 0 (W,j) w1 0 rfl HD.out hw)
   subst hjl
   clear hq hw
   go_wp2_with fail
   refine HW.out.mono ?_;rintro e w2 ⟨rfl,hb2⟩
   have HB2:=Lib.hid (HB.out.trans (hb2.mono HB.out.size))
   clear hb2 HW
   go_wp2_with fail
   go_ret
   exact⟨by rw[HS.out];rfl,HB2.out⟩
  ·have HS:Hid (shapedN re=false):=by rw[Hid,shapedN,hq];simp[hjl]
   have hjl':((j:Int) !=(re.length:Int))=true:=by simp;omega
   go_wp2_with fail
   go_ret
   exact⟨by rw[HS.out];rfl,HB.out⟩
theorem shaped_call {re:List Nd} {oa:Option Addr} {cap:Nat} {w:World} (h:NdV w oa re):
  Calls Tryz.prog 111 #[.slice oa re.length cap] w fun e w'=>e= .returned (.bool (shapedN re))∧Below w.heap.size w w':=by
 by_cases hp:0<re.length
 ·obtain⟨nb,no,rfl,hn⟩:=h.at_ hp
  exact shaped_some hp hn
 ·have hre:re=[]:=List.eq_nil_of_length_eq_zero (by omega)
  subst hre
  exact shaped_empty
end Go.Proofs.YtfjbnpdffillbaaGreatDoor
namespace Go.Proofs.YtfjbnpdffillbaaGreatDoor
open Go.RowKit
def mksC (L:List Mk):List Value:=L.flatMap fun m=>[.int .u8 (m.b:Nat),.bool m.p]
theorem mksC_length: ∀L:List Mk,(mksC L).length=L.length*2
 |[]=>rfl
 |x::l=>by
  have h:=mksC_length l
  simp only[mksC,List.flatMap_cons,List.length_append,List.length_cons,List.length_nil]at h ⊢
  omega
theorem mksC_append (a b:List Mk):mksC (a++b)=mksC a++mksC b:=by simp[mksC]
theorem mksC_one (L:List Mk): ∀u∈mksC L,u.oneCell'=true:=by
 intro u hu
 simp only[mksC,List.mem_flatMap,List.mem_cons,List.not_mem_nil,or_false]at hu
 obtain⟨x,_,rfl|rfl⟩:=hu<;>rfl
theorem mksC_at: ∀(L:List Mk) (i:Nat),i<L.length→(mksC L)[i*2]?=some (.int .u8 ((markAt L i).b:Nat))∧(mksC L)[i*2+1]?=some (.bool (markAt L i).p)
 |[],i,h=>by simp at h
 |x::l,0,_=>⟨rfl,rfl⟩
 |x::l,i+1,h=>by
  have h1:=mksC_at l i (by simpa using h)
  have h2:mksC (x::l)= .int .u8 (x.b:Nat):: .bool x.p::mksC l:=rfl
  rw[h2,show(i+1)*2=i*2+1+1 by omega]
  simpa [markAt]using h1
theorem elMk:ElT Tryz.prog 120 131 2 2 (.agg #[.int .u8 0,.bool false]):=⟨Tryz.underlying120,by kernel_rfl,rfl,by decide⟩
def Mks (w:World) (base:Nat) (v:Value) (L:List Mk):Prop:=w.ownsRow base 131 2 v L.length (mksC L)
theorem Mks.nil (w:World) (base:Nat):Mks w base (.slice none 0 0) []:=World.ownsRow_nil _ _ _ _
theorem Mks.lt {w:World} {base:Nat} {v:Value} {L:List Mk} (h:Mks w base v L): ∀g,v.ownBlock=some g→base≤g∧g<w.heap.size:=World.ownsRow.lt h
theorem Mks.block {w w':World} {base:Nat} {v:Value} {L:List Mk} (h:Mks w base v L) (hb: ∀g,v.ownBlock=some g→w'.heap[g]?=w.heap[g]?):Mks w' base v L:=ownsRow_of_block h hb
theorem Mks.below {w w':World} {base:Nat} {v:Value} {L:List Mk} (h:Mks w base v L) (hb:Below w.heap.size w w'):Mks w' base v L:=h.block fun g hg=>hb.block g (h.lt g hg).2
theorem wpList_mks {w:World} {ops:Array Oper} {rest:List Oper} {o:Oper} {a:Act} {Q:Exit→Act→World→Prop}
  (hgd:o.guard=none) (s x:Operand) (ho:o.op= .call { callee:= .builtin .append,args:= #[s,x],argTypes:= #[120,120] })
  (base:Nat) {v sv:Value} {xs ys:List Mk} (hs:a.eval s=v) (hown:Mks w base v xs) (hx:a.eval x=sv) (hsrc:Src w sv ys.length (mksC ys))
  (hb:xs.length+ys.length≤4294967296) (hbase:base≤w.heap.size)
  (h: ∀v' w',Mks w' base v' (xs++ys)→w.grownBy w' v.ownBlock→(v'.ownBlock=v.ownBlock∨v'.ownBlock=some w.heap.size)→wpList Tryz.prog ops Q rest (a.put o.dst v') w'):
  wpList Tryz.prog ops Q (o::rest) a w:=by
 refine wpList_app elMk hgd s x ho base hs hown hx hsrc (mksC_length ys) (mksC_one ys) (by unfold maxLen;omega) (by omega) hbase ?_
 intro v' w' h1 h2 h3
 refine h v' w' ?_ h2 h3
 rw[Mks,List.length_append,mksC_append]
 exact h1
theorem Mks.at {w:World} {base:Nat} {v:Value} {L:List Mk} (h:Mks w base v L) (hn:0<L.length) (hl:L.length≤4096) (hu: ∀i,i<L.length→(markAt L i).b<256):
  ∃g cp,v= .slice (some ⟨g,0,none⟩) L.length cp∧base≤g∧MkAt w g 0 L:=by
 rcases h.2 with ⟨_,h0⟩|⟨g,cp,cur,rfl,hg1,hg2,_⟩
 ·omega
 ·have hadd: ∀j,(⟨g,0,none⟩:Addr).add j=⟨g,j,none⟩:=fun j=>by unfold Addr.add;split<;>simp_all
  have hc: ∀j u,(mksC L)[j]?=some u→w.cell? ⟨g,j,none⟩=some u:=fun j u hu=>by
   rw[←hadd];exact World.ownsRow.cells h rfl j u hu
  refine⟨g,cp,rfl,hg1,⟨(Array.getElem?_eq_some_iff.1 hg2).1,hl,fun i hi=>?_,fun i hi=>?_,hu⟩⟩
  ·rw[Nat.zero_add];exact hc _ _ (mksC_at L i hi).1
  ·rw[Nat.zero_add];exact hc _ _ (mksC_at L i hi).2
theorem Mks.form {w:World} {base:Nat} {v:Value} {L:List Mk} (h:Mks w base v L): ∃o c,v= .slice o L.length c:=by
 rcases h.2 with ⟨h1,h2⟩|⟨g,cp,_,h1,_⟩
 ·exact⟨none,0,by rw[h1,h2]⟩
 ·exact⟨_,_,h1⟩
def textM (s:ByteArray):List Mk:=(bytesOf s).map fun b=>⟨b,false⟩
theorem textM_length (s:ByteArray):(textM s).length=s.size:=by simp[textM,bytesOf_length]
theorem textM_take (s:ByteArray) (d:Nat) (h:d<s.size):(textM s).take (d+1)=(textM s).take d++[⟨s[d].toNat,false⟩]:=by
 rw[List.take_add_one]
 congr 1
 have h1:=bytesOf_getD s d h
 have h2:d<(bytesOf s).length:=by rw[bytesOf_length];exact h
 rw[List.getD_eq_getElem?_getD,List.getElem?_eq_getElem h2,Option.getD_some]at h1
 rw[textM,List.getElem?_map,List.getElem?_eq_getElem h2,Option.map_some,h1]
 rfl
theorem neq_ndV (x y:Nd) (w:World):(binOp .neq 78 (ndV x) (ndV y)).run Tryz.prog w= .ok (.bool (!decide (x=y))) w:=by
 obtain⟨op,⟨x0,x1,x2,x3⟩,xn,xmin,xmax,xk⟩:=x
 obtain⟨oq,⟨y0,y1,y2,y3⟩,yn,ymin,ymax,yk⟩:=y
 rw[ndV,ndV,neq_nd]
 congr 3
 rw[Bool.eq_iff_iff]
 simp only[Bool.and_eq_true,decide_eq_true_eq,Nd.mk.injEq,Cls.mk.injEq,←BitVec.toNat_inj]
 constructor
 ·intro h
  refine⟨by omega,⟨by omega,by omega,by omega,by omega⟩,by omega,by omega,by omega,by omega⟩
 ·intro h;simp_all
end Go.Proofs.YtfjbnpdffillbaaGreatDoor
namespace Go.Proofs.YtfjbnpdffillbaaGreatDoor
open Go.RowKit
theorem Nds.toV {w:World} {base:Nat} {v:Value} {re:List Nd} (h:Nds w base v re) (hl:re.length≤4294967296) (hk: ∀x∈re,x.kids≤re.length): ∃oa cp,v= .slice oa re.length cp∧NdV w oa re:=by
 by_cases hn:0<re.length
 ·obtain⟨g,cp,rfl,_,hat⟩:=h.at hn hl hk
  exact⟨_,_,rfl,hl,fun _=>⟨g,0,rfl,hat⟩⟩
 ·rcases h.2 with ⟨rfl,h0⟩|⟨g,cp,cur,rfl,hg1,hg2,_⟩
  ·exact⟨none,0,by rw[h0],hl,fun h=>absurd h hn⟩
  ·exact⟨_,_,rfl,hl,fun h=>absurd h hn⟩
theorem markAt_mem {L:List Mk} {i:Nat} (h:i<L.length):markAt L i∈L:=by
 simp only[markAt,List.getD_eq_getElem?_getD,List.getElem?_eq_getElem h,Option.getD_some]
 exact List.getElem_mem h
end Go.Proofs.YtfjbnpdffillbaaGreatDoor
namespace Go.Proofs.YtfjbnpdffillbaaGreatDoor
open Go.RowKit
set_option maxRecDepth 100000 in
set_option maxHeartbeats 1600000 in
theorem rnode_empty {w:World} {xb cap:Nat} {oa:Option Addr} (xl:xb<w.heap.size) (c0:w.cell? ⟨xb,0,none⟩=some (.slice oa 0 cap)) (c1:w.cell? ⟨xb,1,none⟩=some (.int .i64 0)):
  Calls Tryz.prog 148 #[.pointer (some ⟨xb,0,none⟩),.int .i64 0,.int .i64 0] w fun e w'=>e= .returned (.bool false)∧Below w.heap.size w w':=by
 go_enter Tryz.func148,Tryz.ntmps148
 go_wp2_with fail
 refine wp_region_segs (X:=none) 14 [] [0,1,2,3,4,5,6,7,8,9,10,11,12,13] (by kernel_rfl) (by kernel_rfl) rfl (fun _ _ _ _ _ h=>h) ?_
 simp only[wpSegs,pickSegs_nil,pickOps_nil,pickOps_cons,List.getD_cons_zero,List.getD_cons_succ,List.drop_succ_cons,List.drop_nil]
 repeat (go_big_quiet_step (fail))
 refine wpQuiet_nil ?_
 go_wp2_with fail
 go_ret
 exact⟨rfl,(Below.refl _ _).drew⟩
theorem rlook_cells (w:World) (oa:Option Addr) (n cap:Nat) (j:Nat):(w.alloc (.cells #[.slice oa n cap,.int .i64 0,.slice none 0 0] 219)).cell? ⟨w.heap.size,j,none⟩=(#[.slice oa n cap,.int .i64 0,.slice none 0 0]:Array Value)[j]?:=
 cell_of_row _ _ j _ _ (0,0) (heap_alloc_new w _)
theorem rlook_new {w:World} {nb no cap:Nat} {re:List Nd} (hn:NdAt w nb no re):LkS (w.alloc (.cells #[.slice (some ⟨nb,no,none⟩) re.length cap,.int .i64 0,.slice none 0 0] 219)) w.heap.size (some ⟨nb,no,none⟩) nb no cap re 0 [] (.slice none 0 0) where
 lt:=by simp
 c0:=rlook_cells _ _ _ _ 0
 c1:=rlook_cells _ _ _ _ 1
 c2:=rlook_cells _ _ _ _ 2
 fz:=frozen_cls (heap_alloc_new w _)
 own:=World.ownsRow_nil _ _ _ _
 nd:=fun _=>⟨rfl,hn.below ((Below.refl _ _).alloc (Nat.le_refl _) _)⟩
 nlt:=hn.lt
 len:=hn.len
 at_:=Nat.zero_le _
 el:=by simp
set_option maxRecDepth 100000 in
set_option maxHeartbeats 1600000 in
theorem rshaped_empty {oa:Option Addr} {cap:Nat} {w:World} :
  Calls Tryz.prog 118 #[.slice oa 0 cap] w fun e w'=>e= .returned (.bool false)∧Below w.heap.size w w':=by
 have hb0:=(Below.refl w.heap.size w).alloc (Nat.le_refl _) (.cells #[.slice oa 0 cap,.int .i64 0,.slice none 0 0] 219)
 go_enter Tryz.func118,Tryz.ntmps118
 go_wp2_with fail
 refine(rnode_empty (oa:=oa) (cap:=cap) (by simp) (rlook_cells w oa 0 cap 0) (rlook_cells w oa 0 cap 1)).mono ?_;rintro e w1 ⟨rfl,hb1⟩
 have hb:=hb0.trans (hb1.mono hb0.size)
 clear hb1 hb0
 go_wp2_with fail
 go_ret
 exact⟨rfl,hb⟩
set_option maxRecDepth 100000 in
set_option maxHeartbeats 1600000 in
theorem rshaped_some {re:List Nd} {nb no cap:Nat} {w:World} (HOP:Hid (∀x∈re,-128≤x.op∧x.op≤127)) (_:0<re.length) (hn:NdAt w nb no re):
  Calls Tryz.prog 118 #[.slice (some ⟨nb,no,none⟩) re.length cap] w fun e w'=>e= .returned (.bool (shapedN re))∧Below w.heap.size w w':=by
 have hb0:=(Below.refl w.heap.size w).alloc (Nat.le_refl _) (.cells #[.slice (some ⟨nb,no,none⟩) re.length cap,.int .i64 0,.slice none 0 0] 219)
 have HN:=Lib.hid hn
 have nbl:=hn.lt
 have hlen:=hn.len
 have hv:=Lib.hid (rlook_new (cap:=cap) hn)
 clear hn
 go_enter Tryz.func118,Tryz.ntmps118
 go_wp2_with fail
 refine(rnode_any HOP 260 0 0 [] _ _ 0 0 (by omega) rfl rfl (by omega) hv.out).mono ?_;rintro e w1 ⟨hb1,hr⟩
 have HB:=Lib.hid (hb1.toBelow hb0 (Nat.le_refl _))
 clear hb1 hb0 hv
 have HD:=Lib.hid (HN.out.below HB.out)
 cases hq:nodeN re 260 0 0 []with
 |none=>
  have HS:Hid (shapedN re=false):=by rw[Hid,shapedN,hq]
  rw[hq]at hr
  subst hr
  go_wp2_with fail
  go_ret
  exact⟨by rw[HS.out];rfl,HB.out⟩
 |some q=>
  obtain⟨j,en⟩:=q
  rw[hq]at hr
  obtain⟨ev,rfl,hl,_⟩:=hr
  have c1:=hl.c1
  have xl:=hl.lt
  have hj:=hl.at_
  clear hl
  by_cases hjl:j=re.length
  ·obtain⟨W,hw⟩:=weighN_of_nodeN re _ _ _ _ _ _ hq
   have HS:Hid (shapedN re=decide (W≤16384)):=by rw[Hid,shapedN,hq,hw];simp[hjl]
   have hok:RepOk re:=(shaped_ok fun p hp=>(nodeN_good re _ _ _ _ _ hq).2.2 p (Nat.zero_le _) (by omega)).1
   have HW:=Lib.hid (rweigh_any (cap:=cap) hok HOP.out 260 0 (W,j) w1 0 rfl HD.out hw)
   subst hjl
   clear hq hw
   go_wp2_with fail
   refine HW.out.mono ?_;rintro e w2 ⟨rfl,hb2⟩
   have HB2:=Lib.hid (HB.out.trans (hb2.mono HB.out.size))
   clear hb2 HW
   go_wp2_with fail
   go_ret
   exact⟨by rw[HS.out];rfl,HB2.out⟩
  ·have HS:Hid (shapedN re=false):=by rw[Hid,shapedN,hq];simp[hjl]
   have hjl':((j:Int) !=(re.length:Int))=true:=by simp;omega
   go_wp2_with fail
   go_ret
   exact⟨by rw[HS.out];rfl,HB.out⟩
theorem rshaped_call {re:List Nd} {oa:Option Addr} {cap:Nat} {w:World} (HOP:Hid (∀x∈re,-128≤x.op∧x.op≤127)) (h:NdV w oa re):
  Calls Tryz.prog 118 #[.slice oa re.length cap] w fun e w'=>e= .returned (.bool (shapedN re))∧Below w.heap.size w w':=by
 by_cases hp:0<re.length
 ·obtain⟨nb,no,rfl,hn⟩:=h.at_ hp
  exact rshaped_some HOP hp hn
 ·have hre:re=[]:=List.eq_nil_of_length_eq_zero (by omega)
  subst hre
  exact rshaped_empty
end Go.Proofs.YtfjbnpdffillbaaGreatDoor
