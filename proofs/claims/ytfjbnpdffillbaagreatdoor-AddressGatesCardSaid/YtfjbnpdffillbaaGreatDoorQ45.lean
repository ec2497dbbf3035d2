/- Parts: Hb Hc Hd He Hf. -/
import Derived.Test.YtfjbnpdffillbaaGreatDoorQ38
import Derived.Test.YtfjbnpdffillbaaGreatDoorQ44
import Derived.Test.YtfjbnpdffillbaaGreatDoorQ46
namespace Go.Proofs.YtfjbnpdffillbaaGreatDoor
open Go.RowKit
theorem elBy:ElT Tryz.prog 22 5 1 1 (.int .u8 0):=⟨Tryz.underlying22,by kernel_rfl,rfl,by decide⟩
def BtM (w:World) (oa:Option Addr) (T:List Nat):Prop:=0<T.length→ ∃g o,oa=some ⟨g,o,none⟩∧g<w.heap.size∧ ∀i b,T[i]?=some b→w.cell? ⟨g,o+i,none⟩=some (.int .u8 (b:Nat))
theorem BtM.below {w w':World} {oa:Option Addr} {T:List Nat} (h:BtM w oa T) (hb:Below w.heap.size w w'):BtM w' oa T:=fun hp=>by
 obtain⟨g,o,h1,h2,h3⟩:=h hp
 exact⟨g,o,h1,Nat.lt_of_lt_of_le h2 hb.size,fun i b hi=>(hb.cell (p:=⟨g,o+i,none⟩) h2).trans (h3 i b hi)⟩
theorem BtM.of_src {w:World} {oa:Option Addr} {c n:Nat} {T:List Nat} (h:Src w (.slice oa n c) n (u8s T)):BtM w oa T:=by
 intro hp
 rcases h with ⟨_,_,h3⟩|⟨a,c',h1,h2⟩
 ·have:T=[]:=by simpa [u8s]using h3
  rw[this]at hp
  simp at hp
 ·injection h1 with h1
  subst h1
  obtain⟨g,o,s⟩:=a
  have hc: ∀i b,T[i]?=some b→w.cell? (Addr.add ⟨g,o,s⟩ i)=some (.int .u8 (b:Nat)):=fun i b hi=>h2 i _ (by simp[u8s,hi])
  have k0:=hc 0 _ (List.getElem?_eq_getElem hp)
  have hs:s=none:=by simpa [Addr.add]using World.cell?_spot k0
  subst hs
  have hc2: ∀i b,T[i]?=some b→w.cell? ⟨g,o+i,none⟩=some (.int .u8 (b:Nat)):=fun i b hi=>by rw[←Addr.add_mid];exact hc i b hi
  exact⟨g,o,rfl,World.block_lt_of_cell? w _ (hc2 0 _ (List.getElem?_eq_getElem hp)),hc2⟩
def spareB (i:Nat):Nat:=(279+7*i+3) % 256
def spareBs (n:Nat):List Nat:=(List.range 64).map fun k=>spareB (n+k)
theorem spareBs_length (n:Nat):(spareBs n).length=64:=by simp[spareBs]
theorem spareB_int (i:Nat):((spareB i:Nat):Int)=(279+7*(i:Int)+3) % 256:=by simp only[spareB];omega
theorem fullB_at {L:List Nat} {n:Nat} (hn:L.length=n) {d:Nat} (h1:n≤d) (h2:d<n+64):(L++spareBs n)[d]?=some (spareB d):=by
 rw[List.getElem?_append_right (by omega),spareBs,List.getElem?_map,List.getElem?_range (by omega),Option.map_some,hn,show n+(d - n)=d by omega]
def WideB (w:World) (base g n:Nat) (T:List Nat):Prop:=T.length=n∧w.ownsRow base 5 1 (.slice (some ⟨g,0,none⟩) (n+64) (n+64)) (n+64) (u8s (T++spareBs n))
section
variable {w w':World} {base g n:Nat} {T:List Nat}
theorem WideB.lt (h:WideB w base g n T):base≤g∧g<w.heap.size:=World.ownsRow.lt h.2 g rfl
theorem WideB.block (h:WideB w base g n T) (hb:w'.heap[g]?=w.heap[g]?):WideB w' base g n T:=⟨h.1,ownsRow_of_block h.2 fun k hk=>by cases hk;exact hb⟩
theorem WideB.below (h:WideB w base g n T) (hb:Below w.heap.size w w'):WideB w' base g n T:=h.block (hb.block g h.lt.2)
theorem WideB.at_ (h:WideB w base g n T) {d b:Nat} (hd:(T++spareBs n)[d]?=some b):w.cell? ⟨g,d,none⟩=some (.int .u8 (b:Nat)):=by
 have hl:=(List.getElem?_eq_some_iff.1 hd).1
 rw[List.length_append,spareBs_length,h.1]at hl
 rw[World.ownsRow.cellAt h.2 d (by omega)]
 simp only[u8s,List.getElem?_map,hd,Option.map_some]
theorem WideB.btM (h:WideB w base g n T):BtM w (some ⟨g,0,none⟩) T:=fun _=>⟨g,0,rfl,h.lt.2,fun i b hi=>by
 rw[Nat.zero_add]
 exact h.at_ (by rw[List.getElem?_append_left (List.getElem?_eq_some_iff.1 hi).1,hi])⟩
theorem u8s_take_succ {l:List Nat} {d b:Nat} (hm:l[d]?=some b):(u8s l).take (d+1)=(u8s l).take d++[.int .u8 (b:Nat)]:=by
 rw[List.take_add_one]
 simp only[u8s,List.getElem?_map,hm,Option.map_some,Option.toList_some]
set_option maxRecDepth 100000 in
set_option maxHeartbeats 1600000 in
theorem wideBytesU {oa:Option Addr} {cap:Nat} (hv:BtM w oa T) (hl:T.length≤140737488355328):
  Calls Tryz.prog 88 #[.slice oa T.length cap] w fun e w'=>(∃g,e= .returned (.slice (some ⟨g,0,none⟩) T.length (T.length+64))∧WideB w' w.heap.size g T.length T)∧Below w.heap.size w w':=by
 have HV:=Lib.hid hv
 have HL:=Lib.hid hl
 have hl1:(T.length:Int)≤140737488355328:=by omega
 have HF:=Lib.hid (show(T++spareBs T.length).length=T.length+64 by rw[List.length_append,spareBs_length])
 clear hv hl
 obtain⟨i0,hi,hz0,hz1,hz2⟩:=info_parts (elBy).hi
 go_enter Tryz.func88,Tryz.ntmps88
 go_wp2_with (at_make;refine wpList_make_full _ rfl _ _ 22 rfl w.heap.size 5 i0 _ 1 Tryz.underlying22 hi hz0 hz1 .i64 .i64 ((T.length:Int)+64) ((T.length:Int)+64) (T.length+64) rfl rfl (by omega) (by omega) (by rw[hz2];have:=HL.out;omega) (by unfold maxLen;have:=HL.out;omega) (Nat.le_refl _) ?_)
 intro w1 hown hgr
 have HO1:=Lib.hid hown
 have HB1:=Lib.hid ((Below.refl w.heap.size w).grown hgr (Nat.le_refl _) (fun k hk=>by cases hk))
 have hg1:w.heap.size<w1.heap.size:=(hown.lt _ rfl).2
 clear hown hgr hi hz0 hz1 hz2
 go_wp2_with fail
 go_loopg [4] (T.length+64) (fun n iv wr=> ∃(d:Nat) (xs:List Value),iv= .int .i64 (d:Nat)∧n=T.length+64 - d∧d≤T.length+64∧wr.ownsRow w.heap.size 5 1 (.slice (some ⟨w.heap.size,0,none⟩) (T.length+64) (T.length+64)) (T.length+64) xs∧xs.take d=(u8s (T++spareBs T.length)).take d∧Below w.heap.size w wr)
 case atStart=>exact⟨0,_,rfl,by omega,by omega,HO1.out,by simp,HB1.out⟩
 case round=>
  obtain⟨d,xs,rfl,hg2,hd,ho,ht,hb⟩:=hrel
  have HG:=Lib.hid hg2
  have HO:=Lib.hid ho
  have HT:=Lib.hid ht
  have HB:=Lib.hid hb
  have hgw:w.heap.size<wr.heap.size:=(ho.lt _ rfl).2
  clear hg2 ht hb
  by_cases hlt:d<T.length+64
  ·have hlt':(d:Int)<(T.length:Int)+64:=by omega
   obtain⟨_,g',hg',_,hcs,hfz⟩:=own_some ho (by omega)
   cases hg'
   obtain⟨u0,_,z0⟩:=hcs d (by omega)
   have f0:=hfz d
   have HXL:=Lib.hid (show xs.length=(T.length+64)*1 from ho.1)
   clear ho hcs hfz
   by_cases hin:d<T.length
   ·have hin':(d:Int)<(T.length:Int):=by omega
    obtain⟨mb,mo,hoa,hml,hmc⟩:=(HV.out.below HB.out) (by omega)
    obtain⟨b,hbd⟩: ∃b,T[d]?=some b:=⟨_,List.getElem?_eq_getElem hin⟩
    have y0:=hmc d b hbd
    have HX:=Lib.hid (show(T++spareBs T.length)[d]?=some b by rw[List.getElem?_append_left hin,hbd])
    have HR:=Lib.hid (stAll_row [.int .u8 (b:Nat)] d HO.out)
    have HTT:=Lib.hid (setAll_take [.int .u8 (b:Nat)] xs d (by rw[HXL.out];simp;omega))
    subst hoa
    clear hmc hbd
    go_wp2_with fail
    go_roundg (T.length+64 - (d+1))
    case measure=>have:=HG.out;omega
    case rel=>exact⟨d+1,_,by go_num,rfl,by omega,HR.out,by rw[u8s_take_succ HX.out,←HT.out,←HTT.out];rfl,HB.out.trans ((Below.refl w.heap.size wr).setCell (p:=⟨w.heap.size,d,none⟩) (Nat.le_refl _) _)⟩
   ·have hin': ¬(d:Int)<(T.length:Int):=by omega
    have HX:=Lib.hid (fullB_at (L:=T) rfl (Nat.le_of_not_lt hin) hlt)
    have HR:=Lib.hid (stAll_row [.int .u8 ((279+7*(d:Int)+3) % 256)] d HO.out)
    have HTT:=Lib.hid (setAll_take [.int .u8 ((279+7*(d:Int)+3) % 256)] xs d (by rw[HXL.out];simp;omega))
    go_wp2_with fail
    go_roundg (T.length+64 - (d+1))
    case measure=>have:=HG.out;omega
    case rel=>exact⟨d+1,_,by go_num,rfl,by omega,HR.out,by rw[u8s_take_succ HX.out,←HT.out,spareB_int,←HTT.out];rfl,HB.out.trans ((Below.refl w.heap.size wr).setCell (p:=⟨w.heap.size,d,none⟩) (Nat.le_refl _) _)⟩
  ·have hlt': ¬(d:Int)<(T.length:Int)+64:=by omega
   have hde:d=T.length+64:=by omega
   subst hde
   have hfin:WideB wr w.heap.size w.heap.size T.length T:=by
    refine⟨rfl,?_⟩
    have h1:=HT.out
    rw[List.take_of_length_le (by rw[ho.1];omega),List.take_of_length_le (by rw[u8s,List.length_map,HF.out];exact Nat.le_refl _)]at h1
    rw[←h1]
    exact ho
   have HFin:=Lib.hid hfin
   clear ho hfin
   go_wp2_with fail
   go_ret
   exact⟨⟨_,rfl,HFin.out⟩,HB.out⟩
set_option maxRecDepth 100000 in
set_option maxHeartbeats 1600000 in
theorem spareBytesU (h:WideB w base g n T) (hb:n≤140737488355328):
  Calls Tryz.prog 95 #[.slice (some ⟨g,0,none⟩) n (n+64)] w fun e w'=>e= .returned (.bool true)∧w=w':=by
 have H:=Lib.hid h
 have hgw:g<w.heap.size:=h.lt.2
 clear h
 go_enter Tryz.func95,Tryz.ntmps95
 go_wp2_with fail
 go_loopg [4] 64 (fun m iv wr=> ∃d:Nat,iv= .int .i64 (d:Int)∧m=n+64 - d∧n≤d∧d≤n+64∧w=wr)
 case atStart=>exact⟨n,rfl,by omega,by omega,by omega,rfl⟩
 case round=>
  obtain⟨d,rfl,hg,hd,hd2,rfl⟩:=hrel
  have HG:=Lib.hid hg
  clear hg
  by_cases hlt:d<n+64
  ·have hlt':(d:Int)<(n:Int)+64:=by omega
   have z0:=H.out.at_ (fullB_at H.out.1 hd hlt)
   rw[spareB_int]at z0
   go_wp2_with fail
   go_roundg (n+64 - (d+1))
   case measure=>have:=HG.out;omega
   case rel=>exact⟨d+1,by go_num,rfl,by omega,by omega,rfl⟩
  ·have hlt': ¬(d:Int)<(n:Int)+64:=by omega
   go_wp2_with fail
   go_ret
   exact⟨rfl,rfl⟩
set_option maxRecDepth 100000 in
set_option maxHeartbeats 1600000 in
theorem eqBytesU {oa ob:Option Addr} {ca cb:Nat} (ha:BtM w oa T) (hb:BtM w ob T) (z:T.length≤140737488355328):
  Calls Tryz.prog 28 #[.slice oa T.length ca,.slice ob T.length cb] w fun e w'=>e= .returned (.bool true)∧Below w.heap.size w w':=by
 have HA:=Lib.hid ha
 have HB:=Lib.hid hb
 have hz:(T.length:Int)≤140737488355328:=by omega
 clear ha hb z
 go_enter Tryz.func28,Tryz.ntmps28
 go_wp2_with fail
 go_loopg [5] T.length (fun n iv wr=> ∃d:Nat,iv= .int .i64 (d:Nat)∧n=T.length - d∧d≤T.length∧Below w.heap.size w wr)
 case atStart=>exact⟨0,rfl,by omega,by omega,Below.refl _ _⟩
 case round=>
  obtain⟨d,rfl,hg,hd,hbe⟩:=hrel
  have HG:=Lib.hid hg
  have HBE:=Lib.hid hbe
  clear hg
  by_cases hlt:d<T.length
  ·have hlt':(d:Int)<(T.length:Int):=by omega
   obtain⟨na,oo,rfl,nal,hna⟩:=(HA.out.below hbe) (by omega)
   obtain⟨nb,ob',rfl,nbl,hnb⟩:=(HB.out.below hbe) (by omega)
   obtain⟨x,hx⟩: ∃x,T[d]?=some x:=⟨_,List.getElem?_eq_getElem hlt⟩
   have n0:=hna d x hx
   have m0:=hnb d x hx
   have e1:((x:Int) !=(x:Int))=false:=by simp
   clear hna hnb hbe hx
   go_wp2_with fail
   refine wp_region_segs (X:=none) 9 [] [0,1,2,3,4,5,6,7,8] (by kernel_rfl) (by kernel_rfl) rfl (fun _ _ _ _ _ h=>h) ?_
   simp only[wpSegs,pickSegs_nil,pickOps_nil,pickOps_cons,List.getD_cons_zero,List.getD_cons_succ,List.drop_succ_cons,List.drop_nil]
   repeat (go_big_quiet_step (fail))
   refine wpQuiet_nil ?_
   go_wp2_with fail
   go_roundg (T.length - (d+1))
   case measure=>have:=HG.out;omega
   case rel=>exact⟨d+1,by go_num,rfl,by omega,HBE.out.drew⟩
  ·have hlt': ¬(d:Int)<(T.length:Int):=by omega
   clear hbe
   go_wp2_with fail
   go_ret
   exact⟨rfl,HBE.out⟩
end
end Go.Proofs.YtfjbnpdffillbaaGreatDoor
namespace Go.Proofs.YtfjbnpdffillbaaGreatDoor
open Go.RowKit
structure Pce where
 k:Int
 ob:Option Addr
 cb:Nat
 T:List Nat
structure PcO (w:World) (oa:Option Addr) (P:List Pce):Prop where
 z:P.length*32≤140737488355328
 at_:0<P.length→ ∃nb no,oa=some ⟨nb,no,none⟩∧nb<w.heap.size∧ ∀i p,P[i]?=some p→w.cell? ⟨nb,no+i*2,none⟩=some (.int .i64 p.k)∧w.cell? ⟨nb,no+i*2+1,none⟩=some (.slice p.ob p.T.length p.cb)∧BtM w p.ob p.T∧p.T.length≤140737488355328
theorem PcO.below {w w':World} {oa:Option Addr} {P:List Pce} (h:PcO w oa P) (hb:Below w.heap.size w w'):PcO w' oa P:=⟨h.z,fun hp=>by
 obtain⟨nb,no,h1,h2,h3⟩:=h.at_ hp
 refine⟨nb,no,h1,Nat.lt_of_lt_of_le h2 hb.size,fun i p hi=>?_⟩
 obtain⟨e1,e2,e3,e4⟩:=h3 i p hi
 exact⟨(hb.cell (p:=⟨nb,no+i*2,none⟩) h2).trans e1,(hb.cell (p:=⟨nb,no+i*2+1,none⟩) h2).trans e2,e3.below hb,e4⟩⟩
theorem list_pick {α:Type} {n:Nat} {R:Nat→α→Prop} (h: ∀i,i<n→ ∃p,R i p): ∃L:List α,L.length=n∧ ∀i p,L[i]?=some p→R i p:=by
 refine⟨List.ofFn (fun i:Fin n=>Classical.choose (h i.1 i.2)),by simp,fun i p hp=>?_⟩
 have hi:i<n:=by simpa using (List.getElem?_eq_some_iff.1 hp).1
 rw[List.getElem?_ofFn,dif_pos hi]at hp
 injection hp with hp
 rw[←hp]
 exact Classical.choose_spec (h i hi)
theorem PcO.of {w:World} {oa:Option Addr} {n:Nat} (h:PcW w oa n): ∃P:List Pce,P.length=n∧PcO w oa P:=by
 by_cases hn:0<n
 ·obtain⟨nb,no,h1,h2,h3⟩:=h.at_ hn
  obtain⟨P,hl,hP⟩:=list_pick (R:=fun i (p:Pce)=>w.cell? ⟨nb,no+i*2,none⟩=some (.int .i64 p.k)∧w.cell? ⟨nb,no+i*2+1,none⟩=some (.slice p.ob p.T.length p.cb)∧BtM w p.ob p.T∧p.T.length≤140737488355328) (fun i hi=>by
   obtain⟨g,ob,lb,cb,e1,e2,T,rfl,e3,e4⟩:=h3 i hi
   exact⟨⟨g,ob,cb,T⟩,e1,e2,BtM.of_src e3,e4⟩)
  exact⟨P,hl,by rw[hl];exact h.z,fun _=>⟨nb,no,h1,h2,hP⟩⟩
 ·exact⟨[],by simp;omega,by simp,fun h=>absurd h (by simp)⟩
def pieceAt (w:World) (g i:Nat) (p:Pce) (q:Nat):Prop:=w.cell? ⟨g,i*2,none⟩=some (.int .i64 p.k)∧w.cell? ⟨g,i*2+1,none⟩=some (.slice (some ⟨q,0,none⟩) p.T.length (p.T.length+64))
def blankAt (w:World) (g i:Nat):Prop:=w.cell? ⟨g,i*2,none⟩=some (.int .i64 (9437184+(i:Int)+1))∧w.cell? ⟨g,i*2+1,none⟩=some (.slice none 0 0)
structure WideP (w:World) (base g n:Nat) (P:List Pce):Prop where
 len:P.length=n
 lo:base≤g
 lt:g<w.heap.size
 at_: ∀i p,P[i]?=some p→p.T.length≤140737488355328∧ ∃q,pieceAt w g i p q∧WideB w base q p.T.length p.T
 sp: ∀i,n≤i→i<n+64→blankAt w g i
section
variable {w w':World} {base g n:Nat} {P:List Pce}
theorem pieceAt.block {i q:Nat} {p:Pce} (h:pieceAt w g i p q) (hb:w'.heap[g]?=w.heap[g]?):pieceAt w' g i p q:=
 ⟨(World.cell?_of_block (w:=w) (a:=⟨g,i*2,none⟩) hb).trans h.1,(World.cell?_of_block (w:=w) (a:=⟨g,i*2+1,none⟩) hb).trans h.2⟩
theorem blankAt.block {i:Nat} (h:blankAt w g i) (hb:w'.heap[g]?=w.heap[g]?):blankAt w' g i:=
 ⟨(World.cell?_of_block (w:=w) (a:=⟨g,i*2,none⟩) hb).trans h.1,(World.cell?_of_block (w:=w) (a:=⟨g,i*2+1,none⟩) hb).trans h.2⟩
theorem WideP.block (h:WideP w base g n P) {hi:Nat} (hs:w.heap.size≤hi) (hb: ∀k,base≤k→k<hi→w'.heap[k]?=w.heap[k]?) (hz:w.heap.size≤w'.heap.size):WideP w' base g n P:=
 have hg:w'.heap[g]?=w.heap[g]?:=hb g h.lo (Nat.lt_of_lt_of_le h.lt hs)
 ⟨h.len,h.lo,Nat.lt_of_lt_of_le h.lt hz,fun i p hp=>by
  obtain⟨hl,q,h1,h2⟩:=h.at_ i p hp
  exact⟨hl,q,h1.block hg,h2.block (hb q h2.lt.1 (Nat.lt_of_lt_of_le h2.lt.2 hs))⟩,fun i h1 h2=>(h.sp i h1 h2).block hg⟩
theorem WideP.below (h:WideP w base g n P) (hb:Below w.heap.size w w'):WideP w' base g n P:=h.block (Nat.le_refl _) (fun k _ hk=>hb.block k hk) hb.size
set_option maxRecDepth 100000 in
set_option maxHeartbeats 1600000 in
theorem widePieceU {oa:Option Addr} {cap:Nat} {T:List Nat} (g:Int) (h:BtM w oa T) (hl:T.length≤140737488355328):
  Calls Tryz.prog 122 #[.agg #[.int .i64 g,.slice oa T.length cap]] w fun e w'=>(∃q,e= .returned (.agg #[.int .i64 g,.slice (some ⟨q,0,none⟩) T.length (T.length+64)])∧WideB w' w.heap.size q T.length T)∧Below w.heap.size w w':=by
 have hb1:=((Below.refl w.heap.size w).alloc (Nat.le_refl _) (.cells #[.int .i64 g,.slice oa T.length cap] 185)).alloc (by simp) (.cells #[.int .i64 0,.slice none 0 0] 185)
 have HS:=Lib.hid ((h.below hb1).below ((Below.refl _ _).drew))
 have HB:=Lib.hid hb1
 have HP:=Lib.hid ((PcB.new w (.int .i64 g) (.slice oa T.length cap)).below ((Below.refl _ _).alloc (Nat.le_refl _) (.cells #[.int .i64 0,.slice none 0 0] 185)))
 have HZ:=Lib.hid (PcB.new (w.alloc (.cells #[.int .i64 g,.slice oa T.length cap] 185)) (.int .i64 0) (.slice none 0 0))
 have hsz:(w.alloc (.cells #[.int .i64 g,.slice oa T.length cap] 185)).heap.size=w.heap.size+1:=by simp
 rw[hsz]at HZ
 have HSZ:Hid (((w.alloc (.cells #[.int .i64 g,.slice oa T.length cap] 185)).alloc (.cells #[.int .i64 0,.slice none 0 0] 185)).heap.size=w.heap.size+2):=Lib.hid (by simp)
 clear h hb1 hsz
 go_enter Tryz.func122,Tryz.ntmps122
 go_upto_region 1 with fail
 obtain⟨W,hW⟩: ∃W,(w.alloc (.cells #[.int .i64 g,.slice oa T.length cap] 185)).alloc (.cells #[.int .i64 0,.slice none 0 0] 185)=W:=⟨_,rfl⟩
 rw[hW]at HS HB HP HZ HSZ ⊢
 clear hW
 have p0:=HP.out.c0
 have p1:=HP.out.c1
 have pl:=HP.out.lt
 refine wp_region_segs (X:=none) 6 [([0,1,2,3],4)] [5] (by kernel_rfl) (by kernel_rfl) rfl (fun _ _ _ _ _ h=>h) ?_
 simp only[wpSegs,pickSegs_nil,pickSegs_cons,pickOps_nil,pickOps_cons,List.getD_cons_zero,List.getD_cons_succ,List.drop_succ_cons,List.drop_zero]
 repeat (go_big_quiet_step (fail))
 refine wpQuiet_nil ?_
 go_wp2_with fail
 refine(wideBytesU HS.out hl).mono ?_
 rintro e w2 ⟨⟨q,rfl,hn2⟩,hb2⟩
 have HP2:=Lib.hid ((HP.out.below ((Below.refl _ _).drew)).below hb2)
 have HZ2:=Lib.hid ((HZ.out.below ((Below.refl _ _).drew)).below hb2)
 have HB2:=Lib.hid (HB.out.drew.trans (hb2.mono (by have:=HB.out.size;show w.heap.size≤W.heap.size;omega)))
 have HK:=Lib.hid hb2
 have HN:=Lib.hid hn2
 have HQ:Hid (w.heap.size+1<q):=Lib.hid (by have h1:=hn2.lt.1;have h2:=HSZ.out;have h3:W.heap.size≤q:=h1;omega)
 clear p0 p1 pl hb2 hn2
 have p0:=HP2.out.c0
 have p1:=HP2.out.c1
 have z0:=HZ2.out.c0
 have z1:=HZ2.out.c1
 have zl:=HZ2.out.lt
 have zf:=HZ2.out.fz
 go_wp2_with fail
 refine⟨Keeps.of_below HK.out,?_⟩
 repeat (go_big_quiet_step (fail))
 refine wpQuiet_nil ?_
 go_wp2_with fail
 refine ret_cellP (p:=2) (b:=w.heap.size+1) (oa:=some ⟨q,0,none⟩) (len:=T.length) (cp:=T.length+64) (kk:=g) rfl rfl rfl ?_ ?_ ⟨⟨q,rfl,?_⟩,?_⟩
 ·exact(cell?_setCell_ne _ _ _ _ _ (by decide)).trans (World.cell?_setCell_same _ _ _ z0)
 ·exact World.cell?_setCell_same _ _ _ ((cell?_setCell_ne _ _ _ _ _ (by decide)).trans z1)
 ·have hq:=HQ.out
  have h1:=HN.out.block (w':=w2.setCell ⟨w.heap.size+1,0,none⟩ (.int .i64 g)) (Below.heap_setCell _ _ _ _ (by show q≠w.heap.size+1;omega))
  have h2:=h1.block (w':=(w2.setCell ⟨w.heap.size+1,0,none⟩ (.int .i64 g)).setCell ⟨w.heap.size+1,1,none⟩ (.slice (some ⟨q,0,none⟩) T.length (T.length+64))) (Below.heap_setCell _ _ _ _ (by show q≠w.heap.size+1;omega))
  exact⟨h2.1,ownsRow_mono h2.2 (by have:=HSZ.out;show w.heap.size≤W.heap.size;omega)⟩
 ·exact(HB2.out.setCell (by show w.heap.size≤w.heap.size+1;omega) _).setCell (by show w.heap.size≤w.heap.size+1;omega) _
end
end Go.Proofs.YtfjbnpdffillbaaGreatDoor
namespace Go.Proofs.YtfjbnpdffillbaaGreatDoor
open Go.RowKit
section
variable {w w':World} {base g n:Nat} {P:List Pce}
theorem pieceAt.store {i q d:Nat} {p:Pce} (h:pieceAt w g i p q) (hi:i≠d) (a b:Value):pieceAt ((w.setCell ⟨g,d*2,none⟩ a).setCell ⟨g,d*2+1,none⟩ b) g i p q:=
 ⟨(cell?_setCell_ne _ _ _ _ _ (by omega)).trans ((cell?_setCell_ne _ _ _ _ _ (by omega)).trans h.1),(cell?_setCell_ne _ _ _ _ _ (by omega)).trans ((cell?_setCell_ne _ _ _ _ _ (by omega)).trans h.2)⟩
theorem blankAt.store {i d:Nat} (h:blankAt w g i) (hi:i≠d) (a b:Value):blankAt ((w.setCell ⟨g,d*2,none⟩ a).setCell ⟨g,d*2+1,none⟩ b) g i:=
 ⟨(cell?_setCell_ne _ _ _ _ _ (by omega)).trans ((cell?_setCell_ne _ _ _ _ _ (by omega)).trans h.1),(cell?_setCell_ne _ _ _ _ _ (by omega)).trans ((cell?_setCell_ne _ _ _ _ _ (by omega)).trans h.2)⟩
theorem two_at {d:Nat} {u v a b:Value} (h1:w.cell? ⟨g,d*2,none⟩=some u) (h2:w.cell? ⟨g,d*2+1,none⟩=some v):
  ((w.setCell ⟨g,d*2,none⟩ a).setCell ⟨g,d*2+1,none⟩ b).cell? ⟨g,d*2,none⟩=some a∧((w.setCell ⟨g,d*2,none⟩ a).setCell ⟨g,d*2+1,none⟩ b).cell? ⟨g,d*2+1,none⟩=some b:=
 ⟨(cell?_setCell_ne _ _ _ _ _ (by omega)).trans (World.cell?_setCell_same _ _ _ h1),World.cell?_setCell_same _ _ _ ((cell?_setCell_ne _ _ _ _ _ (by omega)).trans h2)⟩
structure PSo (w:World) (base n d:Nat) (P:List Pce):Prop where
 at_: ∀i p,i<d→P[i]?=some p→p.T.length≤140737488355328∧ ∃q,pieceAt w base i p q∧WideB w (base+1) q p.T.length p.T
 sp: ∀i,i<d→n≤i→blankAt w base i
theorem PSo.below {d:Nat} (h:PSo w base n d P) (hg:base<w.heap.size) (hb:Below w.heap.size w w'):PSo w' base n d P:=
 ⟨fun i p hi hp=>by
  obtain⟨hl,q,h1,h2⟩:=h.at_ i p hi hp
  exact⟨hl,q,h1.block (hb.block _ hg),h2.below hb⟩,fun i hi hn=>(h.sp i hi hn).block (hb.block _ hg)⟩
theorem PSo.store {d:Nat} (h:PSo w base n d P) (a b:Value) (h1: ∀p,P[d]?=some p→p.T.length≤140737488355328∧ ∃q,pieceAt ((w.setCell ⟨base,d*2,none⟩ a).setCell ⟨base,d*2+1,none⟩ b) base d p q∧WideB w (base+1) q p.T.length p.T)
  (h2:n≤d→blankAt ((w.setCell ⟨base,d*2,none⟩ a).setCell ⟨base,d*2+1,none⟩ b) base d):PSo ((w.setCell ⟨base,d*2,none⟩ a).setCell ⟨base,d*2+1,none⟩ b) base n (d+1) P:=by
 have hst: ∀ {q m:Nat} {T:List Nat},WideB w (base+1) q m T→WideB ((w.setCell ⟨base,d*2,none⟩ a).setCell ⟨base,d*2+1,none⟩ b) (base+1) q m T:=fun h=>by
  have hq:=h.lt.1
  exact(h.block (Below.heap_setCell _ _ _ _ (by show _≠base;omega))).block (Below.heap_setCell _ _ _ _ (by show _≠base;omega))
 refine⟨fun i p hi hp=>?_,fun i hi hn=>?_⟩
 ·by_cases he:i=d
  ·subst he
   obtain⟨hl,q,e1,e2⟩:=h1 p hp
   exact⟨hl,q,e1,hst e2⟩
  ·obtain⟨hl,q,e1,e2⟩:=h.at_ i p (by omega) hp
   exact⟨hl,q,e1.store he a b,hst e2⟩
 ·by_cases he:i=d
  ·subst he;exact h2 hn
  ·exact(h.sp i (by omega) hn).store he a b
set_option maxRecDepth 100000 in
set_option maxHeartbeats 3200000 in
theorem widePiecesU {oa:Option Addr} {cap:Nat} (hv:PcO w oa P):
  Calls Tryz.prog 89 #[.slice oa P.length cap] w fun e w'=>(∃g,e= .returned (.slice (some ⟨g,0,none⟩) P.length (P.length+64))∧WideP w' w.heap.size g P.length P)∧Below w.heap.size w w':=by
 have HV:=Lib.hid hv
 have HZ:=Lib.hid hv.z
 have hl1:(P.length:Int)≤4398046511104:=by have:=hv.z;omega
 clear hv
 obtain⟨i0,hi,hz0,hz1,hz2⟩:=info_parts (elPc).hi
 go_enter Tryz.func89,Tryz.ntmps89
 go_wp2_with (at_make;refine wpList_make_full _ rfl _ _ 87 rfl w.heap.size 185 i0 _ 2 Tryz.underlying87 hi hz0 hz1 .i64 .i64 ((P.length:Int)+64) ((P.length:Int)+64) (P.length+64) rfl rfl (by omega) (by omega) (by rw[hz2];have:=HZ.out;omega) (by unfold maxLen;have:=HZ.out;omega) (Nat.le_refl _) ?_)
 intro w1 hown hgr
 have HO1:=Lib.hid hown
 have HB1:=Lib.hid ((Below.refl w.heap.size w).grown hgr (Nat.le_refl _) (fun k hk=>by cases hk))
 have hg1:w.heap.size<w1.heap.size:=(hown.lt _ rfl).2
 clear hown hgr hi hz0 hz1 hz2
 go_wp2_with fail
 go_loopg [4] (P.length+64) (fun n iv wr=> ∃(d:Nat) (xs:List Value),iv= .int .i64 (d:Nat)∧n=P.length+64 - d∧d≤P.length+64∧wr.ownsRow w.heap.size 185 2 (.slice (some ⟨w.heap.size,0,none⟩) (P.length+64) (P.length+64)) (P.length+64) xs∧PSo wr w.heap.size P.length d P∧Below w.heap.size w wr)
 case atStart=>exact⟨0,_,rfl,by omega,by omega,HO1.out,⟨fun i p hi=>absurd hi (by omega),fun i hi=>absurd hi (by omega)⟩,HB1.out⟩
 case round=>
  obtain⟨d,xs,rfl,hg2,hd,ho,hp,hb⟩:=hrel
  have HG:=Lib.hid hg2
  have HO:=Lib.hid ho
  have HP:=Lib.hid hp
  have HB:=Lib.hid hb
  have hgw:w.heap.size<wr.heap.size:=(ho.lt _ rfl).2
  clear hg2 hp hb
  by_cases hlt:d<P.length+64
  ·have hlt':(d:Int)<(P.length:Int)+64:=by omega
   by_cases hin:d<P.length
   ·have hin':(d:Int)<(P.length:Int):=by omega
    obtain⟨mb,mo,hoa,hml,hmc⟩:=(HV.out.below HB.out).at_ (by omega)
    obtain⟨p,hpd⟩: ∃p,P[d]?=some p:=⟨_,List.getElem?_eq_getElem hin⟩
    obtain⟨e1,e2,e3,e4⟩:=hmc d p hpd
    have HPD:=Lib.hid hpd
    have HE4:=Lib.hid e4
    have HE:=Lib.hid (widePieceU (cap:=p.cb) p.k e3 e4)
    subst hoa
    clear hmc hpd ho e3 e4
    go_wp2_with fail
    refine HE.out.mono ?_
    rintro e w2 ⟨⟨q,rfl,hq⟩,hb2⟩
    have HO2:=Lib.hid (ownsRow_of_block HO.out fun g hg=>hb2.block g (World.ownsRow.lt HO.out g hg).2)
    have HP2:=Lib.hid (HP.out.below hgw hb2)
    have HB2:=Lib.hid (HB.out.trans (hb2.mono HB.out.size))
    have HQ:Hid (WideB w2 (w.heap.size+1) q p.T.length p.T):=Lib.hid ⟨hq.1,ownsRow_mono hq.2 (by omega)⟩
    have hg2:w.heap.size<w2.heap.size:=Nat.lt_of_lt_of_le hgw hb2.size
    obtain⟨_,g',hg',_,hcs,hfz⟩:=own_some HO2.out (by omega)
    cases hg'
    obtain⟨u0,_,z0⟩:=hcs (d*2) (by omega)
    obtain⟨u1,_,z1⟩:=hcs (d*2+1) (by omega)
    have f0:=hfz (d*2)
    have f1:=hfz (d*2+1)
    have HR:=Lib.hid (World.ownsRow.stored (World.ownsRow.stored HO2.out (d*2) (.int .i64 p.k)).1 (d*2+1) (.slice (some ⟨q,0,none⟩) p.T.length (p.T.length+64))).1
    have HS:=Lib.hid (HP2.out.store (.int .i64 p.k) (.slice (some ⟨q,0,none⟩) p.T.length (p.T.length+64)) (fun p' hp'=>by
     rw[HPD.out]at hp'
     injection hp' with hp'
     subst hp'
     exact⟨HE4.out,q,two_at z0 z1,HQ.out⟩) (fun h=>absurd h (by omega)))
    clear hq hb2 hcs hfz e1 e2 hml hgw
    go_wp2_with fail
    go_roundg (P.length+64 - (d+1))
    case measure=>have:=HG.out;omega
    case rel=>exact⟨d+1,_,by go_num,rfl,by omega,HR.out,HS.out,HB2.out.trans (((Below.refl w.heap.size w2).setCell (p:=⟨w.heap.size,d*2,none⟩) (Nat.le_refl _) _).setCell (p:=⟨w.heap.size,d*2+1,none⟩) (Nat.le_refl _) _)⟩
   ·have hin': ¬(d:Int)<(P.length:Int):=by omega
    obtain⟨_,g',hg',_,hcs,hfz⟩:=own_some ho (by omega)
    cases hg'
    obtain⟨u0,_,z0⟩:=hcs (d*2) (by omega)
    obtain⟨u1,_,z1⟩:=hcs (d*2+1) (by omega)
    have f0:=hfz (d*2)
    have f1:=hfz (d*2+1)
    have HR:=Lib.hid (World.ownsRow.stored (World.ownsRow.stored HO.out (d*2) (.int .i64 (9437184+(d:Int)+1))).1 (d*2+1) (.slice none 0 0)).1
    have HS:=Lib.hid (HP.out.store (.int .i64 (9437184+(d:Int)+1)) (.slice none 0 0) (fun p' hp'=>absurd (List.getElem?_eq_some_iff.1 hp').1 hin) (fun _=>two_at z0 z1))
    clear ho hcs hfz
    go_wp2_with fail
    refine(num_big 9 (d:Int) (by decide) (by decide) (by omega) (by omega)).mono ?_;rintro e w3 ⟨rfl,rfl⟩
    go_wp2_with fail
    go_roundg (P.length+64 - (d+1))
    case measure=>have:=HG.out;omega
    case rel=>exact⟨d+1,_,by go_num,rfl,by omega,HR.out,HS.out,HB.out.trans (((Below.refl w.heap.size wr).setCell (p:=⟨w.heap.size,d*2,none⟩) (Nat.le_refl _) _).setCell (p:=⟨w.heap.size,d*2+1,none⟩) (Nat.le_refl _) _)⟩
  ·have hlt': ¬(d:Int)<(P.length:Int)+64:=by omega
   have hde:d=P.length+64:=by omega
   subst hde
   have hfin:WideP wr w.heap.size w.heap.size P.length P:=
    ⟨rfl,Nat.le_refl _,hgw,fun i p hp=>by
     obtain⟨hl,q,e1,e2⟩:=HP.out.at_ i p (by have:=(List.getElem?_eq_some_iff.1 hp).1;omega) hp
     exact⟨hl,q,e1,e2.1,ownsRow_mono e2.2 (Nat.le_succ _)⟩,fun i h1 h2=>HP.out.sp i h2 h1⟩
   have HFin:=Lib.hid hfin
   clear ho hfin
   go_wp2_with fail
   go_ret
   exact⟨⟨_,rfl,HFin.out⟩,HB.out⟩
end
end Go.Proofs.YtfjbnpdffillbaaGreatDoor
namespace Go.Proofs.YtfjbnpdffillbaaGreatDoor
open Go.RowKit
section
variable {w w':World} {base g n:Nat} {P:List Pce}
set_option maxRecDepth 100000 in
set_option maxHeartbeats 3200000 in
theorem sparePiecesU (h:WideP w base g n P) (hz:n*32≤140737488355328):
  Calls Tryz.prog 96 #[.slice (some ⟨g,0,none⟩) n (n+64)] w fun e w'=>e= .returned (.bool true)∧Below w.heap.size w w':=by
 have H:=Lib.hid h
 have hgw:g<w.heap.size:=h.lt
 have hn:(n:Int)≤4398046511104:=by omega
 have HNZ:=Lib.hid hz
 clear h hz
 go_enter Tryz.func96,Tryz.ntmps96
 go_wp2_with fail
 go_loopg [4] 64 (fun m iv wr=> ∃d:Nat,iv= .int .i64 (d:Int)∧m=n+64 - d∧n≤d∧d≤n+64∧Below w.heap.size w wr)
 case atStart=>exact⟨n,rfl,by omega,by omega,by omega,Below.refl _ _⟩
 case round=>
  obtain⟨d,rfl,hg,hd,hd2,hb⟩:=hrel
  have HG:=Lib.hid hg
  have HB:=Lib.hid hb
  have hgr:g<wr.heap.size:=Nat.lt_of_lt_of_le hgw hb.size
  clear hg
  by_cases hlt:d<n+64
  ·have hlt':(d:Int)<(n:Int)+64:=by omega
   obtain⟨z0,z1⟩:=(H.out.below hb).sp d hd hlt
   have hdb:(d:Int)≤4398046511200:=by omega
   have hq:((9437184+(d:Int)+1)==(9437184+(d:Int)+1))=true:=beq_self_eq_true _
   clear hb
   go_wp2_with fail
   refine wp_region_segs (X:=none) 18 [([0,1,2,3,4,5],6)] [7,8,9,10,11,12,13,14,15,16,17] (by kernel_rfl) (by kernel_rfl) rfl (fun _ _ _ _ _ h=>h) ?_
   simp only[wpSegs,pickSegs_nil,pickSegs_cons,pickOps_nil,pickOps_cons,List.getD_cons_zero,List.getD_cons_succ,List.drop_succ_cons,List.drop_nil]
   repeat (go_big_quiet_step (fail))
   refine wpQuiet_nil ?_
   go_wp2_with fail
   refine(num_big 9 (d:Int) (by decide) (by decide) (by omega) (by omega)).mono ?_;rintro e w3 ⟨rfl,rfl⟩
   go_wp2_with fail
   refine⟨Keeps.refl _,?_⟩
   repeat (go_big_quiet_step (fail))
   refine wpQuiet_nil ?_
   go_wp2_with fail
   go_roundg (n+64 - (d+1))
   case measure=>have:=HG.out;omega
   case rel=>exact⟨d+1,by go_num,rfl,by omega,by omega,HB.out.drew⟩
  ·have hlt': ¬(d:Int)<(n:Int)+64:=by omega
   clear hb
   obtain⟨wo,hwo⟩: ∃v:World,v=wr:=⟨_,rfl⟩
   subst hwo
   go_wp2_with fail
   go_loopg [5] n (fun m iv wi=> ∃d:Nat,iv= .int .i64 (d:Int)∧m=n - d∧d≤n∧Below w.heap.size w wi)
   case atStart=>exact⟨0,rfl,by omega,by omega,HB.out⟩
   case round=>
    obtain⟨k,rfl,hg2,hk,hb2⟩:=hrel
    have HG2:=Lib.hid hg2
    have HB2:=Lib.hid hb2
    have hgi:g<wr.heap.size:=Nat.lt_of_lt_of_le hgw hb2.size
    clear hg2
    by_cases hlk:k<n
    ·have hlk':(k:Int)<(n:Int):=by omega
     obtain⟨p,hp⟩: ∃p,P[k]?=some p:=⟨_,List.getElem?_eq_getElem (by rw[H.out.len];exact hlk)⟩
     obtain⟨hl,q,⟨z0,z1⟩,hq⟩:=(H.out.below hb2).at_ k p hp
     have HS:=Lib.hid (spareBytesU hq hl)
     clear hp hq hb2
     go_wp2_with fail
     refine HS.out.mono ?_;rintro e w3 ⟨rfl,rfl⟩
     go_wp2_with fail
     go_roundg (n - (k+1))
     case measure=>have:=HG2.out;omega
     case rel=>exact⟨k+1,by go_num,rfl,by omega,HB2.out⟩
    ·have hlk': ¬(k:Int)<(n:Int):=by omega
     clear hb2
     go_wp2_with fail
     go_ret
     exact⟨rfl,HB2.out⟩
set_option maxRecDepth 100000 in
set_option maxHeartbeats 1600000 in
theorem eqPieceU {oa ob:Option Addr} {ca cb:Nat} {T:List Nat} (k:Int) (ha:BtM w oa T) (hb:BtM w ob T) (z:T.length≤140737488355328):
  Calls Tryz.prog 151 #[.agg #[.int .i64 k,.slice oa T.length ca],.agg #[.int .i64 k,.slice ob T.length cb]] w fun e w'=>e= .returned (.bool true)∧Below w.heap.size w w':=by
 have hb1:=((Below.refl w.heap.size w).alloc (Nat.le_refl _) (.cells #[.int .i64 k,.slice oa T.length ca] 185)).alloc (by simp) (.cells #[.int .i64 k,.slice ob T.length cb] 185)
 have HE:=Lib.hid (eqBytesU (ca:=ca) (cb:=cb) (ha.below hb1) (hb.below hb1) z)
 have HB:=Lib.hid hb1
 have hk:(k==k)=true:=beq_self_eq_true k
 clear ha hb hb1
 go_enter Tryz.func151,Tryz.ntmps151
 go_wp2_with fail
 refine HE.out.mono ?_
 rintro e w2 ⟨rfl,hb2⟩
 have HB2:=Lib.hid (HB.out.trans (hb2.mono HB.out.size))
 clear hb2
 go_wp2_with fail
 go_ret
 exact⟨rfl,HB2.out⟩
set_option maxRecDepth 100000 in
set_option maxHeartbeats 1600000 in
theorem eqPiecesU {oa:Option Addr} {ca:Nat} (h:WideP w base g P.length P) (ho:PcO w oa P):
  Calls Tryz.prog 123 #[.slice (some ⟨g,0,none⟩) P.length (P.length+64),.slice oa P.length ca] w fun e w'=>e= .returned (.bool true)∧Below w.heap.size w w':=by
 have H:=Lib.hid h
 have HO:=Lib.hid ho
 have hz:(P.length:Int)≤4398046511104:=by have:=ho.z;omega
 clear h ho
 go_enter Tryz.func123,Tryz.ntmps123
 go_wp2_with fail
 go_loopg [5] P.length (fun n iv wr=> ∃d:Nat,iv= .int .i64 (d:Nat)∧n=P.length - d∧d≤P.length∧Below w.heap.size w wr)
 case atStart=>exact⟨0,rfl,by omega,by omega,Below.refl _ _⟩
 case round=>
  obtain⟨d,rfl,hg,hd,hbe⟩:=hrel
  have HG:=Lib.hid hg
  have HBE:=Lib.hid hbe
  clear hg
  by_cases hlt:d<P.length
  ·have hlt':(d:Int)<(P.length:Int):=by omega
   obtain⟨nb,ob',hoa,nbl,hnb⟩:=(HO.out.below hbe).at_ (by omega)
   obtain⟨p,hp⟩: ∃p,P[d]?=some p:=⟨_,List.getElem?_eq_getElem hlt⟩
   obtain⟨hl,q,⟨z0,z1⟩,hq⟩:=(H.out.below hbe).at_ d p hp
   obtain⟨e1,e2,e3,_⟩:=hnb d p hp
   have hgr:g<wr.heap.size:=Nat.lt_of_lt_of_le H.out.lt hbe.size
   have HD:=Lib.hid ((Below.refl wr.heap.size wr).drew)
   have HE:=Lib.hid (eqPieceU (ca:=p.T.length+64) (cb:=p.cb) p.k (hq.btM.below HD.out) (e3.below HD.out) hl)
   subst hoa
   clear hnb hbe hp hq e3
   go_wp2_with fail
   refine wp_region_segs (X:=none) 8 [] [0,1,2,3,4,5,6,7] (by kernel_rfl) (by kernel_rfl) rfl (fun _ _ _ _ _ h=>h) ?_
   simp only[wpSegs,pickSegs_nil,pickOps_nil,pickOps_cons,List.getD_cons_zero,List.getD_cons_succ,List.drop_succ_cons,List.drop_zero]
   repeat (go_big_quiet_step (fail))
   refine wpQuiet_nil ?_
   go_wp2_with fail
   refine HE.out.mono ?_
   rintro e w2 ⟨rfl,hb2⟩
   have HB2:=Lib.hid (HBE.out.trans ((HD.out.trans hb2).mono HBE.out.size))
   clear hb2 e1 e2 z0 z1
   go_wp2_with fail
   go_roundg (P.length - (d+1))
   case measure=>have:=HG.out;omega
   case rel=>exact⟨d+1,by go_num,rfl,by omega,HB2.out⟩
  ·have hlt': ¬(d:Int)<(P.length:Int):=by omega
   clear hbe
   go_wp2_with fail
   go_ret
   exact⟨rfl,HBE.out⟩
end
end Go.Proofs.YtfjbnpdffillbaaGreatDoor
namespace Go.Proofs.YtfjbnpdffillbaaGreatDoor
open Go.RowKit
theorem NdU.of_src {w:World} {oa:Option Addr} {c:Nat} {re:List Nd} (h:Src w (.slice oa re.length c) re.length (ndsC re)):NdU w oa re:=by
 intro hp
 rcases h with ⟨_,h2,_⟩|⟨a,c',h1,h2⟩
 ·omega
 ·injection h1 with h1
  subst h1
  obtain⟨g,o,s⟩:=a
  have hc: ∀i,i<re.length→ ∀j,j<9→w.cell? (Addr.add ⟨g,o,s⟩ (i*9+j))=(ndCells (re.getD i Nd.zero))[j]?:=fun i hi j hj=>by
   obtain⟨u,hu⟩: ∃u,(ndCells (re.getD i Nd.zero))[j]?=some u:=by
    have:j=0∨j=1∨j=2∨j=3∨j=4∨j=5∨j=6∨j=7∨j=8:=by omega
    rcases this with rfl|rfl|rfl|rfl|rfl|rfl|rfl|rfl|rfl<;>exact⟨_,rfl⟩
   rw[hu]
   exact h2 _ _ (by rw[ndsC_at re i j hi hj,hu])
  have k0:=hc 0 hp 0 (by decide)
  have hs:s=none:=by simpa [Addr.add]using World.cell?_spot k0
  subst hs
  have hc2: ∀i,i<re.length→ ∀j,j<9→w.cell? ⟨g,o+i*9+j,none⟩=(ndCells (re.getD i Nd.zero))[j]?:=fun i hi j hj=>by
   rw[Nat.add_assoc,←Addr.add_mid];exact hc i hi j hj
  exact⟨g,o,rfl,World.block_lt_of_cell? w _ (hc2 0 hp 0 (by decide)),hc2⟩
def WideN (w:World) (base g n:Nat) (re:List Nd):Prop:=re.length=n∧Nds w base (.slice (some ⟨g,0,none⟩) (n+64) (n+64)) (re++spareL n)
section
variable {w w':World} {base g n:Nat} {re:List Nd} {T:List Nat} {P:List Pce}
theorem WideN.lt (h:WideN w base g n re):base≤g∧g<w.heap.size:=h.2.lt g rfl
theorem WideN.block (h:WideN w base g n re) (hb:w'.heap[g]?=w.heap[g]?):WideN w' base g n re:=⟨h.1,h.2.block fun k hk=>by cases hk;exact hb⟩
theorem WideN.below (h:WideN w base g n re) (hb:Below w.heap.size w w'):WideN w' base g n re:=h.block (hb.block g h.lt.2)
theorem WideN.other (h:WideN w base g n re) {b:Nat} (hb:b<base) (o:Nat) (v:Value):WideN (w.setCell ⟨b,o,none⟩ v) base g n re:=h.block (Below.heap_setCell _ _ _ _ (by have:=h.lt.1;show g≠b;omega))
theorem WideN.mono {base':Nat} (h:WideN w base g n re) (hb:base'≤base):WideN w base' g n re:=⟨h.1,h.2.mono hb⟩
theorem WideN.toU (h:WideN w base g n re):NdU w (some ⟨g,0,none⟩) re:=fun _=>⟨g,0,rfl,h.lt.2,fun i hi j hj=>by
 obtain⟨oa,cp,e1,hu⟩:=h.2.toU
 injection e1 with e1 e2 e3
 subst e1
 obtain⟨nb,no,e4,_,e5⟩:=hu (by rw[List.length_append];omega)
 injection e4 with e4
 injection e4 with e4 e6
 subst e4
 subst e6
 rw[e5 i (by rw[List.length_append];omega) j hj]
 simp only[List.getD_eq_getElem?_getD]
 rw[List.getElem?_append_left hi]⟩
theorem WideN.src (h:WideN w base g n re):Src w (.slice (some ⟨g,0,none⟩) n (n+64)) n (ndsC re):=by
 refine .inr ⟨_,_,rfl,fun j u hu=>?_⟩
 have hj:=(List.getElem?_eq_some_iff.1 hu).1
 rw[ndsC_length]at hj
 obtain⟨nb,no,e4,_,e5⟩:=h.toU (by omega)
 injection e4 with e4
 injection e4 with e4 e6
 subst e4
 subst e6
 have:=e5 (j / 9) (by omega) (j % 9) (by omega)
 rw[←ndsC_at re (j / 9) (j % 9) (by omega) (by omega),show j / 9*9+j % 9=j by omega,hu,show 0+j / 9*9+j % 9=0+j by omega]at this
 rw[Addr.add_mid]
 exact this
theorem WideB.other (h:WideB w base g n T) {b:Nat} (hb:b<base) (o:Nat) (v:Value):WideB (w.setCell ⟨b,o,none⟩ v) base g n T:=h.block (Below.heap_setCell _ _ _ _ (by have:=h.lt.1;show g≠b;omega))
theorem WideB.mono {base':Nat} (h:WideB w base g n T) (hb:base'≤base):WideB w base' g n T:=⟨h.1,ownsRow_mono h.2 hb⟩
theorem WideP.other (h:WideP w base g n P) {b:Nat} (hb:b<base) (o:Nat) (v:Value):WideP (w.setCell ⟨b,o,none⟩ v) base g n P:=
 h.block (Nat.le_refl _) (fun k hk _=>Below.heap_setCell _ _ _ _ (by show k≠b;omega)) (by simp)
theorem WideP.mono {base':Nat} (h:WideP w base g n P) (hb:base'≤base):WideP w base' g n P:=
 ⟨h.len,Nat.le_trans hb h.lo,h.lt,fun i p hp=>by
  obtain⟨hl,q,h1,h2⟩:=h.at_ i p hp
  exact⟨hl,q,h1,h2.mono hb⟩,h.sp⟩
set_option maxRecDepth 100000 in
set_option maxHeartbeats 1600000 in
theorem wideAddrU {oa:Option Addr} {cap:Nat} (k n:Int) (hs:NdU w oa re) (hl:re.length*72≤140737488355328):
  Calls Tryz.prog 25 #[.agg #[.int .i8 k,.int .i64 n,.slice oa re.length cap]] w fun e w'=>
   (∃g,e= .returned (.agg #[.int .i8 k,.int .i64 n,.slice (some ⟨g,0,none⟩) re.length (re.length+64)])∧WideN w' w.heap.size g re.length re)∧Below w.heap.size w w':=by
 have HA:=Lib.hid (AdB.new w (.int .i8 k) (.int .i64 n) (.slice oa re.length cap))
 have hb1:=(Below.refl w.heap.size w).alloc (Nat.le_refl _) (.cells #[.int .i8 k,.int .i64 n,.slice oa re.length cap] 54)
 have HB1:=Lib.hid hb1
 have HS1:=Lib.hid (hs.below hb1)
 have hsz:(w.alloc (.cells #[.int .i8 k,.int .i64 n,.slice oa re.length cap] 54)).heap.size=w.heap.size+1:=by simp
 clear hs hb1
 go_enter Tryz.func25,Tryz.ntmps25
 go_upto_region 1 with fail
 obtain⟨W1,hW1⟩: ∃W,w.alloc (.cells #[.int .i8 k,.int .i64 n,.slice oa re.length cap] 54)=W:=⟨_,rfl⟩
 rw[hW1]at HA HB1 hsz HS1 ⊢
 have HA2:=Lib.hid (HA.out.below ((Below.refl _ _).alloc (Nat.le_refl _) (.cells #[.int .i8 0,.int .i64 0,.slice none 0 0] 54)))
 have HZ:=Lib.hid (AdB.new W1 (.int .i8 0) (.int .i64 0) (.slice none 0 0))
 have HB2:=Lib.hid (HB1.out.alloc HB1.out.size (.cells #[.int .i8 0,.int .i64 0,.slice none 0 0] 54))
 have HS2:=Lib.hid (HS1.out.below ((Below.refl _ _).alloc (Nat.le_refl _) (.cells #[.int .i8 0,.int .i64 0,.slice none 0 0] 54)))
 have hsz2:(W1.alloc (.cells #[.int .i8 0,.int .i64 0,.slice none 0 0] 54)).heap.size=w.heap.size+1+1:=by simp[hsz]
 obtain⟨W2,hW2⟩: ∃W,W1.alloc (.cells #[.int .i8 0,.int .i64 0,.slice none 0 0] 54)=W:=⟨_,rfl⟩
 rw[hW2]at HA2 HZ HB2 HS2 hsz2 ⊢
 rw[hsz]at HZ
 clear hW1 hW2 HA HB1 HS1
 have k0:=HA2.out.c0
 have k1:=HA2.out.c1
 have k2:=HA2.out.c2
 have HX:=Lib.hid (wideNodesU (cap:=cap) HS2.out (by omega))
 go_wp2_with fail
 refine HX.out.mono ?_;rintro e w3 ⟨⟨g3,rfl,hn3⟩,hb3⟩
 have HA3:=Lib.hid (HA2.out.below hb3)
 have HZ3:=Lib.hid (HZ.out.below hb3)
 have HB3:=Lib.hid (HB2.out.trans (hb3.mono HB2.out.size))
 have HN3:Hid (WideN w3 (w.heap.size+1+1) g3 re.length re):=Lib.hid ⟨rfl,by rw[←hsz2];exact hn3⟩
 clear hb3 hn3 k0 k1 k2 HX HA2 HZ HB2 HS2
 have k0:=HA3.out.c0
 have k1:=HA3.out.c1
 have k2:=HA3.out.c2
 have f0:=HA3.out.fz
 have z0:=HZ3.out.c0
 have z1:=HZ3.out.c1
 have z2:=HZ3.out.c2
 have g0:=HZ3.out.fz
 have hne: ¬w.heap.size+1=w.heap.size:=by omega
 go_wp2_with fail
 refine ret_cell3 (p:=2) (b:=w.heap.size+1) rfl rfl rfl ((HZ3.out.other (by omega) _ _).set (.int .i8 k) (.int .i64 n) (.slice (some ⟨g3,0,none⟩) re.length (re.length+64))) ⟨⟨g3,rfl,?_⟩,?_⟩
 ·exact((((HN3.out.other (by omega) _ _).other (by omega) _ _).other (by omega) _ _).other (by omega) _ _).mono (by omega)
 ·exact(((HB3.out.setCell (Nat.le_refl _) _).setCell (by show w.heap.size≤w.heap.size+1;omega) _).setCell (by show w.heap.size≤w.heap.size+1;omega) _).setCell (by show w.heap.size≤w.heap.size+1;omega) _
end
end Go.Proofs.YtfjbnpdffillbaaGreatDoor
