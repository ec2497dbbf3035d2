/- Parts: Gua Hb Hc Hd He Hf. -/
import Derived.Test.YtfcemodgopdkkaaGreatDoorQ8
import Derived.Test.YtfcemodgopdkkaaGreatDoorQ9
import Derived.Test.YtfcemodgopdkkaaGreatDoorQ3
set_option maxHeartbeats 3200000
set_option maxRecDepth 100000
namespace Go.Proofs.YtfcemodgopdkkaaGreatDoor
section
open Go.RowKit
theorem zLh:ElT Tryz.prog 67 73 2 32 (.agg #[.int .i64 0,.slice none 0 0]):=⟨Tryz.underlying67,by kernel_rfl,rfl,by decide⟩
def BtU (w:World) (ob:Option Addr) (len cap:Nat):Prop:= ∃T:List Nat,T.length=len∧Src w (.slice ob len cap) len (u8s T)∧len≤140737488355328∧ ∀b∈T,b<256
structure PcW (w:World) (oa:Option Addr) (n:Nat):Prop where
 z:n*32≤140737488355328
 at_:0<n→ ∃nb no,oa=some ⟨nb,no,none⟩∧nb<w.heap.size∧ ∀i,i<n→ ∃g ob lb cb,w.cell? ⟨nb,no+i*2,none⟩=some (.int .i64 g)∧w.cell? ⟨nb,no+i*2+1,none⟩=some (.slice ob lb cb)∧BtU w ob lb cb
section
variable {w w':World} {oa:Option Addr} {n cap:Nat}
theorem BtU.below {len:Nat} (h:BtU w oa len cap) (hb:Below w.heap.size w w'):BtU w' oa len cap:=by
 obtain⟨T,h1,h2,h3⟩:=h
 exact⟨T,h1,Src.below h2 hb,h3⟩
theorem PcW.below (h:PcW w oa n) (hb:Below w.heap.size w w'):PcW w' oa n:=⟨h.z,fun hp=>by
 obtain⟨nb,no,h1,h2,h3⟩:=h.at_ hp
 refine⟨nb,no,h1,zMB h2 hb.size,fun i hi=>?_⟩
 obtain⟨g,ob,lb,cb,e1,e2,e3⟩:=h3 i hi
 exact⟨g,ob,lb,cb,(hb.cell (p:=⟨nb,no+i*2,none⟩) h2).trans e1,(hb.cell (p:=⟨nb,no+i*2+1,none⟩) h2).trans e2,e3.below hb⟩⟩
structure PcB (w:World) (b:Nat) (k v:Value):Prop where
 lt:b<w.heap.size
 c0:w.cell? ⟨b,0,none⟩=some k
 c1:w.cell? ⟨b,1,none⟩=some v
 fz: ∀o,w.frozen? ⟨b,o,none⟩=false
theorem PcB.below {b:Nat} {k v:Value} (h:PcB w b k v) (hb:Below w.heap.size w w'):PcB w' b k v:=
 ⟨zMB h.lt hb.size,(hb.cell (p:=⟨b,0,none⟩) h.lt).trans h.c0,(hb.cell (p:=⟨b,1,none⟩) h.lt).trans h.c1,fun o=>(zMD (w:=w) (a:=⟨b,o,none⟩) (hb.block b h.lt)).trans (h.fz o)⟩
theorem PcB.new (w:World) (k v:Value):PcB (w.alloc (.cells #[k,v] 73)) w.heap.size k v:=
 have hB:(w.alloc (.cells #[k,v] 73)).heap[w.heap.size]?=some (.cells #[k,v] 73 (0,0)):=zML w _
 ⟨by simp,(zMN _ _ 0 _ _ (0,0) hB).trans rfl,(zMN _ _ 1 _ _ (0,0) hB).trans rfl,fun o=>zAm hB o⟩
theorem zEr {fn:Func} {p:Tmp} (hf:fn.results= #[.cell p 73]) {Q:Ending→World→Prop} {a:Act} {w:World} {b:Nat} {len cp:Nat} {kk:Int} (hp:a.tmps.getD p undef= .pointer (some ⟨b,0,none⟩)) (hd:a.defers=[])
  (c0:w.cell? ⟨b,0,none⟩=some (.int .i64 kk)) (c1:w.cell? ⟨b,1,none⟩=some (.slice oa len cp)) (hQ:Q (.returned (.agg #[.int .i64 kk,.slice oa len cp])) w):bodyPost Tryz.prog fn Q .ret a w:=by
 refine zMi (v:= .agg #[.int .i64 kk,.slice oa len cp]) ?_ hd hQ
 rw[zBC hf,hp]
 simp[asAddr,go_sem,c0,c1,Result.andThen]
end
end
section
open Go.RowKit
theorem zL0:ElT Tryz.prog 46 5 1 1 (.int .u8 0):=⟨Tryz.underlying46,by kernel_rfl,rfl,by decide⟩
def BtM (w:World) (oa:Option Addr) (T:List Nat):Prop:=0<T.length→ ∃g o,oa=some ⟨g,o,none⟩∧g<w.heap.size∧ ∀i b,T[i]?=some b→w.cell? ⟨g,o+i,none⟩=some (.int .u8 (b:Nat))
theorem BtM.below {w w':World} {oa:Option Addr} {T:List Nat} (h:BtM w oa T) (hb:Below w.heap.size w w'):BtM w' oa T:=fun hp=>by
 obtain⟨g,o,h1,h2,h3⟩:=h hp
 exact⟨g,o,h1,zMB h2 hb.size,fun i b hi=>(hb.cell (p:=⟨g,o+i,none⟩) h2).trans (h3 i b hi)⟩
theorem BtM.of_src {w:World} {oa:Option Addr} {c n:Nat} {T:List Nat} (h:Src w (.slice oa n c) n (u8s T)):BtM w oa T:=by
 intro hp
 rcases h with ⟨_,_,h3⟩|⟨a,c',h1,h2⟩
 ·have:T=[]:=by simpa [u8s]using h3
  rw[this]at hp
  simp at hp
 ·injection h1 with h1
  subst h1
  obtain⟨g,o,s⟩:=a
  have hc: ∀i b,T[i]?=some b→w.cell? (Addr.add ⟨g,o,s⟩ i)=some (.int .u8 (b:Nat)):=fun i b hi=>h2 i _ (by simp[u8s,hi])
  have k0:=hc 0 _ (zMP hp)
  have hs:s=none:=by simpa [Addr.add]using World.cell?_spot k0
  subst hs
  have hc2: ∀i b,T[i]?=some b→w.cell? ⟨g,o+i,none⟩=some (.int .u8 (b:Nat)):=fun i b hi=>by rw[←Addr.add_mid];exact hc i b hi
  exact⟨g,o,rfl,zMf w _ (hc2 0 _ (zMP hp)),hc2⟩
def zGE (i:Nat):Nat:=(279+7*i+3) % 256
def zBB (n:Nat):List Nat:=(List.range 64).map fun k=>zGE (n+k)
theorem zCJ (n:Nat):(zBB n).length=64:=by simp[zBB]
theorem zDs (i:Nat):((zGE i:Nat):Int)=(279+7*(i:Int)+3) % 256:=by simp only[zGE];omega
theorem zGW {L:List Nat} {n:Nat} (hn:L.length=n) {d:Nat} (h1:n≤d) (h2:d<n+64):(L++zBB n)[d]?=some (zGE d):=by
 rw[zMU (by omega),zBB,List.getElem?_map,List.getElem?_range (by omega),Option.map_some,hn,show n+(d - n)=d by omega]
def zAt (w:World) (base g n:Nat) (T:List Nat):Prop:=T.length=n∧w.ownsRow base 5 1 (.slice (some ⟨g,0,none⟩) (n+64) (n+64)) (n+64) (u8s (T++zBB n))
section
variable {w w':World} {base g n:Nat} {T:List Nat}
theorem zAt.lt (h:zAt w base g n T):base≤g∧g<w.heap.size:=World.ownsRow.lt h.2 g rfl
theorem zAt.block (h:zAt w base g n T) (hb:w'.heap[g]?=w.heap[g]?):zAt w' base g n T:=⟨h.1,zAK h.2 fun k hk=>by cases hk;exact hb⟩
theorem zAt.below (h:zAt w base g n T) (hb:Below w.heap.size w w'):zAt w' base g n T:=h.block (hb.block g h.lt.2)
theorem zAt.at_ (h:zAt w base g n T) {d b:Nat} (hd:(T++zBB n)[d]?=some b):w.cell? ⟨g,d,none⟩=some (.int .u8 (b:Nat)):=by
 have hl:=(zMF.1 hd).1
 rw[zMS,zCJ,h.1]at hl
 rw[zMX h.2 d (by omega)]
 simp only[u8s,List.getElem?_map,hd,Option.map_some]
theorem zAt.btM (h:zAt w base g n T):BtM w (some ⟨g,0,none⟩) T:=fun _=>⟨g,0,rfl,h.lt.2,fun i b hi=>by
 rw[Nat.zero_add]
 exact h.at_ (by rw[zMT (zMF.1 hi).1,hi])⟩
theorem zCZ {l:List Nat} {d b:Nat} (hm:l[d]?=some b):(u8s l).take (d+1)=(u8s l).take d++[.int .u8 (b:Nat)]:=by
 rw[List.take_add_one]
 simp only[u8s,List.getElem?_map,hm,Option.map_some,Option.toList_some]
theorem zCn {oa:Option Addr} {cap:Nat} (hv:BtM w oa T) (hl:T.length≤140737488355328):
  Calls Tryz.prog 101 #[.slice oa T.length cap] w fun e w'=>(∃g,e= .returned (.slice (some ⟨g,0,none⟩) T.length (T.length+64))∧zAt w' w.heap.size g T.length T)∧Below w.heap.size w w':=by
 have HV:=zL8 hv
 have HL:=zL8 hl
 have hl1:(T.length:Int)≤140737488355328:=by omega
 have HF:=zL8 (show(T++zBB T.length).length=T.length+64 by rw[zMS,zCJ])
 clear hv hl
 obtain⟨i0,hi,hz0,hz1,hz2⟩:=info_parts (zL0).hi
 go_enter Tryz.func101,Tryz.ntmps101
 go_wp2_with (at_make;refine wpList_make_full _ rfl _ _ 46 rfl w.heap.size 5 i0 _ 1 Tryz.underlying46 hi hz0 hz1 .i64 .i64 ((T.length:Int)+64) ((T.length:Int)+64) (T.length+64) rfl rfl (by omega) (by omega) (by rw[hz2];have:=HL.out;omega) (by unfold maxLen;have:=HL.out;omega) (Nat.le_refl _) ?_)
 intro w1 hown hgr
 have HO1:=zL8 hown
 have HB1:=zL8 ((zL9 w.heap.size w).grown hgr (zMA _) (fun k hk=>by cases hk))
 have hg1:w.heap.size<w1.heap.size:=(hown.lt _ rfl).2
 clear hown hgr hi hz0 hz1 hz2
 go_wp2_with fail
 go_loopg [4] (T.length+64) (fun n iv wr=> ∃(d:Nat) (xs:List Value),iv= .int .i64 (d:Nat)∧n=T.length+64 - d∧d≤T.length+64∧wr.ownsRow w.heap.size 5 1 (.slice (some ⟨w.heap.size,0,none⟩) (T.length+64) (T.length+64)) (T.length+64) xs∧xs.take d=(u8s (T++zBB T.length)).take d∧Below w.heap.size w wr)
 case atStart=>exact⟨0,_,rfl,by omega,by omega,HO1.out,by simp,HB1.out⟩
 case round=>
  obtain⟨d,xs,rfl,hg2,hd,ho,ht,hb⟩:=hrel
  have HG:=zL8 hg2
  have HO:=zL8 ho
  have HT:=zL8 ht
  have HB:=zL8 hb
  have hgw:w.heap.size<wr.heap.size:=(ho.lt _ rfl).2
  clear hg2 ht hb
  by_cases hlt:d<T.length+64
  ·have hlt':(d:Int)<(T.length:Int)+64:=by omega
   obtain⟨_,g',hg',_,hcs,hfz⟩:=zAZ ho (by omega)
   cases hg'
   obtain⟨u0,_,z0⟩:=hcs d (by omega)
   have f0:=hfz d
   have HXL:=zL8 (show xs.length=(T.length+64)*1 from ho.1)
   clear ho hcs hfz
   by_cases hin:d<T.length
   ·have hin':(d:Int)<(T.length:Int):=by omega
    obtain⟨mb,mo,hoa,hml,hmc⟩:=(HV.out.below HB.out) (by omega)
    obtain⟨b,hbd⟩: ∃b,T[d]?=some b:=⟨_,zMP hin⟩
    have y0:=hmc d b hbd
    have HX:=zL8 (show(T++zBB T.length)[d]?=some b by rw[zMT hin,hbd])
    have HR:=zL8 (zDI [.int .u8 (b:Nat)] d HO.out)
    have HTT:=zL8 (zCO [.int .u8 (b:Nat)] xs d (by rw[HXL.out];simp;omega))
    subst hoa
    clear hmc hbd
    go_wp2_with fail
    go_roundg (T.length+64 - (d+1))
    case measure=>have:=HG.out;omega
    case rel=>exact⟨d+1,_,by go_num,rfl,by omega,HR.out,by rw[zCZ HX.out,←HT.out,←HTT.out];rfl,HB.out.trans ((zL9 w.heap.size wr).setCell (p:=⟨w.heap.size,d,none⟩) (zMA _) _)⟩
   ·have hin': ¬(d:Int)<(T.length:Int):=by omega
    have HX:=zL8 (zGW (L:=T) rfl (Nat.le_of_not_lt hin) hlt)
    have HR:=zL8 (zDI [.int .u8 ((279+7*(d:Int)+3) % 256)] d HO.out)
    have HTT:=zL8 (zCO [.int .u8 ((279+7*(d:Int)+3) % 256)] xs d (by rw[HXL.out];simp;omega))
    go_wp2_with fail
    go_roundg (T.length+64 - (d+1))
    case measure=>have:=HG.out;omega
    case rel=>exact⟨d+1,_,by go_num,rfl,by omega,HR.out,by rw[zCZ HX.out,←HT.out,zDs,←HTT.out];rfl,HB.out.trans ((zL9 w.heap.size wr).setCell (p:=⟨w.heap.size,d,none⟩) (zMA _) _)⟩
  ·have hlt': ¬(d:Int)<(T.length:Int)+64:=by omega
   have hde:d=T.length+64:=by omega
   subst hde
   have hfin:zAt wr w.heap.size w.heap.size T.length T:=by
    refine⟨rfl,?_⟩
    have h1:=HT.out
    rw[List.take_of_length_le (by rw[ho.1];omega),List.take_of_length_le (by rw[u8s,List.length_map,HF.out];exact zMA _)]at h1
    rw[←h1]
    exact ho
   have HFin:=zL8 hfin
   clear ho hfin
   go_wp2_with fail
   go_ret
   exact⟨⟨_,rfl,HFin.out⟩,HB.out⟩
theorem zDJ (h:zAt w base g n T) (hb:n≤140737488355328):
  Calls Tryz.prog 138 #[.slice (some ⟨g,0,none⟩) n (n+64)] w fun e w'=>e= .returned (.bool true)∧w=w':=by
 have H:=zL8 h
 have hgw:g<w.heap.size:=h.lt.2
 clear h
 go_enter Tryz.func138,Tryz.ntmps138
 go_wp2_with fail
 go_loopg [4] 64 (fun m iv wr=> ∃d:Nat,iv= .int .i64 (d:Int)∧m=n+64 - d∧n≤d∧d≤n+64∧w=wr)
 case atStart=>exact⟨n,rfl,by omega,by omega,by omega,rfl⟩
 case round=>
  obtain⟨d,rfl,hg,hd,hd2,rfl⟩:=hrel
  have HG:=zL8 hg
  clear hg
  by_cases hlt:d<n+64
  ·have hlt':(d:Int)<(n:Int)+64:=by omega
   have z0:=H.out.at_ (zGW H.out.1 hd hlt)
   rw[zDs]at z0
   go_wp2_with fail
   go_roundg (n+64 - (d+1))
   case measure=>have:=HG.out;omega
   case rel=>exact⟨d+1,by go_num,rfl,by omega,by omega,rfl⟩
  ·have hlt': ¬(d:Int)<(n:Int)+64:=by omega
   go_wp2_with fail
   go_ret
   exact⟨rfl,rfl⟩
theorem zGa {oa ob:Option Addr} {ca cb:Nat} (ha:BtM w oa T) (hb:BtM w ob T) (z:T.length≤140737488355328):
  Calls Tryz.prog 52 #[.slice oa T.length ca,.slice ob T.length cb] w fun e w'=>e= .returned (.bool true)∧Below w.heap.size w w':=by
 have HA:=zL8 ha
 have HB:=zL8 hb
 have hz:(T.length:Int)≤140737488355328:=by omega
 clear ha hb z
 go_enter Tryz.func52,Tryz.ntmps52
 go_wp2_with fail
 go_loopg [5] T.length (fun n iv wr=> ∃d:Nat,iv= .int .i64 (d:Nat)∧n=T.length - d∧d≤T.length∧Below w.heap.size w wr)
 case atStart=>exact⟨0,rfl,by omega,by omega,zL9 _ _⟩
 case round=>
  obtain⟨d,rfl,hg,hd,hbe⟩:=hrel
  have HG:=zL8 hg
  have HBE:=zL8 hbe
  clear hg
  by_cases hlt:d<T.length
  ·have hlt':(d:Int)<(T.length:Int):=by omega
   obtain⟨na,oo,rfl,nal,hna⟩:=(HA.out.below hbe) (by omega)
   obtain⟨nb,ob',rfl,nbl,hnb⟩:=(HB.out.below hbe) (by omega)
   obtain⟨x,hx⟩: ∃x,T[d]?=some x:=⟨_,zMP hlt⟩
   have n0:=hna d x hx
   have m0:=hnb d x hx
   have e1:((x:Int) !=(x:Int))=false:=by simp
   clear hna hnb hbe hx
   go_wp2_with fail
   refine zAA (X:=none) 9 [] [0,1,2,3,4,5,6,7,8] (by kernel_rfl) (by kernel_rfl) rfl (fun _ _ _ _ _ h=>h) ?_
   simp only[zAJ,zAC,zAD,zAB,List.getD_cons_zero,List.getD_cons_succ,List.drop_succ_cons,List.drop_nil]
   repeat (go_big_quiet_step (fail))
   refine wpQuiet_nil ?_
   go_wp2_with fail
   go_roundg (T.length - (d+1))
   case measure=>have:=HG.out;omega
   case rel=>exact⟨d+1,by go_num,rfl,by omega,HBE.out.drew⟩
  ·have hlt': ¬(d:Int)<(T.length:Int):=by omega
   clear hbe
   go_wp2_with fail
   go_ret
   exact⟨rfl,HBE.out⟩
end
end
section
open Go.RowKit
structure Pce where
 k:Int
 ob:Option Addr
 cb:Nat
 T:List Nat
structure PcO (w:World) (oa:Option Addr) (P:List Pce):Prop where
 z:P.length*32≤140737488355328
 at_:0<P.length→ ∃nb no,oa=some ⟨nb,no,none⟩∧nb<w.heap.size∧ ∀i p,P[i]?=some p→w.cell? ⟨nb,no+i*2,none⟩=some (.int .i64 p.k)∧w.cell? ⟨nb,no+i*2+1,none⟩=some (.slice p.ob p.T.length p.cb)∧BtM w p.ob p.T∧p.T.length≤140737488355328
theorem PcO.below {w w':World} {oa:Option Addr} {P:List Pce} (h:PcO w oa P) (hb:Below w.heap.size w w'):PcO w' oa P:=⟨h.z,fun hp=>by
 obtain⟨nb,no,h1,h2,h3⟩:=h.at_ hp
 refine⟨nb,no,h1,zMB h2 hb.size,fun i p hi=>?_⟩
 obtain⟨e1,e2,e3,e4⟩:=h3 i p hi
 exact⟨(hb.cell (p:=⟨nb,no+i*2,none⟩) h2).trans e1,(hb.cell (p:=⟨nb,no+i*2+1,none⟩) h2).trans e2,e3.below hb,e4⟩⟩
theorem zIV {α:Type} {n:Nat} {R:Nat→α→Prop} (h: ∀i,i<n→ ∃p,R i p): ∃L:List α,L.length=n∧ ∀i p,L[i]?=some p→R i p:=by
 refine⟨List.ofFn (fun i:Fin n=>Classical.choose (h i.1 i.2)),by simp,fun i p hp=>?_⟩
 have hi:i<n:=by simpa using (zMF.1 hp).1
 rw[List.getElem?_ofFn,dif_pos hi]at hp
 injection hp with hp
 rw[←hp]
 exact Classical.choose_spec (h i hi)
theorem PcO.of {w:World} {oa:Option Addr} {n:Nat} (h:PcW w oa n): ∃P:List Pce,P.length=n∧PcO w oa P:=by
 by_cases hn:0<n
 ·obtain⟨nb,no,h1,h2,h3⟩:=h.at_ hn
  obtain⟨P,hl,hP⟩:=zIV (R:=fun i (p:Pce)=>w.cell? ⟨nb,no+i*2,none⟩=some (.int .i64 p.k)∧w.cell? ⟨nb,no+i*2+1,none⟩=some (.slice p.ob p.T.length p.cb)∧BtM w p.ob p.T∧p.T.length≤140737488355328) (fun i hi=>by
   obtain⟨g,ob,lb,cb,e1,e2,T,rfl,e3,e4,_⟩:=h3 i hi
   exact⟨⟨g,ob,cb,T⟩,e1,e2,BtM.of_src e3,e4⟩)
  exact⟨P,hl,by rw[hl];exact h.z,fun _=>⟨nb,no,h1,h2,hP⟩⟩
 ·exact⟨[],by simp;omega,by simp,fun h=>absurd h (by simp)⟩
def zBq (w:World) (g i:Nat) (p:Pce) (q:Nat):Prop:=w.cell? ⟨g,i*2,none⟩=some (.int .i64 p.k)∧w.cell? ⟨g,i*2+1,none⟩=some (.slice (some ⟨q,0,none⟩) p.T.length (p.T.length+64))
def zBu (w:World) (g i:Nat):Prop:=w.cell? ⟨g,i*2,none⟩=some (.int .i64 (9437184+(i:Int)+1))∧w.cell? ⟨g,i*2+1,none⟩=some (.slice none 0 0)
structure zBd (w:World) (base g n:Nat) (P:List Pce):Prop where
 len:P.length=n
 lo:base≤g
 lt:g<w.heap.size
 at_: ∀i p,P[i]?=some p→p.T.length≤140737488355328∧ ∃q,zBq w g i p q∧zAt w base q p.T.length p.T
 sp: ∀i,n≤i→i<n+64→zBu w g i
section
variable {w w':World} {base g n:Nat} {P:List Pce}
theorem zBq.block {i q:Nat} {p:Pce} (h:zBq w g i p q) (hb:w'.heap[g]?=w.heap[g]?):zBq w' g i p q:=
 ⟨(zMC (w:=w) (a:=⟨g,i*2,none⟩) hb).trans h.1,(zMC (w:=w) (a:=⟨g,i*2+1,none⟩) hb).trans h.2⟩
theorem zBu.block {i:Nat} (h:zBu w g i) (hb:w'.heap[g]?=w.heap[g]?):zBu w' g i:=
 ⟨(zMC (w:=w) (a:=⟨g,i*2,none⟩) hb).trans h.1,(zMC (w:=w) (a:=⟨g,i*2+1,none⟩) hb).trans h.2⟩
theorem zBd.block (h:zBd w base g n P) {hi:Nat} (hs:w.heap.size≤hi) (hb: ∀k,base≤k→k<hi→w'.heap[k]?=w.heap[k]?) (hz:w.heap.size≤w'.heap.size):zBd w' base g n P:=
 have hg:w'.heap[g]?=w.heap[g]?:=hb g h.lo (zMB h.lt hs)
 ⟨h.len,h.lo,zMB h.lt hz,fun i p hp=>by
  obtain⟨hl,q,h1,h2⟩:=h.at_ i p hp
  exact⟨hl,q,h1.block hg,h2.block (hb q h2.lt.1 (zMB h2.lt.2 hs))⟩,fun i h1 h2=>(h.sp i h1 h2).block hg⟩
theorem zBd.below (h:zBd w base g n P) (hb:Below w.heap.size w w'):zBd w' base g n P:=h.block (zMA _) (fun k _ hk=>hb.block k hk) hb.size
theorem zGj {oa:Option Addr} {cap:Nat} {T:List Nat} (g:Int) (h:BtM w oa T) (hl:T.length≤140737488355328):
  Calls Tryz.prog 144 #[.agg #[.int .i64 g,.slice oa T.length cap]] w fun e w'=>(∃q,e= .returned (.agg #[.int .i64 g,.slice (some ⟨q,0,none⟩) T.length (T.length+64)])∧zAt w' w.heap.size q T.length T)∧Below w.heap.size w w':=by
 have hb1:=((zL9 w.heap.size w).alloc (zMA _) (.cells #[.int .i64 g,.slice oa T.length cap] 73)).alloc (by simp) (.cells #[.int .i64 0,.slice none 0 0] 73)
 have HS:=zL8 ((h.below hb1).below ((zL9 _ _).drew))
 have HB:=zL8 hb1
 have HP:=zL8 ((PcB.new w (.int .i64 g) (.slice oa T.length cap)).below ((zL9 _ _).alloc (zMA _) (.cells #[.int .i64 0,.slice none 0 0] 73)))
 have HZ:=zL8 (PcB.new (w.alloc (.cells #[.int .i64 g,.slice oa T.length cap] 73)) (.int .i64 0) (.slice none 0 0))
 have hsz:(w.alloc (.cells #[.int .i64 g,.slice oa T.length cap] 73)).heap.size=w.heap.size+1:=by simp
 rw[hsz]at HZ
 have HSZ:Hid (((w.alloc (.cells #[.int .i64 g,.slice oa T.length cap] 73)).alloc (.cells #[.int .i64 0,.slice none 0 0] 73)).heap.size=w.heap.size+2):=zL8 (by simp)
 clear h hb1 hsz
 go_enter Tryz.func144,Tryz.ntmps144
 go_upto_region 1 with fail
 obtain⟨W,hW⟩: ∃W,(w.alloc (.cells #[.int .i64 g,.slice oa T.length cap] 73)).alloc (.cells #[.int .i64 0,.slice none 0 0] 73)=W:=⟨_,rfl⟩
 rw[hW]at HS HB HP HZ HSZ ⊢
 clear hW
 have p0:=HP.out.c0
 have p1:=HP.out.c1
 have pl:=HP.out.lt
 refine zAA (X:=none) 6 [([0,1,2,3],4)] [5] (by kernel_rfl) (by kernel_rfl) rfl (fun _ _ _ _ _ h=>h) ?_
 simp only[zAJ,zAC,zAG,zAD,zAB,List.getD_cons_zero,List.getD_cons_succ,List.drop_succ_cons,List.drop_zero]
 repeat (go_big_quiet_step (fail))
 refine wpQuiet_nil ?_
 go_wp2_with fail
 refine(zCn HS.out hl).mono ?_
 rintro e w2 ⟨⟨q,rfl,hn2⟩,hb2⟩
 have HP2:=zL8 ((HP.out.below ((zL9 _ _).drew)).below hb2)
 have HZ2:=zL8 ((HZ.out.below ((zL9 _ _).drew)).below hb2)
 have HB2:=zL8 (HB.out.drew.trans (hb2.mono (by have:=HB.out.size;show w.heap.size≤W.heap.size;omega)))
 have HK:=zL8 hb2
 have HN:=zL8 hn2
 have HQ:Hid (w.heap.size+1<q):=zL8 (by have h1:=hn2.lt.1;have h2:=HSZ.out;have h3:W.heap.size≤q:=h1;omega)
 clear p0 p1 pl hb2 hn2
 have p0:=HP2.out.c0
 have p1:=HP2.out.c1
 have z0:=HZ2.out.c0
 have z1:=HZ2.out.c1
 have zl:=HZ2.out.lt
 have zf:=HZ2.out.fz
 go_wp2_with fail
 refine⟨zAP.of_below HK.out,?_⟩
 repeat (go_big_quiet_step (fail))
 refine wpQuiet_nil ?_
 go_wp2_with fail
 refine zEr (p:=2) (b:=w.heap.size+1) (oa:=some ⟨q,0,none⟩) (len:=T.length) (cp:=T.length+64) (kk:=g) rfl rfl rfl ?_ ?_ ⟨⟨q,rfl,?_⟩,?_⟩
 ·exact(zAF _ _ _ _ _ (by decide)).trans (zMR _ _ _ z0)
 ·exact zMR _ _ _ ((zAF _ _ _ _ _ (by decide)).trans z1)
 ·have hq:=HQ.out
  have h1:=HN.out.block (w':=w2.setCell ⟨w.heap.size+1,0,none⟩ (.int .i64 g)) (zMI _ _ _ _ (by show q≠w.heap.size+1;omega))
  have h2:=h1.block (w':=(w2.setCell ⟨w.heap.size+1,0,none⟩ (.int .i64 g)).setCell ⟨w.heap.size+1,1,none⟩ (.slice (some ⟨q,0,none⟩) T.length (T.length+64))) (zMI _ _ _ _ (by show q≠w.heap.size+1;omega))
  exact⟨h2.1,zAH h2.2 (by have:=HSZ.out;show w.heap.size≤W.heap.size;omega)⟩
 ·exact(HB2.out.setCell (by show w.heap.size≤w.heap.size+1;omega) _).setCell (by show w.heap.size≤w.heap.size+1;omega) _
end
end
section
open Go.RowKit
section
variable {w w':World} {base g n:Nat} {P:List Pce}
theorem zBq.store {i q d:Nat} {p:Pce} (h:zBq w g i p q) (hi:i≠d) (a b:Value):zBq ((w.setCell ⟨g,d*2,none⟩ a).setCell ⟨g,d*2+1,none⟩ b) g i p q:=
 ⟨(zAF _ _ _ _ _ (by omega)).trans ((zAF _ _ _ _ _ (by omega)).trans h.1),(zAF _ _ _ _ _ (by omega)).trans ((zAF _ _ _ _ _ (by omega)).trans h.2)⟩
theorem zBu.store {i d:Nat} (h:zBu w g i) (hi:i≠d) (a b:Value):zBu ((w.setCell ⟨g,d*2,none⟩ a).setCell ⟨g,d*2+1,none⟩ b) g i:=
 ⟨(zAF _ _ _ _ _ (by omega)).trans ((zAF _ _ _ _ _ (by omega)).trans h.1),(zAF _ _ _ _ _ (by omega)).trans ((zAF _ _ _ _ _ (by omega)).trans h.2)⟩
theorem zJo {d:Nat} {u v a b:Value} (h1:w.cell? ⟨g,d*2,none⟩=some u) (h2:w.cell? ⟨g,d*2+1,none⟩=some v):
  ((w.setCell ⟨g,d*2,none⟩ a).setCell ⟨g,d*2+1,none⟩ b).cell? ⟨g,d*2,none⟩=some a∧((w.setCell ⟨g,d*2,none⟩ a).setCell ⟨g,d*2+1,none⟩ b).cell? ⟨g,d*2+1,none⟩=some b:=
 ⟨(zAF _ _ _ _ _ (by omega)).trans (zMR _ _ _ h1),zMR _ _ _ ((zAF _ _ _ _ _ (by omega)).trans h2)⟩
structure PSo (w:World) (base n d:Nat) (P:List Pce):Prop where
 at_: ∀i p,i<d→P[i]?=some p→p.T.length≤140737488355328∧ ∃q,zBq w base i p q∧zAt w (base+1) q p.T.length p.T
 sp: ∀i,i<d→n≤i→zBu w base i
theorem PSo.below {d:Nat} (h:PSo w base n d P) (hg:base<w.heap.size) (hb:Below w.heap.size w w'):PSo w' base n d P:=
 ⟨fun i p hi hp=>by
  obtain⟨hl,q,h1,h2⟩:=h.at_ i p hi hp
  exact⟨hl,q,h1.block (hb.block _ hg),h2.below hb⟩,fun i hi hn=>(h.sp i hi hn).block (hb.block _ hg)⟩
theorem PSo.store {d:Nat} (h:PSo w base n d P) (a b:Value) (h1: ∀p,P[d]?=some p→p.T.length≤140737488355328∧ ∃q,zBq ((w.setCell ⟨base,d*2,none⟩ a).setCell ⟨base,d*2+1,none⟩ b) base d p q∧zAt w (base+1) q p.T.length p.T)
  (h2:n≤d→zBu ((w.setCell ⟨base,d*2,none⟩ a).setCell ⟨base,d*2+1,none⟩ b) base d):PSo ((w.setCell ⟨base,d*2,none⟩ a).setCell ⟨base,d*2+1,none⟩ b) base n (d+1) P:=by
 have hst: ∀ {q m:Nat} {T:List Nat},zAt w (base+1) q m T→zAt ((w.setCell ⟨base,d*2,none⟩ a).setCell ⟨base,d*2+1,none⟩ b) (base+1) q m T:=fun h=>by
  have hq:=h.lt.1
  exact(h.block (zMI _ _ _ _ (by show _≠base;omega))).block (zMI _ _ _ _ (by show _≠base;omega))
 refine⟨fun i p hi hp=>?_,fun i hi hn=>?_⟩
 ·by_cases he:i=d
  ·subst he
   obtain⟨hl,q,e1,e2⟩:=h1 p hp
   exact⟨hl,q,e1,hst e2⟩
  ·obtain⟨hl,q,e1,e2⟩:=h.at_ i p (by omega) hp
   exact⟨hl,q,e1.store he a b,hst e2⟩
 ·by_cases he:i=d
  ·subst he;exact h2 hn
  ·exact(h.sp i (by omega) hn).store he a b
theorem zFQ {oa:Option Addr} {cap:Nat} (hv:PcO w oa P):
  Calls Tryz.prog 103 #[.slice oa P.length cap] w fun e w'=>(∃g,e= .returned (.slice (some ⟨g,0,none⟩) P.length (P.length+64))∧zBd w' w.heap.size g P.length P)∧Below w.heap.size w w':=by
 have HV:=zL8 hv
 have HZ:=zL8 hv.z
 have hl1:(P.length:Int)≤4398046511104:=by have:=hv.z;omega
 clear hv
 obtain⟨i0,hi,hz0,hz1,hz2⟩:=info_parts (zLh).hi
 go_enter Tryz.func103,Tryz.ntmps103
 go_wp2_with (at_make;refine wpList_make_full _ rfl _ _ 67 rfl w.heap.size 73 i0 _ 2 Tryz.underlying67 hi hz0 hz1 .i64 .i64 ((P.length:Int)+64) ((P.length:Int)+64) (P.length+64) rfl rfl (by omega) (by omega) (by rw[hz2];have:=HZ.out;omega) (by unfold maxLen;have:=HZ.out;omega) (Nat.le_refl _) ?_)
 intro w1 hown hgr
 have HO1:=zL8 hown
 have HB1:=zL8 ((zL9 w.heap.size w).grown hgr (zMA _) (fun k hk=>by cases hk))
 have hg1:w.heap.size<w1.heap.size:=(hown.lt _ rfl).2
 clear hown hgr hi hz0 hz1 hz2
 go_wp2_with fail
 go_loopg [4] (P.length+64) (fun n iv wr=> ∃(d:Nat) (xs:List Value),iv= .int .i64 (d:Nat)∧n=P.length+64 - d∧d≤P.length+64∧wr.ownsRow w.heap.size 73 2 (.slice (some ⟨w.heap.size,0,none⟩) (P.length+64) (P.length+64)) (P.length+64) xs∧PSo wr w.heap.size P.length d P∧Below w.heap.size w wr)
 case atStart=>exact⟨0,_,rfl,by omega,by omega,HO1.out,⟨fun i p hi=>absurd hi (by omega),fun i hi=>absurd hi (by omega)⟩,HB1.out⟩
 case round=>
  obtain⟨d,xs,rfl,hg2,hd,ho,hp,hb⟩:=hrel
  have HG:=zL8 hg2
  have HO:=zL8 ho
  have HP:=zL8 hp
  have HB:=zL8 hb
  have hgw:w.heap.size<wr.heap.size:=(ho.lt _ rfl).2
  clear hg2 hp hb
  by_cases hlt:d<P.length+64
  ·have hlt':(d:Int)<(P.length:Int)+64:=by omega
   by_cases hin:d<P.length
   ·have hin':(d:Int)<(P.length:Int):=by omega
    obtain⟨mb,mo,hoa,hml,hmc⟩:=(HV.out.below HB.out).at_ (by omega)
    obtain⟨p,hpd⟩: ∃p,P[d]?=some p:=⟨_,zMP hin⟩
    obtain⟨e1,e2,e3,e4⟩:=hmc d p hpd
    have HPD:=zL8 hpd
    have HE4:=zL8 e4
    have HE:=zL8 (zGj (cap:=p.cb) p.k e3 e4)
    subst hoa
    clear hmc hpd ho e3 e4
    go_wp2_with fail
    refine HE.out.mono ?_
    rintro e w2 ⟨⟨q,rfl,hq⟩,hb2⟩
    have HO2:=zL8 (zAK HO.out fun g hg=>hb2.block g (World.ownsRow.lt HO.out g hg).2)
    have HP2:=zL8 (HP.out.below hgw hb2)
    have HB2:=zL8 (HB.out.trans (hb2.mono HB.out.size))
    have HQ:Hid (zAt w2 (w.heap.size+1) q p.T.length p.T):=zL8 ⟨hq.1,zAH hq.2 (by omega)⟩
    have hg2:w.heap.size<w2.heap.size:=zMB hgw hb2.size
    obtain⟨_,g',hg',_,hcs,hfz⟩:=zAZ HO2.out (by omega)
    cases hg'
    obtain⟨u0,_,z0⟩:=hcs (d*2) (by omega)
    obtain⟨u1,_,z1⟩:=hcs (d*2+1) (by omega)
    have f0:=hfz (d*2)
    have f1:=hfz (d*2+1)
    have HR:=zL8 (zMW (zMW HO2.out (d*2) (.int .i64 p.k)).1 (d*2+1) (.slice (some ⟨q,0,none⟩) p.T.length (p.T.length+64))).1
    have HS:=zL8 (HP2.out.store (.int .i64 p.k) (.slice (some ⟨q,0,none⟩) p.T.length (p.T.length+64)) (fun p' hp'=>by
     rw[HPD.out]at hp'
     injection hp' with hp'
     subst hp'
     exact⟨HE4.out,q,zJo z0 z1,HQ.out⟩) (fun h=>absurd h (by omega)))
    clear hq hb2 hcs hfz e1 e2 hml hgw
    go_wp2_with fail
    go_roundg (P.length+64 - (d+1))
    case measure=>have:=HG.out;omega
    case rel=>exact⟨d+1,_,by go_num,rfl,by omega,HR.out,HS.out,HB2.out.trans (((zL9 w.heap.size w2).setCell (p:=⟨w.heap.size,d*2,none⟩) (zMA _) _).setCell (p:=⟨w.heap.size,d*2+1,none⟩) (zMA _) _)⟩
   ·have hin': ¬(d:Int)<(P.length:Int):=by omega
    obtain⟨_,g',hg',_,hcs,hfz⟩:=zAZ ho (by omega)
    cases hg'
    obtain⟨u0,_,z0⟩:=hcs (d*2) (by omega)
    obtain⟨u1,_,z1⟩:=hcs (d*2+1) (by omega)
    have f0:=hfz (d*2)
    have f1:=hfz (d*2+1)
    have HR:=zL8 (zMW (zMW HO.out (d*2) (.int .i64 (9437184+(d:Int)+1))).1 (d*2+1) (.slice none 0 0)).1
    have HS:=zL8 (HP.out.store (.int .i64 (9437184+(d:Int)+1)) (.slice none 0 0) (fun p' hp'=>absurd (zMF.1 hp').1 hin) (fun _=>zJo z0 z1))
    clear ho hcs hfz
    go_wp2_with fail
    refine(zBt 9 (d:Int) (by decide) (by decide) (by omega) (by omega)).mono ?_;rintro e w3 ⟨rfl,rfl⟩
    go_wp2_with fail
    go_roundg (P.length+64 - (d+1))
    case measure=>have:=HG.out;omega
    case rel=>exact⟨d+1,_,by go_num,rfl,by omega,HR.out,HS.out,HB.out.trans (((zL9 w.heap.size wr).setCell (p:=⟨w.heap.size,d*2,none⟩) (zMA _) _).setCell (p:=⟨w.heap.size,d*2+1,none⟩) (zMA _) _)⟩
  ·have hlt': ¬(d:Int)<(P.length:Int)+64:=by omega
   have hde:d=P.length+64:=by omega
   subst hde
   have hfin:zBd wr w.heap.size w.heap.size P.length P:=
    ⟨rfl,zMA _,hgw,fun i p hp=>by
     obtain⟨hl,q,e1,e2⟩:=HP.out.at_ i p (by have:=(zMF.1 hp).1;omega) hp
     exact⟨hl,q,e1,e2.1,zAH e2.2 (Nat.le_succ _)⟩,fun i h1 h2=>HP.out.sp i h2 h1⟩
   have HFin:=zL8 hfin
   clear ho hfin
   go_wp2_with fail
   go_ret
   exact⟨⟨_,rfl,HFin.out⟩,HB.out⟩
end
end
section
open Go.RowKit
section
variable {w w':World} {base g n:Nat} {P:List Pce}
theorem zEZ (h:zBd w base g n P) (hz:n*32≤140737488355328):
  Calls Tryz.prog 139 #[.slice (some ⟨g,0,none⟩) n (n+64)] w fun e w'=>e= .returned (.bool true)∧Below w.heap.size w w':=by
 have H:=zL8 h
 have hgw:g<w.heap.size:=h.lt
 have hn:(n:Int)≤4398046511104:=by omega
 have HNZ:=zL8 hz
 clear h hz
 go_enter Tryz.func139,Tryz.ntmps139
 go_wp2_with fail
 go_loopg [4] 64 (fun m iv wr=> ∃d:Nat,iv= .int .i64 (d:Int)∧m=n+64 - d∧n≤d∧d≤n+64∧Below w.heap.size w wr)
 case atStart=>exact⟨n,rfl,by omega,by omega,by omega,zL9 _ _⟩
 case round=>
  obtain⟨d,rfl,hg,hd,hd2,hb⟩:=hrel
  have HG:=zL8 hg
  have HB:=zL8 hb
  have hgr:g<wr.heap.size:=zMB hgw hb.size
  clear hg
  by_cases hlt:d<n+64
  ·have hlt':(d:Int)<(n:Int)+64:=by omega
   obtain⟨z0,z1⟩:=(H.out.below hb).sp d hd hlt
   have hdb:(d:Int)≤4398046511200:=by omega
   have hq:((9437184+(d:Int)+1)==(9437184+(d:Int)+1))=true:=beq_self_eq_true _
   clear hb
   go_wp2_with fail
   refine zAA (X:=none) 18 [([0,1,2,3,4,5],6)] [7,8,9,10,11,12,13,14,15,16,17] (by kernel_rfl) (by kernel_rfl) rfl (fun _ _ _ _ _ h=>h) ?_
   simp only[zAJ,zAC,zAG,zAD,zAB,List.getD_cons_zero,List.getD_cons_succ,List.drop_succ_cons,List.drop_nil]
   repeat (go_big_quiet_step (fail))
   refine wpQuiet_nil ?_
   go_wp2_with fail
   refine(zBt 9 (d:Int) (by decide) (by decide) (by omega) (by omega)).mono ?_;rintro e w3 ⟨rfl,rfl⟩
   go_wp2_with fail
   refine⟨zAP.refl _,?_⟩
   repeat (go_big_quiet_step (fail))
   refine wpQuiet_nil ?_
   go_wp2_with fail
   go_roundg (n+64 - (d+1))
   case measure=>have:=HG.out;omega
   case rel=>exact⟨d+1,by go_num,rfl,by omega,by omega,HB.out.drew⟩
  ·have hlt': ¬(d:Int)<(n:Int)+64:=by omega
   clear hb
   obtain⟨wo,hwo⟩: ∃v:World,v=wr:=⟨_,rfl⟩
   subst hwo
   go_wp2_with fail
   go_loopg [5] n (fun m iv wi=> ∃d:Nat,iv= .int .i64 (d:Int)∧m=n - d∧d≤n∧Below w.heap.size w wi)
   case atStart=>exact⟨0,rfl,by omega,by omega,HB.out⟩
   case round=>
    obtain⟨k,rfl,hg2,hk,hb2⟩:=hrel
    have HG2:=zL8 hg2
    have HB2:=zL8 hb2
    have hgi:g<wr.heap.size:=zMB hgw hb2.size
    clear hg2
    by_cases hlk:k<n
    ·have hlk':(k:Int)<(n:Int):=by omega
     obtain⟨p,hp⟩: ∃p,P[k]?=some p:=⟨_,zMP (by rw[H.out.len];exact hlk)⟩
     obtain⟨hl,q,⟨z0,z1⟩,hq⟩:=(H.out.below hb2).at_ k p hp
     have HS:=zL8 (zDJ hq hl)
     clear hp hq hb2
     go_wp2_with fail
     refine HS.out.mono ?_;rintro e w3 ⟨rfl,rfl⟩
     go_wp2_with fail
     go_roundg (n - (k+1))
     case measure=>have:=HG2.out;omega
     case rel=>exact⟨k+1,by go_num,rfl,by omega,HB2.out⟩
    ·have hlk': ¬(k:Int)<(n:Int):=by omega
     clear hb2
     go_wp2_with fail
     go_ret
     exact⟨rfl,HB2.out⟩
end
end
section
open Go.RowKit
theorem NdU.of_src {w:World} {oa:Option Addr} {c:Nat} {re:List Nd} (h:Src w (.slice oa re.length c) re.length (zBb re)):NdU w oa re:=by
 intro hp
 rcases h with ⟨_,h2,_⟩|⟨a,c',h1,h2⟩
 ·omega
 ·injection h1 with h1
  subst h1
  obtain⟨g,o,s⟩:=a
  have hc: ∀i,i<re.length→ ∀j,j<9→w.cell? (Addr.add ⟨g,o,s⟩ (i*9+j))=(zAY (re.getD i Nd.zero))[j]?:=fun i hi j hj=>by
   obtain⟨u,hu⟩: ∃u,(zAY (re.getD i Nd.zero))[j]?=some u:=by
    have:j=0∨j=1∨j=2∨j=3∨j=4∨j=5∨j=6∨j=7∨j=8:=by omega
    rcases this with rfl|rfl|rfl|rfl|rfl|rfl|rfl|rfl|rfl<;>exact⟨_,rfl⟩
   rw[hu]
   exact h2 _ _ (by rw[zBH re i j hi hj,hu])
  have k0:=hc 0 hp 0 (by decide)
  have hs:s=none:=by simpa [Addr.add]using World.cell?_spot k0
  subst hs
  have hc2: ∀i,i<re.length→ ∀j,j<9→w.cell? ⟨g,o+i*9+j,none⟩=(zAY (re.getD i Nd.zero))[j]?:=fun i hi j hj=>by
   rw[Nat.add_assoc,←Addr.add_mid];exact hc i hi j hj
  exact⟨g,o,rfl,zMf w _ (hc2 0 hp 0 (by decide)),hc2⟩
def zAy (w:World) (base g n:Nat) (re:List Nd):Prop:=re.length=n∧Nds w base (.slice (some ⟨g,0,none⟩) (n+64) (n+64)) (re++zA7 n)
section
variable {w w':World} {base g n:Nat} {re:List Nd} {T:List Nat} {P:List Pce}
theorem zAy.lt (h:zAy w base g n re):base≤g∧g<w.heap.size:=h.2.lt g rfl
theorem zAy.block (h:zAy w base g n re) (hb:w'.heap[g]?=w.heap[g]?):zAy w' base g n re:=⟨h.1,h.2.block fun k hk=>by cases hk;exact hb⟩
theorem zAy.below (h:zAy w base g n re) (hb:Below w.heap.size w w'):zAy w' base g n re:=h.block (hb.block g h.lt.2)
theorem zAy.other (h:zAy w base g n re) {b:Nat} (hb:b<base) (o:Nat) (v:Value):zAy (w.setCell ⟨b,o,none⟩ v) base g n re:=h.block (zMI _ _ _ _ (by have:=h.lt.1;show g≠b;omega))
theorem zAy.mono {base':Nat} (h:zAy w base g n re) (hb:base'≤base):zAy w base' g n re:=⟨h.1,h.2.mono hb⟩
theorem zAy.toU (h:zAy w base g n re):NdU w (some ⟨g,0,none⟩) re:=fun _=>⟨g,0,rfl,h.lt.2,fun i hi j hj=>by
 obtain⟨oa,cp,e1,hu⟩:=h.2.toU
 injection e1 with e1 e2 e3
 subst e1
 obtain⟨nb,no,e4,_,e5⟩:=hu (by rw[zMS];omega)
 injection e4 with e4
 injection e4 with e4 e6
 subst e4
 subst e6
 rw[e5 i (by rw[zMS];omega) j hj]
 simp only[List.getD_eq_getElem?_getD]
 rw[zMT hi]⟩
theorem zAy.src (h:zAy w base g n re):Src w (.slice (some ⟨g,0,none⟩) n (n+64)) n (zBb re):=by
 refine .inr ⟨_,_,rfl,fun j u hu=>?_⟩
 have hj:=(zMF.1 hu).1
 rw[zAi]at hj
 obtain⟨nb,no,e4,_,e5⟩:=h.toU (by omega)
 injection e4 with e4
 injection e4 with e4 e6
 subst e4
 subst e6
 have:=e5 (j / 9) (by omega) (j % 9) (by omega)
 rw[←zBH re (j / 9) (j % 9) (by omega) (by omega),show j / 9*9+j % 9=j by omega,hu,show 0+j / 9*9+j % 9=0+j by omega]at this
 rw[Addr.add_mid]
 exact this
theorem zAt.other (h:zAt w base g n T) {b:Nat} (hb:b<base) (o:Nat) (v:Value):zAt (w.setCell ⟨b,o,none⟩ v) base g n T:=h.block (zMI _ _ _ _ (by have:=h.lt.1;show g≠b;omega))
theorem zAt.mono {base':Nat} (h:zAt w base g n T) (hb:base'≤base):zAt w base' g n T:=⟨h.1,zAH h.2 hb⟩
theorem zBd.other (h:zBd w base g n P) {b:Nat} (hb:b<base) (o:Nat) (v:Value):zBd (w.setCell ⟨b,o,none⟩ v) base g n P:=
 h.block (zMA _) (fun k hk _=>zMI _ _ _ _ (by show k≠b;omega)) (by simp)
theorem zBd.mono {base':Nat} (h:zBd w base g n P) (hb:base'≤base):zBd w base' g n P:=
 ⟨h.len,zMV hb h.lo,h.lt,fun i p hp=>by
  obtain⟨hl,q,h1,h2⟩:=h.at_ i p hp
  exact⟨hl,q,h1,h2.mono hb⟩,h.sp⟩
theorem zEU {oa:Option Addr} {cap:Nat} (k n:Int) (hs:NdU w oa re) (hl:re.length*72≤140737488355328):
  Calls Tryz.prog 100 #[.agg #[.int .i8 k,.int .i64 n,.slice oa re.length cap]] w fun e w'=>
   (∃g,e= .returned (.agg #[.int .i8 k,.int .i64 n,.slice (some ⟨g,0,none⟩) re.length (re.length+64)])∧zAy w' w.heap.size g re.length re)∧Below w.heap.size w w':=by
 have HA:=zL8 (AdB.new w (.int .i8 k) (.int .i64 n) (.slice oa re.length cap))
 have hb1:=(zL9 w.heap.size w).alloc (zMA _) (.cells #[.int .i8 k,.int .i64 n,.slice oa re.length cap] 66)
 have HB1:=zL8 hb1
 have HS1:=zL8 (hs.below hb1)
 have hsz:(w.alloc (.cells #[.int .i8 k,.int .i64 n,.slice oa re.length cap] 66)).heap.size=w.heap.size+1:=by simp
 clear hs hb1
 go_enter Tryz.func100,Tryz.ntmps100
 go_upto_region 1 with fail
 obtain⟨W1,hW1⟩: ∃W,w.alloc (.cells #[.int .i8 k,.int .i64 n,.slice oa re.length cap] 66)=W:=⟨_,rfl⟩
 rw[hW1]at HA HB1 hsz HS1 ⊢
 have HA2:=zL8 (HA.out.below ((zL9 _ _).alloc (zMA _) (.cells #[.int .i8 0,.int .i64 0,.slice none 0 0] 66)))
 have HZ:=zL8 (AdB.new W1 (.int .i8 0) (.int .i64 0) (.slice none 0 0))
 have HB2:=zL8 (HB1.out.alloc HB1.out.size (.cells #[.int .i8 0,.int .i64 0,.slice none 0 0] 66))
 have HS2:=zL8 (HS1.out.below ((zL9 _ _).alloc (zMA _) (.cells #[.int .i8 0,.int .i64 0,.slice none 0 0] 66)))
 have hsz2:(W1.alloc (.cells #[.int .i8 0,.int .i64 0,.slice none 0 0] 66)).heap.size=w.heap.size+1+1:=by simp[hsz]
 obtain⟨W2,hW2⟩: ∃W,W1.alloc (.cells #[.int .i8 0,.int .i64 0,.slice none 0 0] 66)=W:=⟨_,rfl⟩
 rw[hW2]at HA2 HZ HB2 HS2 hsz2 ⊢
 rw[hsz]at HZ
 clear hW1 hW2 HA HB1 HS1
 have k0:=HA2.out.c0
 have k1:=HA2.out.c1
 have k2:=HA2.out.c2
 have HX:=zL8 (zDp (cap:=cap) HS2.out (by omega))
 go_wp2_with fail
 refine HX.out.mono ?_;rintro e w3 ⟨⟨g3,rfl,hn3⟩,hb3⟩
 have HA3:=zL8 (HA2.out.below hb3)
 have HZ3:=zL8 (HZ.out.below hb3)
 have HB3:=zL8 (HB2.out.trans (hb3.mono HB2.out.size))
 have HN3:Hid (zAy w3 (w.heap.size+1+1) g3 re.length re):=zL8 ⟨rfl,by rw[←hsz2];exact hn3⟩
 clear hb3 hn3 k0 k1 k2 HX HA2 HZ HB2 HS2
 have k0:=HA3.out.c0
 have k1:=HA3.out.c1
 have k2:=HA3.out.c2
 have f0:=HA3.out.fz
 have z0:=HZ3.out.c0
 have z1:=HZ3.out.c1
 have z2:=HZ3.out.c2
 have g0:=HZ3.out.fz
 have hne: ¬w.heap.size+1=w.heap.size:=by omega
 go_wp2_with fail
 refine zEt (p:=2) (b:=w.heap.size+1) rfl rfl rfl ((HZ3.out.other (by omega) _ _).set (.int .i8 k) (.int .i64 n) (.slice (some ⟨g3,0,none⟩) re.length (re.length+64))) ⟨⟨g3,rfl,?_⟩,?_⟩
 ·exact((((HN3.out.other (by omega) _ _).other (by omega) _ _).other (by omega) _ _).other (by omega) _ _).mono (by omega)
 ·exact(((HB3.out.setCell (zMA _) _).setCell (by show w.heap.size≤w.heap.size+1;omega) _).setCell (by show w.heap.size≤w.heap.size+1;omega) _).setCell (by show w.heap.size≤w.heap.size+1;omega) _
end
end
end Go.Proofs.YtfcemodgopdkkaaGreatDoor
