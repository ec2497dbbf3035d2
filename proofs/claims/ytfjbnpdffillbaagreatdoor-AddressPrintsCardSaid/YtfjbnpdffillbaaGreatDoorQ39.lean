/- Parts: Id Hb Hf. -/
import Derived.Test.YtfjbnpdffillbaaGreatDoorQ38
import Derived.Test.YtfjbnpdffillbaaGreatDoorQ6
import Derived.Test.YtfjbnpdffillbaaGreatDoorQ27
namespace Go.Proofs.YtfjbnpdffillbaaGreatDoor
open Go.RowKit
section
variable {w:World} {oa:Option Addr} {cap:Nat} {re:List Nd}
theorem printA_rightM {ere:Bool} {a:Ad} (h:rightA a=true):printA ere a=if a.kind=0 then .ok []else if a.kind=1 then .ok (itoB a.n)else if a.kind=2 then .ok [36]else betweenA ere a.re:=by
 unfold printA
 rw[if_neg (by rw[h];decide)]
def AprM (base:Nat) (r:Except Nat (List Nat)) (e:Ending) (w':World):Prop:=
 match r with
 | .error er=>e= .returned (.tuple #[.slice none 0 0,.int .i64 (er:Nat)])
 | .ok s=> ∃v,e= .returned (.tuple #[v,.int .i64 0])∧OwnM w' base 5 1 v s.length (u8s s)
theorem lit_own (w:World) (l:List Nat) (fz:Nat × Nat) {base:Nat} (hb:base≤w.heap.size) (hl:0<l.length∧l.length≤4096) (hf:l.length≤fz.1):OwnM (w.alloc (.cells (u8s l).toArray 5 fz)) base 5 1 (.slice (some ⟨w.heap.size,0,none⟩) l.length l.length) l.length (u8s l):=
 .inr ⟨by simp[u8s],w.heap.size,(u8s l).toArray,fz,rfl,hb,heap_alloc_new w _,by unfold maxLen;omega,by simp[u8s],by simp,by omega,by omega⟩
theorem AprR.toM {base:Nat} {r:Except Nat (List Nat)} {e:Ending} {w':World} (h:AprR base r e w'):AprM base r e w':=by
 cases r with
 |error er=>exact h
 |ok s=>
  obtain⟨v,rfl,ho⟩:=h
  exact⟨v,rfl,.inl ho⟩
set_option maxRecDepth 100000 in
set_option maxHeartbeats 1600000 in
theorem aprint_zeroM (h:NdV w oa []) (ere:Bool):
  Calls Tryz.prog 26 #[.agg #[.int .i8 0,.int .i64 0,.slice oa 0 cap],.bool ere] w fun e w'=>AprM w.heap.size (.ok []) e w'∧Below w.heap.size w w':=by
 have hb0:=(Below.refl w.heap.size w).alloc (Nat.le_refl _) (.cells #[.int .i8 0,.int .i64 0,.slice oa 0 cap] 54)
 have HS:=Lib.hid (right_call (cap:=cap) 0 0 (h.below hb0))
 rw[show rightA ⟨0,0,[]⟩=true from rfl]at HS
 have HA:=Lib.hid (AdB.new w (.int .i8 0) (.int .i64 0) (.slice oa 0 cap))
 have HB:=Lib.hid hb0
 clear h hb0
 go_enter Tryz.func26,Tryz.ntmps26
 go_wp2_with fail
 refine HS.out.mono ?_;rintro e w1 ⟨rfl,hb1⟩
 have HB1:=Lib.hid (HB.out.trans (hb1.mono (by simp)))
 have k0:=(HA.out.below hb1).c0
 clear hb1
 go_wp2_with fail
 go_ret2
 exact⟨⟨_,rfl,.inl (World.ownsRow_nil _ _ _ _)⟩,HB1.out⟩
set_option maxRecDepth 100000 in
set_option maxHeartbeats 1600000 in
theorem aprint_twoM (h:NdV w oa []) (ere:Bool):
  Calls Tryz.prog 26 #[.agg #[.int .i8 2,.int .i64 0,.slice oa 0 cap],.bool ere] w fun e w'=>AprM w.heap.size (.ok [36]) e w'∧Below w.heap.size w w':=by
 have hb0:=(Below.refl w.heap.size w).alloc (Nat.le_refl _) (.cells #[.int .i8 2,.int .i64 0,.slice oa 0 cap] 54)
 have HS:=Lib.hid (right_call (cap:=cap) 2 0 (h.below hb0))
 rw[show rightA ⟨2,0,[]⟩=true from rfl]at HS
 have HA:=Lib.hid (AdB.new w (.int .i8 2) (.int .i64 0) (.slice oa 0 cap))
 have HB:=Lib.hid hb0
 clear h hb0
 go_enter Tryz.func26,Tryz.ntmps26
 go_wp2_with fail
 refine HS.out.mono ?_;rintro e w1 ⟨rfl,hb1⟩
 have HB1:=Lib.hid (HB.out.trans (hb1.mono (by simp)))
 have k0:=(HA.out.below hb1).c0
 have k2:=(HA.out.below hb1).c2
 have hs1:=HB1.out.size
 have hcv:=Lib.run_convert_bytes_const (P:=Tryz.prog) w1 22 5 #[.int .u8 36] 1 1 Tryz.underlying22 Tryz.underlying5
 rw[show(#[Value.int .u8 36]:Array Value).size=1 from rfl]at hcv
 clear hb1
 go_wp2_with fail
 go_ret2
 exact⟨⟨_,rfl,lit_own w1 [36] (1,2) hs1 (by decide) (by decide)⟩,HB1.out.alloc hs1 _⟩
set_option maxRecDepth 100000 in
set_option maxHeartbeats 1600000 in
theorem aprint_nilM (h:NdV w oa []) (ere:Bool):
  Calls Tryz.prog 26 #[.agg #[.int .i8 3,.int .i64 0,.slice oa 0 cap],.bool ere] w fun e w'=>AprM w.heap.size (.ok [47,47]) e w'∧Below w.heap.size w w':=by
 have hb0:=(Below.refl w.heap.size w).alloc (Nat.le_refl _) (.cells #[.int .i8 3,.int .i64 0,.slice oa 0 cap] 54)
 have HS:=Lib.hid (right_call (cap:=cap) 3 0 (h.below hb0))
 rw[show rightA ⟨3,0,[]⟩=true from rfl]at HS
 have HA:=Lib.hid (AdB.new w (.int .i8 3) (.int .i64 0) (.slice oa 0 cap))
 have HB:=Lib.hid hb0
 clear h hb0
 go_enter Tryz.func26,Tryz.ntmps26
 go_wp2_with fail
 refine HS.out.mono ?_;rintro e w1 ⟨rfl,hb1⟩
 have HB1:=Lib.hid (HB.out.trans (hb1.mono (by simp)))
 have k0:=(HA.out.below hb1).c0
 have k2:=(HA.out.below hb1).c2
 have hs1:=HB1.out.size
 have hcv:=Lib.run_convert_bytes_const (P:=Tryz.prog) w1 22 5 #[.int .u8 47,.int .u8 47] 2 2 Tryz.underlying22 Tryz.underlying5
 rw[show(#[Value.int .u8 47,.int .u8 47]:Array Value).size=2 from rfl]at hcv
 clear hb1
 go_wp2_with fail
 go_ret2
 exact⟨⟨_,rfl,lit_own w1 [47,47] (2,3) hs1 (by decide) (by decide)⟩,HB1.out.alloc hs1 _⟩
set_option maxRecDepth 100000 in
set_option maxHeartbeats 1600000 in
theorem aprint_oneM {n:Int} (h1:1≤n) (h2:n≤2147483647) (h:NdV w oa []) (ht:Tabs w) (ere:Bool):
  Calls Tryz.prog 26 #[.agg #[.int .i8 1,.int .i64 n,.slice oa 0 cap],.bool ere] w fun e w'=>AprM w.heap.size (.ok (itoB n)) e w'∧Below w.heap.size w w':=by
 have hb0:=(Below.refl w.heap.size w).alloc (Nat.le_refl _) (.cells #[.int .i8 1,.int .i64 n,.slice oa 0 cap] 54)
 have HS:=Lib.hid (right_call (cap:=cap) 1 n (h.below hb0))
 rw[show rightA ⟨1,n,[]⟩=true by simp[rightA,h1,h2]]at HS
 have HA:=Lib.hid (AdB.new w (.int .i8 1) (.int .i64 n) (.slice oa 0 cap))
 have HT:=Lib.hid (ht.below hb0)
 have HB:=Lib.hid hb0
 clear h hb0 ht
 go_enter Tryz.func26,Tryz.ntmps26
 go_wp2_with fail
 refine HS.out.mono ?_;rintro e w1 ⟨rfl,hb1⟩
 have HB1:=Lib.hid (HB.out.trans (hb1.mono (by simp)))
 have k0:=(HA.out.below hb1).c0
 have k1:=(HA.out.below hb1).c1
 have HT1:=Lib.hid (HT.out.below hb1)
 have hs1:=HB1.out.size
 clear hb1 HT
 go_wp2_with fail
 refine(shl.strconv_AppendInt_10 w1.heap.size 0 n (by omega) (by omega) (.slice none 0 0) [] w1 (World.ownsRow_nil _ _ _ _) (Nat.le_refl _) (by omega) (fun w' hb=>HT1.out.pw.below hb)).mono ?_
 rintro e w2 ⟨v,rfl,hv,hb2,_⟩
 have hv':w2.ownsRow w.heap.size 5 1 v (itoB n).length (u8s (itoB n)):=by
  have e:u8s (itoB n)=Lib.byteCells (Lib.itoa n):=by
   rw[←itoa_bytes n]
   simp[u8s,bytesOf,Lib.byteCells]
  have el:(itoB n).length=(Lib.itoa n).length:=by
   rw[←itoa_bytes n]
   simp[bytesOf]
  rw[e,el]
  have h:=ownsRow_mono hv hs1
  simpa using h
 have HV:=Lib.hid hv'
 have HB2:=Lib.hid (HB1.out.trans (hb2.mono hs1))
 clear hv hv' hb2
 go_wp2_with fail
 go_ret2
 exact⟨AprR.toM (base:=w.heap.size) ⟨v,rfl,HV.out⟩,HB2.out⟩
theorem aprint_callM (k n:Int) (h:NdV w oa re) (ht:Tabs w) (ere:Bool) (hok: ∀s,spellN ere re=some s→ ∀b∈s,b<256):
  Calls Tryz.prog 26 #[.agg #[.int .i8 k,.int .i64 n,.slice oa re.length cap],.bool ere] w fun e w'=>AprM w.heap.size (printA ere ⟨k,n,re⟩) e w'∧Below w.heap.size w w':=by
 cases hr:rightA ⟨k,n,re⟩with
 |false=>
  rw[printA_wrong hr]
  exact aprint_wrong h hr ere
 |true=>
  rw[printA_rightM hr]
  simp only
  by_cases h1:k=1
  ·subst h1
   simp only[rightA,show¬((1:Int)=0∨(1:Int)=2)by decide,if_false,if_true,Bool.and_eq_true,decide_eq_true_eq,List.isEmpty_iff]at hr
   obtain⟨⟨a,b⟩,rfl⟩:=hr
   rw[if_neg (by decide),if_pos rfl]
   exact aprint_oneM a b h ht ere
  by_cases h0:k=0
  ·subst h0
   simp only[rightA,true_or,if_true,Bool.and_eq_true,beq_iff_eq,List.isEmpty_iff]at hr
   obtain⟨rfl,rfl⟩:=hr
   rw[if_pos rfl]
   exact aprint_zeroM h ere
  by_cases h2:k=2
  ·subst h2
   simp only[rightA,or_true,if_true,Bool.and_eq_true,beq_iff_eq,List.isEmpty_iff]at hr
   obtain⟨rfl,rfl⟩:=hr
   rw[if_neg (by decide),if_neg (by decide),if_pos rfl]
   exact aprint_twoM h ere
  have h3:k=3:=by
   by_cases h3:k=3
   ·exact h3
   ·simp only[rightA,show¬(k=0∨k=2)by omega,if_false,h1,h3]at hr
    cases hr
  subst h3
  simp only[rightA,show¬((3:Int)=0∨(3:Int)=2)by decide,if_false,show¬(3:Int)=1 by decide,if_true,Bool.and_eq_true,beq_iff_eq,Bool.or_eq_true,List.isEmpty_iff]at hr
  obtain⟨rfl,hs⟩:=hr
  rw[if_neg (by decide),if_neg (by decide),if_neg (by decide)]
  by_cases he:re=[]
  ·subst he
   exact aprint_nilM h ere
  ·refine(aprint_three h (fun e=>he (List.eq_nil_of_length_eq_zero e)) (hs.resolve_left he) ht ere hok).mono ?_
   rintro e w' ⟨h1,h2⟩
   exact⟨h1.toM,h2⟩
end
end Go.Proofs.YtfjbnpdffillbaaGreatDoor
namespace Go.Proofs.YtfjbnpdffillbaaGreatDoor
open Go.RowKit
theorem elBy:ElT Tryz.prog 22 5 1 1 (.int .u8 0):=⟨Tryz.underlying22,by kernel_rfl,rfl,by decide⟩
def BtM (w:World) (oa:Option Addr) (T:List Nat):Prop:=0<T.length→ ∃g o,oa=some ⟨g,o,none⟩∧g<w.heap.size∧ ∀i b,T[i]?=some b→w.cell? ⟨g,o+i,none⟩=some (.int .u8 (b:Nat))
theorem BtM.below {w w':World} {oa:Option Addr} {T:List Nat} (h:BtM w oa T) (hb:Below w.heap.size w w'):BtM w' oa T:=fun hp=>by
 obtain⟨g,o,h1,h2,h3⟩:=h hp
 exact⟨g,o,h1,Nat.lt_of_lt_of_le h2 hb.size,fun i b hi=>(hb.cell (p:=⟨g,o+i,none⟩) h2).trans (h3 i b hi)⟩
theorem BtM.of_src {w:World} {oa:Option Addr} {c n:Nat} {T:List Nat} (h:Src w (.slice oa n c) n (u8s T)):BtM w oa T:=by
 intro hp
 rcases h with ⟨_,_,h3⟩|⟨a,c',h1,h2⟩
 ·have:T=[]:=by simpa [u8s]using h3
  rw[this]at hp
  simp at hp
 ·injection h1 with h1
  subst h1
  obtain⟨g,o,s⟩:=a
  have hc: ∀i b,T[i]?=some b→w.cell? (Addr.add ⟨g,o,s⟩ i)=some (.int .u8 (b:Nat)):=fun i b hi=>h2 i _ (by simp[u8s,hi])
  have k0:=hc 0 _ (List.getElem?_eq_getElem hp)
  have hs:s=none:=by simpa [Addr.add]using World.cell?_spot k0
  subst hs
  have hc2: ∀i b,T[i]?=some b→w.cell? ⟨g,o+i,none⟩=some (.int .u8 (b:Nat)):=fun i b hi=>by rw[←Addr.add_mid];exact hc i b hi
  exact⟨g,o,rfl,World.block_lt_of_cell? w _ (hc2 0 _ (List.getElem?_eq_getElem hp)),hc2⟩
def spareB (i:Nat):Nat:=(279+7*i+3) % 256
def spareBs (n:Nat):List Nat:=(List.range 64).map fun k=>spareB (n+k)
theorem spareBs_length (n:Nat):(spareBs n).length=64:=by simp[spareBs]
theorem spareB_int (i:Nat):((spareB i:Nat):Int)=(279+7*(i:Int)+3) % 256:=by simp only[spareB];omega
theorem fullB_at {L:List Nat} {n:Nat} (hn:L.length=n) {d:Nat} (h1:n≤d) (h2:d<n+64):(L++spareBs n)[d]?=some (spareB d):=by
 rw[List.getElem?_append_right (by omega),spareBs,List.getElem?_map,List.getElem?_range (by omega),Option.map_some,hn,show n+(d - n)=d by omega]
def WideB (w:World) (base g n:Nat) (T:List Nat):Prop:=T.length=n∧w.ownsRow base 5 1 (.slice (some ⟨g,0,none⟩) (n+64) (n+64)) (n+64) (u8s (T++spareBs n))
section
variable {w w':World} {base g n:Nat} {T:List Nat}
theorem WideB.lt (h:WideB w base g n T):base≤g∧g<w.heap.size:=World.ownsRow.lt h.2 g rfl
theorem WideB.block (h:WideB w base g n T) (hb:w'.heap[g]?=w.heap[g]?):WideB w' base g n T:=⟨h.1,ownsRow_of_block h.2 fun k hk=>by cases hk;exact hb⟩
theorem WideB.below (h:WideB w base g n T) (hb:Below w.heap.size w w'):WideB w' base g n T:=h.block (hb.block g h.lt.2)
theorem WideB.at_ (h:WideB w base g n T) {d b:Nat} (hd:(T++spareBs n)[d]?=some b):w.cell? ⟨g,d,none⟩=some (.int .u8 (b:Nat)):=by
 have hl:=(List.getElem?_eq_some_iff.1 hd).1
 rw[List.length_append,spareBs_length,h.1]at hl
 rw[World.ownsRow.cellAt h.2 d (by omega)]
 simp only[u8s,List.getElem?_map,hd,Option.map_some]
theorem WideB.btM (h:WideB w base g n T):BtM w (some ⟨g,0,none⟩) T:=fun _=>⟨g,0,rfl,h.lt.2,fun i b hi=>by
 rw[Nat.zero_add]
 exact h.at_ (by rw[List.getElem?_append_left (List.getElem?_eq_some_iff.1 hi).1,hi])⟩
theorem u8s_take_succ {l:List Nat} {d b:Nat} (hm:l[d]?=some b):(u8s l).take (d+1)=(u8s l).take d++[.int .u8 (b:Nat)]:=by
 rw[List.take_add_one]
 simp only[u8s,List.getElem?_map,hm,Option.map_some,Option.toList_some]
set_option maxRecDepth 100000 in
set_option maxHeartbeats 1600000 in
theorem wideBytesU {oa:Option Addr} {cap:Nat} (hv:BtM w oa T) (hl:T.length≤140737488355328):
  Calls Tryz.prog 88 #[.slice oa T.length cap] w fun e w'=>(∃g,e= .returned (.slice (some ⟨g,0,none⟩) T.length (T.length+64))∧WideB w' w.heap.size g T.length T)∧Below w.heap.size w w':=by
 have HV:=Lib.hid hv
 have HL:=Lib.hid hl
 have hl1:(T.length:Int)≤140737488355328:=by omega
 have HF:=Lib.hid (show(T++spareBs T.length).length=T.length+64 by rw[List.length_append,spareBs_length])
 clear hv hl
 obtain⟨i0,hi,hz0,hz1,hz2⟩:=info_parts (elBy).hi
 go_enter Tryz.func88,Tryz.ntmps88
 go_wp2_with (at_make;refine wpList_make_full _ rfl _ _ 22 rfl w.heap.size 5 i0 _ 1 Tryz.underlying22 hi hz0 hz1 .i64 .i64 ((T.length:Int)+64) ((T.length:Int)+64) (T.length+64) rfl rfl (by omega) (by omega) (by rw[hz2];have:=HL.out;omega) (by unfold maxLen;have:=HL.out;omega) (Nat.le_refl _) ?_)
 intro w1 hown hgr
 have HO1:=Lib.hid hown
 have HB1:=Lib.hid ((Below.refl w.heap.size w).grown hgr (Nat.le_refl _) (fun k hk=>by cases hk))
 have hg1:w.heap.size<w1.heap.size:=(hown.lt _ rfl).2
 clear hown hgr hi hz0 hz1 hz2
 go_wp2_with fail
 go_loopg [4] (T.length+64) (fun n iv wr=> ∃(d:Nat) (xs:List Value),iv= .int .i64 (d:Nat)∧n=T.length+64 - d∧d≤T.length+64∧wr.ownsRow w.heap.size 5 1 (.slice (some ⟨w.heap.size,0,none⟩) (T.length+64) (T.length+64)) (T.length+64) xs∧xs.take d=(u8s (T++spareBs T.length)).take d∧Below w.heap.size w wr)
 case atStart=>exact⟨0,_,rfl,by omega,by omega,HO1.out,by simp,HB1.out⟩
 case round=>
  obtain⟨d,xs,rfl,hg2,hd,ho,ht,hb⟩:=hrel
  have HG:=Lib.hid hg2
  have HO:=Lib.hid ho
  have HT:=Lib.hid ht
  have HB:=Lib.hid hb
  have hgw:w.heap.size<wr.heap.size:=(ho.lt _ rfl).2
  clear hg2 ht hb
  by_cases hlt:d<T.length+64
  ·have hlt':(d:Int)<(T.length:Int)+64:=by omega
   obtain⟨_,g',hg',_,hcs,hfz⟩:=own_some ho (by omega)
   cases hg'
   obtain⟨u0,_,z0⟩:=hcs d (by omega)
   have f0:=hfz d
   have HXL:=Lib.hid (show xs.length=(T.length+64)*1 from ho.1)
   clear ho hcs hfz
   by_cases hin:d<T.length
   ·have hin':(d:Int)<(T.length:Int):=by omega
    obtain⟨mb,mo,hoa,hml,hmc⟩:=(HV.out.below HB.out) (by omega)
    obtain⟨b,hbd⟩: ∃b,T[d]?=some b:=⟨_,List.getElem?_eq_getElem hin⟩
    have y0:=hmc d b hbd
    have HX:=Lib.hid (show(T++spareBs T.length)[d]?=some b by rw[List.getElem?_append_left hin,hbd])
    have HR:=Lib.hid (stAll_row [.int .u8 (b:Nat)] d HO.out)
    have HTT:=Lib.hid (setAll_take [.int .u8 (b:Nat)] xs d (by rw[HXL.out];simp;omega))
    subst hoa
    clear hmc hbd
    go_wp2_with fail
    go_roundg (T.length+64 - (d+1))
    case measure=>have:=HG.out;omega
    case rel=>exact⟨d+1,_,by go_num,rfl,by omega,HR.out,by rw[u8s_take_succ HX.out,←HT.out,←HTT.out];rfl,HB.out.trans ((Below.refl w.heap.size wr).setCell (p:=⟨w.heap.size,d,none⟩) (Nat.le_refl _) _)⟩
   ·have hin': ¬(d:Int)<(T.length:Int):=by omega
    have HX:=Lib.hid (fullB_at (L:=T) rfl (Nat.le_of_not_lt hin) hlt)
    have HR:=Lib.hid (stAll_row [.int .u8 ((279+7*(d:Int)+3) % 256)] d HO.out)
    have HTT:=Lib.hid (setAll_take [.int .u8 ((279+7*(d:Int)+3) % 256)] xs d (by rw[HXL.out];simp;omega))
    go_wp2_with fail
    go_roundg (T.length+64 - (d+1))
    case measure=>have:=HG.out;omega
    case rel=>exact⟨d+1,_,by go_num,rfl,by omega,HR.out,by rw[u8s_take_succ HX.out,←HT.out,spareB_int,←HTT.out];rfl,HB.out.trans ((Below.refl w.heap.size wr).setCell (p:=⟨w.heap.size,d,none⟩) (Nat.le_refl _) _)⟩
  ·have hlt': ¬(d:Int)<(T.length:Int)+64:=by omega
   have hde:d=T.length+64:=by omega
   subst hde
   have hfin:WideB wr w.heap.size w.heap.size T.length T:=by
    refine⟨rfl,?_⟩
    have h1:=HT.out
    rw[List.take_of_length_le (by rw[ho.1];omega),List.take_of_length_le (by rw[u8s,List.length_map,HF.out];exact Nat.le_refl _)]at h1
    rw[←h1]
    exact ho
   have HFin:=Lib.hid hfin
   clear ho hfin
   go_wp2_with fail
   go_ret
   exact⟨⟨_,rfl,HFin.out⟩,HB.out⟩
set_option maxRecDepth 100000 in
set_option maxHeartbeats 1600000 in
theorem eqBytesU {oa ob:Option Addr} {ca cb:Nat} (ha:BtM w oa T) (hb:BtM w ob T) (z:T.length≤140737488355328):
  Calls Tryz.prog 28 #[.slice oa T.length ca,.slice ob T.length cb] w fun e w'=>e= .returned (.bool true)∧Below w.heap.size w w':=by
 have HA:=Lib.hid ha
 have HB:=Lib.hid hb
 have hz:(T.length:Int)≤140737488355328:=by omega
 clear ha hb z
 go_enter Tryz.func28,Tryz.ntmps28
 go_wp2_with fail
 go_loopg [5] T.length (fun n iv wr=> ∃d:Nat,iv= .int .i64 (d:Nat)∧n=T.length - d∧d≤T.length∧Below w.heap.size w wr)
 case atStart=>exact⟨0,rfl,by omega,by omega,Below.refl _ _⟩
 case round=>
  obtain⟨d,rfl,hg,hd,hbe⟩:=hrel
  have HG:=Lib.hid hg
  have HBE:=Lib.hid hbe
  clear hg
  by_cases hlt:d<T.length
  ·have hlt':(d:Int)<(T.length:Int):=by omega
   obtain⟨na,oo,rfl,nal,hna⟩:=(HA.out.below hbe) (by omega)
   obtain⟨nb,ob',rfl,nbl,hnb⟩:=(HB.out.below hbe) (by omega)
   obtain⟨x,hx⟩: ∃x,T[d]?=some x:=⟨_,List.getElem?_eq_getElem hlt⟩
   have n0:=hna d x hx
   have m0:=hnb d x hx
   have e1:((x:Int) !=(x:Int))=false:=by simp
   clear hna hnb hbe hx
   go_wp2_with fail
   refine wp_region_segs (X:=none) 9 [] [0,1,2,3,4,5,6,7,8] (by kernel_rfl) (by kernel_rfl) rfl (fun _ _ _ _ _ h=>h) ?_
   simp only[wpSegs,pickSegs_nil,pickOps_nil,pickOps_cons,List.getD_cons_zero,List.getD_cons_succ,List.drop_succ_cons,List.drop_nil]
   repeat (go_big_quiet_step (fail))
   refine wpQuiet_nil ?_
   go_wp2_with fail
   go_roundg (T.length - (d+1))
   case measure=>have:=HG.out;omega
   case rel=>exact⟨d+1,by go_num,rfl,by omega,HBE.out.drew⟩
  ·have hlt': ¬(d:Int)<(T.length:Int):=by omega
   clear hbe
   go_wp2_with fail
   go_ret
   exact⟨rfl,HBE.out⟩
end
end Go.Proofs.YtfjbnpdffillbaaGreatDoor
namespace Go.Proofs.YtfjbnpdffillbaaGreatDoor
open Go.RowKit
theorem NdU.of_src {w:World} {oa:Option Addr} {c:Nat} {re:List Nd} (h:Src w (.slice oa re.length c) re.length (ndsC re)):NdU w oa re:=by
 intro hp
 rcases h with ⟨_,h2,_⟩|⟨a,c',h1,h2⟩
 ·omega
 ·injection h1 with h1
  subst h1
  obtain⟨g,o,s⟩:=a
  have hc: ∀i,i<re.length→ ∀j,j<9→w.cell? (Addr.add ⟨g,o,s⟩ (i*9+j))=(ndCells (re.getD i Nd.zero))[j]?:=fun i hi j hj=>by
   obtain⟨u,hu⟩: ∃u,(ndCells (re.getD i Nd.zero))[j]?=some u:=by
    have:j=0∨j=1∨j=2∨j=3∨j=4∨j=5∨j=6∨j=7∨j=8:=by omega
    rcases this with rfl|rfl|rfl|rfl|rfl|rfl|rfl|rfl|rfl<;>exact⟨_,rfl⟩
   rw[hu]
   exact h2 _ _ (by rw[ndsC_at re i j hi hj,hu])
  have k0:=hc 0 hp 0 (by decide)
  have hs:s=none:=by simpa [Addr.add]using World.cell?_spot k0
  subst hs
  have hc2: ∀i,i<re.length→ ∀j,j<9→w.cell? ⟨g,o+i*9+j,none⟩=(ndCells (re.getD i Nd.zero))[j]?:=fun i hi j hj=>by
   rw[Nat.add_assoc,←Addr.add_mid];exact hc i hi j hj
  exact⟨g,o,rfl,World.block_lt_of_cell? w _ (hc2 0 hp 0 (by decide)),hc2⟩
def WideN (w:World) (base g n:Nat) (re:List Nd):Prop:=re.length=n∧Nds w base (.slice (some ⟨g,0,none⟩) (n+64) (n+64)) (re++spareL n)
section
variable {w w':World} {base g n:Nat} {re:List Nd} {T:List Nat}
theorem WideN.lt (h:WideN w base g n re):base≤g∧g<w.heap.size:=h.2.lt g rfl
theorem WideN.block (h:WideN w base g n re) (hb:w'.heap[g]?=w.heap[g]?):WideN w' base g n re:=⟨h.1,h.2.block fun k hk=>by cases hk;exact hb⟩
theorem WideN.below (h:WideN w base g n re) (hb:Below w.heap.size w w'):WideN w' base g n re:=h.block (hb.block g h.lt.2)
theorem WideN.other (h:WideN w base g n re) {b:Nat} (hb:b<base) (o:Nat) (v:Value):WideN (w.setCell ⟨b,o,none⟩ v) base g n re:=h.block (Below.heap_setCell _ _ _ _ (by have:=h.lt.1;show g≠b;omega))
theorem WideN.mono {base':Nat} (h:WideN w base g n re) (hb:base'≤base):WideN w base' g n re:=⟨h.1,h.2.mono hb⟩
theorem WideN.toU (h:WideN w base g n re):NdU w (some ⟨g,0,none⟩) re:=fun _=>⟨g,0,rfl,h.lt.2,fun i hi j hj=>by
 obtain⟨oa,cp,e1,hu⟩:=h.2.toU
 injection e1 with e1 e2 e3
 subst e1
 obtain⟨nb,no,e4,_,e5⟩:=hu (by rw[List.length_append];omega)
 injection e4 with e4
 injection e4 with e4 e6
 subst e4
 subst e6
 rw[e5 i (by rw[List.length_append];omega) j hj]
 simp only[List.getD_eq_getElem?_getD]
 rw[List.getElem?_append_left hi]⟩
theorem WideN.src (h:WideN w base g n re):Src w (.slice (some ⟨g,0,none⟩) n (n+64)) n (ndsC re):=by
 refine .inr ⟨_,_,rfl,fun j u hu=>?_⟩
 have hj:=(List.getElem?_eq_some_iff.1 hu).1
 rw[ndsC_length]at hj
 obtain⟨nb,no,e4,_,e5⟩:=h.toU (by omega)
 injection e4 with e4
 injection e4 with e4 e6
 subst e4
 subst e6
 have:=e5 (j / 9) (by omega) (j % 9) (by omega)
 rw[←ndsC_at re (j / 9) (j % 9) (by omega) (by omega),show j / 9*9+j % 9=j by omega,hu,show 0+j / 9*9+j % 9=0+j by omega]at this
 rw[Addr.add_mid]
 exact this
theorem WideB.other (h:WideB w base g n T) {b:Nat} (hb:b<base) (o:Nat) (v:Value):WideB (w.setCell ⟨b,o,none⟩ v) base g n T:=h.block (Below.heap_setCell _ _ _ _ (by have:=h.lt.1;show g≠b;omega))
theorem WideB.mono {base':Nat} (h:WideB w base g n T) (hb:base'≤base):WideB w base' g n T:=⟨h.1,ownsRow_mono h.2 hb⟩
set_option maxRecDepth 100000 in
set_option maxHeartbeats 1600000 in
theorem wideAddrU {oa:Option Addr} {cap:Nat} (k n:Int) (hs:NdU w oa re) (hl:re.length*72≤140737488355328):
  Calls Tryz.prog 25 #[.agg #[.int .i8 k,.int .i64 n,.slice oa re.length cap]] w fun e w'=>
   (∃g,e= .returned (.agg #[.int .i8 k,.int .i64 n,.slice (some ⟨g,0,none⟩) re.length (re.length+64)])∧WideN w' w.heap.size g re.length re)∧Below w.heap.size w w':=by
 have HA:=Lib.hid (AdB.new w (.int .i8 k) (.int .i64 n) (.slice oa re.length cap))
 have hb1:=(Below.refl w.heap.size w).alloc (Nat.le_refl _) (.cells #[.int .i8 k,.int .i64 n,.slice oa re.length cap] 54)
 have HB1:=Lib.hid hb1
 have HS1:=Lib.hid (hs.below hb1)
 have hsz:(w.alloc (.cells #[.int .i8 k,.int .i64 n,.slice oa re.length cap] 54)).heap.size=w.heap.size+1:=by simp
 clear hs hb1
 go_enter Tryz.func25,Tryz.ntmps25
 go_upto_region 1 with fail
 obtain⟨W1,hW1⟩: ∃W,w.alloc (.cells #[.int .i8 k,.int .i64 n,.slice oa re.length cap] 54)=W:=⟨_,rfl⟩
 rw[hW1]at HA HB1 hsz HS1 ⊢
 have HA2:=Lib.hid (HA.out.below ((Below.refl _ _).alloc (Nat.le_refl _) (.cells #[.int .i8 0,.int .i64 0,.slice none 0 0] 54)))
 have HZ:=Lib.hid (AdB.new W1 (.int .i8 0) (.int .i64 0) (.slice none 0 0))
 have HB2:=Lib.hid (HB1.out.alloc HB1.out.size (.cells #[.int .i8 0,.int .i64 0,.slice none 0 0] 54))
 have HS2:=Lib.hid (HS1.out.below ((Below.refl _ _).alloc (Nat.le_refl _) (.cells #[.int .i8 0,.int .i64 0,.slice none 0 0] 54)))
 have hsz2:(W1.alloc (.cells #[.int .i8 0,.int .i64 0,.slice none 0 0] 54)).heap.size=w.heap.size+1+1:=by simp[hsz]
 obtain⟨W2,hW2⟩: ∃W,W1.alloc (.cells #[.int .i8 0,.int .i64 0,.slice none 0 0] 54)=W:=⟨_,rfl⟩
 rw[hW2]at HA2 HZ HB2 HS2 hsz2 ⊢
 rw[hsz]at HZ
 clear hW1 hW2 HA HB1 HS1
 have k0:=HA2.out.c0
 have k1:=HA2.out.c1
 have k2:=HA2.out.c2
 have HX:=Lib.hid (wideNodesU (cap:=cap) HS2.out (by omega))
 go_wp2_with fail
 refine HX.out.mono ?_;rintro e w3 ⟨⟨g3,rfl,hn3⟩,hb3⟩
 have HA3:=Lib.hid (HA2.out.below hb3)
 have HZ3:=Lib.hid (HZ.out.below hb3)
 have HB3:=Lib.hid (HB2.out.trans (hb3.mono HB2.out.size))
 have HN3:Hid (WideN w3 (w.heap.size+1+1) g3 re.length re):=Lib.hid ⟨rfl,by rw[←hsz2];exact hn3⟩
 clear hb3 hn3 k0 k1 k2 HX HA2 HZ HB2 HS2
 have k0:=HA3.out.c0
 have k1:=HA3.out.c1
 have k2:=HA3.out.c2
 have f0:=HA3.out.fz
 have z0:=HZ3.out.c0
 have z1:=HZ3.out.c1
 have z2:=HZ3.out.c2
 have g0:=HZ3.out.fz
 have hne: ¬w.heap.size+1=w.heap.size:=by omega
 go_wp2_with fail
 refine ret_cell3 (p:=2) (b:=w.heap.size+1) rfl rfl rfl ((HZ3.out.other (by omega) _ _).set (.int .i8 k) (.int .i64 n) (.slice (some ⟨g3,0,none⟩) re.length (re.length+64))) ⟨⟨g3,rfl,?_⟩,?_⟩
 ·exact((((HN3.out.other (by omega) _ _).other (by omega) _ _).other (by omega) _ _).other (by omega) _ _).mono (by omega)
 ·exact(((HB3.out.setCell (Nat.le_refl _) _).setCell (by show w.heap.size≤w.heap.size+1;omega) _).setCell (by show w.heap.size≤w.heap.size+1;omega) _).setCell (by show w.heap.size≤w.heap.size+1;omega) _
end
end Go.Proofs.YtfjbnpdffillbaaGreatDoor
