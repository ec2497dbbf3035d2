/- Parts: Xi. -/
import Derived.Test.YtfcemodgopdkkaaGreatDoorQ2
import Derived.Test.YtfcemodgopdkkaaGreatDoorQ8
import Derived.Test.YtfcemodgopdkkaaGreatDoorQ28
import Derived.Test.YtfcemodgopdkkaaGreatDoorQ30
import Derived.Test.YtfcemodgopdkkaaGreatDoorQ32
import Derived.Lib.ItoaLen
import Derived.Laws.Concat
set_option maxHeartbeats 1600000
set_option maxRecDepth 100000
namespace Go.Proofs.YtfcemodgopdkkaaGreatDoor
open Go.RowKit
def RwV (w:World) (o:Option Addr) (n:Nat) (f:Nat→Value):Prop:=0<n→ ∃nb no,o=some ⟨nb,no,none⟩∧nb<w.heap.size∧ ∀i,i<n→w.cell? ⟨nb,no+i,none⟩=some (f i)
section
variable {w w':World} {o:Option Addr} {n base g:Nat} {f:Nat→Value}
theorem RwV.below (h:RwV w o n f) (hb:Below w.heap.size w w'):RwV w' o n f:=fun hp=>by
 obtain⟨nb,no,h1,h2,h3⟩:=h hp
 exact⟨nb,no,h1,zMB h2 hb.size,fun i hi=>(hb.cell (p:=⟨nb,no+i,none⟩) h2).trans (h3 i hi)⟩
theorem RwV.own {e c:Nat} {xs:List Value} (h:w.ownsRow base e 1 (.slice o n c) n xs) (hx: ∀i,i<n→xs[i]?=some (f i)):RwV w o n f:=fun hp=>by
 obtain⟨_,g,rfl,hg,hc,_⟩:=zAZ h hp
 refine⟨g,0,rfl,hg,fun i hi=>?_⟩
 obtain⟨u,hu,hcu⟩:=hc i (by omega)
 rw[hx i hi]at hu
 cases hu
 rw[Nat.zero_add]
 exact hcu
def zBe (w:World) (base g n:Nat) (e:TypeId) (f m:Nat→Value):Prop:= ∃xs,w.ownsRow base e 1 (.slice (some ⟨g,0,none⟩) (n+64) (n+64)) (n+64) xs∧(∀i,i<n→xs[i]?=some (f i))∧ ∀i,n≤i→i<n+64→xs[i]?=some (m i)
variable {e:TypeId} {m:Nat→Value}
theorem zBe.kb (h:zBe w base g n e f m) (k:Kb base w w'):zBe w' base g n e f m:=by
 obtain⟨xs,h1,h2⟩:=h
 exact⟨xs,zAQ h1 k,h2⟩
theorem zBe.rw (h:zBe w base g n e f m):RwV w (some ⟨g,0,none⟩) n f:=fun hp=>by
 obtain⟨xs,h1,h2,_⟩:=h
 obtain⟨_,g,he,hg,hc,_⟩:=zAZ h1 (by omega)
 cases he
 refine⟨g,0,rfl,hg,fun i hi=>?_⟩
 obtain⟨u,hu,hcu⟩:=hc i (by omega)
 rw[h2 i hi]at hu
 cases hu
 rw[Nat.zero_add]
 exact hcu
theorem zBe.at_ (h:zBe w base g n e f m) {i:Nat} (h1:n≤i) (h2:i<n+64):w.cell? ⟨g,i,none⟩=some (m i)∧g<w.heap.size:=by
 obtain⟨xs,k1,_,k3⟩:=h
 obtain⟨_,g,he,hg,hc,_⟩:=zAZ k1 (by omega)
 cases he
 obtain⟨u,hu,hcu⟩:=hc i (by omega)
 rw[k3 i h1 h2]at hu
 cases hu
 exact⟨hcu,hg⟩
end
theorem zHm {a b:ByteArray} (h:a≠b):(a.toList==b.toList)=false:=zME.2 fun e=>h (by
 rw[Lib.toList_data,Lib.toList_data]at e
 cases a
 cases b
 simpa using e)
def EqR {α:Type} (e:Ending) (n m:Nat) (f f2:Nat→α):Prop:= ∃b,e= .returned (.bool b)∧(b=true↔n=m∧ ∀i,i<n→f i=f2 i)
theorem EqR.no {α:Type} {n m:Nat} {f f2:Nat→α} (h:n=m→ ∃i,i<n∧f i≠f2 i) {v:Value} (hv:v= .bool false):EqR (.returned v) n m f f2:=⟨false,by rw[hv],by
 constructor
 ·intro h;cases h
 ·intro k
  obtain⟨i,h1,h2⟩:=h k.1
  exact absurd (k.2 i h1) h2⟩
theorem EqR.yes {α:Type} {n m:Nat} {f f2:Nat→α} (h:n=m) (k: ∀i,i<n→f i=f2 i) {v:Value} (hv:v= .bool true):EqR (.returned v) n m f f2:=⟨true,by rw[hv],fun _=>⟨h,k⟩,fun _=>rfl⟩
def zHH (i:Nat):Value:= .int .i64 (9437184+(i:Int)+1)
def zE3 (i:Nat):ByteArray:=⟨#[33]⟩++⟨(Lib.itoa (9437184+(i:Int)+1)).toArray⟩
def zHG (i:Nat):Value:= .string (zE3 i)
section
variable {w:World}
theorem zEX {i:Nat} (hi:i≤281474976710656) (ht:zBn w):Calls Tryz.prog 55 #[.int .i64 9,.int .i64 (i:Nat)] w fun e w'=>e= .returned (.string (zE3 i))∧Below w.heap.size w w':=by
 have HT:=zL8 ht
 have HI:=zL8 (show(0:Int)≤(i:Int)∧(i:Int)≤281474976710656 by omega)
 clear ht hi
 go_enter Tryz.func55,Tryz.ntmps55
 go_wp2_with fail
 refine(zBt 9 (i:Int) (by decide) (by decide) HI.out.1 HI.out.2).mono ?_;rintro e w1 ⟨rfl,rfl⟩
 have e1:(1048576:Int)*9+(i:Int)+1=9437184+(i:Int)+1:=by omega
 rw[e1]
 clear e1
 go_wp2_with fail
 refine(zIa (n:=9437184+(i:Int)+1) (by have:=HI.out;omega) (by have:=HI.out;omega) HT.out).mono ?_;rintro e w2 ⟨rfl,hb⟩
 have hl:=Lib.itoa_length_le (9437184+(i:Int)+1) (by have:=HI.out;omega) (by have:=HI.out;omega)
 have HM:Hid (zE3 i=⟨#[33]⟩++⟨(Lib.itoa (9437184+(i:Int)+1)).toArray⟩):=rfl
 obtain⟨S,hS⟩: ∃S:ByteArray,(⟨(Lib.itoa (9437184+(i:Int)+1)).toArray⟩:ByteArray)=S:=⟨_,rfl⟩
 have hz:S.size≤21:=by rw[←hS];simpa [ByteArray.size]using hl
 rw[hS]at HM ⊢
 have h1: ¬9223372036854775807<(⟨#[33]⟩:ByteArray).size+S.size:=by
  have e:(⟨#[33]⟩:ByteArray).size=1:=rfl
  omega
 have h2: ¬9223372036854775807<1+S.size:=by omega
 clear hS hl
 go_wp2_with fail
 go_ret
 exact⟨by rw[HM.out];rfl,hb⟩
end
section
variable {w:World} {o:Option Addr} {n cap:Nat} {f:Nat→Int}
theorem zIz (h:RwV w o n fun i=> .int .i64 (f i)) (hn:n*8≤140737488351232):
  Calls Tryz.prog 22 #[.slice o n cap] w fun e w'=>(∃g,e= .returned (.slice (some ⟨g,0,none⟩) n (n+64))∧zBe w' w.heap.size g n 3 (fun i=> .int .i64 (f i)) zHH)∧Below w.heap.size w w':=by
 have H:=zL8 h
 have HZ:=zL8 hn
 have hl1:(n:Int)≤17592186044416:=by omega
 clear h hn
 obtain⟨i0,hi,hz0,hz1,hz2⟩:=info_parts (zEO).hi
 go_enter Tryz.func22,Tryz.ntmps22
 go_wp2_with (at_make;refine wpList_make_full _ rfl _ _ 23 rfl w.heap.size 3 i0 _ 1 Tryz.underlying23 hi hz0 hz1 .i64 .i64 ((n:Int)+64) ((n:Int)+64) (n+64) rfl rfl (by omega) (by omega) (by rw[hz2];have:=HZ.out;omega) (by unfold maxLen;omega) (by omega) ?_)
 intro w1 hown hgr
 have HO1:=zL8 hown
 have HB1:=zL8 ((zL9 w.heap.size w).grown hgr (zMA _) (fun k hk=>by cases hk))
 clear hown hgr hi hz0 hz1 hz2
 obtain⟨b,hbz⟩: ∃b,w.heap.size=b:=⟨_,rfl⟩
 rw[hbz]at HO1 ⊢
 have HBZ:=zL8 hbz
 clear hbz
 go_wp2_with fail
 go_loopg [4] (n+64) (fun k iv wr=> ∃(d:Nat) (xs:List Value),iv= .int .i64 (d:Nat)∧k=n+64 - d∧d≤n+64∧wr.ownsRow b 3 1 (.slice (some ⟨b,0,none⟩) (n+64) (n+64)) (n+64) xs∧Hid (∀i,i<d→xs[i]?=some (if i<n then .int .i64 (f i)else zHH i))∧Below w.heap.size w wr)
 case atStart=>exact⟨0,_,rfl,by omega,by omega,HO1.out,zL8 fun i hi=>absurd hi (by omega),HB1.out⟩
 case round=>
 obtain⟨d,xs,rfl,hg2,hd,ho,HX,hb⟩:=hrel
 have HG:=zL8 hg2
 have HO:=zL8 ho
 have HB:=zL8 hb
 clear hg2 ho hb HO1 HB1
 have hnext: ∀(v:Value),d<n+64→v=(if d<n then .int .i64 (f d)else zHH d)→Hid (∀i,i<d+1→(xs.set d v)[i]?=some (if i<n then .int .i64 (f i)else zHH i)):=fun v hv0 hv=>zL8 fun i hi=>by
  have hl:=HO.out.1
  by_cases e:d=i
  ·subst e
   rw[List.getElem?_set_self (by omega),hv]
  ·rw[List.getElem?_set_ne e]
   exact HX.out i (by omega)
 have HN:=zL8 hnext
 clear hnext
 by_cases hlt:d<n+64
 ·have hlt':(d:Int)<(n:Int)+64:=by omega
  by_cases hin:d<n
  ·have hin':(d:Int)<(n:Int):=by omega
   obtain⟨nb,no,rfl,hnb,hc⟩:=H.out (by omega)
   have c0:wr.cell? ⟨nb,no+d,none⟩=some (.int .i64 (f d)):=(HB.out.cell (p:=⟨nb,no+d,none⟩) hnb).trans (hc d hin)
   have c1:=zMB hnb HB.out.size
   obtain⟨_,g',hg',hgl,hcs,hfz⟩:=zAZ HO.out (by omega)
   cases hg'
   obtain⟨u0,_,z0⟩:=hcs d (by omega)
   have f0:=hfz d
   have HN1:=zL8 (HN.out _ hlt (by rw[if_pos hin]))
   have HR:=zL8 (zMW HO.out d (.int .i64 (f d))).1
   have HB2:=zL8 (HB.out.setCell (p:=⟨b,d,none⟩) (by rw[HBZ.out];exact zMA _) (.int .i64 (f d)))
   clear hcs hfz hc
   go_wp2_with fail
   go_roundg (n+64 - (d+1))
   case measure=>have:=HG.out;omega
   case rel=>exact⟨d+1,_,by go_num,rfl,by omega,HR.out,HN1.out,HB2.out⟩
  ·have hin': ¬(d:Int)<(n:Int):=by omega
   have HN1:=zL8 (HN.out (.int .i64 (9437184+(d:Int)+1)) hlt (by rw[if_neg hin];rfl))
   go_wp2_with fail
   refine(zBt 9 (d:Int) (by decide) (by decide) (by omega) (by omega)).mono ?_;rintro e w3 ⟨rfl,rfl⟩
   have e0:(1048576:Int)*9+(d:Int)+1=9437184+(d:Int)+1:=by omega
   rw[e0]
   clear e0
   obtain⟨_,g',hg',hgl,hcs,hfz⟩:=zAZ HO.out (by omega)
   cases hg'
   obtain⟨u0,_,z0⟩:=hcs d (by omega)
   have f0:=hfz d
   have HR:=zL8 (zMW HO.out d (.int .i64 (9437184+(d:Int)+1))).1
   have HB2:=zL8 (HB.out.setCell (p:=⟨b,d,none⟩) (by rw[HBZ.out];exact zMA _) (.int .i64 (9437184+(d:Int)+1)))
   clear hcs hfz
   go_wp2_with fail
   go_roundg (n+64 - (d+1))
   case measure=>have:=HG.out;omega
   case rel=>exact⟨d+1,_,by go_num,rfl,by omega,HR.out,HN1.out,HB2.out⟩
 ·have hlt': ¬(d:Int)<(n:Int)+64:=by omega
  have hde:d=n+64:=by omega
  subst hde
  go_wp2_with fail
  go_ret
  refine⟨⟨b,rfl,xs,by rw[HBZ.out];exact HO.out,fun i hi=>?_,fun i h1 h2=>?_⟩,HB.out⟩
  ·rw[HX.out i (by omega),if_pos hi]
  ·rw[HX.out i (by omega),if_neg (by omega)]
theorem zHs {base g:Nat} (h:zBe w base g n 3 (fun i=> .int .i64 (f i)) zHH) (hn:n*8≤140737488351232):
  Calls Tryz.prog 41 #[.slice (some ⟨g,0,none⟩) n (n+64)] w fun e w'=>e= .returned (.bool true)∧Below w.heap.size w w':=by
 have H:=zL8 h
 have HZ:=zL8 hn
 have hl1:(n:Int)≤17592186044416:=by omega
 clear h hn
 go_enter Tryz.func41,Tryz.ntmps41
 go_wp2_with fail
 go_loopg [4] 64 (fun k iv wr=> ∃d:Nat,iv= .int .i64 (d:Nat)∧k=n+64 - d∧n≤d∧d≤n+64∧Below w.heap.size w wr)
 case atStart=>exact⟨n,rfl,by omega,by omega,by omega,zL9 _ _⟩
 case round=>
 obtain⟨d,rfl,hg2,hd0,hd,hb⟩:=hrel
 have HG:=zL8 hg2
 have HB:=zL8 hb
 have HB0:=zL8 hb.drew
 clear hg2 hb
 by_cases hlt:d<n+64
 ·have hlt':(d:Int)<(n:Int)+64:=by omega
  obtain⟨z0,zl⟩:=H.out.at_ hd0 hlt
  have c0:wr.cell? ⟨g,d,none⟩=some (.int .i64 (9437184+(d:Int)+1)):=(HB.out.cell (p:=⟨g,d,none⟩) zl).trans z0
  have c1:=zMB zl HB.out.size
  clear z0 zl
  go_wp2_with fail
  refine zAA (X:=none) 8 [([0,1,2,3,4],5)] [6,7] (by kernel_rfl) (by kernel_rfl) rfl (fun _ _ _ _ _ h=>h) ?_
  simp only[zAJ,zAC,zAG,zAD,zAB,List.getD_cons_zero,List.getD_cons_succ,List.drop_succ_cons,List.drop_nil]
  repeat (go_big_quiet_step (fail))
  refine wpQuiet_nil ?_
  go_wp2_with fail
  refine(zBt 9 (d:Int) (by decide) (by decide) (by omega) (by omega)).mono ?_;rintro e w3 ⟨rfl,rfl⟩
  have e0:(1048576:Int)*9+(d:Int)+1=9437184+(d:Int)+1:=by omega
  rw[e0]
  clear e0
  go_wp2_with fail
  refine⟨zAP.refl _,?_⟩
  repeat (go_big_quiet_step (fail))
  refine wpQuiet_nil ?_
  go_wp2_with fail
  go_roundg (n+64 - (d+1))
  case measure=>have:=HG.out;omega
  case rel=>exact⟨d+1,by go_num,rfl,by omega,by omega,HB0.out⟩
 ·have hlt': ¬(d:Int)<(n:Int)+64:=by omega
  go_wp2_with fail
  go_ret
  exact⟨rfl,HB.out⟩
theorem zJf {xs:List Value} (hs:Src w (.slice o n cap) n xs) (hx:xs.length=n) (h1: ∀u∈xs,u.oneCell'=true) (hn:n*8≤140737488351232):
  Calls Tryz.prog 89 #[.slice o n cap] w fun e w'=>(∃o2 c2,e= .returned (.slice o2 n c2)∧w'.ownsRow w.heap.size 3 1 (.slice o2 n c2) n xs)∧Below w.heap.size w w':=by
 have HS:=zL8 hs
 have H1:=zL8 h1
 clear hs h1
 go_enter Tryz.func89,Tryz.ntmps89
 go_wp2_with (at_builtin;refine zAN zEO rfl _ _ rfl w.heap.size (n:=0) (m:=n) (xs:=[]) (news:=xs) rfl (zMO _ _ _ _) rfl HS.out (by omega) H1.out (by unfold maxLen;omega) (by omega) (Nat.le_refl _) ?_)
 intro v1 w2 hm2 hgr2 hblk2
 replace hm2:w2.ownsRow w.heap.size 3 1 v1 n xs:=by simpa using hm2
 obtain⟨o2,c2,rfl⟩:=zAI hm2
 have HM:=zL8 hm2
 have HB:=zL8 ((zL9 w.heap.size w).grown hgr2 (zMA _) (fun k hk=>by cases hk))
 clear hm2 hgr2 hblk2
 go_wp2_with fail
 go_ret
 exact⟨⟨_,_,rfl,HM.out⟩,HB.out⟩
end
section
variable {w:World} {o o2:Option Addr} {n m cap cap2:Nat} {f f2:Nat→Int}
theorem zK5 (h:RwV w o n fun i=> .int .i64 (f i)) (h2:RwV w o2 m fun i=> .int .i64 (f2 i)) (hn:n≤9223372036854775807) (hm:m≤9223372036854775807):
  Calls Tryz.prog 38 #[.slice o n cap,.slice o2 m cap2] w fun e w'=>EqR e n m f f2∧Below w.heap.size w w':=by
 have HA:=zL8 h
 have HC:=zL8 h2
 have hz:(n:Int)≤9223372036854775807:=by omega
 have hz2:(m:Int)≤9223372036854775807:=by omega
 clear h h2
 go_enter Tryz.func38,Tryz.ntmps38
 by_cases hnm:n=m
 case neg=>
  have hq:((n:Int) !=(m:Int))=true:=by simp;omega
  have HNM:=zL8 hnm
  clear hnm
  go_wp2_with fail
  go_ret
  exact⟨EqR.no (fun h=>absurd h HNM.out) rfl,zL9 _ _⟩
 subst hnm
 go_wp2_with fail
 go_loopg [5] n (fun k iv wr=> ∃d:Nat,iv= .int .i64 (d:Nat)∧k=n - d∧d≤n∧Hid (∀i,i<d→f i=f2 i)∧Below w.heap.size w wr)
 case atStart=>exact⟨0,rfl,by omega,by omega,zL8 fun i hi=>absurd hi (by omega),zL9 _ _⟩
 case round=>
 obtain⟨d,rfl,hg,hd,HF,hbe⟩:=hrel
 have HG:=zL8 hg
 have HB:=zL8 hbe
 clear hg hbe
 by_cases hlt:d<n
 ·have hlt':(d:Int)<(n:Int):=by omega
  obtain⟨nb,no,rfl,nl,hc⟩:=HA.out (by omega)
  obtain⟨nb2,no2,rfl,nl2,hc2⟩:=HC.out (by omega)
  have c0:wr.cell? ⟨nb,no+d,none⟩=some (.int .i64 (f d)):=(HB.out.cell (p:=⟨nb,no+d,none⟩) nl).trans (hc d hlt)
  have c1:wr.cell? ⟨nb2,no2+d,none⟩=some (.int .i64 (f2 d)):=(HB.out.cell (p:=⟨nb2,no2+d,none⟩) nl2).trans (hc2 d hlt)
  have l0:=zMB nl HB.out.size
  have l1:=zMB nl2 HB.out.size
  clear hc hc2 nl nl2
  by_cases he:f d=f2 d
  ·have HN:Hid (∀i,i<d+1→f i=f2 i):=zL8 fun i hi=>by
    by_cases e:i=d
    ·subst e;exact he
    ·exact HF.out i (by omega)
   rw[he]at c0
   clear he
   revert c0 c1
   generalize f2 d=x
   intro c0 c1
   have e1:(x !=x)=false:=by simp
   go_wp2_with fail
   refine zAA (X:=none) 9 [] [0,1,2,3,4,5,6,7,8] (by kernel_rfl) (by kernel_rfl) rfl (fun _ _ _ _ _ h=>h) ?_
   simp only[zAJ,zAC,zAD,zAB,List.getD_cons_zero,List.getD_cons_succ,List.drop_succ_cons,List.drop_nil]
   repeat (go_big_quiet_step (fail))
   refine wpQuiet_nil ?_
   go_wp2_with fail
   go_roundg (n - (d+1))
   case measure=>have:=HG.out;omega
   case rel=>exact⟨d+1,by go_num,rfl,by omega,HN.out,HB.out.drew⟩
  ·have HNE:=zL8 he
   have HD0:=zL8 hlt
   clear he
   obtain⟨x,hx⟩: ∃x,f d=x:=⟨_,rfl⟩
   obtain⟨y,hy⟩: ∃y,f2 d=y:=⟨_,rfl⟩
   rw[hx]at c0
   rw[hy]at c1
   have e1:(x !=y)=true:=bne_iff_ne.2 (by rw[←hx,←hy];exact HNE.out)
   clear hx hy
   go_wp2_with fail
   refine zAA (X:=none) 9 [] [0,1,2,3,4,5,6,7,8] (by kernel_rfl) (by kernel_rfl) rfl (fun _ _ _ _ _ h=>h) ?_
   simp only[zAJ,zAC,zAD,zAB,List.getD_cons_zero,List.getD_cons_succ,List.drop_succ_cons,List.drop_nil]
   repeat (go_big_quiet_step (fail))
   refine wpQuiet_nil ?_
   go_wp2_with fail
   go_ret
   exact⟨EqR.no (fun _=>⟨d,HD0.out,HNE.out⟩) rfl,HB.out.drew⟩
 ·have hlt': ¬(d:Int)<(n:Int):=by omega
  go_wp2_with fail
  go_ret
  exact⟨EqR.yes rfl (fun i hi=>HF.out i (by omega)) rfl,HB.out⟩
end
section
variable {w:World} {o o2:Option Addr} {n m cap cap2:Nat} {f f2:Nat→Int}
theorem zJ7 (h:RwV w o n fun i=> .int .i64 (f i)) (h2:RwV w o2 m fun i=> .int .i64 (f2 i)) (hn:n≤9223372036854775807) (hm:m≤9223372036854775807):
  Calls Tryz.prog 56 #[.slice o n cap,.slice o2 m cap2] w fun e w'=>EqR e n m f f2∧Below w.heap.size w w':=by
 have HA:=zL8 h
 have HC:=zL8 h2
 have hz:(n:Int)≤9223372036854775807:=by omega
 have hz2:(m:Int)≤9223372036854775807:=by omega
 clear h h2
 go_enter Tryz.func56,Tryz.ntmps56
 by_cases hnm:n=m
 case neg=>
  have hq:((n:Int) !=(m:Int))=true:=by simp;omega
  have HNM:=zL8 hnm
  clear hnm
  go_wp2_with fail
  go_ret
  exact⟨EqR.no (fun h=>absurd h HNM.out) rfl,zL9 _ _⟩
 subst hnm
 go_wp2_with fail
 go_loopg [5,13] n (fun k jv iv wr=> ∃d:Nat,iv= .int .i64 (d:Nat)∧k=n - d∧d≤n∧Hid (∀i,i<d→f i=f2 i)∧Below w.heap.size w wr)
 case atStart=>exact⟨0,rfl,by omega,by omega,zL8 fun i hi=>absurd hi (by omega),zL9 _ _⟩
 case round=>
 obtain⟨d,rfl,hg,hd,HF,hbe⟩:=hrel
 have HG:=zL8 hg
 have HB:=zL8 hbe
 clear hg hbe
 by_cases hlt:d<n
 ·have hlt':(d:Int)<(n:Int):=by omega
  obtain⟨nb,no,rfl,nl,hc⟩:=HA.out (by omega)
  obtain⟨nb2,no2,rfl,nl2,hc2⟩:=HC.out (by omega)
  have c0:wr.cell? ⟨nb,no+d,none⟩=some (.int .i64 (f d)):=(HB.out.cell (p:=⟨nb,no+d,none⟩) nl).trans (hc d hlt)
  have c1:wr.cell? ⟨nb2,no2+d,none⟩=some (.int .i64 (f2 d)):=(HB.out.cell (p:=⟨nb2,no2+d,none⟩) nl2).trans (hc2 d hlt)
  have l0:=zMB nl HB.out.size
  have l1:=zMB nl2 HB.out.size
  clear hc hc2 nl nl2
  by_cases he:f d=f2 d
  ·have HN:Hid (∀i,i<d+1→f i=f2 i):=zL8 fun i hi=>by
    by_cases e:i=d
    ·subst e;exact he
    ·exact HF.out i (by omega)
   rw[he]at c0
   clear he
   revert c0 c1
   generalize f2 d=x
   intro c0 c1
   have e1:(x !=x)=false:=by simp
   go_wp2_with fail
   refine zAA (X:=none) 9 [] [0,1,2,3,4,5,6,7,8] (by kernel_rfl) (by kernel_rfl) rfl (fun _ _ _ _ _ h=>h) ?_
   simp only[zAJ,zAC,zAD,zAB,List.getD_cons_zero,List.getD_cons_succ,List.drop_succ_cons,List.drop_nil]
   repeat (go_big_quiet_step (fail))
   refine wpQuiet_nil ?_
   go_wp2_with fail
   go_roundg (n - (d+1))
   case measure=>have:=HG.out;omega
   case rel=>exact⟨d+1,by go_num,rfl,by omega,HN.out,HB.out.drew⟩
  ·have HNE:=zL8 he
   have HD0:=zL8 hlt
   clear he
   obtain⟨x,hx⟩: ∃x,f d=x:=⟨_,rfl⟩
   obtain⟨y,hy⟩: ∃y,f2 d=y:=⟨_,rfl⟩
   rw[hx]at c0
   rw[hy]at c1
   have e1:(x !=y)=true:=bne_iff_ne.2 (by rw[←hx,←hy];exact HNE.out)
   clear hx hy
   go_wp2_with fail
   refine zAA (X:=none) 9 [] [0,1,2,3,4,5,6,7,8] (by kernel_rfl) (by kernel_rfl) rfl (fun _ _ _ _ _ h=>h) ?_
   simp only[zAJ,zAC,zAD,zAB,List.getD_cons_zero,List.getD_cons_succ,List.drop_succ_cons,List.drop_nil]
   repeat (go_big_quiet_step (fail))
   refine wpQuiet_nil ?_
   go_wp2_with fail
   go_ret
   exact⟨EqR.no (fun _=>⟨d,HD0.out,HNE.out⟩) rfl,HB.out.drew⟩
 ·have hlt': ¬(d:Int)<(n:Int):=by omega
  go_wp2_with fail
  go_ret
  exact⟨EqR.yes rfl (fun i hi=>HF.out i (by omega)) rfl,HB.out⟩
end
section
variable {w:World} {o:Option Addr} {n cap:Nat} {f:Nat→ByteArray}
theorem zHe (h:RwV w o n fun i=> .string (f i)) (hn:n*16≤140737488351232) (ht:zBn w):
  Calls Tryz.prog 23 #[.slice o n cap] w fun e w'=>(∃g,e= .returned (.slice (some ⟨g,0,none⟩) n (n+64))∧zBe w' w.heap.size g n 9 (fun i=> .string (f i)) zHG)∧Below w.heap.size w w':=by
 have H:=zL8 h
 have HZ:=zL8 hn
 have hl1:(n:Int)≤17592186044416:=by omega
 have HT:=zL8 ht
 clear ht
 clear h hn
 obtain⟨i0,hi,hz0,hz1,hz2⟩:=info_parts (zJb).hi
 go_enter Tryz.func23,Tryz.ntmps23
 go_wp2_with (at_make;refine wpList_make_full _ rfl _ _ 24 rfl w.heap.size 9 i0 _ 1 Tryz.underlying24 hi hz0 hz1 .i64 .i64 ((n:Int)+64) ((n:Int)+64) (n+64) rfl rfl (by omega) (by omega) (by rw[hz2];have:=HZ.out;omega) (by unfold maxLen;omega) (by omega) ?_)
 intro w1 hown hgr
 have HO1:=zL8 hown
 have HB1:=zL8 ((zL9 w.heap.size w).grown hgr (zMA _) (fun k hk=>by cases hk))
 clear hown hgr hi hz0 hz1 hz2
 obtain⟨b,hbz⟩: ∃b,w.heap.size=b:=⟨_,rfl⟩
 rw[hbz]at HO1 ⊢
 have HBZ:=zL8 hbz
 clear hbz
 go_wp2_with fail
 go_loopg [4] (n+64) (fun k iv wr=> ∃(d:Nat) (xs:List Value),iv= .int .i64 (d:Nat)∧k=n+64 - d∧d≤n+64∧wr.ownsRow b 9 1 (.slice (some ⟨b,0,none⟩) (n+64) (n+64)) (n+64) xs∧Hid (∀i,i<d→xs[i]?=some (if i<n then .string (f i)else zHG i))∧Below w.heap.size w wr)
 case atStart=>exact⟨0,_,rfl,by omega,by omega,HO1.out,zL8 fun i hi=>absurd hi (by omega),HB1.out⟩
 case round=>
 obtain⟨d,xs,rfl,hg2,hd,ho,HX,hb⟩:=hrel
 have HG:=zL8 hg2
 have HO:=zL8 ho
 have HB:=zL8 hb
 clear hg2 ho hb HO1 HB1
 have hnext: ∀(v:Value),d<n+64→v=(if d<n then .string (f d)else zHG d)→Hid (∀i,i<d+1→(xs.set d v)[i]?=some (if i<n then .string (f i)else zHG i)):=fun v hv0 hv=>zL8 fun i hi=>by
  have hl:=HO.out.1
  by_cases e:d=i
  ·subst e
   rw[List.getElem?_set_self (by omega),hv]
  ·rw[List.getElem?_set_ne e]
   exact HX.out i (by omega)
 have HN:=zL8 hnext
 clear hnext
 by_cases hlt:d<n+64
 ·have hlt':(d:Int)<(n:Int)+64:=by omega
  by_cases hin:d<n
  ·have hin':(d:Int)<(n:Int):=by omega
   obtain⟨nb,no,rfl,hnb,hc⟩:=H.out (by omega)
   have c0:wr.cell? ⟨nb,no+d,none⟩=some (.string (f d)):=(HB.out.cell (p:=⟨nb,no+d,none⟩) hnb).trans (hc d hin)
   have c1:=zMB hnb HB.out.size
   obtain⟨_,g',hg',hgl,hcs,hfz⟩:=zAZ HO.out (by omega)
   cases hg'
   obtain⟨u0,_,z0⟩:=hcs d (by omega)
   have f0:=hfz d
   have HN1:=zL8 (HN.out _ hlt (by rw[if_pos hin]))
   have HR:=zL8 (zMW HO.out d (.string (f d))).1
   have HB2:=zL8 (HB.out.setCell (p:=⟨b,d,none⟩) (by rw[HBZ.out];exact zMA _) (.string (f d)))
   clear hcs hfz hc
   go_wp2_with fail
   go_roundg (n+64 - (d+1))
   case measure=>have:=HG.out;omega
   case rel=>exact⟨d+1,_,by go_num,rfl,by omega,HR.out,HN1.out,HB2.out⟩
  ·have hin': ¬(d:Int)<(n:Int):=by omega
   have HN1:=zL8 (HN.out (.string (zE3 d)) hlt (by rw[if_neg hin];rfl))
   go_wp2_with fail
   refine(zEX (i:=d) (by omega) (HT.out.below HB.out)).mono ?_;rintro e w3 ⟨rfl,hbt⟩
   have HBT:=zL8 (HB.out.trans (hbt.mono HB.out.size))
   have HO2:=zL8 (zAQ HO.out (.below hbt))
   clear hbt HB HO
   have HB:=HBT
   have HO:=HO2
   clear HBT HO2
   obtain⟨_,g',hg',hgl,hcs,hfz⟩:=zAZ HO.out (by omega)
   cases hg'
   obtain⟨u0,_,z0⟩:=hcs d (by omega)
   have f0:=hfz d
   have HR:=zL8 (zMW HO.out d (.string (zE3 d))).1
   have HB2:=zL8 (HB.out.setCell (p:=⟨b,d,none⟩) (by rw[HBZ.out];exact zMA _) (.string (zE3 d)))
   clear hcs hfz
   go_wp2_with fail
   go_roundg (n+64 - (d+1))
   case measure=>have:=HG.out;omega
   case rel=>exact⟨d+1,_,by go_num,rfl,by omega,HR.out,HN1.out,HB2.out⟩
 ·have hlt': ¬(d:Int)<(n:Int)+64:=by omega
  have hde:d=n+64:=by omega
  subst hde
  go_wp2_with fail
  go_ret
  refine⟨⟨b,rfl,xs,by rw[HBZ.out];exact HO.out,fun i hi=>?_,fun i h1 h2=>?_⟩,HB.out⟩
  ·rw[HX.out i (by omega),if_pos hi]
  ·rw[HX.out i (by omega),if_neg (by omega)]
theorem zGs {base g:Nat} (h:zBe w base g n 9 (fun i=> .string (f i)) zHG) (hn:n*16≤140737488351232) (ht:zBn w):
  Calls Tryz.prog 42 #[.slice (some ⟨g,0,none⟩) n (n+64)] w fun e w'=>e= .returned (.bool true)∧Below w.heap.size w w':=by
 have H:=zL8 h
 have HZ:=zL8 hn
 have hl1:(n:Int)≤17592186044416:=by omega
 have HT:=zL8 ht
 clear ht
 clear h hn
 go_enter Tryz.func42,Tryz.ntmps42
 go_wp2_with fail
 go_loopg [4] 64 (fun k iv wr=> ∃d:Nat,iv= .int .i64 (d:Nat)∧k=n+64 - d∧n≤d∧d≤n+64∧Below w.heap.size w wr)
 case atStart=>exact⟨n,rfl,by omega,by omega,by omega,zL9 _ _⟩
 case round=>
 obtain⟨d,rfl,hg2,hd0,hd,hb⟩:=hrel
 have HG:=zL8 hg2
 have HB:=zL8 hb
 have HB0:=zL8 hb.drew
 clear hg2 hb
 by_cases hlt:d<n+64
 ·have hlt':(d:Int)<(n:Int)+64:=by omega
  obtain⟨z0,zl⟩:=H.out.at_ hd0 hlt
  have c0:wr.cell? ⟨g,d,none⟩=some (.string (zE3 d)):=(HB.out.cell (p:=⟨g,d,none⟩) zl).trans z0
  have c1:=zMB zl HB.out.size
  clear z0 zl
  go_wp2_with fail
  refine zAA (X:=none) 8 [([0,1,2,3,4],5)] [6,7] (by kernel_rfl) (by kernel_rfl) rfl (fun _ _ _ _ _ h=>h) ?_
  simp only[zAJ,zAC,zAG,zAD,zAB,List.getD_cons_zero,List.getD_cons_succ,List.drop_succ_cons,List.drop_nil]
  repeat (go_big_quiet_step (fail))
  refine wpQuiet_nil ?_
  go_wp2_with fail
  refine(zEX (i:=d) (by omega) (HT.out.below HB0.out)).mono ?_;rintro e w3 ⟨rfl,hbt⟩
  have HBT:=zL8 hbt
  have hsame:=zEQ (zE3 d)
  clear hbt
  go_wp2_with fail
  refine⟨zAP.of_below HBT.out,?_⟩
  repeat (go_big_quiet_step (fail))
  refine wpQuiet_nil ?_
  go_wp2_with fail
  go_roundg (n+64 - (d+1))
  case measure=>have:=HG.out;omega
  case rel=>exact⟨d+1,by go_num,rfl,by omega,by omega,(HB0.out.trans (HBT.out.mono HB0.out.size))⟩
 ·have hlt': ¬(d:Int)<(n:Int)+64:=by omega
  go_wp2_with fail
  go_ret
  exact⟨rfl,HB.out⟩
theorem zIk {xs:List Value} (hs:Src w (.slice o n cap) n xs) (hx:xs.length=n) (h1: ∀u∈xs,u.oneCell'=true) (hn:n*16≤140737488351232):
  Calls Tryz.prog 90 #[.slice o n cap] w fun e w'=>(∃o2 c2,e= .returned (.slice o2 n c2)∧w'.ownsRow w.heap.size 9 1 (.slice o2 n c2) n xs)∧Below w.heap.size w w':=by
 have HS:=zL8 hs
 have H1:=zL8 h1
 clear hs h1
 go_enter Tryz.func90,Tryz.ntmps90
 go_wp2_with (at_builtin;refine zAN zJb rfl _ _ rfl w.heap.size (n:=0) (m:=n) (xs:=[]) (news:=xs) rfl (zMO _ _ _ _) rfl HS.out (by omega) H1.out (by unfold maxLen;omega) (by omega) (Nat.le_refl _) ?_)
 intro v1 w2 hm2 hgr2 hblk2
 replace hm2:w2.ownsRow w.heap.size 9 1 v1 n xs:=by simpa using hm2
 obtain⟨o2,c2,rfl⟩:=zAI hm2
 have HM:=zL8 hm2
 have HB:=zL8 ((zL9 w.heap.size w).grown hgr2 (zMA _) (fun k hk=>by cases hk))
 clear hm2 hgr2 hblk2
 go_wp2_with fail
 go_ret
 exact⟨⟨_,_,rfl,HM.out⟩,HB.out⟩
end
section
variable {w:World} {o o2:Option Addr} {n m cap cap2:Nat} {f f2:Nat→ByteArray}
theorem zKO (h:RwV w o n fun i=> .string (f i)) (h2:RwV w o2 m fun i=> .string (f2 i)) (hn:n≤9223372036854775807) (hm:m≤9223372036854775807):
  Calls Tryz.prog 39 #[.slice o n cap,.slice o2 m cap2] w fun e w'=>EqR e n m f f2∧Below w.heap.size w w':=by
 have HA:=zL8 h
 have HC:=zL8 h2
 have hz:(n:Int)≤9223372036854775807:=by omega
 have hz2:(m:Int)≤9223372036854775807:=by omega
 clear h h2
 go_enter Tryz.func39,Tryz.ntmps39
 by_cases hnm:n=m
 case neg=>
  have hq:((n:Int) !=(m:Int))=true:=by simp;omega
  have HNM:=zL8 hnm
  clear hnm
  go_wp2_with fail
  go_ret
  exact⟨EqR.no (fun h=>absurd h HNM.out) rfl,zL9 _ _⟩
 subst hnm
 go_wp2_with fail
 go_loopg [5] n (fun k iv wr=> ∃d:Nat,iv= .int .i64 (d:Nat)∧k=n - d∧d≤n∧Hid (∀i,i<d→f i=f2 i)∧Below w.heap.size w wr)
 case atStart=>exact⟨0,rfl,by omega,by omega,zL8 fun i hi=>absurd hi (by omega),zL9 _ _⟩
 case round=>
 obtain⟨d,rfl,hg,hd,HF,hbe⟩:=hrel
 have HG:=zL8 hg
 have HB:=zL8 hbe
 clear hg hbe
 by_cases hlt:d<n
 ·have hlt':(d:Int)<(n:Int):=by omega
  obtain⟨nb,no,rfl,nl,hc⟩:=HA.out (by omega)
  obtain⟨nb2,no2,rfl,nl2,hc2⟩:=HC.out (by omega)
  have c0:wr.cell? ⟨nb,no+d,none⟩=some (.string (f d)):=(HB.out.cell (p:=⟨nb,no+d,none⟩) nl).trans (hc d hlt)
  have c1:wr.cell? ⟨nb2,no2+d,none⟩=some (.string (f2 d)):=(HB.out.cell (p:=⟨nb2,no2+d,none⟩) nl2).trans (hc2 d hlt)
  have l0:=zMB nl HB.out.size
  have l1:=zMB nl2 HB.out.size
  clear hc hc2 nl nl2
  by_cases he:f d=f2 d
  ·have HN:Hid (∀i,i<d+1→f i=f2 i):=zL8 fun i hi=>by
    by_cases e:i=d
    ·subst e;exact he
    ·exact HF.out i (by omega)
   rw[he]at c0
   clear he
   revert c0 c1
   generalize f2 d=x
   intro c0 c1
   have e1:(x !=x)=false:=by unfold bne;rw[zEQ];rfl
   go_wp2_with fail
   refine zAA (X:=none) 9 [] [0,1,2,3,4,5,6,7,8] (by kernel_rfl) (by kernel_rfl) rfl (fun _ _ _ _ _ h=>h) ?_
   simp only[zAJ,zAC,zAD,zAB,List.getD_cons_zero,List.getD_cons_succ,List.drop_succ_cons,List.drop_nil]
   repeat (go_big_quiet_step (fail))
   refine wpQuiet_nil ?_
   go_wp2_with fail
   go_roundg (n - (d+1))
   case measure=>have:=HG.out;omega
   case rel=>exact⟨d+1,by go_num,rfl,by omega,HN.out,HB.out.drew⟩
  ·have HNE:=zL8 he
   have HD0:=zL8 hlt
   clear he
   obtain⟨x,hx⟩: ∃x,f d=x:=⟨_,rfl⟩
   obtain⟨y,hy⟩: ∃y,f2 d=y:=⟨_,rfl⟩
   rw[hx]at c0
   rw[hy]at c1
   have e1:(x.toList==y.toList)=false:=zHm (by rw[←hx,←hy];exact HNE.out)
   clear hx hy
   go_wp2_with fail
   refine zAA (X:=none) 9 [] [0,1,2,3,4,5,6,7,8] (by kernel_rfl) (by kernel_rfl) rfl (fun _ _ _ _ _ h=>h) ?_
   simp only[zAJ,zAC,zAD,zAB,List.getD_cons_zero,List.getD_cons_succ,List.drop_succ_cons,List.drop_nil]
   repeat (go_big_quiet_step (fail))
   refine wpQuiet_nil ?_
   go_wp2_with fail
   go_ret
   exact⟨EqR.no (fun _=>⟨d,HD0.out,HNE.out⟩) rfl,HB.out.drew⟩
 ·have hlt': ¬(d:Int)<(n:Int):=by omega
  go_wp2_with fail
  go_ret
  exact⟨EqR.yes rfl (fun i hi=>HF.out i (by omega)) rfl,HB.out⟩
end
section
variable {w:World} {o o2:Option Addr} {n m cap cap2:Nat} {f f2:Nat→ByteArray}
theorem zI8 (h:RwV w o n fun i=> .string (f i)) (h2:RwV w o2 m fun i=> .string (f2 i)) (hn:n≤9223372036854775807) (hm:m≤9223372036854775807):
  Calls Tryz.prog 57 #[.slice o n cap,.slice o2 m cap2] w fun e w'=>EqR e n m f f2∧Below w.heap.size w w':=by
 have HA:=zL8 h
 have HC:=zL8 h2
 have hz:(n:Int)≤9223372036854775807:=by omega
 have hz2:(m:Int)≤9223372036854775807:=by omega
 clear h h2
 go_enter Tryz.func57,Tryz.ntmps57
 by_cases hnm:n=m
 case neg=>
  have hq:((n:Int) !=(m:Int))=true:=by simp;omega
  have HNM:=zL8 hnm
  clear hnm
  go_wp2_with fail
  go_ret
  exact⟨EqR.no (fun h=>absurd h HNM.out) rfl,zL9 _ _⟩
 subst hnm
 go_wp2_with fail
 go_loopg [5,13] n (fun k jv iv wr=> ∃d:Nat,iv= .int .i64 (d:Nat)∧k=n - d∧d≤n∧Hid (∀i,i<d→f i=f2 i)∧Below w.heap.size w wr)
 case atStart=>exact⟨0,rfl,by omega,by omega,zL8 fun i hi=>absurd hi (by omega),zL9 _ _⟩
 case round=>
 obtain⟨d,rfl,hg,hd,HF,hbe⟩:=hrel
 have HG:=zL8 hg
 have HB:=zL8 hbe
 clear hg hbe
 by_cases hlt:d<n
 ·have hlt':(d:Int)<(n:Int):=by omega
  obtain⟨nb,no,rfl,nl,hc⟩:=HA.out (by omega)
  obtain⟨nb2,no2,rfl,nl2,hc2⟩:=HC.out (by omega)
  have c0:wr.cell? ⟨nb,no+d,none⟩=some (.string (f d)):=(HB.out.cell (p:=⟨nb,no+d,none⟩) nl).trans (hc d hlt)
  have c1:wr.cell? ⟨nb2,no2+d,none⟩=some (.string (f2 d)):=(HB.out.cell (p:=⟨nb2,no2+d,none⟩) nl2).trans (hc2 d hlt)
  have l0:=zMB nl HB.out.size
  have l1:=zMB nl2 HB.out.size
  clear hc hc2 nl nl2
  by_cases he:f d=f2 d
  ·have HN:Hid (∀i,i<d+1→f i=f2 i):=zL8 fun i hi=>by
    by_cases e:i=d
    ·subst e;exact he
    ·exact HF.out i (by omega)
   rw[he]at c0
   clear he
   revert c0 c1
   generalize f2 d=x
   intro c0 c1
   have e1:(x !=x)=false:=by unfold bne;rw[zEQ];rfl
   go_wp2_with fail
   refine zAA (X:=none) 9 [] [0,1,2,3,4,5,6,7,8] (by kernel_rfl) (by kernel_rfl) rfl (fun _ _ _ _ _ h=>h) ?_
   simp only[zAJ,zAC,zAD,zAB,List.getD_cons_zero,List.getD_cons_succ,List.drop_succ_cons,List.drop_nil]
   repeat (go_big_quiet_step (fail))
   refine wpQuiet_nil ?_
   go_wp2_with fail
   go_roundg (n - (d+1))
   case measure=>have:=HG.out;omega
   case rel=>exact⟨d+1,by go_num,rfl,by omega,HN.out,HB.out.drew⟩
  ·have HNE:=zL8 he
   have HD0:=zL8 hlt
   clear he
   obtain⟨x,hx⟩: ∃x,f d=x:=⟨_,rfl⟩
   obtain⟨y,hy⟩: ∃y,f2 d=y:=⟨_,rfl⟩
   rw[hx]at c0
   rw[hy]at c1
   have e1:(x.toList==y.toList)=false:=zHm (by rw[←hx,←hy];exact HNE.out)
   clear hx hy
   go_wp2_with fail
   refine zAA (X:=none) 9 [] [0,1,2,3,4,5,6,7,8] (by kernel_rfl) (by kernel_rfl) rfl (fun _ _ _ _ _ h=>h) ?_
   simp only[zAJ,zAC,zAD,zAB,List.getD_cons_zero,List.getD_cons_succ,List.drop_succ_cons,List.drop_nil]
   repeat (go_big_quiet_step (fail))
   refine wpQuiet_nil ?_
   go_wp2_with fail
   go_ret
   exact⟨EqR.no (fun _=>⟨d,HD0.out,HNE.out⟩) rfl,HB.out.drew⟩
 ·have hlt': ¬(d:Int)<(n:Int):=by omega
  go_wp2_with fail
  go_ret
  exact⟨EqR.yes rfl (fun i hi=>HF.out i (by omega)) rfl,HB.out⟩
end
end Go.Proofs.YtfcemodgopdkkaaGreatDoor
