/- Parts: Hj Hk Hl Hm Hn Hp Ho. -/
import Derived.Test.YtfjbnpdffillbaaGreatDoorQ43
import Derived.Test.YtfjbnpdffillbaaGreatDoorQ45
import Derived.Test.YtfjbnpdffillbaaGreatDoorQ49
import Derived.Test.YtfjbnpdffillbaaGreatDoorQ41
namespace Go.Proofs.YtfjbnpdffillbaaGreatDoor
open Go.RowKit
structure RgS (w:World) (gb bb n:Nat) (op:Nat→Bool):Prop where
 g:GtS w gb bb n op
 c1:w.cell? ⟨gb,1,none⟩=some (.bool true)
section
variable {w w':World} {gb bb n:Nat} {op:Nat→Bool} {ka na:Int} {oa:Option Addr} {la ca:Nat} {kb nb:Int} {ob:Option Addr} {lb cb:Nat} {nt:Bool} {cs:Array Value}
theorem RgS.block (h:RgS w gb bb n op) (h1:w'.heap[gb]?=w.heap[gb]?) (h2:w'.heap[bb]?=w.heap[bb]?) (hs:w.heap.size≤w'.heap.size):RgS w' gb bb n op:=⟨h.g.block h1 h2 hs,(World.cell?_of_block (w:=w) (a:=⟨gb,1,none⟩) h1).trans h.c1⟩
theorem RgS.below (h:RgS w gb bb n op) (hb:Below w.heap.size w w'):RgS w' gb bb n op:=h.block (hb.block _ h.g.lt) (hb.block _ h.g.ltb) hb.size
theorem RgS.set (h:RgS w gb bb n op) {i:Nat} (hi:i<n) (x:Bool):RgS (w.setCell ⟨bb,i,none⟩ (.bool x)) gb bb n (fun j=>if j=i then x else op j):=
 ⟨h.g.set hi x,(World.cell?_of_block (w:=w) (a:=⟨gb,1,none⟩) (Below.heap_setCell _ _ _ _ (by show gb≠bb;exact fun e=>h.g.ne e.symm))).trans h.c1⟩
theorem RgS.new {w w1:World} {n:Nat} (hn:n≤4096) (h:w1.ownsRow w.heap.size 4 1 (.slice (some ⟨w.heap.size,0,none⟩) n n) n (madeCells #[.bool false] n).toList):
  RgS (w1.alloc (.cells #[.slice (some ⟨w.heap.size,0,none⟩) n n,.bool true] 140)) w1.heap.size w.heap.size n (fun _=>false):=by
 have hB:(w1.alloc (.cells #[.slice (some ⟨w.heap.size,0,none⟩) n n,.bool true] 140)).heap[w1.heap.size]?=some (.cells #[.slice (some ⟨w.heap.size,0,none⟩) n n,.bool true] 140 (0,0)):=heap_alloc_new w1 _
 have hlt:w.heap.size<w1.heap.size:=(World.ownsRow.lt h _ rfl).2
 have hold:(w1.alloc (.cells #[.slice (some ⟨w.heap.size,0,none⟩) n n,.bool true] 140)).heap[w.heap.size]?=w1.heap[w.heap.size]?:=heap_alloc_old _ _ hlt
 exact⟨⟨by simp,by simp;omega,by omega,(cell_of_row _ _ 0 _ _ (0,0) hB).trans rfl,fun i hi=>(World.cell?_of_block (w:=w1) (a:=⟨w.heap.size,i,none⟩) hold).trans ((World.ownsRow.cellAt h i (by omega)).trans (made_bools n i hi)),
  fun o=>(World.frozen?_of_block (w:=w1) (a:=⟨w.heap.size,o,none⟩) hold).trans (World.ownsRow.frozenAt h o),hn⟩,(cell_of_row _ _ 1 _ _ (0,0) hB).trans rfl⟩
set_option maxRecDepth 100000 in
set_option maxHeartbeats 1600000 in
theorem rnew_call {n:Nat} (hn:n≤4096):
  Calls Tryz.prog 33 #[.int .i64 (n:Nat)] w fun e w'=> ∃gb bb,e= .returned (.tuple #[.pointer (some ⟨gb,0,none⟩),.int .i64 0])∧w.heap.size≤gb∧w.heap.size≤bb∧RgS w' gb bb n (fun _=>false)∧Below w.heap.size w w':=by
 obtain⟨i0,hi,hz0,hz1,hz2⟩:=info_parts (elBo).hi
 have h1: ¬(n:Int)<0:=by omega
 have h2: ¬(4096:Int)<(n:Int):=by omega
 go_enter Tryz.func33,Tryz.ntmps33
 go_wp2_with (at_make;refine wpList_make_full _ rfl _ _ 92 rfl w.heap.size 4 i0 _ 1 Tryz.underlying92 hi hz0 hz1 .i64 .i64 (n:Int) (n:Int) n rfl rfl (by omega) (by omega) (by rw[hz2];omega) (by unfold maxLen;omega) (Nat.le_refl _) ?_)
 intro w1 hown hgr
 have HG:=Lib.hid (RgS.new hn hown)
 have HB:=Lib.hid ((Below.refl w.heap.size w).grown hgr (Nat.le_refl _) (fun k hk=>by cases hk))
 have hs:=HB.out.size
 clear hown hgr hi hz0 hz1 hz2
 go_wp2_with fail
 go_ret2
 exact⟨_,_,rfl,hs,Nat.le_refl _,HG.out,HB.out.alloc hs _⟩
set_option maxRecDepth 100000 in
set_option maxHeartbeats 1600000 in
theorem gnew_out {x:Int} (hx:x<0∨4096<x):Calls Tryz.prog 32 #[.int .i64 x] w fun e w'=>e= .returned (.tuple #[.pointer none,.int .i64 1])∧w=w':=by
 rcases hx with hx|hx
 ·go_enter Tryz.func32,Tryz.ntmps32
  go_wp2_with fail
  go_ret2
  exact⟨rfl,rfl⟩
 ·have h0: ¬x<0:=by omega
  go_enter Tryz.func32,Tryz.ntmps32
  go_wp2_with fail
  go_ret2
  exact⟨rfl,rfl⟩
set_option maxRecDepth 100000 in
set_option maxHeartbeats 1600000 in
theorem rnew_out {x:Int} (hx:x<0∨4096<x):Calls Tryz.prog 33 #[.int .i64 x] w fun e w'=>e= .returned (.tuple #[.pointer none,.int .i64 1])∧w=w':=by
 rcases hx with hx|hx
 ·go_enter Tryz.func33,Tryz.ntmps33
  go_wp2_with fail
  go_ret2
  exact⟨rfl,rfl⟩
 ·have h0: ¬x<0:=by omega
  go_enter Tryz.func33,Tryz.ntmps33
  go_wp2_with fail
  go_ret2
  exact⟨rfl,rfl⟩
set_option maxRecDepth 100000 in
set_option maxHeartbeats 1600000 in
theorem ropen_any (h:RgS w gb bb n op) (x:Int):
  Calls Tryz.prog 43 #[.pointer (some ⟨gb,0,none⟩),.int .i64 x] w fun e w'=>e= .returned (.bool (opAt n op x))∧w=w':=by
 have c0:=h.g.c0
 have c1:=h.c1
 have hl:=h.g.nl
 by_cases h0:x<0
 ·have h0': ¬0≤x:=by omega
  rw[opAt_out (.inl h0)]
  clear h
  go_enter Tryz.func43,Tryz.ntmps43
  go_wp2_with fail
  go_ret
  exact⟨rfl,rfl⟩
 by_cases h1:(n:Int)≤x
 ·have h0':0≤x:=by omega
  have h1': ¬x<(n:Int):=by omega
  rw[opAt_out (.inr h1)]
  clear h
  go_enter Tryz.func43,Tryz.ntmps43
  go_wp2_with fail
  go_ret
  exact⟨rfl,rfl⟩
 obtain⟨i,rfl⟩: ∃i:Nat,x=(i:Nat):=⟨x.toNat,by omega⟩
 rw[opAt_in (by omega)]
 have c2:=h.g.op i (by omega)
 have hn:(i:Int)<(n:Int):=by omega
 clear h h0 h1
 go_enter Tryz.func43,Tryz.ntmps43
 go_wp2_with fail
 go_ret
 exact⟨rfl,rfl⟩
set_option maxRecDepth 100000 in
set_option maxHeartbeats 1600000 in
theorem open_nil (x:Int):Calls Tryz.prog 42 #[.pointer none,.int .i64 x] w fun e w'=>e= .returned (.bool false)∧w=w':=by
 go_enter Tryz.func42,Tryz.ntmps42
 go_wp2_with fail
 go_ret
 exact⟨rfl,rfl⟩
set_option maxRecDepth 100000 in
set_option maxHeartbeats 1600000 in
theorem ropen_nil (x:Int):Calls Tryz.prog 43 #[.pointer none,.int .i64 x] w fun e w'=>e= .returned (.bool false)∧w=w':=by
 go_enter Tryz.func43,Tryz.ntmps43
 go_wp2_with fail
 go_ret
 exact⟨rfl,rfl⟩
set_option maxRecDepth 100000 in
set_option maxHeartbeats 1600000 in
theorem takes_nil (x line:Int) (last:Bool) {fn:FuncId} {first cap:Array Value} :
  Calls Tryz.prog 35 #[.pointer none,.int .i64 x,.agg cs,.int .i64 line,.bool last,.func (.func fn) first cap] w fun e w'=>e= .returned (.tuple #[.bool false,.bool false])∧Below w.heap.size w w':=by
 have HB:=Lib.hid (tkW_below w cs line last (.func (.func fn) first cap))
 go_enter Tryz.func35,Tryz.ntmps35
 go_wp2_with fail
 go_ret2
 exact⟨rfl,HB.out⟩
end
end Go.Proofs.YtfjbnpdffillbaaGreatDoor
namespace Go.Proofs.YtfjbnpdffillbaaGreatDoor
open Go.RowKit
section
variable {w w':World} {gb bb n:Nat} {op:Nat→Bool} {ka na:Int} {oa:Option Addr} {la ca:Nat} {kb nb:Int} {ob:Option Addr} {lb cb:Nat} {nt:Bool} {cs:Array Value}
set_option maxRecDepth 100000 in
set_option maxHeartbeats 1600000 in
theorem rsel_call (k x:Int) (o:Option Addr) (l c:Nat) (line:Int) (last hit:Bool) (k1: -128≤k) (k2:k≤127):
  Calls Tryz.prog 93 #[.agg #[.int .i8 k,.int .i64 x,.slice o l c],.int .i64 line,.bool last,.bool hit] w fun e w'=>e= .returned (.bool (selS k x line last hit))∧Below w.heap.size w w':=by
 by_cases h1:k=1
 ·subst h1
  go_enter Tryz.func93,Tryz.ntmps93
  go_wp2_with fail
  go_ret
  exact⟨rfl,(Below.refl _ _).alloc (Nat.le_refl _) _⟩
 by_cases h2:k=2
 ·subst h2
  go_enter Tryz.func93,Tryz.ntmps93
  go_wp2_with fail
  go_ret
  exact⟨rfl,(Below.refl _ _).alloc (Nat.le_refl _) _⟩
 by_cases h3:k=3
 ·subst h3
  go_enter Tryz.func93,Tryz.ntmps93
  go_wp2_with fail
  go_ret
  exact⟨rfl,(Below.refl _ _).alloc (Nat.le_refl _) _⟩
 have q1:(k==1)=false:=beq_eq_false_iff_ne.2 h1
 have q2:(k==2)=false:=beq_eq_false_iff_ne.2 h2
 have q3:(k==3)=false:=beq_eq_false_iff_ne.2 h3
 have HS:Hid (selS k x line last hit=false):=Lib.hid (by unfold selS;rw[if_neg h1,if_neg h2,if_neg h3])
 clear h1 h2 h3
 go_enter Tryz.func93,Tryz.ntmps93
 go_wp2_with fail
 go_ret
 exact⟨by rw[HS.out];rfl,(Below.refl _ _).alloc (Nat.le_refl _) _⟩
structure CmS (w:World) (c:Nat) (ka na:Int) (oa:Option Addr) (la ca:Nat) (kb nb:Int) (ob:Option Addr) (lb cb:Nat) (nt:Bool):Prop where
 lt:c<w.heap.size
 a0:w.cell? ⟨c,0,none⟩=some (.int .i8 ka)
 a1:w.cell? ⟨c,1,none⟩=some (.int .i64 na)
 a2:w.cell? ⟨c,2,none⟩=some (.slice oa la ca)
 b0:w.cell? ⟨c,3,none⟩=some (.int .i8 kb)
 b1:w.cell? ⟨c,4,none⟩=some (.int .i64 nb)
 b2:w.cell? ⟨c,5,none⟩=some (.slice ob lb cb)
 n:w.cell? ⟨c,6,none⟩=some (.bool nt)
theorem CmS.block {c:Nat} (h:CmS w c ka na oa la ca kb nb ob lb cb nt) (h0:w'.heap[c]?=w.heap[c]?) (hs:w.heap.size≤w'.heap.size):CmS w' c ka na oa la ca kb nb ob lb cb nt:=
 have f: ∀j,w'.cell? ⟨c,j,none⟩=w.cell? ⟨c,j,none⟩:=fun j=>World.cell?_of_block (w:=w) (a:=⟨c,j,none⟩) h0
 ⟨Nat.lt_of_lt_of_le h.lt hs,(f 0).trans h.a0,(f 1).trans h.a1,(f 2).trans h.a2,(f 3).trans h.b0,(f 4).trans h.b1,(f 5).trans h.b2,(f 6).trans h.n⟩
theorem CmS.below {c:Nat} (h:CmS w c ka na oa la ca kb nb ob lb cb nt) (hb:Below w.heap.size w w'):CmS w' c ka na oa la ca kb nb ob lb cb nt:=h.block (hb.block _ h.lt) hb.size
theorem CmS.new (hc:CmdV cs ka na oa la ca kb nb ob lb cb nt) (w:World):CmS (w.alloc (.cells cs 91)) w.heap.size ka na oa la ca kb nb ob lb cb nt:=by
 have hB:(w.alloc (.cells cs 91)).heap[w.heap.size]?=some (.cells cs 91 (0,0)):=heap_alloc_new w _
 exact⟨by simp,(cell_of_row _ _ 0 _ _ (0,0) hB).trans hc.a0,(cell_of_row _ _ 1 _ _ (0,0) hB).trans hc.a1,(cell_of_row _ _ 2 _ _ (0,0) hB).trans hc.a2,(cell_of_row _ _ 3 _ _ (0,0) hB).trans hc.b0,(cell_of_row _ _ 4 _ _ (0,0) hB).trans hc.b1,(cell_of_row _ _ 5 _ _ (0,0) hB).trans hc.b2,(cell_of_row _ _ 6 _ _ (0,0) hB).trans hc.n⟩
def RtPost (w:World) (gb bb n:Nat) (op:Nat→Bool) (x:Int) (r:Bool × Bool × Bool) (e:Ending) (w':World):Prop:=
 e= .returned (.tuple #[.bool r.1,.bool r.2.1])∧(∃op',RgS w' gb bb n op'∧ ∀y,opAt n op' y=if y=x then r.2.2 else opAt n op y)∧RBut bb none w w'
theorem if_same (f:Int→Bool) (x y:Int):f y=if y=x then f x else f y:=by
 split
 ·rename_i h;rw[h]
 ·rfl
theorem rt_same {x:Int} {r1 r2:Bool} (hg:RgS w gb bb n op) (hb:Below w.heap.size w w'):RtPost w gb bb n op x (r1,r2,opAt n op x) (.returned (.tuple #[.bool r1,.bool r2])) w':=
 ⟨rfl,⟨op,hg.below hb,fun y=>if_same (opAt n op) x y⟩,RBut.of_below hb⟩
theorem rt_set {i:Nat} {r1 r2 r3:Bool} (hg:RgS w gb bb n op) (hi:i<n) (hb:Below w.heap.size w w'):RtPost w gb bb n op (i:Int) (r1,r2,r3) (.returned (.tuple #[.bool r1,.bool r2])) (w'.setCell ⟨bb,i,none⟩ (.bool r3)):=
 ⟨rfl,⟨_,(hg.below hb).set hi r3,fun y=>opAt_set hi r3 y⟩,⟨hb.os,hb.tape,hb.output,by simpa using hb.size,fun k hk h1 _=>(Below.heap_setCell _ _ _ _ h1).trans (hb.block k hk)⟩⟩
end
end Go.Proofs.YtfjbnpdffillbaaGreatDoor
namespace Go.Proofs.YtfjbnpdffillbaaGreatDoor
open Go.RowKit
section
variable {w w':World} {gb bb n:Nat} {op:Nat→Bool} {ka na:Int} {oa:Option Addr} {la ca:Nat} {kb nb:Int} {ob:Option Addr} {lb cb:Nat} {nt:Bool} {cs:Array Value}
set_option maxRecDepth 100000 in
set_option maxHeartbeats 6400000 in
theorem rtakes_any (hc:CmdV cs ka na oa la ca kb nb ob lb cb nt) (hg:RgS w gb bb n op) (x:Int) (ba: -128≤ka∧ka≤127) (bk: -128≤kb∧kb≤127) (line:Int) (last hit:Bool):
  Calls Tryz.prog 38 #[.pointer (some ⟨gb,0,none⟩),.int .i64 x,.agg cs,.int .i64 line,.bool last,.bool hit] w (RtPost w gb bb n op x (takesI n x ka na kb nb nt line last (opAt n op x) hit)):=by
 obtain⟨r,hr⟩: ∃r,takesI n x ka na kb nb nt line last (opAt n op x) hit=r:=⟨_,rfl⟩
 rw[hr]
 have HR0:=Lib.hid hr
 clear hr
 have hb1:=(Below.refl w.heap.size w).alloc (Nat.le_refl _) (.cells cs 91)
 have HB:=Lib.hid hb1
 have HK:=Lib.hid (CmS.new hc w)
 have HG0:=Lib.hid hg
 have HG:=Lib.hid (hg.below hb1)
 have hgl:=hg.g.lt
 have hbl:=hg.g.ltb
 have hnl:=hg.g.nl
 have ba1:=ba.1
 have ba2:=ba.2
 have bk1:=bk.1
 have bk2:=bk.2
 clear hc hg hb1 ba bk
 go_enter Tryz.func38,Tryz.ntmps38
 go_upto_region 1 with fail
 obtain⟨W,hW⟩: ∃W,w.alloc (.cells cs 91)=W:=⟨_,rfl⟩
 rw[hW]at HB HK HG ⊢
 clear hW
 have g0:=HG.out.g.c0
 have g1:=HG.out.c1
 have gl:=HG.out.g.lt
 have gbl:=HG.out.g.ltb
 by_cases h0:x<0
 ·have HR:Hid (r=(false,false,opAt n op x)):=Lib.hid (by
   rw[←HR0.out]
   unfold takesI
   rw[if_neg (by omega),opAt_out (.inl h0)])
  go_wp2_with fail
  go_ret2
  rw[HR.out]
  exact rt_same HG0.out HB.out
 by_cases h1:(n:Int)≤x
 ·have HR:Hid (r=(false,false,opAt n op x)):=Lib.hid (by
   rw[←HR0.out]
   unfold takesI
   rw[if_neg (by omega),opAt_out (.inr h1)])
  go_wp2_with fail
  go_ret2
  rw[HR.out]
  exact rt_same HG0.out HB.out
 obtain⟨i,rfl⟩: ∃i:Nat,x=(i:Nat):=⟨x.toNat,by omega⟩
 have hi:i<n:=by omega
 have HI:=Lib.hid hi
 have hin:(i:Int)<(n:Int):=by omega
 have hnge: ¬(n:Int)≤(i:Int):=h1
 have g2:=HG.out.g.op i hi
 have g3:=HG.out.g.fz
 have HOI:Hid (opAt n op (i:Int)=op i):=Lib.hid (opAt_in hi)
 have HR:Hid (takesS ka na kb nb nt line last (op i) hit=r):=Lib.hid (by rw[←HR0.out];unfold takesI;rw[if_pos (by omega),opAt_in hi])
 clear h0 h1 hi
 have a0:=HK.out.a0
 have a1:=HK.out.a1
 have a2:=HK.out.a2
 have b0:=HK.out.b0
 have b1:=HK.out.b1
 have b2:=HK.out.b2
 have kn:=HK.out.n
 have kl:=HK.out.lt
 by_cases ha0:ka=0
 ·subst ha0
  have HE:Hid (r=(true !=nt,false,opAt n op (i:Int))):=Lib.hid (by rw[←HR.out,HOI.out];rfl)
  go_wp2_with fail
  go_ret2
  rw[HE.out]
  have h:=rt_same (x:=(i:Int)) (r1:=(true !=nt)) (r2:=false) HG0.out HB.out
  cases nt<;>exact h
 have qa0:(ka==0)=false:=beq_eq_false_iff_ne.2 ha0
 have HA0:=Lib.hid ha0
 clear ha0
 obtain⟨sa,hsa⟩: ∃sa,selS ka na line last hit=sa:=⟨_,rfl⟩
 have HSA:=Lib.hid (rsel_call (w:=W) ka na oa la ca line last hit ba1 ba2)
 rw[hsa]at HSA
 have HSE:=Lib.hid hsa
 clear hsa
 by_cases hb0:kb=0
 ·subst hb0
  have HE:Hid (r=(sa !=nt,false,opAt n op (i:Int))):=Lib.hid (by rw[←HR.out,←HSE.out,HOI.out];unfold takesS;rw[if_neg HA0.out,if_pos rfl])
  go_wp2_with fail
  refine HSA.out.mono ?_;rintro e w1 ⟨rfl,hb⟩
  have HB1:=Lib.hid (HB.out.trans (hb.mono HB.out.size))
  have kn1:=(HK.out.below hb).n
  clear hb
  go_wp2_with fail
  go_ret2
  rw[HE.out]
  have h:=rt_same (x:=(i:Int)) (r1:=(sa !=nt)) (r2:=false) HG0.out HB1.out
  cases nt<;>cases sa<;>exact h
 have qb0:(kb==0)=false:=beq_eq_false_iff_ne.2 hb0
 have HB0:=Lib.hid hb0
 clear hb0
 obtain⟨oi,hoi⟩: ∃oi,op i=oi:=⟨_,rfl⟩
 rw[hoi]at g2 HR
 have HOP:=Lib.hid hoi
 clear hoi
 cases oi with
 |true=>
  have HE0:Hid (r=(true !=nt,(if kb=1 then decide (nb≤line)else selS kb nb line last hit),!(if kb=1 then decide (nb≤line)else selS kb nb line last hit))):=Lib.hid (by rw[←HR.out];unfold takesS;rw[if_neg HA0.out,if_neg HB0.out,if_pos rfl])
  by_cases hk1:kb=1
  ·subst hk1
   have HE:Hid (r=(true !=nt,decide (nb≤line),!decide (nb≤line))):=Lib.hid (by rw[HE0.out,if_pos rfl])
   obtain⟨p,hp⟩: ∃p,decide (nb≤line)=p:=⟨_,rfl⟩
   rw[hp]at HE
   by_cases hle:nb≤line
   ·have hpt:p=true:=by rw[←hp];exact decide_eq_true hle
    subst hpt
    clear hp
    go_wp2_with fail
    go_ret2
    rw[HE.out]
    have h:=rt_set (r1:=(true !=nt)) (r2:=true) (r3:=false) HG0.out HI.out HB.out
    cases nt<;>exact h
   ·have hpt:p=false:=by rw[←hp];exact decide_eq_false hle
    subst hpt
    clear hp
    go_wp2_with fail
    go_ret2
    rw[HE.out]
    have h:=rt_set (r1:=(true !=nt)) (r2:=false) (r3:=true) HG0.out HI.out HB.out
    cases nt<;>exact h
  have qb1:(kb==1)=false:=beq_eq_false_iff_ne.2 hk1
  obtain⟨sb,hsb⟩: ∃sb,selS kb nb line last hit=sb:=⟨_,rfl⟩
  have HE:Hid (r=(true !=nt,sb,!sb)):=Lib.hid (by rw[HE0.out,if_neg hk1,hsb])
  have HSB:=Lib.hid (rsel_call (w:=W) kb nb ob lb cb line last hit bk1 bk2)
  rw[hsb]at HSB
  clear hsb hk1
  go_wp2_with fail
  refine HSB.out.mono ?_;rintro e w1 ⟨rfl,hb⟩
  have HB1:=Lib.hid (HB.out.trans (hb.mono HB.out.size))
  have HG1:=Lib.hid (HG.out.below hb)
  have kn1:=(HK.out.below hb).n
  have kl1:=(HK.out.below hb).lt
  have g01:=HG1.out.g.c0
  have g21:=HG1.out.g.op i HI.out
  have g31:=HG1.out.g.fz
  have hne:=HG1.out.g.ne
  have hcb: ¬bb=w.heap.size:=by omega
  clear hb g0 g1 g2 g3 a0 a1 a2 b0 b1 b2 kn kl
  cases sb with
  |true=>
   go_wp2_with fail
   go_ret2
   rw[HE.out]
   have h:=rt_set (r1:=(true !=nt)) (r2:=true) (r3:=false) HG0.out HI.out HB1.out
   cases nt<;>exact h
  |false=>
   go_wp2_with fail
   go_ret2
   rw[HE.out]
   have h:=rt_set (r1:=(true !=nt)) (r2:=false) (r3:=true) HG0.out HI.out HB1.out
   cases nt<;>exact h
 |false=>
  have HE0:Hid (r=if sa=true then(true !=nt,(kb==1&&decide (nb≤line)||kb==2&&last),!(kb==1&&decide (nb≤line)||kb==2&&last))else(false !=nt,false,false)):=Lib.hid (by rw[←HR.out,←HSE.out];unfold takesS;rw[if_neg HA0.out,if_neg HB0.out,if_neg (by simp)])
  have hne:=HG.out.g.ne
  have hcb: ¬bb=w.heap.size:=by omega
  cases sa with
  |false=>
   have HE:Hid (r=(false !=nt,false,opAt n op (i:Int))):=Lib.hid (by rw[HE0.out,if_neg (by simp),HOI.out,HOP.out])
   go_wp2_with fail
   refine HSA.out.mono ?_;rintro e w1 ⟨rfl,hb⟩
   have HB1:=Lib.hid (HB.out.trans (hb.mono HB.out.size))
   have kn1:=(HK.out.below hb).n
   clear hb
   go_wp2_with fail
   go_ret2
   rw[HE.out]
   have h:=rt_same (x:=(i:Int)) (r1:=(false !=nt)) (r2:=false) HG0.out HB1.out
   cases nt<;>exact h
  |true=>
   obtain⟨cl,hcl⟩: ∃cl,(kb==1&&decide (nb≤line)||kb==2&&last)=cl:=⟨_,rfl⟩
   have HE:Hid (r=(true !=nt,cl,!cl)):=Lib.hid (by rw[HE0.out,if_pos rfl,hcl])
   have HCL:=Lib.hid hcl
   clear hcl
   go_wp2_with fail
   refine HSA.out.mono ?_;rintro e w1 ⟨rfl,hb⟩
   have HB1:=Lib.hid (HB.out.trans (hb.mono HB.out.size))
   have HG1:=Lib.hid (HG.out.below hb)
   have HK1:=Lib.hid (HK.out.below hb)
   clear hb g0 g1 g2 g3 a0 a1 a2 b0 b1 b2 kn kl
   have kn1:=HK1.out.n
   have kl1:=HK1.out.lt
   have b01:=HK1.out.b0
   have b11:=HK1.out.b1
   have g01:=HG1.out.g.c0
   have g21:=HG1.out.g.op i HI.out
   have g31:=HG1.out.g.fz
   have h:=rt_set (r1:=(true !=nt)) (r2:=cl) (r3:= !cl) HG0.out HI.out HB1.out
   have HH:=Lib.hid h
   clear h
   by_cases hk1:kb=1
   ·subst hk1
    by_cases hle:nb≤line
    ·have hct:cl=true:=by rw[←HCL.out];simp[hle]
     subst hct
     go_wp2_with fail
     go_ret2
     rw[HE.out]
     have h:=HH.out
     cases nt<;>exact h
    ·have hct:cl=false:=by rw[←HCL.out];simp[hle]
     have hlt:line<nb:=by omega
     have hd:decide (nb≤line)=false:=decide_eq_false hle
     subst hct
     go_wp2_with fail
     go_ret2
     rw[HE.out]
     have h:=HH.out
     cases nt<;>exact h
   have qb1:(kb==1)=false:=beq_eq_false_iff_ne.2 hk1
   clear hk1
   by_cases hk2:kb=2
   ·subst hk2
    have hct:cl=last:=by rw[←HCL.out];simp
    subst hct
    cases cl with
    |true=>
     go_wp2_with fail
     go_ret2
     rw[HE.out]
     have h:=HH.out
     cases nt<;>exact h
    |false=>
     go_wp2_with fail
     go_ret2
     rw[HE.out]
     have h:=HH.out
     cases nt<;>exact h
   have qb2:(kb==2)=false:=beq_eq_false_iff_ne.2 hk2
   have hct:cl=false:=by rw[←HCL.out,qb1,qb2];rfl
   subst hct
   clear hk2
   go_wp2_with fail
   go_ret2
   rw[HE.out]
   have h:=HH.out
   cases nt<;>exact h
end
end Go.Proofs.YtfjbnpdffillbaaGreatDoor
namespace Go.Proofs.YtfjbnpdffillbaaGreatDoor
open Go.RowKit
def AskP (w:World) (A:Option Ad) (e:Ending) (w':World):Prop:=
 ∃(k m:Int) (o:Option Addr) (l c:Nat) (b:Bool),e= .returned (.tuple #[.agg #[.int .i8 k,.int .i64 m,.slice o l c],.bool b])∧(A=none→b=false)∧
  ∀a,A=some a→b=true∧k=a.kind∧m=a.n∧l=a.re.length∧NdU w' o a.re∧ ∀g q,o=some ⟨g,q,none⟩→0<a.re.length→w.heap.size≤g
section
variable {w w':World} {gb bb n:Nat} {op:Nat→Bool} {ka na:Int} {oa:Option Addr} {ca:Nat} {kb nb:Int} {ob:Option Addr} {cb:Nat} {nt:Bool} {cs:Array Value} {ra rb:List Nd} {b:Nat}
theorem ret_ask {Q:Ending→World→Prop} {a:Act} {o:Option Addr} {len cp:Nat} {kk nn:Int} {ee:Bool} (h4:a.tmps.getD 6 undef= .pointer (some ⟨b,0,none⟩)) (h5:a.tmps.getD 7 undef= .bool ee) (hd:a.defers=[])
  (h:AdB w b (.int .i8 kk) (.int .i64 nn) (.slice o len cp)) (hQ:Q (.returned (.tuple #[.agg #[.int .i8 kk,.int .i64 nn,.slice o len cp],.bool ee])) w):
  bodyPost Tryz.prog Tryz.f37 Q .ret a w:=by
 refine bodyPost_ret (v:= .tuple #[.agg #[.int .i8 kk,.int .i64 nn,.slice o len cp],.bool ee]) ?_ hd hQ
 have c0:=h.c0
 have c1:=h.c1
 have c2:=h.c2
 simp only[Array.getD_eq_getD_getElem?]at h4 h5
 simp[results,Tryz.results37,go_sem,h4,h5,c0,c1,c2]
theorem askA_p {W:World} {k m:Int} {re:List Nd} {o:Option Addr} {c:Nat} {e:Ending} {base:Nat} (he:e= .returned (.tuple #[.agg #[.int .i8 k,.int .i64 m,.slice o re.length c],.bool (k==3)])) (hn:Nds W base (.slice o re.length c) re) (hb:w.heap.size≤base):AskP w (askA k m re) e W:=by
 refine⟨k,m,o,re.length,c,_,he,fun h=>?_,fun a ha=>?_⟩
 ·unfold askA at h
  split at h
  ·cases h
  ·rename_i hk;exact beq_eq_false_iff_ne.2 hk
 ·unfold askA at ha
  split at ha
  ·rename_i hk
   injection ha with ha
   subst ha
   refine⟨by simp[hk],rfl,rfl,rfl,?_,fun g q hg hp=>?_⟩
   ·obtain⟨o',c',e1,hu⟩:=hn.toU
    injection e1 with e1
    rw[e1];exact hu
   ·exact Nat.le_trans hb (hn.lt g (by rw[hg];rfl)).1
  ·cases ha
theorem askP_none {k m:Int} {o:Option Addr} {l c:Nat} :AskP w none (.returned (.tuple #[.agg #[.int .i8 k,.int .i64 m,.slice o l c],.bool false])) w':=
 ⟨k,m,o,l,c,false,rfl,fun _=>rfl,fun a h=>by cases h⟩
set_option maxRecDepth 100000 in
set_option maxHeartbeats 6400000 in
theorem rasks_any (hc:CmdV cs ka na oa ra.length ca kb nb ob rb.length cb nt) (hg:RgS w gb bb n op) (x:Int) (ba: -128≤ka∧ka≤127) (bk: -128≤kb∧kb≤127)
  (hsa:Src w (.slice oa ra.length ca) ra.length (ndsC ra)) (hla:ra.length*72≤140737488355328) (hsb:Src w (.slice ob rb.length cb) rb.length (ndsC rb)) (hlb:rb.length*72≤140737488355328):
  Calls Tryz.prog 37 #[.pointer (some ⟨gb,0,none⟩),.int .i64 x,.agg cs] w fun e w'=>AskP w (askedI n x ka na ra kb nb rb (opAt n op x)) e w'∧Below w.heap.size w w':=by
 obtain⟨A,hA⟩: ∃A,askedI n x ka na ra kb nb rb (opAt n op x)=A:=⟨_,rfl⟩
 rw[hA]
 have HA:=Lib.hid hA
 clear hA
 have hb1:=((Below.refl w.heap.size w).alloc (Nat.le_refl _) (.cells cs 91)).alloc (by simp) (.cells #[.int .i8 0,.int .i64 0,.slice none 0 0] 54)
 have HB:=Lib.hid hb1
 have HK:=Lib.hid ((CmS.new hc w).below ((Below.refl _ _).alloc (Nat.le_refl _) (.cells #[.int .i8 0,.int .i64 0,.slice none 0 0] 54)))
 have HZ:=Lib.hid (AdB.new (w.alloc (.cells cs 91)) (.int .i8 0) (.int .i64 0) (.slice none 0 0))
 have hsz:(w.alloc (.cells cs 91)).heap.size=w.heap.size+1:=by simp
 rw[hsz]at HZ
 have HSZ:Hid (((w.alloc (.cells cs 91)).alloc (.cells #[.int .i8 0,.int .i64 0,.slice none 0 0] 54)).heap.size=w.heap.size+2):=Lib.hid (by simp)
 have HG:=Lib.hid (hg.below hb1)
 have HSA:=Lib.hid (Src.below hsa hb1)
 have HSB:=Lib.hid (Src.below hsb hb1)
 have hgl:=hg.g.lt
 have hbl:=hg.g.ltb
 have hnl:=hg.g.nl
 have ba1:=ba.1
 have ba2:=ba.2
 have bk1:=bk.1
 have bk2:=bk.2
 have HLA:=Lib.hid hla
 have HLB:=Lib.hid hlb
 clear hc hg hb1 hsz ba bk hsa hsb hla hlb
 go_enter Tryz.func37,Tryz.ntmps37
 go_upto_region 1 with fail
 obtain⟨W,hW⟩: ∃W,(w.alloc (.cells cs 91)).alloc (.cells #[.int .i8 0,.int .i64 0,.slice none 0 0] 54)=W:=⟨_,rfl⟩
 rw[hW]at HB HK HZ HG HSA HSB HSZ ⊢
 clear hW
 have g0:=HG.out.g.c0
 have g1:=HG.out.c1
 have gl:=HG.out.g.lt
 have gbl:=HG.out.g.ltb
 have r0:=HZ.out.c0
 have r1:=HZ.out.c1
 have r2:=HZ.out.c2
 have rf:=HZ.out.fz
 have rl:=HZ.out.lt
 by_cases h0:x<0
 ·have HN:Hid (A=none):=Lib.hid (by rw[←HA.out];unfold askedI;rw[if_neg (by omega)])
  go_wp2_with fail
  refine ret_ask (b:=w.heap.size+1) rfl rfl rfl (HZ.out.set (.int .i8 0) (.int .i64 0) (.slice none 0 0)) ⟨?_,?_⟩
  ·rw[HN.out];exact askP_none
  ·exact((HB.out.setCell (by show w.heap.size≤w.heap.size+1;omega) _).setCell (by show w.heap.size≤w.heap.size+1;omega) _).setCell (by show w.heap.size≤w.heap.size+1;omega) _
 by_cases h1:(n:Int)≤x
 ·have HN:Hid (A=none):=Lib.hid (by rw[←HA.out];unfold askedI;rw[if_neg (by omega)])
  go_wp2_with fail
  refine ret_ask (b:=w.heap.size+1) rfl rfl rfl (HZ.out.set (.int .i8 0) (.int .i64 0) (.slice none 0 0)) ⟨?_,?_⟩
  ·rw[HN.out];exact askP_none
  ·exact((HB.out.setCell (by show w.heap.size≤w.heap.size+1;omega) _).setCell (by show w.heap.size≤w.heap.size+1;omega) _).setCell (by show w.heap.size≤w.heap.size+1;omega) _
 obtain⟨i,rfl⟩: ∃i:Nat,x=(i:Nat):=⟨x.toNat,by omega⟩
 have hi:i<n:=by omega
 have HI:=Lib.hid hi
 have hin:(i:Int)<(n:Int):=by omega
 have hnge: ¬(n:Int)≤(i:Int):=h1
 have g2:=HG.out.g.op i hi
 have HAA:Hid (askedA ka na ra kb nb rb (op i)=A):=Lib.hid (by rw[←HA.out];unfold askedI;rw[if_pos (by omega),opAt_in hi])
 clear h0 h1 hi
 have a0:=HK.out.a0
 have a1:=HK.out.a1
 have a2:=HK.out.a2
 have b0:=HK.out.b0
 have b1:=HK.out.b1
 have b2:=HK.out.b2
 have kl:=HK.out.lt
 by_cases ha0:ka=0
 ·subst ha0
  have HN:Hid (A=none):=Lib.hid (by rw[←HA.out];unfold askedI;split<;>rfl)
  go_wp2_with fail
  refine ret_ask (b:=w.heap.size+1) rfl rfl rfl (HZ.out.set (.int .i8 0) (.int .i64 0) (.slice none 0 0)) ⟨?_,?_⟩
  ·rw[HN.out];exact askP_none
  ·exact((HB.out.setCell (by show w.heap.size≤w.heap.size+1;omega) _).setCell (by show w.heap.size≤w.heap.size+1;omega) _).setCell (by show w.heap.size≤w.heap.size+1;omega) _
 have qa0:(ka==0)=false:=beq_eq_false_iff_ne.2 ha0
 go_upto_region 4 with fail
 have HE:=Lib.hid (AdB.new W (.int .i8 ka) (.int .i64 na) (.slice oa ra.length ca))
 have hb2:=(Below.refl W.heap.size W).alloc (Nat.le_refl _) (.cells #[.int .i8 ka,.int .i64 na,.slice oa ra.length ca] 54)
 have HK2:=Lib.hid (HK.out.below hb2)
 have HZ2:=Lib.hid (HZ.out.below hb2)
 have HG2:=Lib.hid (HG.out.below hb2)
 have HB2:=Lib.hid (HB.out.trans (hb2.mono HB.out.size))
 have HSA2:=Lib.hid (Src.below HSA.out hb2)
 have HSB2:=Lib.hid (Src.below HSB.out hb2)
 have HS2:Hid ((W.alloc (.cells #[.int .i8 ka,.int .i64 na,.slice oa ra.length ca] 54)).heap.size=w.heap.size+3):=Lib.hid (by have:=HSZ.out;simp;omega)
 obtain⟨W2,hW⟩: ∃V,W.alloc (.cells #[.int .i8 ka,.int .i64 na,.slice oa ra.length ca] 54)=V:=⟨_,rfl⟩
 rw[hW]at HE HK2 HZ2 HG2 HB2 HSA2 HSB2 HS2 hb2 ⊢
 obtain⟨E,hE⟩: ∃E,W.heap.size=E:=⟨_,rfl⟩
 rw[hE]at HE hb2 ⊢
 have HBW:=Lib.hid hb2
 have HWE:=Lib.hid hE
 have HEE:Hid (E=w.heap.size+2):=Lib.hid (by rw[←hE];exact HSZ.out)
 clear hW hE hb2 g0 g1 gl gbl r0 r1 r2 rf rl a0 a1 a2 b0 b1 b2 kl g2 HK HZ HG HB HSA
 have g0:=HG2.out.g.c0
 have gl:=HG2.out.g.lt
 have gbl:=HG2.out.g.ltb
 have g2:=HG2.out.g.op i HI.out
 have b0:=HK2.out.b0
 have b1:=HK2.out.b1
 have b2:=HK2.out.b2
 have kl:=HK2.out.lt
 by_cases hb0:kb=0
 ·have qb0:(kb !=0)=false:=by rw[hb0];rfl
  have HB0:=Lib.hid hb0
  clear hb0
  go_upto_region 6 with fail
  have HAE:Hid (A=askA ka na ra):=Lib.hid (by rw[←HAA.out];unfold askedA;rw[if_neg ha0,if_pos HB0.out])
  have e0:=HE.out.c0
  have e1:=HE.out.c1
  have e2:=HE.out.c2
  have el:=HE.out.lt
  have hne:w.heap.size+1≠E:=by have:=HEE.out;omega
  have HD:=Lib.hid ((Below.refl (W2).heap.size (W2)).drew)
  have HCA:=Lib.hid (copyAddr_call (cap:=ca) ka na (Src.below HSA2.out HD.out) HLA.out)
  refine wp_region_segs (X:=(some (w.heap.size+1))) 8 [([0,2,3,4,5],1),([],6)] [7] (by kernel_rfl) (by kernel_rfl) rfl (fun _ _ _ _ _ h=>h) ?_
  simp only[wpSegs,pickSegs_nil,pickSegs_cons,pickOps_nil,pickOps_cons,List.getD_cons_zero,List.getD_cons_succ,List.drop_succ_cons,List.drop_nil]
  repeat (go_big_quiet_step (fail))
  refine wpQuiet_nil ?_
  go_wp2_with fail
  refine HCA.out.mono ?_;rintro e w5 ⟨⟨o5,c5,rfl,hn5⟩,hb5⟩
  have HK5:=Lib.hid hb5
  have HN5:=Lib.hid hn5
  have HB5:=Lib.hid (HB2.out.trans ((HD.out.trans hb5).mono HB2.out.size))
  have HZ5:=Lib.hid (HZ2.out.below (HD.out.trans hb5))
  have HS5:Hid (w.heap.size+3≤(W2).heap.size):=Lib.hid (by have:=HS2.out;omega)
  clear hb5 hn5 e0 e1 e2 el HCA
  have z0:=HZ5.out.c0
  have z1:=HZ5.out.c1
  have z2:=HZ5.out.c2
  have zf:=HZ5.out.fz
  have zl:=HZ5.out.lt
  go_wp2_with fail
  refine⟨Keeps.of_below HK5.out,?_⟩
  repeat (go_big_quiet_step (fail))
  refine wpQuiet_nil ?_
  go_wp2_with fail
  refine⟨((Keeps.of_setCell _).trans (Keeps.of_setCell _)).trans (Keeps.of_setCell _),?_⟩
  repeat (go_big_quiet_step (fail))
  refine wpQuiet_nil ?_
  go_wp2_with fail
  refine ret_ask (b:=w.heap.size+1) rfl rfl rfl (HZ5.out.set (.int .i8 ka) (.int .i64 na) (.slice o5 ra.length c5)) ⟨?_,?_⟩
  ·rw[HAE.out]
   refine askA_p rfl (Nds.block HN5.out fun g hg=>?_) (by have:=HS5.out;show w.heap.size≤(W2).heap.size;omega)
   have hh:(W2).heap.size≤g:=(HN5.out.lt g hg).1
   have hs:=HS5.out
   exact(Below.heap_setCell _ _ _ _ (by show g≠w.heap.size+1;omega)).trans ((Below.heap_setCell _ _ _ _ (by show g≠w.heap.size+1;omega)).trans (Below.heap_setCell _ _ _ _ (by show g≠w.heap.size+1;omega)))
  ·exact((HB5.out.setCell (by show w.heap.size≤w.heap.size+1;omega) _).setCell (by show w.heap.size≤w.heap.size+1;omega) _).setCell (by show w.heap.size≤w.heap.size+1;omega) _
 have qb0:(kb !=0)=true:=by simpa [bne]using hb0
 have HB0:=Lib.hid hb0
 clear hb0
 obtain⟨oi,hoi⟩: ∃oi,op i=oi:=⟨_,rfl⟩
 rw[hoi]at g2 HAA
 clear hoi
 cases oi with
 |false=>
  go_upto_region 6 with fail
  have HAE:Hid (A=askA ka na ra):=Lib.hid (by rw[←HAA.out];unfold askedA;rw[if_neg ha0,if_neg HB0.out,if_neg (by simp)])
  have e0:=HE.out.c0
  have e1:=HE.out.c1
  have e2:=HE.out.c2
  have el:=HE.out.lt
  have hne:w.heap.size+1≠E:=by have:=HEE.out;omega
  have HD:=Lib.hid ((Below.refl (W2).heap.size (W2)).drew)
  have HCA:=Lib.hid (copyAddr_call (cap:=ca) ka na (Src.below HSA2.out HD.out) HLA.out)
  refine wp_region_segs (X:=(some (w.heap.size+1))) 8 [([0,2,3,4,5],1),([],6)] [7] (by kernel_rfl) (by kernel_rfl) rfl (fun _ _ _ _ _ h=>h) ?_
  simp only[wpSegs,pickSegs_nil,pickSegs_cons,pickOps_nil,pickOps_cons,List.getD_cons_zero,List.getD_cons_succ,List.drop_succ_cons,List.drop_nil]
  repeat (go_big_quiet_step (fail))
  refine wpQuiet_nil ?_
  go_wp2_with fail
  refine HCA.out.mono ?_;rintro e w5 ⟨⟨o5,c5,rfl,hn5⟩,hb5⟩
  have HK5:=Lib.hid hb5
  have HN5:=Lib.hid hn5
  have HB5:=Lib.hid (HB2.out.trans ((HD.out.trans hb5).mono HB2.out.size))
  have HZ5:=Lib.hid (HZ2.out.below (HD.out.trans hb5))
  have HS5:Hid (w.heap.size+3≤(W2).heap.size):=Lib.hid (by have:=HS2.out;omega)
  clear hb5 hn5 e0 e1 e2 el HCA
  have z0:=HZ5.out.c0
  have z1:=HZ5.out.c1
  have z2:=HZ5.out.c2
  have zf:=HZ5.out.fz
  have zl:=HZ5.out.lt
  go_wp2_with fail
  refine⟨Keeps.of_below HK5.out,?_⟩
  repeat (go_big_quiet_step (fail))
  refine wpQuiet_nil ?_
  go_wp2_with fail
  refine⟨((Keeps.of_setCell _).trans (Keeps.of_setCell _)).trans (Keeps.of_setCell _),?_⟩
  repeat (go_big_quiet_step (fail))
  refine wpQuiet_nil ?_
  go_wp2_with fail
  refine ret_ask (b:=w.heap.size+1) rfl rfl rfl (HZ5.out.set (.int .i8 ka) (.int .i64 na) (.slice o5 ra.length c5)) ⟨?_,?_⟩
  ·rw[HAE.out]
   refine askA_p rfl (Nds.block HN5.out fun g hg=>?_) (by have:=HS5.out;show w.heap.size≤(W2).heap.size;omega)
   have hh:(W2).heap.size≤g:=(HN5.out.lt g hg).1
   have hs:=HS5.out
   exact(Below.heap_setCell _ _ _ _ (by show g≠w.heap.size+1;omega)).trans ((Below.heap_setCell _ _ _ _ (by show g≠w.heap.size+1;omega)).trans (Below.heap_setCell _ _ _ _ (by show g≠w.heap.size+1;omega)))
  ·exact((HB5.out.setCell (by show w.heap.size≤w.heap.size+1;omega) _).setCell (by show w.heap.size≤w.heap.size+1;omega) _).setCell (by show w.heap.size≤w.heap.size+1;omega) _
 |true=>
  have e0:=HE.out.c0
  have e1:=HE.out.c1
  have e2:=HE.out.c2
  have ef:=HE.out.fz
  have el:=HE.out.lt
  go_upto_region 6 with fail
  have HE3:=Lib.hid (HE.out.set (.int .i8 kb) (.int .i64 nb) (.slice ob rb.length cb))
  have HZ3:=Lib.hid (((HZ2.out.other (c:=E) (by have:=HEE.out;omega) 0 (.int .i8 kb)).other (c:=E) (by have:=HEE.out;omega) 1 (.int .i64 nb)).other (c:=E) (by have:=HEE.out;omega) 2 (.slice ob rb.length cb))
  have HB3:=Lib.hid (((HB2.out.setCell (p:=⟨E,0,none⟩) (by show w.heap.size≤E;have:=HEE.out;omega) (.int .i8 kb)).setCell (p:=⟨E,1,none⟩) (by show w.heap.size≤E;have:=HEE.out;omega) (.int .i64 nb)).setCell (p:=⟨E,2,none⟩) (by show w.heap.size≤E;have:=HEE.out;omega) (.slice ob rb.length cb))
  have HBW3:=Lib.hid (((HBW.out.setCell (p:=⟨E,0,none⟩) (Nat.le_refl _) (.int .i8 kb)).setCell (p:=⟨E,1,none⟩) (Nat.le_refl _) (.int .i64 nb)).setCell (p:=⟨E,2,none⟩) (Nat.le_refl _) (.slice ob rb.length cb))
  obtain⟨W3,hW⟩: ∃V,((W2.setCell ⟨E,0,none⟩ (.int .i8 kb)).setCell ⟨E,1,none⟩ (.int .i64 nb)).setCell ⟨E,2,none⟩ (.slice ob rb.length cb)=V:=⟨_,rfl⟩
  have HS3:Hid (w.heap.size+3≤W3.heap.size):=Lib.hid (by rw[←hW];have:=HS2.out;simp;omega)
  rw[hW]at HE3 HZ3 HB3 HBW3 ⊢
  have HSB3:=Lib.hid (Src.below HSB.out (by rw[HWE.out];exact HBW3.out))
  clear hW e0 e1 e2 ef el g0 gl gbl g2 b0 b1 b2 kl HE HZ2 HB2 HSA2 HSB2 HG2 HK2
  have HAE:Hid (A=askA kb nb rb):=Lib.hid (by rw[←HAA.out];unfold askedA;rw[if_neg ha0,if_neg HB0.out,if_pos rfl])
  have e0:=HE3.out.c0
  have e1:=HE3.out.c1
  have e2:=HE3.out.c2
  have el:=HE3.out.lt
  have hne:w.heap.size+1≠E:=by have:=HEE.out;omega
  have HD:=Lib.hid ((Below.refl (W3).heap.size (W3)).drew)
  have HCA:=Lib.hid (copyAddr_call (cap:=cb) kb nb (Src.below HSB3.out HD.out) HLB.out)
  refine wp_region_segs (X:=(some (w.heap.size+1))) 8 [([0,2,3,4,5],1),([],6)] [7] (by kernel_rfl) (by kernel_rfl) rfl (fun _ _ _ _ _ h=>h) ?_
  simp only[wpSegs,pickSegs_nil,pickSegs_cons,pickOps_nil,pickOps_cons,List.getD_cons_zero,List.getD_cons_succ,List.drop_succ_cons,List.drop_nil]
  repeat (go_big_quiet_step (fail))
  refine wpQuiet_nil ?_
  go_wp2_with fail
  refine HCA.out.mono ?_;rintro e w5 ⟨⟨o5,c5,rfl,hn5⟩,hb5⟩
  have HK5:=Lib.hid hb5
  have HN5:=Lib.hid hn5
  have HB5:=Lib.hid (HB3.out.trans ((HD.out.trans hb5).mono HB3.out.size))
  have HZ5:=Lib.hid (HZ3.out.below (HD.out.trans hb5))
  have HS5:Hid (w.heap.size+3≤(W3).heap.size):=Lib.hid (by have:=HS2.out;have:=HS3.out;omega)
  clear hb5 hn5 e0 e1 e2 el HCA
  have z0:=HZ5.out.c0
  have z1:=HZ5.out.c1
  have z2:=HZ5.out.c2
  have zf:=HZ5.out.fz
  have zl:=HZ5.out.lt
  go_wp2_with fail
  refine⟨Keeps.of_below HK5.out,?_⟩
  repeat (go_big_quiet_step (fail))
  refine wpQuiet_nil ?_
  go_wp2_with fail
  refine⟨((Keeps.of_setCell _).trans (Keeps.of_setCell _)).trans (Keeps.of_setCell _),?_⟩
  repeat (go_big_quiet_step (fail))
  refine wpQuiet_nil ?_
  go_wp2_with fail
  refine ret_ask (b:=w.heap.size+1) rfl rfl rfl (HZ5.out.set (.int .i8 kb) (.int .i64 nb) (.slice o5 rb.length c5)) ⟨?_,?_⟩
  ·rw[HAE.out]
   refine askA_p rfl (Nds.block HN5.out fun g hg=>?_) (by have:=HS5.out;show w.heap.size≤(W3).heap.size;omega)
   have hh:(W3).heap.size≤g:=(HN5.out.lt g hg).1
   have hs:=HS5.out
   exact(Below.heap_setCell _ _ _ _ (by show g≠w.heap.size+1;omega)).trans ((Below.heap_setCell _ _ _ _ (by show g≠w.heap.size+1;omega)).trans (Below.heap_setCell _ _ _ _ (by show g≠w.heap.size+1;omega)))
  ·exact((HB5.out.setCell (by show w.heap.size≤w.heap.size+1;omega) _).setCell (by show w.heap.size≤w.heap.size+1;omega) _).setCell (by show w.heap.size≤w.heap.size+1;omega) _
end
end Go.Proofs.YtfjbnpdffillbaaGreatDoor
namespace Go.Proofs.YtfjbnpdffillbaaGreatDoor
open Go.RowKit
structure Fx (X Y:Option Nat) (w w':World):Prop where
 os:w'.os=w.os
 tape:w'.tape=w.tape
 output:w'.output=w.output
 size:w.heap.size≤w'.heap.size
 block: ∀k,k<w.heap.size→X≠some k→Y≠some k→w'.heap[k]?=w.heap[k]?
section
variable {w w' v v':World} {X Y:Option Nat}
theorem Fx.of_below (h:Below w.heap.size w w'):Fx X Y w w':=⟨h.os,h.tape,h.output,h.size,fun k hk _ _=>h.block k hk⟩
theorem Fx.of_rbut {b:Nat} (h:RBut b Y w w'):Fx (some b) Y w w':=⟨h.os,h.tape,h.output,h.size,fun k hk h1 h2=>h.block k hk (fun e=>h1 (by rw[e])) (fun e=>h2 e.symm)⟩
theorem Fx.keeps (h:Fx X none w w'):Keeps X w w':=⟨h.size,fun a ha hX=>World.cell?_of_block (w:=w) (h.block a.block ha hX (by simp))⟩
theorem Fx.toBelow {base:Nat} (h:Fx X Y v v') (hb:Below base w v) (hX: ∀k,X=some k→base≤k) (hY: ∀k,Y=some k→base≤k) (hv:base≤v.heap.size):Below base w v' where
 os:=h.os.trans hb.os
 tape:=h.tape.trans hb.tape
 output:=h.output.trans hb.output
 size:=Nat.le_trans hb.size h.size
 block:=fun k hk=>(h.block k (by omega) (fun e=>by have:=hX k e;omega) (fun e=>by have:=hY k e;omega)).trans (hb.block k hk)
end
def GO (w:World) (pg:Option Addr) (K:List Nat) (X:Option Nat) (n:Nat) (op:Nat→Bool):Prop:=
 (pg=none∧K=[]∧X=none∧n=0)∨ ∃gb bb,pg=some ⟨gb,0,none⟩∧K=[gb,bb]∧X=some bb∧GtS w gb bb n op
def RO (w:World) (pg:Option Addr) (K:List Nat) (X:Option Nat) (n:Nat) (op:Nat→Bool):Prop:=
 (pg=none∧K=[]∧X=none∧n=0)∨ ∃gb bb,pg=some ⟨gb,0,none⟩∧K=[gb,bb]∧X=some bb∧RgS w gb bb n op
section
variable {w w':World} {pg:Option Addr} {K:List Nat} {X:Option Nat} {n:Nat} {op:Nat→Bool} {ka na:Int} {oa:Option Addr} {ca:Nat} {kb nb:Int} {ob:Option Addr} {cb:Nat} {nt:Bool} {cs:Array Value} {ra rb:List Nd} {tb rc:Nat} {ro:Option Addr} {RL:List Bool}
theorem opAt_nil (op:Nat→Bool) (x:Int):opAt 0 op x=false:=opAt_out (by omega)
theorem GO.lt (h:GO w pg K X n op): ∀k∈K,k<w.heap.size:=by
 rcases h with ⟨_,rfl,_⟩|⟨gb,bb,_,rfl,_,hg⟩
 ·intro k hk;cases hk
 ·intro k hk
  simp only[List.mem_cons,List.not_mem_nil,or_false]at hk
  rcases hk with rfl|rfl
  ·exact hg.lt
  ·exact hg.ltb
theorem RO.lt (h:RO w pg K X n op): ∀k∈K,k<w.heap.size:=by
 rcases h with ⟨_,rfl,_⟩|⟨gb,bb,_,rfl,_,hg⟩
 ·intro k hk;cases hk
 ·intro k hk
  simp only[List.mem_cons,List.not_mem_nil,or_false]at hk
  rcases hk with rfl|rfl
  ·exact hg.g.lt
  ·exact hg.g.ltb
theorem GO.mem (h:GO w pg K X n op): ∀k,X=some k→k∈K:=by
 rcases h with ⟨_,rfl,rfl,_⟩|⟨gb,bb,_,rfl,rfl,hg⟩
 ·intro k hk;cases hk
 ·intro k hk;injection hk with hk;simp[hk]
theorem RO.mem (h:RO w pg K X n op): ∀k,X=some k→k∈K:=by
 rcases h with ⟨_,rfl,rfl,_⟩|⟨gb,bb,_,rfl,rfl,hg⟩
 ·intro k hk;cases hk
 ·intro k hk;injection hk with hk;simp[hk]
theorem GO.block (h:GO w pg K X n op) (hb: ∀k∈K,w'.heap[k]?=w.heap[k]?) (hs:w.heap.size≤w'.heap.size):GO w' pg K X n op:=by
 rcases h with h|⟨gb,bb,h1,h2,h3,hg⟩
 ·exact .inl h
 ·exact .inr ⟨gb,bb,h1,h2,h3,hg.block (hb gb (by rw[h2];simp)) (hb bb (by rw[h2];simp)) hs⟩
theorem RO.block (h:RO w pg K X n op) (hb: ∀k∈K,w'.heap[k]?=w.heap[k]?) (hs:w.heap.size≤w'.heap.size):RO w' pg K X n op:=by
 rcases h with h|⟨gb,bb,h1,h2,h3,hg⟩
 ·exact .inl h
 ·exact .inr ⟨gb,bb,h1,h2,h3,hg.block (hb gb (by rw[h2];simp)) (hb bb (by rw[h2];simp)) hs⟩
theorem GO.below (h:GO w pg K X n op) (hb:Below w.heap.size w w'):GO w' pg K X n op:=h.block (fun k hk=>hb.block k (h.lt k hk)) hb.size
theorem RO.below (h:RO w pg K X n op) (hb:Below w.heap.size w w'):RO w' pg K X n op:=h.block (fun k hk=>hb.block k (h.lt k hk)) hb.size
def errN (x:Int):Int:=if x<0∨4096<x then 1 else 0
theorem gnew_any (x:Int):Calls Tryz.prog 32 #[.int .i64 x] w fun e w'=> ∃pg K X,e= .returned (.tuple #[.pointer pg,.int .i64 (errN x)])∧(pg=none↔x<0∨4096<x)∧(∀k∈K,w.heap.size≤k)∧GO w' pg K X (if x<0∨4096<x then 0 else x.toNat) (fun _=>false)∧Below w.heap.size w w':=by
 by_cases hx:x<0∨4096<x
 ·refine(gnew_out hx).mono ?_
  rintro e w' ⟨rfl,rfl⟩
  exact⟨none,[],none,by unfold errN;rw[if_pos hx],by simp[hx],(fun k hk=>by cases hk),.inl ⟨rfl,rfl,rfl,by rw[if_pos hx]⟩,Below.refl _ _⟩
 ·obtain⟨n,rfl⟩: ∃n:Nat,x=(n:Nat):=⟨x.toNat,by omega⟩
  refine(gnew_call (w:=w) (n:=n) (by omega)).mono ?_
  rintro e w' ⟨gb,bb,rfl,l1,l2,hg,hb⟩
  refine⟨_,[gb,bb],some bb,by unfold errN;rw[if_neg hx],by simp;omega,fun k hk=>?_,.inr ⟨gb,bb,rfl,rfl,rfl,by rw[if_neg hx,Int.toNat_natCast];exact hg⟩,hb⟩
  simp only[List.mem_cons,List.not_mem_nil,or_false]at hk
  rcases hk with rfl|rfl<;>assumption
theorem rnew_any (x:Int):Calls Tryz.prog 33 #[.int .i64 x] w fun e w'=> ∃pg K X,e= .returned (.tuple #[.pointer pg,.int .i64 (errN x)])∧(pg=none↔x<0∨4096<x)∧(∀k∈K,w.heap.size≤k)∧RO w' pg K X (if x<0∨4096<x then 0 else x.toNat) (fun _=>false)∧Below w.heap.size w w':=by
 by_cases hx:x<0∨4096<x
 ·refine(rnew_out hx).mono ?_
  rintro e w' ⟨rfl,rfl⟩
  exact⟨none,[],none,by unfold errN;rw[if_pos hx],by simp[hx],(fun k hk=>by cases hk),.inl ⟨rfl,rfl,rfl,by rw[if_pos hx]⟩,Below.refl _ _⟩
 ·obtain⟨n,rfl⟩: ∃n:Nat,x=(n:Nat):=⟨x.toNat,by omega⟩
  refine(rnew_call (w:=w) (n:=n) (by omega)).mono ?_
  rintro e w' ⟨gb,bb,rfl,l1,l2,hg,hb⟩
  refine⟨_,[gb,bb],some bb,by unfold errN;rw[if_neg hx],by simp;omega,fun k hk=>?_,.inr ⟨gb,bb,rfl,rfl,rfl,by rw[if_neg hx,Int.toNat_natCast];exact hg⟩,hb⟩
  simp only[List.mem_cons,List.not_mem_nil,or_false]at hk
  rcases hk with rfl|rfl<;>assumption
theorem go_open (h:GO w pg K X n op) (x:Int):Calls Tryz.prog 42 #[.pointer pg,.int .i64 x] w fun e w'=>e= .returned (.bool (opAt n op x))∧w=w':=by
 rcases h with ⟨rfl,_,_,rfl⟩|⟨gb,bb,rfl,_,_,hg⟩
 ·rw[opAt_nil];exact open_nil x
 ·exact gopen_any hg x
theorem ro_open (h:RO w pg K X n op) (x:Int):Calls Tryz.prog 43 #[.pointer pg,.int .i64 x] w fun e w'=>e= .returned (.bool (opAt n op x))∧w=w':=by
 rcases h with ⟨rfl,_,_,rfl⟩|⟨gb,bb,rfl,_,_,hg⟩
 ·rw[opAt_nil];exact ropen_nil x
 ·exact ropen_any hg x
theorem takesI_nil (x ka na kb nb:Int) (nt:Bool) (line:Int) (last o hit:Bool):takesI 0 x ka na kb nb nt line last o hit=(false,false,false):=by
 unfold takesI
 rw[if_neg (by omega)]
theorem askedI_nil (x ka na:Int) (ra:List Nd) (kb nb:Int) (rb:List Nd) (o:Bool):askedI 0 x ka na ra kb nb rb o=none:=by
 unfold askedI
 rw[if_neg (by omega)]
theorem go_takes (h:GO w pg K X n op) (hc:CmdV cs ka na oa ra.length ca kb nb ob rb.length cb nt) (x:Int) (ht:TlS w tb ro rc RL) (ha:AskS w tb w.heap.size none) (n1:tb∉K) (n3: ∀g o,ro=some ⟨g,o,none⟩→0<RL.length→X≠some g)
  (hsa:Src w (.slice oa ra.length ca) ra.length (ndsC ra)) (hla:ra.length*72≤140737488355328) (hsb:Src w (.slice ob rb.length cb) rb.length (ndsC rb)) (hlb:rb.length*72≤140737488355328) (line:Int) (last:Bool):
  Calls Tryz.prog 35 #[.pointer pg,.int .i64 x,.agg cs,.int .i64 line,.bool last,.func (.func 36) #[.pointer (some ⟨tb,0,none⟩)] #[]] w fun e w'=>
   e= .returned (.tuple #[.bool (takesI n x ka na kb nb nt line last (opAt n op x) (RL.getD 0 false)).1,.bool (takesI n x ka na kb nb nt line last (opAt n op x) (RL.getD 0 false)).2.1])∧
    (∃op',GO w' pg K X n op'∧ ∀y,opAt n op' y=if y=x then(takesI n x ka na kb nb nt line last (opAt n op x) (RL.getD 0 false)).2.2 else opAt n op y)∧Fx X (some tb) w w'∧TlS w' tb ro rc RL∧AskS w' tb w.heap.size (askedI n x ka na ra kb nb rb (opAt n op x)):=by
 rcases h with ⟨rfl,rfl,rfl,rfl⟩|⟨gb,bb,rfl,rfl,rfl,hg⟩
 ·rw[takesI_nil,askedI_nil]
  refine(takes_nil x line last).mono ?_
  rintro e w' ⟨rfl,hb⟩
  exact⟨rfl,⟨op,.inl ⟨rfl,rfl,rfl,rfl⟩,fun y=>by rw[opAt_nil];split<;>rfl⟩,Fx.of_below hb,ht.below hb,ha.below ht.lt hb⟩
 ·refine(takes_any hc hg x ht ha (fun e=>n1 (by simp[e])) (fun e=>n1 (by simp[e])) (fun g o e hp e2=>n3 g o e hp (by rw[e2])) hsa hla hsb hlb line last).mono ?_
  rintro e w' ⟨rfl,⟨op',h1,h2⟩,h3,h4,h5⟩
  exact⟨rfl,⟨op',.inr ⟨gb,bb,rfl,rfl,rfl,h1⟩,h2⟩,Fx.of_rbut h3,h4,h5⟩
set_option maxRecDepth 100000 in
set_option maxHeartbeats 1600000 in
theorem rtakes_nil (x line:Int) (last hit:Bool):Calls Tryz.prog 38 #[.pointer none,.int .i64 x,.agg cs,.int .i64 line,.bool last,.bool hit] w fun e w'=>e= .returned (.tuple #[.bool false,.bool false])∧Below w.heap.size w w':=by
 have HB:=Lib.hid ((Below.refl w.heap.size w).alloc (Nat.le_refl _) (.cells cs 91))
 go_enter Tryz.func38,Tryz.ntmps38
 go_wp2_with fail
 go_ret2
 exact⟨rfl,HB.out⟩
theorem ro_takes (h:RO w pg K X n op) (hc:CmdV cs ka na oa ra.length ca kb nb ob rb.length cb nt) (x:Int) (ba: -128≤ka∧ka≤127) (bk: -128≤kb∧kb≤127) (line:Int) (last hit:Bool):
  Calls Tryz.prog 38 #[.pointer pg,.int .i64 x,.agg cs,.int .i64 line,.bool last,.bool hit] w fun e w'=>
   e= .returned (.tuple #[.bool (takesI n x ka na kb nb nt line last (opAt n op x) hit).1,.bool (takesI n x ka na kb nb nt line last (opAt n op x) hit).2.1])∧
    (∃op',RO w' pg K X n op'∧ ∀y,opAt n op' y=if y=x then(takesI n x ka na kb nb nt line last (opAt n op x) hit).2.2 else opAt n op y)∧Fx X none w w':=by
 rcases h with ⟨rfl,rfl,rfl,rfl⟩|⟨gb,bb,rfl,rfl,rfl,hg⟩
 ·rw[takesI_nil]
  refine(rtakes_nil x line last hit).mono ?_
  rintro e w' ⟨rfl,hb⟩
  exact⟨rfl,⟨op,.inl ⟨rfl,rfl,rfl,rfl⟩,fun y=>by rw[opAt_nil];split<;>rfl⟩,Fx.of_below hb⟩
 ·refine(rtakes_any hc hg x ba bk line last hit).mono ?_
  rintro e w' ⟨rfl,⟨op',h1,h2⟩,h3⟩
  exact⟨rfl,⟨op',.inr ⟨gb,bb,rfl,rfl,rfl,h1⟩,h2⟩,Fx.of_rbut h3⟩
set_option maxRecDepth 100000 in
set_option maxHeartbeats 1600000 in
theorem rasks_nil (x:Int):Calls Tryz.prog 37 #[.pointer none,.int .i64 x,.agg cs] w fun e w'=>AskP w none e w'∧Below w.heap.size w w':=by
 have hb1:=((Below.refl w.heap.size w).alloc (Nat.le_refl _) (.cells cs 91)).alloc (by simp) (.cells #[.int .i8 0,.int .i64 0,.slice none 0 0] 54)
 have HB:=Lib.hid hb1
 have HZ:=Lib.hid (AdB.new (w.alloc (.cells cs 91)) (.int .i8 0) (.int .i64 0) (.slice none 0 0))
 have hsz:(w.alloc (.cells cs 91)).heap.size=w.heap.size+1:=by simp
 rw[hsz]at HZ
 clear hb1 hsz
 go_enter Tryz.func37,Tryz.ntmps37
 go_upto_region 1 with fail
 obtain⟨W,hW⟩: ∃W,(w.alloc (.cells cs 91)).alloc (.cells #[.int .i8 0,.int .i64 0,.slice none 0 0] 54)=W:=⟨_,rfl⟩
 rw[hW]at HB HZ ⊢
 clear hW
 have r0:=HZ.out.c0
 have r1:=HZ.out.c1
 have r2:=HZ.out.c2
 have rf:=HZ.out.fz
 have rl:=HZ.out.lt
 go_wp2_with fail
 refine ret_ask (b:=w.heap.size+1) rfl rfl rfl (HZ.out.set (.int .i8 0) (.int .i64 0) (.slice none 0 0)) ⟨?_,?_⟩
 ·exact askP_none
 ·exact((HB.out.setCell (by show w.heap.size≤w.heap.size+1;omega) _).setCell (by show w.heap.size≤w.heap.size+1;omega) _).setCell (by show w.heap.size≤w.heap.size+1;omega) _
theorem ro_asks (h:RO w pg K X n op) (hc:CmdV cs ka na oa ra.length ca kb nb ob rb.length cb nt) (x:Int) (ba: -128≤ka∧ka≤127) (bk: -128≤kb∧kb≤127)
  (hsa:Src w (.slice oa ra.length ca) ra.length (ndsC ra)) (hla:ra.length*72≤140737488355328) (hsb:Src w (.slice ob rb.length cb) rb.length (ndsC rb)) (hlb:rb.length*72≤140737488355328):
  Calls Tryz.prog 37 #[.pointer pg,.int .i64 x,.agg cs] w fun e w'=>AskP w (askedI n x ka na ra kb nb rb (opAt n op x)) e w'∧Below w.heap.size w w':=by
 rcases h with ⟨rfl,rfl,rfl,rfl⟩|⟨gb,bb,rfl,rfl,rfl,hg⟩
 ·rw[askedI_nil];exact rasks_nil x
 ·exact rasks_any hc hg x ba bk hsa hla hsb hlb
end
end Go.Proofs.YtfjbnpdffillbaaGreatDoor
namespace Go.Proofs.YtfjbnpdffillbaaGreatDoor
open Go.RowKit
structure GG (base:Nat) (w:World) (pg:Option Addr) (KG:List Nat) (XG:Option Nat) (pr:Option Addr) (KR:List Nat) (XR:Option Nat) (n:Nat) (op op2:Nat→Bool):Prop where
 g:GO w pg KG XG n op
 r:RO w pr KR XR n op2
 eq: ∀y,opAt n op y=opAt n op2 y
 lo: ∀k,k∈KG∨k∈KR→base≤k
 d: ∀k,k∈KG→k∉KR
theorem GG.below {base:Nat} {w w':World} {pg pr:Option Addr} {KG KR:List Nat} {XG XR:Option Nat} {n:Nat} {op op2:Nat→Bool} (h:GG base w pg KG XG pr KR XR n op op2) (hb:Below w.heap.size w w'):GG base w' pg KG XG pr KR XR n op op2:=
 ⟨h.g.below hb,h.r.below hb,h.eq,h.lo,h.d⟩
theorem GG.lt {base:Nat} {w:World} {pg pr:Option Addr} {KG KR:List Nat} {XG XR:Option Nat} {n:Nat} {op op2:Nat→Bool} (h:GG base w pg KG XG pr KR XR n op op2): ∀k,k∈KG∨k∈KR→k<w.heap.size:=fun k hk=>hk.elim (h.g.lt k) (h.r.lt k)
theorem AqIn.cx {w:World} {q:Aq} (h:AqIn w q): ∃c:Cx,c.l=q.l∧CxIn w c:=by
 obtain⟨ot,ct,T,oe,ce,R,op,cp,P,hc⟩:=CxIn.of h.c
 exact⟨_,rfl,hc⟩
structure GSt (w0 w6 wc:World) (q:Aq) (qb bd cc sb:Nat) (L:List Value) (pg:Option Addr) (KG:List Nat) (XG:Option Nat) (pr:Option Addr) (KR:List Nat) (XR:Option Nat) (m:Nat) (op op2:Nat→Bool) (A B:Option Ad):Prop where
 bl:Below w0.heap.size w0 wc
 fq:QB wc qb q
 fc:CmdB wc cc L
 ag: ∀k,bd≤k→k<cc→wc.heap[k]?=w6.heap[k]?
 fg:GO wc pg KG XG m op
 fr:RO wc pr KR XR m op2
 lo: ∀k,k∈KG∨k∈KR→w0.heap.size≤k∧k<qb
 d: ∀k,k∈KG→k∉KR
 o0:w0.heap.size≤qb
 o1:qb<bd
 o2:bd≤cc
 o3:cc<sb
 ro: ∀g o,q.ro=some ⟨g,o,none⟩→0<q.RL.length→g<w0.heap.size
 fs:TlS wc sb q.ro q.rc q.RL
 sa:AskS wc sb (sb+2) A
 ft:TlS wc (sb+1) none 0 []
 ta:AskS wc (sb+1) (sb+2) B
section
variable {w0 w6 wc wc':World} {q:Aq} {qb bd cc sb:Nat} {L:List Value} {pg:Option Addr} {KG:List Nat} {XG:Option Nat} {pr:Option Addr} {KR:List Nat} {XR:Option Nat} {m:Nat} {op op2:Nat→Bool} {A B:Option Ad}
theorem GSt.below (h:GSt w0 w6 wc q qb bd cc sb L pg KG XG pr KR XR m op op2 A B) (hb:Below wc.heap.size wc wc'):GSt w0 w6 wc' q qb bd cc sb L pg KG XG pr KR XR m op op2 A B:=
 have hs:sb<wc.heap.size:=h.fs.lt
 have h3:=h.o3
 ⟨h.bl.trans (hb.mono h.bl.size),h.fq.below hb,h.fc.below hb,fun k h1 h2=>(hb.block k (by omega)).trans (h.ag k h1 h2),h.fg.below hb,h.fr.below hb,h.lo,h.d,h.o0,h.o1,h.o2,h.o3,h.ro,h.fs.below hb,h.sa.below hs hb,h.ft.below hb,h.ta.below h.ft.lt hb⟩
theorem GSt.takes (h:GSt w0 w6 wc q qb bd cc sb L pg KG XG pr KR XR m op op2 none B) {op':Nat→Bool} {A':Option Ad} (hf:Fx XG (some sb) wc wc') (hg:GO wc' pg KG XG m op') (ht:TlS wc' sb q.ro q.rc q.RL) (ha:AskS wc' sb (sb+2) A'):
  GSt w0 w6 wc' q qb bd cc sb L pg KG XG pr KR XR m op' op2 A' B:=by
 have o0:=h.o0
 have o1:=h.o1
 have o2:=h.o2
 have o3:=h.o3
 have tl:=h.ft.lt
 have hx: ∀k,XG=some k→k∈KG∧w0.heap.size≤k∧k<qb:=fun k e=>⟨h.fg.mem k e,h.lo k (.inl (h.fg.mem k e))⟩
 have hb: ∀k,k<wc.heap.size→k≠sb→(qb≤k∨k∉KG)→wc'.heap[k]?=wc.heap[k]?:=fun k h1 h2 h3=>hf.block k h1 (fun e=>by
  have:=hx k e
  rcases h3 with h3|h3
  ·omega
  ·exact h3 this.1) (fun e=>by injection e with e;omega)
 have ql:=h.fq.lt
 have cl:=h.fc.lt
 exact⟨hf.toBelow h.bl (fun k e=>(hx k e).2.1) (fun k e=>by injection e with e;omega) h.bl.size,h.fq.block (hb qb ql (by omega) (.inl (Nat.le_refl _))),h.fc.block (hb cc cl (by omega) (.inl (by omega))),fun k h1 h2=>(hb k (by omega) (by omega) (.inl (by omega))).trans (h.ag k h1 h2),hg,
  h.fr.block (fun k hk=>hb k (h.fr.lt k hk) (by have:=h.lo k (.inr hk);omega) (.inr (fun hk2=>h.d k hk2 hk))) hf.size,h.lo,h.d,h.o0,h.o1,h.o2,h.o3,h.ro,ht,ha,
  h.ft.same (hb (sb+1) tl (by omega) (.inl (by omega))) (fun g o e _ _ _=>by cases e) hf.size,h.ta.same (hb (sb+1) tl (by omega) (.inl (by omega))) (fun k h1 h2=>hb k h2 (by omega) (.inl (by omega))) hf.size⟩
theorem GSt.rtakes (h:GSt w0 w6 wc q qb bd cc sb L pg KG XG pr KR XR m op op2 A B) {op':Nat→Bool} (hf:Fx XR none wc wc') (hr:RO wc' pr KR XR m op'):GSt w0 w6 wc' q qb bd cc sb L pg KG XG pr KR XR m op op' A B:=by
 have o0:=h.o0
 have o1:=h.o1
 have o2:=h.o2
 have o3:=h.o3
 have tl:=h.ft.lt
 have sl:=h.fs.lt
 have hx: ∀k,XR=some k→k∈KR∧w0.heap.size≤k∧k<qb:=fun k e=>⟨h.fr.mem k e,h.lo k (.inr (h.fr.mem k e))⟩
 have hb: ∀k,k<wc.heap.size→(qb≤k∨k∉KR)→wc'.heap[k]?=wc.heap[k]?:=fun k h1 h3=>hf.block k h1 (fun e=>by
  have:=hx k e
  rcases h3 with h3|h3
  ·omega
  ·exact h3 this.1) (by simp)
 have ql:=h.fq.lt
 have cl:=h.fc.lt
 exact⟨hf.toBelow h.bl (fun k e=>(hx k e).2.1) (fun k e=>by cases e) h.bl.size,h.fq.block (hb qb ql (.inl (Nat.le_refl _))),h.fc.block (hb cc cl (.inl (by omega))),fun k h1 h2=>(hb k (by omega) (.inl (by omega))).trans (h.ag k h1 h2),
  h.fg.block (fun k hk=>hb k (h.fg.lt k hk) (.inr (h.d k hk))) hf.size,hr,h.lo,h.d,h.o0,h.o1,h.o2,h.o3,h.ro,
  h.fs.same (hb sb sl (.inl (by omega))) (fun g o e h1 h2 hp=>hb g h1 (.inr (fun hk=>by have:=h.ro g o e hp;have:=h.lo g (.inr hk);omega))) hf.size,h.sa.same (hb sb sl (.inl (by omega))) (fun k h1 h2=>hb k h2 (.inl (by omega))) hf.size,
  h.ft.same (hb (sb+1) tl (.inl (by omega))) (fun g o e _ _ _=>by cases e) hf.size,h.ta.same (hb (sb+1) tl (.inl (by omega))) (fun k h1 h2=>hb k h2 (.inl (by omega))) hf.size⟩
theorem GSt.put (h:GSt w0 w6 wc q qb bd cc sb L pg KG XG pr KR XR m op op2 A none) {v:Value} {B':Option Ad} (hB:AskS (wc.setCell ⟨sb+1,1,none⟩ v) (sb+1) (sb+2) B'):GSt w0 w6 (wc.setCell ⟨sb+1,1,none⟩ v) q qb bd cc sb L pg KG XG pr KR XR m op op2 A B':=by
 have o0:=h.o0
 have o1:=h.o1
 have o2:=h.o2
 have o3:=h.o3
 have tl:=h.ft.lt
 have sl:=h.fs.lt
 have hb: ∀k,k≠sb+1→(wc.setCell ⟨sb+1,1,none⟩ v).heap[k]?=wc.heap[k]?:=fun k hk=>Below.heap_setCell _ _ _ _ hk
 have hz:(wc.setCell ⟨sb+1,1,none⟩ v).heap.size=wc.heap.size:=by simp
 have t0:=h.ft.c0
 exact⟨h.bl.setCell (by show w0.heap.size≤sb+1;omega) _,h.fq.block (hb qb (by omega)),h.fc.block (hb cc (by omega)),fun k h1 h2=>(hb k (by omega)).trans (h.ag k h1 h2),
  h.fg.block (fun k hk=>hb k (by have:=h.lo k (.inl hk);omega)) (Nat.le_of_eq hz.symm),h.fr.block (fun k hk=>hb k (by have:=h.lo k (.inr hk);omega)) (Nat.le_of_eq hz.symm),h.lo,h.d,h.o0,h.o1,h.o2,h.o3,h.ro,
  h.fs.same (hb sb (by omega)) (fun g o e h1 h2 hp=>hb g (by have:=h.ro g o e hp;omega)) (Nat.le_of_eq hz.symm),h.sa.same (hb sb (by omega)) (fun k h1 h2=>hb k (by omega)) (Nat.le_of_eq hz.symm),
  ⟨by rw[hz];exact tl,(cell?_setCell_ne _ _ _ _ _ (by decide)).trans t0,fun o=>(World.frozen?_setCell _ _ _ _).trans (h.ft.fz o),fun hp=>absurd hp (by simp)⟩,hB⟩
end
end Go.Proofs.YtfjbnpdffillbaaGreatDoor
namespace Go.Proofs.YtfjbnpdffillbaaGreatDoor
open Go.RowKit
section
variable {w:World} {oa:Option Addr} {n cap:Nat}
set_option maxRecDepth 100000 in
set_option maxHeartbeats 6400000 in
theorem gates_all (hT:Tabs w) (hq:AsksW w oa n) (x:Int):
  Calls Tryz.prog 5 #[.int .i64 x,.slice oa n cap] w (fun e w'=>e= .returned (.bool true)∧Below w.heap.size w w'):=by
 have HT:=Lib.hid hT
 have HQ:=Lib.hid hq
 have hz:(n:Int)≤140737488355328:=by have:=hq.z;omega
 clear hT hq
 by_cases hlong:2147483647<n
 ·have hlong':(2147483647:Int)<(n:Int):=by omega
  go_enter Tryz.func5,Tryz.ntmps5
  go_wp2_with fail
  refine(long_call (n:Int)).mono ?_;rintro e w1 ⟨rfl,rfl⟩
  go_wp2_with fail
  go_ret
  exact⟨rfl,Below.refl _ _⟩
 have hlong': ¬(2147483647:Int)<(n:Int):=by omega
 clear hlong
 go_enter Tryz.func5,Tryz.ntmps5
 go_wp2_with fail
 refine(long_call (n:Int)).mono ?_;rintro e w1 ⟨rfl,rfl⟩
 go_wp2_with fail
 refine(gnew_any (w:=w) x).mono ?_;rintro e w1 ⟨pg,KG,XG,rfl,hn1,hk1,hg,hb⟩
 have HG1:=Lib.hid hg
 have HB1:=Lib.hid hb
 have HN1:=Lib.hid hn1
 have HK1:=Lib.hid hk1
 clear hg hb hn1 hk1
 go_wp2_with fail
 refine(rnew_any (w:=w1) x).mono ?_;rintro e w2 ⟨pr,KR,XR,rfl,hn2,hk2,hr,hb⟩
 have HGG:Hid (GG w.heap.size w2 pg KG XG pr KR XR (if x<0∨4096<x then 0 else x.toNat) (fun _=>false) (fun _=>false)):=Lib.hid ⟨HG1.out.below hb,hr,fun _=>rfl,fun k hk=>hk.elim (HK1.out k) (fun h=>by have:=hk2 k h;have:=HB1.out.size;omega),fun k h1 h2=>by have:=HG1.out.lt k h1;have:=hk2 k h2;omega⟩
 have HB2:=Lib.hid (HB1.out.trans (hb.mono HB1.out.size))
 have hpp:pr.isNone=pg.isNone:=by
  have h1:=HN1.out
  cases pg with
  |none=>rw[hn2.2 (h1.1 rfl)]
  |some a=>cases pr with
   |none=>have:=h1.2 (hn2.1 rfl);cases this
   |some b=>rfl
 obtain⟨m,hm⟩: ∃m,(if x<0∨4096<x then 0 else x.toNat)=m:=⟨_,rfl⟩
 rw[hm]at HGG
 obtain⟨er,her⟩: ∃er,errN x=er:=⟨_,rfl⟩
 rw[her]
 clear hn2 hk2 hr hb hm her HG1 HB1 HN1 HK1
 go_wp2_with fail
 clear hpp
 go_loopg [10] n (fun g iv wr=> ∃(d:Nat) (op op2:Nat→Bool),iv= .int .i64 (d:Nat)∧g=n - d∧d≤n∧GG w.heap.size wr pg KG XG pr KR XR m op op2∧Below w.heap.size w wr)
 case atStart=>exact⟨0,_,_,rfl,rfl,Nat.zero_le _,HGG.out,HB2.out⟩
 case round=>
  obtain⟨d,op,op2,rfl,hg,hd,htg,hbe⟩:=hrel
  have HG:=Lib.hid hg
  have HBE:=Lib.hid hbe
  have HTW:=Lib.hid htg
  clear hg htg hbe
  by_cases hlt:d<n
  ·have hlt':(d:Int)<(n:Int):=by omega
   have HLT:=Lib.hid hlt
   obtain⟨nb,no,rfl,nl0,hc⟩:=HQ.out.at_ (by omega)
   obtain⟨q,hra0,hq0⟩:=hc d hlt
   have HQ0:=Lib.hid hq0
   have hq:=hq0.below HBE.out
   have hra:wr.rangeAt nb (no+d*276) q.cells:=fun j v hv=>(HBE.out.cell (p:=⟨nb,no+d*276+j,none⟩) nl0).trans (hra0 j v hv)
   have nl:nb<wr.heap.size:=Nat.lt_of_lt_of_le nl0 HBE.out.size
   clear hra0 hq0 nl0
   have HRA:=Lib.hid hra
   have HQI:=Lib.hid hq
   have HQZ:=Lib.hid (show(Tryz.prog.info? 94).map (·.size)=some q.cells.length by rw[ask_info,Aq.len hq])
   have HQZ2:=Lib.hid (show(Tryz.prog.info? 94).map (·.size)=some q.cells.toArray.size by rw[ask_info,List.size_toArray,Aq.len hq])
   have HQO:=Lib.hid (show Tryz.zeroCells94.size=q.cells.toArray.size by rw[ask_size,List.size_toArray,Aq.len hq])
   have HQ1:=Lib.hid (show q.cells.toArray.all (·.oneCell')=true by rw[←Array.all_toList,List.all_eq_true];exact Aq.one hq)
   have HHN:=Lib.hid (heap_alloc_new wr (.cells Tryz.zeroCells94 94))
   clear hc hra hq hlt
   go_upto_region 11 with fail
   go_upto_region 12 with (first|refine wpList_load_mid rfl 94 _ rfl nb (no+d*276) rfl q.cells _ HRA.out Tryz.underlying94 rfl HQZ.out ?_|refine wpList_store_row rfl 94 _ _ rfl wr.heap.size q.cells.toArray rfl rfl _ _ HHN.out HQZ2.out HQO.out HQ1.out ?_)
   obtain⟨W,hW⟩: ∃W,(wr.alloc (.cells Tryz.zeroCells94 94)).setRow wr.heap.size q.cells.toArray=W:=⟨_,rfl⟩
   have HQB:Hid (QB W wr.heap.size q):=Lib.hid (QB.of HQI.out (by rw[←hW];exact setRow_heap _ _ _ _ _ _ HHN.out))
   have hbw:Below wr.heap.size wr W:=by rw[←hW];exact below_setRow ((Below.refl _ _).alloc (Nat.le_refl _) _) (Nat.le_refl _) _
   have HB:=Lib.hid (HBE.out.trans (hbw.mono HBE.out.size))
   have HTG2:=Lib.hid (HTW.out.below hbw)
   have HQ2:=Lib.hid (HQI.out.below hbw)
   have HNB:=Lib.hid (show w.heap.size≤wr.heap.size∧ ∀k,k∈KG∨k∈KR→k<wr.heap.size from⟨HBE.out.size,HTW.out.lt⟩)
   rw[hW]
   clear hW hbw HHN HQZ HQZ2 HQO HQ1 HRA HQI HBE HTW HGG HB2 nl
   obtain⟨qb,hqb⟩: ∃b,wr.heap.size=b:=⟨_,rfl⟩
   rw[hqb]at HQB HNB ⊢
   clear hqb
   have k0:=HQB.out.c0
   have k3:=HQB.out.c3
   have k6:=HQB.out.c6
   have kq:=HQB.out.lt
   go_wp2_with fail
   refine(beyond_call HQ2.out.wa HQ2.out.za).mono ?_;rintro e w3 ⟨⟨b1,rfl⟩,hb3⟩
   have HQB3:=Lib.hid (HQB.out.below hb3)
   have HTG3:=Lib.hid (HTG2.out.below hb3)
   have HQ3:=Lib.hid (HQ2.out.below hb3)
   have HB3:=Lib.hid (HB.out.trans (hb3.mono HB.out.size))
   clear hb3 HQB HTG2 HQ2 HB k0 k3 k6 kq
   have k6:=HQB3.out.c6
   have kq:=HQB3.out.lt
   cases b1 with
   |true=>
    go_wp2_with fail
    go_ret
    exact⟨rfl,HB3.out⟩
   |false=>
   go_wp2_with fail
   refine(beyond_call HQ3.out.wb HQ3.out.zb).mono ?_;rintro e w4 ⟨⟨b2,rfl⟩,hb4⟩
   have HQB4:=Lib.hid (HQB3.out.below hb4)
   have HTG4:=Lib.hid (HTG3.out.below hb4)
   have HQ4:=Lib.hid (HQ3.out.below hb4)
   have HB4:=Lib.hid (HB3.out.trans (hb4.mono HB3.out.size))
   clear hb4 HQB3 HTG3 HQ3 HB3 k6 kq
   have k275:=HQB4.out.c275
   have kq:=HQB4.out.lt
   cases b2 with
   |true=>
    go_wp2_with fail
    go_ret
    exact⟨rfl,HB4.out⟩
   |false=>
   by_cases hlh:(2147483647:Int)<(q.RL.length:Int)
   ·go_wp2_with fail
    refine(long_call (q.RL.length:Int)).mono ?_;rintro e w5 ⟨rfl,rfl⟩
    go_wp2_with fail
    go_ret
    exact⟨rfl,HB4.out⟩
   go_wp2_with fail
   refine(long_call (q.RL.length:Int)).mono ?_;rintro e w5 ⟨rfl,rfl⟩
   obtain⟨c,hcl,hcx⟩:=HQ0.out.cx
   have HCX:=Lib.hid hcx
   have HCL:=Lib.hid hcl
   clear hcx hcl k275 kq
   have HCZ:=Lib.hid (show(Tryz.prog.info? 91).map (·.size)=some q.l.length by rw[cmd_info,HQ4.out.c.cl.len])
   have HWC:=Lib.hid (wideCmdU (HCX.out.below HB4.out))
   rw[HCL.out]at HWC
   go_wp2_with (refine wpList_load_mid rfl 91 _ rfl qb 1 rfl q.l _ HQB4.out.cmd Tryz.underlying91 rfl HCZ.out ?_)
   refine HWC.out.mono ?_;rintro e w6 ⟨⟨L,ga,gb,gt,gr,gp,rfl,hw⟩,hb⟩
   have HQB6:=Lib.hid (HQB4.out.below hb)
   have HTG6:=Lib.hid (HTG4.out.below hb)
   have HQ6:=Lib.hid (HQ4.out.below hb)
   have HB6:=Lib.hid (HB4.out.trans (hb.mono HB4.out.size))
   have HBD:Hid (qb<w4.heap.size∧w4.heap.size≤w6.heap.size):=Lib.hid ⟨HQB4.out.lt,hb.size⟩
   obtain⟨bd,hbd⟩: ∃b,w4.heap.size=b:=⟨_,rfl⟩
   rw[hbd]at hw HBD
   have HW6:=Lib.hid hw
   have HHN:=Lib.hid (heap_alloc_new w6 (.cells Tryz.zeroCells91 91))
   have HSZ:=Lib.hid (CmdB.info hw.cl)
   have HSO:Hid (Tryz.zeroCells91.size=L.toArray.size):=Lib.hid (by rw[←Array.length_toList,cmd_size,List.size_toArray,hw.cl.len])
   have HON:Hid (L.toArray.all (·.oneCell')=true):=Lib.hid (by rw[←Array.all_toList,List.all_eq_true];simpa using hw.cl.one)
   clear hb hw hbd HQB4 HTG4 HQ4 HB4 HWC
   go_upto_region 15 with (refine wpList_store_row rfl 91 _ _ rfl w6.heap.size L.toArray rfl rfl _ _ HHN.out HSZ.out HSO.out HON.out ?_)
   have hbw:Below w6.heap.size w6 ((w6.alloc (.cells Tryz.zeroCells91 91)).setRow w6.heap.size L.toArray):=below_setRow ((Below.refl _ _).alloc (Nat.le_refl _) _) (Nat.le_refl _) _
   have hcb:CmdB ((w6.alloc (.cells Tryz.zeroCells91 91)).setRow w6.heap.size L.toArray) w6.heap.size L:=⟨setRow_heap _ _ _ _ _ _ HHN.out,HW6.out.cl⟩
   obtain⟨W7,hW7⟩: ∃W,(w6.alloc (.cells Tryz.zeroCells91 91)).setRow w6.heap.size L.toArray=W:=⟨_,rfl⟩
   rw[hW7]at hbw hcb ⊢
   have HQB7:=Lib.hid (HQB6.out.below hbw)
   have HTG7:=Lib.hid (HTG6.out.below hbw)
   have HQ7:=Lib.hid (HQ6.out.below hbw)
   have HB7:=Lib.hid (HB6.out.trans (hbw.mono HB6.out.size))
   have HAG7:Hid (∀k,k<w6.heap.size→W7.heap[k]?=w6.heap[k]?):=Lib.hid hbw.block
   have HSW:Hid (w6.heap.size≤W7.heap.size):=Lib.hid hbw.size
   obtain⟨cc,hcc⟩: ∃b,w6.heap.size=b:=⟨_,rfl⟩
   have HWAT:Hid (∀ {wc:World},(∀k,bd≤k→k<cc→wc.heap[k]?=w6.heap[k]?)→cc≤wc.heap.size→WideC wc bd c L ga gb gt gr gp):=Lib.hid (fun h1 h2=>HW6.out.block (Nat.le_of_eq hcc) h1 (by omega))
   rw[hcc]at hcb HBD HAG7 HSW ⊢
   have HCB7:=Lib.hid hcb
   clear hW7 hcc hcb hbw HHN HSZ HSO HON HQB6 HTG6 HQ6 HB6
   have k275:=HQB7.out.c275
   have kq:=HQB7.out.lt
   go_upto_region 17 with fail
   have hbw:Below W7.heap.size W7 ((W7.alloc (.cells #[.slice q.ro q.RL.length q.rc,.slice none 0 0] 99)).alloc (.cells #[.slice none 0 0,.slice none 0 0] 99)):=((Below.refl _ _).alloc (Nat.le_refl _) _).alloc (by simp) _
   have hs1:=TlS.new W7 q.rc HQ7.out.row W7.heap.size
   have hs2:=TlS.new (ro:=none) (RL:=[]) (W7.alloc (.cells #[.slice q.ro q.RL.length q.rc,.slice none 0 0] 99)) 0 (fun h=>absurd h (by simp)) 0
   simp only[List.length_nil]at hs2
   rw[show(W7.alloc (.cells #[.slice q.ro q.RL.length q.rc,.slice none 0 0] 99)).heap.size=W7.heap.size+1 by simp]at hs2
   have hs1':TlS ((W7.alloc (.cells #[.slice q.ro q.RL.length q.rc,.slice none 0 0] 99)).alloc (.cells #[.slice none 0 0,.slice none 0 0] 99)) W7.heap.size q.ro q.rc q.RL∧AskS ((W7.alloc (.cells #[.slice q.ro q.RL.length q.rc,.slice none 0 0] 99)).alloc (.cells #[.slice none 0 0,.slice none 0 0] 99)) W7.heap.size 0 none:=
    ⟨hs1.1.below ((Below.refl _ _).alloc (Nat.le_refl _) _),hs1.2.below hs1.1.lt ((Below.refl _ _).alloc (Nat.le_refl _) _)⟩
   have hvs:((W7.alloc (.cells #[.slice q.ro q.RL.length q.rc,.slice none 0 0] 99)).alloc (.cells #[.slice none 0 0,.slice none 0 0] 99)).heap.size=W7.heap.size+2:=by simp
   obtain⟨V,hV⟩: ∃W,(W7.alloc (.cells #[.slice q.ro q.RL.length q.rc,.slice none 0 0] 99)).alloc (.cells #[.slice none 0 0,.slice none 0 0] 99)=W:=⟨_,rfl⟩
   rw[hV]at hbw hs1' hs2 hvs ⊢
   have HR1:Hid (∀g o,q.ro=some ⟨g,o,none⟩→0<q.RL.length→g<w.heap.size):=Lib.hid (by
    intro g o e hp
    obtain⟨g',o',e1,e2,_⟩:=HQ0.out.row hp
    rw[e]at e1
    injection e1 with e1
    injection e1 with e1
    omega)
   have HCL7:Hid (cc<W7.heap.size):=Lib.hid HCB7.out.lt
   have HSTx:Hid (GSt w w6 V q qb bd cc W7.heap.size L pg KG XG pr KR XR m op op2 none none):=Lib.hid ⟨HB7.out.trans (hbw.mono HB7.out.size),HQB7.out.below hbw,HCB7.out.below hbw,fun k h1 h2=>(hbw.block k (by have:=HCL7.out;omega)).trans (HAG7.out k h2),HTG7.out.g.below hbw,HTG7.out.r.below hbw,fun k hk=>⟨HTG7.out.lo k hk,HNB.out.2 k hk⟩,HTG7.out.d,HNB.out.1,HBD.out.1,HBD.out.2,HCL7.out,HR1.out,hs1'.1,hs1'.2,hs2.1,hs2.2⟩
   have HEQ:Hid (∀y,opAt m op y=opAt m op2 y):=Lib.hid HTG7.out.eq
   obtain⟨sb,hsb⟩: ∃b,W7.heap.size=b:=⟨_,rfl⟩
   rw[hsb]at HSTx hvs ⊢
   have HST:=Lib.hid HSTx.out
   have HVS:=Lib.hid hvs
   clear hV hs1 hs1' hs2 hbw hsb hvs HSTx HQB7 HTG7 HB7 HQ7 HCB7 HAG7 HSW HCL7 k275 kq
   obtain⟨I,hI⟩: ∃I,q.I=I:=⟨_,rfl⟩
   have HI:=Lib.hid hI
   clear hI
   obtain⟨hit,hhit⟩: ∃b,q.RL.getD 0 false=b:=⟨_,rfl⟩
   have HHIT:=Lib.hid hhit
   clear hhit
   have HV1:=Lib.hid (HW6.out.v HCX.out)
   have HWV:=Lib.hid (HWAT.out HST.out.ag (by have:=HST.out.fc.lt;omega))
   have HT1:=Lib.hid (go_takes (w:=V) HST.out.fg HV1.out I HST.out.fs (HST.out.sa:AskS V sb V.heap.size none) (fun h=>by have:=HST.out.lo sb (.inl h);have:=HST.out.o1;have:=HST.out.o2;have:=HST.out.o3;omega) (fun g o e hp e2=>by have:=HR1.out g o e hp;have:=HST.out.lo g (.inl (HST.out.fg.mem g e2));omega)
    HWV.out.a.src HCX.out.ci.za HWV.out.b.src HCX.out.ci.zb q.line q.last)
   rw[HHIT.out]at HT1
   obtain⟨r,hr⟩: ∃r,takesI m I c.ka c.na c.kb c.nb c.nt q.line q.last (opAt m op I) hit=r:=⟨_,rfl⟩
   obtain⟨A,hA⟩: ∃A,askedI m I c.ka c.na c.ra c.kb c.nb c.rb (opAt m op I)=A:=⟨_,rfl⟩
   have HRE:=Lib.hid hr
   have HAE:=Lib.hid hA
   rw[hr,hA]at HT1
   obtain⟨r1,r2,r3⟩:=r
   clear hr hA
   have hmf: ∀(fn:Fn) (first cap:Array Value) (w:World),(Instr.makeFunc fn first cap).run Tryz.prog w= .ok (.func fn first cap) w:=fun _ _ _ _=>rfl
   have k0:V.cell? ⟨qb,0,none⟩=some (.int .i64 I):=by rw[HST.out.fq.c0,HI.out]
   have k273:=HST.out.fq.c273
   have k274:=HST.out.fq.c274
   have kq:=HST.out.fq.lt
   have HCZ1:=Lib.hid (CmdB.info HST.out.fc.cl)
   go_wp2_with (refine wpList_load_row rfl 91 _ rfl cc rfl _ _ (0,0) _ HST.out.fc.heap Tryz.underlying91 rfl HCZ1.out ?_)
   refine HT1.out.mono ?_;rintro e w8 ⟨rfl,⟨op',hg8,hop8⟩,hfx,htl,hak⟩
   have HST8:=Lib.hid (HST.out.takes hfx hg8 htl (hak.mono (Nat.le_of_eq HVS.out.symm)))
   have HOP8:=Lib.hid hop8
   clear hfx hg8 htl hak hop8 k0 k273 k274 kq HT1 HST HWV HCZ1
   have HAZ:Hid (∀x,A=some x→x.re.length*72≤140737488355328):=Lib.hid (fun y hy=>by
    have h:=HAE.out
    rw[hy]at h
    unfold askedI at h
    split at h
    ·exact asked_size HCX.out.ci.za HCX.out.ci.zb y h
    ·cases h)
   have k0:w8.cell? ⟨qb,0,none⟩=some (.int .i64 I):=by rw[HST8.out.fq.c0,HI.out]
   have kq:=HST8.out.fq.lt
   have HCX8:=Lib.hid (HCX.out.below HST8.out.bl)
   have HT2:=Lib.hid (ro_asks HST8.out.fr HCX8.out.ci.v I HCX8.out.ci.ba HCX8.out.ci.bb HCX8.out.ci.sa HCX8.out.ci.za HCX8.out.ci.sb HCX8.out.ci.zb)
   rw[←HEQ.out I,HAE.out,HCL.out]at HT2
   go_wp2_with (refine wpList_load_mid rfl 91 _ rfl qb 1 rfl q.l _ HST8.out.fq.cmd Tryz.underlying91 rfl HCZ.out ?_)
   refine HT2.out.mono ?_;rintro e w9 ⟨⟨k',m',o',l',c',b,rfl,hbn,hbs⟩,hb9⟩
   have HST9:=Lib.hid (HST8.out.below hb9)
   have HSZ9:Hid (sb+1<w8.heap.size∧w8.heap.size≤w9.heap.size):=Lib.hid ⟨HST8.out.ft.lt,hb9.size⟩
   have HBN:=Lib.hid hbn
   have HBS:=Lib.hid hbs
   clear hb9 hbn hbs k0 kq HT2 HCX8 HST8
   go_upto_if 106 with fail
   have HAD:=Lib.hid (AdB.new w9 (.int .i8 k') (.int .i64 m') (.slice o' l' c'))
   have hbw:=(Below.refl w9.heap.size w9).alloc (Nat.le_refl _) (.cells #[.int .i8 k',.int .i64 m',.slice o' l' c'] 54)
   have HST10:=Lib.hid (HST9.out.below hbw)
   have HBW:=Lib.hid hbw
   obtain⟨w10,hw10⟩: ∃W,w9.alloc (.cells #[.int .i8 k',.int .i64 m',.slice o' l' c'] 54)=W:=⟨_,rfl⟩
   rw[hw10]at HAD HST10 HBW ⊢
   clear hbw hw10 HST9
   go_cut [107] (fun _ wc=>GSt w w6 wc q qb bd cc sb L pg KG XG pr KR XR m op' op2 A A)
   case first=>
    cases b with
    |false=>
     have hAn:A=none:=by
      cases hA:A with
      |none=>rfl
      |some a=>have:=(HBS.out a hA).1;cases this
     go_wp2_with fail
     go_meet
     rw[hAn]
     have h:=HST10.out
     rw[hAn]at h
     exact h
    |true=>
     cases hA:A with
     |none=>have:=HBN.out hA;cases this
     |some a=>
     obtain⟨_,hk,hm2,hl,hnu,hge⟩:=HBS.out a hA
     subst hk hm2 hl
     have HST10':Hid (GSt w w6 w10 q qb bd cc sb L pg KG XG pr KR XR m op' op2 (some a) none):=Lib.hid (by have h:=HST10.out;rw[hA]at h;exact h)
     have HNU:=Lib.hid (hnu.below HBW.out)
     have HGE:=Lib.hid hge
     have HAA:=Lib.hid hA
     clear hnu hge hA HST10
     have t1:w10.cell? ⟨sb+1,1,none⟩=some (.slice none 0 0):=HST10'.out.ta
     have tl:=HST10'.out.ft.lt
     have a0:=HAD.out.c0
     have a1:=HAD.out.c1
     have a2:=HAD.out.c2
     have al:=HAD.out.lt
     go_upto_region 20 with fail
     refine wp_region_segs (X:=none) 7 [([0,1,2,3,4,5],6)] [] (by kernel_rfl) (by kernel_rfl) rfl (fun _ _ _ _ _ h=>h) ?_
     simp only[wpSegs,pickSegs_nil,pickSegs_cons,pickOps_nil,pickOps_cons,List.getD_cons_zero,List.getD_cons_succ,List.drop_succ_cons,List.drop_zero]
     repeat (go_big_quiet_step (fail))
     refine wpQuiet_nil ?_
     go_wp2_with fail
     refine⟨keeps_alloc _ _,?_⟩
     repeat (go_big_quiet_step (fail))
     refine wpQuiet_nil ?_
     go_wp2_with (at_builtin;refine wpList_app elAd rfl _ _ rfl w10.drew.heap.size (n:=0) (m:=1) (news:=[.int .i8 a.kind,.int .i64 a.n,.slice o' a.re.length c']) rfl (World.ownsRow_nil _ _ _ _) rfl (Src.new w10.drew [.int .i8 a.kind,.int .i64 a.n,.slice o' a.re.length c'] _ _ _) rfl (by simp[Value.oneCell']) (by decide) (by decide) (by simp) ?_)
     intro v3 w3 hown3 hgr3 _
     have hb3:Below w10.drew.heap.size w10.drew w3:=((Below.refl w10.drew.heap.size w10.drew).alloc (Nat.le_refl _) _).grown hgr3 (by simp) (fun k hk=>by cases hk)
     obtain⟨ab,cp,rfl,hab,habl,hc⟩: ∃ab cp,v3= .slice (some ⟨ab,0,none⟩) 1 cp∧w10.drew.heap.size≤ab∧ab<w3.heap.size∧ ∀j u,([.int .i8 a.kind,.int .i64 a.n,.slice o' a.re.length c']:List Value)[j]?=some u→w3.cell? ⟨ab,j,none⟩=some u:=by
      have h0:=hown3
      rcases hown3.2 with ⟨_,h⟩|⟨g,cap,cur,rfl,hb,hg,_⟩
      ·simp at h
      ·exact⟨g,cap,rfl,hb,(Array.getElem?_eq_some_iff.1 hg).1,fun j u hu=>by
        have:=h0.cells (g:=g) rfl j u (by simpa using hu)
        rwa[add_none,Nat.zero_add]at this⟩
     have HBX:=Lib.hid ((Below.refl w10.heap.size w10).drew.trans hb3)
     have HSTy:=Lib.hid (HST10'.out.below HBX.out)
     have HNU3:=Lib.hid (HNU.out.below HBX.out)
     have HC:=Lib.hid hc
     have HAB:Hid (w10.heap.size≤ab):=Lib.hid hab
     have HABL:=Lib.hid habl
     have t3:w3.cell? ⟨sb+1,1,none⟩=some (.slice none 0 0):=HSTy.out.ta
     have f3:=HSTy.out.ft.fz
     have tl3:=HSTy.out.ft.lt
     clear hown3 hgr3 hb3 hc hab habl t1 tl a0 a1 a2 al
     go_wp2_with fail
     go_meet
     have hs:=HSZ9.out
     have hs2:=HBW.out.size
     have hne: ∀j,(w3.setCell ⟨sb+1,1,none⟩ (.slice (some ⟨ab,0,none⟩) 1 cp)).cell? ⟨ab,j,none⟩=w3.cell? ⟨ab,j,none⟩:=fun j=>World.cell?_of_block (w:=w3) (a:=⟨ab,j,none⟩) (Below.heap_setCell _ _ _ _ (by have:=HAB.out;show ab≠sb+1;omega))
     have hfin:GSt w w6 (w3.setCell ⟨sb+1,1,none⟩ (.slice (some ⟨ab,0,none⟩) 1 cp)) q qb bd cc sb L pg KG XG pr KR XR m op' op2 (some a) (some a):=by
      refine GSt.put (B':=some a) HSTy.out ⟨ab,cp,o',c',World.cell?_setCell_same _ _ _ t3,by have:=HAB.out;omega,by have:=HABL.out;simpa using this,(hne 0).trans (HC.out 0 _ rfl),(hne 1).trans (HC.out 1 _ rfl),(hne 2).trans (HC.out 2 _ rfl),?_,fun g z e hp=>by have:=HGE.out g z e hp;omega⟩
      intro hp
      obtain⟨nb',no',e1,e2,e3⟩:=HNU3.out hp
      have hgn:=HGE.out nb' no' e1 hp
      exact⟨nb',no',e1,by simpa using e2,fun i hi j hj=>(World.cell?_of_block (w:=w3) (a:=⟨nb',no'+i*9+j,none⟩) (Below.heap_setCell _ _ _ _ (by show nb'≠sb+1;omega))).trans (e3 i hi j hj)⟩
     first
      |exact hfin
      |(rw[HAA.out];exact hfin)
   case rest=>
   have HSC:=Lib.hid hcut
   clear hcut
   have HDR:=Lib.hid ((Below.refl wc.heap.size wc).drew)
   have HSD:=Lib.hid (HSC.out.below HDR.out)
   have HCXD:=Lib.hid (HCX.out.below HSD.out.bl)
   have HT3:=Lib.hid (ro_takes (w:=wc.drew) HSD.out.fr HCXD.out.ci.v I HCXD.out.ci.ba HCXD.out.ci.bb q.line q.last hit)
   rw[←HEQ.out I,HRE.out,HCL.out]at HT3
   have HRG:=Lib.hid HSD.out.fq.cmd
   have HXR:Hid (∀k,XR=some k→w.heap.size≤k∧k<qb):=Lib.hid (fun k e=>HSC.out.lo k (.inr (HSC.out.fr.mem k e)))
   have k0:wc.cell? ⟨qb,0,none⟩=some (.int .i64 I):=by rw[HSC.out.fq.c0,HI.out]
   have k273:=HSC.out.fq.c273
   have k274:=HSC.out.fq.c274
   have k275:=HSC.out.fq.c275
   have kq:=HSC.out.fq.lt
   have hkq: ∀g o,(wgr XR wc.drew g).cell? ⟨qb,o,none⟩=wc.cell? ⟨qb,o,none⟩:=fun g o=>(keeps_wgr wc.drew g).cell ⟨qb,o,none⟩ kq (fun e=>by have:=HXR.out qb e;omega)
   have hcase:(0<q.RL.length∧ ∃g o,q.ro=some ⟨g,o,none⟩∧g<wc.heap.size∧wc.cell? ⟨g,o,none⟩=some (.bool hit)∧ ∀v,(wgr XR wc.drew v).cell? ⟨g,o,none⟩=wc.cell? ⟨g,o,none⟩)∨(¬0<q.RL.length∧hit=false):=by
    by_cases hp:0<q.RL.length
    ·obtain⟨g,o,e1,e2,e3⟩:=HQ0.out.row hp
     have hl:=Nat.lt_of_lt_of_le e2 HSC.out.bl.size
     exact .inl ⟨hp,g,o,e1,hl,by rw[HSC.out.bl.cell (p:=⟨g,o,none⟩) e2,e3,HHIT.out],fun v=>(keeps_wgr wc.drew v).cell ⟨g,o,none⟩ hl (fun e=>by have:=HXR.out g e;omega)⟩
    ·have:q.RL=[]:=List.eq_nil_of_length_eq_zero (by omega)
     exact .inr ⟨hp,by rw[←HHIT.out,this];rfl⟩
   rcases hcase with ⟨hpos,hg,ho,hro,hgl,hgc,hgw⟩|⟨hpos,hhf⟩
   all_goals first|rw[hro]at k275|subst hhf
   all_goals
    go_upto_region 21 with fail
    refine wp_region_segs (X:=(XR)) 25 [([0,1,2,3,5,6,7,8,9,10,11,12,13,14,15,16,17,18],4),([],19)] [20,21,22,23,24] (by kernel_rfl) (by kernel_rfl) rfl (fun _ _ _ _ _ h=>h) ?_
    simp only[wpSegs,pickSegs_nil,pickSegs_cons,pickOps_nil,pickOps_cons,List.getD_cons_zero,List.getD_cons_succ,List.drop_succ_cons,List.drop_nil]
    repeat (go_big_quiet_step (fail))
    refine wpQuiet_nil ?_
    go_wp2_with (refine wpList_load_mid rfl 91 _ rfl qb 1 rfl q.l _ HRG.out Tryz.underlying91 rfl HCZ.out ?_)
    refine⟨Keeps.refl _,?_⟩
    try simp only[Act.put,List.setIfInBounds_toArray,List.set_cons_succ,List.set_cons_zero]
    repeat (go_big_quiet_step (fail))
    refine wpQuiet_nil ?_
    go_wp2_with fail
    refine HT3.out.mono ?_;rintro e w11 ⟨rfl,⟨op2',hr,hop2⟩,hfx⟩
    have HST11:=Lib.hid (HSD.out.rtakes hfx hr)
    have HFX:=Lib.hid hfx
    have HEQ2:Hid (∀y,opAt m op' y=opAt m op2' y):=Lib.hid (fun y=>by rw[HOP8.out y,hop2 y,HEQ.out y])
    clear hr hop2 hfx HT3 k0 k273 k274 k275 kq hkq HSD HSC HCXD HDR HRG hpos
    go_wp2_with fail
    refine⟨HFX.out.keeps,?_⟩
    repeat (go_big_quiet_step (fail))
    refine wpQuiet_nil ?_
    go_wp2_with fail
    refine(alike_same HST11.out.sa HST11.out.ta HST11.out.fs.lt HST11.out.ft.lt HAZ.out).mono ?_;rintro e w12 ⟨rfl,hb12⟩
    have HST12:=Lib.hid (HST11.out.below hb12)
    have HRW:=Lib.hid HST12.out.fc.row0
    have HRQ:=Lib.hid HST12.out.fq.cmd
    have HCI:Hid ((Tryz.prog.info? 91).map (·.size)=some L.length):=Lib.hid (by rw[cmd_info,HW6.out.cl.len])
    have HEC:=Lib.hid (eqCmdU (HWAT.out HST12.out.ag (Nat.le_of_lt HST12.out.fc.lt)) (HCX.out.below HST12.out.bl))
    rw[HCL.out]at HEC
    clear hb12 HST11
    go_wp2_with (first|refine wpList_load_mid_g (by kernel_rfl) 91 _ rfl cc 0 rfl _ _ HRW.out Tryz.underlying91 rfl HCI.out ?_|refine wpList_load_mid_g (by kernel_rfl) 91 _ rfl qb 1 rfl _ _ HRQ.out Tryz.underlying91 rfl HCZ.out ?_)
    refine HEC.out.mono ?_;rintro e w13 ⟨rfl,hb13⟩
    have HST13:=Lib.hid (HST12.out.below hb13)
    have HRW3:=Lib.hid HST13.out.fc.row0
    have HSP:=Lib.hid (spareCmdU (HWAT.out HST13.out.ag (Nat.le_of_lt HST13.out.fc.lt)) (HCX.out.below HST13.out.bl))
    clear hb13 HST12 HRW HRQ HEC
    go_wp2_with (refine wpList_load_mid_g (by kernel_rfl) 91 _ rfl cc 0 rfl _ _ HRW3.out Tryz.underlying91 rfl HCI.out ?_)
    refine HSP.out.mono ?_;rintro e w14 ⟨rfl,hb14⟩
    have HST14:=Lib.hid ((HST13.out.below hb14).below (Below.refl w14.heap.size w14).drew)
    have k0:w14.cell? ⟨qb,0,none⟩=some (.int .i64 I):=by have h:=HST14.out.fq.c0;rw[HI.out]at h;exact h
    have kq:qb<w14.heap.size:=HST14.out.fq.lt
    clear hb14 HST13 HRW3 HSP
    have HGO:Hid (∀y,Calls Tryz.prog 42 #[.pointer pg,.int .i64 y] w14.drew fun e w'=>e= .returned (.bool (opAt m op' y))∧w14.drew=w'):=Lib.hid (fun y=>go_open HST14.out.fg y)
    have HRO:Hid (∀y,Calls Tryz.prog 43 #[.pointer pr,.int .i64 y] w14.drew fun e w'=>e= .returned (.bool (opAt m op' y))∧w14.drew=w'):=Lib.hid (fun y=>by rw[HEQ2.out y];exact ro_open HST14.out.fr y)
    go_upto_region 24 with fail
    refine wp_region_segs (X:=none) 22 [([0,1,2,4,5,6],3),([],7),([8,9,10,11,12,13,15,16,17,18],14),([],19)] [20,21] (by kernel_rfl) (by kernel_rfl) rfl (fun _ _ _ _ _ h=>h) ?_
    simp only[wpSegs,pickSegs_nil,pickSegs_cons,pickOps_nil,pickOps_cons,List.getD_cons_zero,List.getD_cons_succ,List.drop_succ_cons,List.drop_nil]
    repeat (go_big_quiet_step (fail))
    refine wpQuiet_nil ?_
    go_wp2_with fail
    refine(HGO.out _).mono ?_;rintro e w15 ⟨rfl,rfl⟩
    go_wp2_with fail
    refine⟨Keeps.refl _,?_⟩
    repeat (go_big_quiet_step (fail))
    refine wpQuiet_nil ?_
    go_wp2_with fail
    refine(HRO.out _).mono ?_;rintro e w15 ⟨rfl,rfl⟩
    go_wp2_with fail
    refine⟨Keeps.refl _,?_⟩
    repeat (go_big_quiet_step (fail))
    refine wpQuiet_nil ?_
    go_wp2_with fail
    refine(HGO.out _).mono ?_;rintro e w15 ⟨rfl,rfl⟩
    go_wp2_with fail
    refine⟨Keeps.refl _,?_⟩
    repeat (go_big_quiet_step (fail))
    refine wpQuiet_nil ?_
    go_wp2_with fail
    refine(HRO.out _).mono ?_;rintro e w15 ⟨rfl,rfl⟩
    go_wp2_with fail
    refine⟨Keeps.refl _,?_⟩
    repeat (go_big_quiet_step (fail))
    refine wpQuiet_nil ?_
    have k273:=HST14.out.fq.c273
    have k274:=HST14.out.fq.c274
    have HCZ4:=Lib.hid (CmdB.info HST14.out.fc.cl)
    go_wp2_with (refine wpList_load_row rfl 91 _ rfl cc rfl _ _ (0,0) _ HST14.out.fc.heap Tryz.underlying91 rfl HCZ4.out ?_)
    refine(takes_nil _ _ _).mono ?_;rintro e w16 ⟨rfl,hb16⟩
    have HST16:=Lib.hid (HST14.out.below hb16)
    have k0':w16.cell? ⟨qb,0,none⟩=some (.int .i64 I):=by have h:=HST16.out.fq.c0;rw[HI.out]at h;exact h
    have kq':qb<w16.heap.size:=HST16.out.fq.lt
    clear hb16 k0 kq k273 k274 HST14 HGO HRO
    go_wp2_with fail
    refine(open_nil _).mono ?_;rintro e w17 ⟨rfl,rfl⟩
    go_wp2_with fail
    refine(alike_same HST16.out.sa HST16.out.ta HST16.out.fs.lt HST16.out.ft.lt HAZ.out).mono ?_;rintro e w18 ⟨rfl,hb18⟩
    have HST18:=Lib.hid (HST16.out.below hb18)
    clear hb18 HST16 k0' kq'
    go_wp2_with fail
    go_roundg (n - (d+1))
    case measure=>have:=HG.out;have:=HLT.out;omega
    case rel=>exact⟨d+1,op',op2',by go_num,rfl,HLT.out,⟨HST18.out.fg,HST18.out.fr,HEQ2.out,fun k hk=>(HST18.out.lo k hk).1,HST18.out.d⟩,HST18.out.bl⟩
  ·obtain rfl:d=n:=by omega
   go_wp2_with fail
   refine(works_call (HT.out.below HBE.out)).mono ?_;rintro e w3 ⟨rfl,hb3⟩
   have HB3:=Lib.hid (HBE.out.trans (hb3.mono HBE.out.size))
   clear hb3
   go_wp2_with fail
   go_ret
   exact⟨rfl,HB3.out⟩
end
end Go.Proofs.YtfjbnpdffillbaaGreatDoor
