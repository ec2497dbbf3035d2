/- Parts: Kf. -/
import Derived.Test.YtfjbnpdffillbaaGreatDoorQ25
import Derived.Test.YtfjbnpdffillbaaGreatDoorQ18
import Derived.Test.YtfjbnpdffillbaaGreatDoorQ26
import Derived.Deep.DeepCutAuto
set_option maxHeartbeats 3200000
set_option maxRecDepth 100000
namespace Go.Proofs.YtfjbnpdffillbaaGreatDoor
open Go.RowKit
theorem zHI {l:List Nat} {g c:Nat} {w:World} (hl:l.length≤100) (hg:g<w.heap.size) (h: ∀j,j<l.length→w.cell? ⟨g,j,none⟩=some (.int .u8 (l.getD j 0:Nat))):
  Calls Tryz.prog 201 #[.slice (some ⟨g,0,none⟩) l.length c] w fun e w'=>(∃v,e= .returned v∧Mks w' w.heap.size v (l.map mk))∧Below w.heap.size w w':=by
 have HL:=zPf hl
 have HS:=zPf h
 have hl1:(l.length:Int)≤100:=by omega
 clear hl h
 obtain⟨i0,hi,hz0,hz1,hz2⟩:=info_parts (zPT).hi
 go_enter Tryz.func201,Tryz.ntmps201
 go_wp2_with (at_make;refine wpList_make_full _ rfl _ _ 120 rfl w.heap.size 131 i0 _ 2 Tryz.underlying120 hi hz0 hz1 .i64 .i64 (l.length:Int) (l.length:Int) l.length rfl rfl (by omega) (by omega) (by rw[hz2];have:=HL.out;omega) (by unfold maxLen;have:=HL.out;omega) (Nat.le_refl _) ?_)
 intro w1 hown hgr
 have HF:=zPf (show(l.map mk).length=l.length by simp)
 have hN1:Mks w1 w.heap.size (.slice (some ⟨w.heap.size,0,none⟩) l.length l.length) (zDh (l.map mk) l.length 0):=by
  unfold Mks zDh
  rw[List.take_zero,List.nil_append,Nat.sub_zero,List.length_replicate,←zLC]
  exact hown
 have HN1:=zPf hN1
 have HB1:=zPf ((zPg w.heap.size w).grown hgr (zPh _) (fun k hk=>by cases hk))
 have hg1:w.heap.size<w1.heap.size:=(hN1.lt _ rfl).2
 clear hown hgr hN1 hi hz0 hz1 hz2
 go_wp2_with fail
 go_loopg [11] l.length (fun n iv wr=> ∃d:Nat,iv= .int .i64 (d:Nat)∧n=l.length - d∧d≤l.length∧Mks wr w.heap.size (.slice (some ⟨w.heap.size,0,none⟩) l.length l.length) (zDh (l.map mk) l.length d)∧Below w.heap.size w wr)
 case atStart=>exact⟨0,rfl,by omega,by omega,HN1.out,HB1.out⟩
 case round=>
  obtain⟨d,rfl,hg2,hd,hn,hb⟩:=hrel
  have HG:=zPf hg2
  have HNN:=zPf hn
  have HB:=zPf hb
  have hgw:w.heap.size<wr.heap.size:=(hn.lt _ rfl).2
  have hsl:=zHs HF.out hd
  by_cases hlt:d<l.length
  ·have hlt':(d:Int)<(l.length:Int):=by omega
   obtain⟨z0,z1,zf⟩:=hn.two hsl hlt (zIU HF.out hlt)
   have HSL:=zPf hsl
   have hsrc:wr.cell? ⟨g,d,none⟩=some (.int .u8 (l.getD d 0:Nat)):=(hb.cell (p:=⟨g,d,none⟩) hg).trans (HS.out d hlt)
   have HX:=zPf (show(l.map mk)[d]?=some (mk (l.getD d 0))by
    rw[List.getElem?_map,zPo,zPw hlt];rfl)
   generalize l.getD d 0=b at hsrc HX
   clear hg2 hn hb hsl
   go_wp2_with fail
   go_roundg (l.length - (d+1))
   case measure=>have:=HG.out;omega
   case rel=>
    refine⟨d+1,by go_num,rfl,by omega,?_,(by repeat (first|exact zPg _ _|assumption|refine zP8 ?_|refine zP6 ?_ (by first|(simp;done)|(simp;omega)|omega) _|refine zP7 ?_ (by first|(simp;done)|(simp;omega)|omega) _))⟩
    have h:=Mks.putB HNN.out HSL.out hlt b
    rw[zIU HF.out hlt]at h
    rw[←zKm HF.out hlt HX.out]
    exact h
  ·have hlt': ¬(d:Int)<(l.length:Int):=by omega
   have hde:d=l.length:=by omega
   subst hde
   have HFin:=zPf (show Mks wr w.heap.size (.slice (some ⟨w.heap.size,0,none⟩) l.length l.length) (l.map mk)by
    have h:=HNN.out
    rw[zJQ HF.out]at h
    exact h)
   clear hg2 hn hb hsl
   go_wp2_with fail
   go_ret
   exact⟨⟨_,rfl,HFin.out⟩,HB.out⟩
structure zLb (w:World):Prop where
 lt:3<w.heap.size
 c0:w.cell? ⟨3,0,none⟩=some (.int .u8 91)
 c1:w.cell? ⟨3,1,none⟩=some (.int .u8 93)
 c2:w.cell? ⟨3,2,none⟩=some (.int .u8 45)
 c3:w.cell? ⟨3,3,none⟩=some (.int .u8 94)
theorem zLb.below {w w':World} (h:zLb w) (hb:Below w.heap.size w w'):zLb w':=
 ⟨zPi h.lt hb.size,(hb.cell (p:=⟨_,0,none⟩) h.lt).trans h.c0,(hb.cell (p:=⟨_,1,none⟩) h.lt).trans h.c1,(hb.cell (p:=⟨_,2,none⟩) h.lt).trans h.c2,(hb.cell (p:=⟨_,3,none⟩) h.lt).trans h.c3⟩
theorem zKo (w:World) (b T:Nat): ∀j,j<5→(w.alloc (.cells #[.int .u8 91,.int .u8 46,.int .u8 (b:Nat),.int .u8 46,.int .u8 93] T)).cell? ⟨w.heap.size,j,none⟩=some (.int .u8 (([91,46,b,46,93]:List Nat).getD j 0:Nat)):=by
 intro j hj
 have:j=0∨j=1∨j=2∨j=3∨j=4:=by omega
 rcases this with rfl|rfl|rfl|rfl|rfl<;>simp[go_sem]
theorem zLq (w:World) (b T:Nat): ∀j,j<1→(w.alloc (.cells #[.int .u8 (b:Nat)] T)).cell? ⟨w.heap.size,j,none⟩=some (.int .u8 (([b]:List Nat).getD j 0:Nat)):=by
 intro j hj
 obtain rfl:j=0:=by omega
 simp[go_sem]
theorem zHJ (b:Nat) {w:World} :
  Calls Tryz.prog 201 #[.slice (some ⟨w.heap.size,0,none⟩) 1 1] (w.alloc (.cells #[.int .u8 (b:Nat)] 5)) fun e w'=>(∃v,e= .returned v∧Mks w' w.heap.size v [mk b])∧Below w.heap.size w w':=
 (zHI (l:=[b]) (by simp) (by simp) (zLq w b _)).mono fun e w' ⟨⟨v,he,hm⟩,hb⟩=>
  ⟨⟨v,he,zA6 hm (by simp)⟩,((zPg w.heap.size w).alloc (zPh _) _).trans (hb.mono (by simp))⟩
theorem zKT {b:Nat} (hb:b<256) {w:World} (ha:zLb w):
  Calls Tryz.prog 204 #[.int .u8 (b:Nat)] w fun e w'=>(∃v,e= .returned v∧Mks w' w.heap.size v ((zJJ b).map mk))∧Below w.heap.size w w':=by
 obtain⟨hlt,h0,h1,h2,h3⟩:=ha
 have i0: ∀w,(Instr.index 287 (.agg #[.int .u8 91,.int .u8 93,.int .u8 45,.int .u8 94]) (.int .i64 0)).run Tryz.prog w= .ok (.int .u8 91) w:=fun _=>by kernel_rfl
 have i1: ∀w,(Instr.index 287 (.agg #[.int .u8 91,.int .u8 93,.int .u8 45,.int .u8 94]) (.int .i64 1)).run Tryz.prog w= .ok (.int .u8 93) w:=fun _=>by kernel_rfl
 have i2: ∀w,(Instr.index 287 (.agg #[.int .u8 91,.int .u8 93,.int .u8 45,.int .u8 94]) (.int .i64 2)).run Tryz.prog w= .ok (.int .u8 45) w:=fun _=>by kernel_rfl
 have i3: ∀w,(Instr.index 287 (.agg #[.int .u8 91,.int .u8 93,.int .u8 45,.int .u8 94]) (.int .i64 3)).run Tryz.prog w= .ok (.int .u8 94) w:=fun _=>by kernel_rfl
 by_cases hin:b=91∨b=93∨b=45∨b=94
 ·have HE:=zPf (show zJJ b=[91,46,b,46,93]from if_pos hin)
  have HS:=zPf (zKo w b 5)
  have hlt5:=zPf (show w.heap.size<(w.alloc (.cells #[.int .u8 91,.int .u8 46,.int .u8 (b:Nat),.int .u8 46,.int .u8 93] 5)).heap.size by simp)
  have hB:=zPf ((zPg w.heap.size w).alloc (zPh _) (.cells #[.int .u8 91,.int .u8 46,.int .u8 (b:Nat),.int .u8 46,.int .u8 93] 5))
  rcases hin with rfl|rfl|rfl|rfl
  all_goals
   go_enter Tryz.func204,Tryz.ntmps204
   go_wp2_with fail
   refine wp_loop_rounds 5 ?_
   repeat (rw[rounds_succ];go_wp2_with fail)
   refine(zHI (l:=[91,46,_,46,93]) (by decide) hlt5.out HS.out).mono ?_;rintro e w1 ⟨⟨v,rfl,hm⟩,hb1⟩
   have HM:=zPf hm
   have HB:=zPf (hB.out.trans (hb1.mono hB.out.size))
   clear hm hb1
   go_wp2_with fail
   go_ret
   exact⟨⟨_,rfl,by rw[HE.out];exact zA6 HM.out hB.out.size⟩,HB.out⟩
 ·have HE:=zPf (show zJJ b=[b]from if_neg hin)
  have n1:((91:Int)==(b:Int))=false:=by rw[zPl];omega
  have n2:((93:Int)==(b:Int))=false:=by rw[zPl];omega
  have n3:((45:Int)==(b:Int))=false:=by rw[zPl];omega
  have n4:((94:Int)==(b:Int))=false:=by rw[zPl];omega
  clear hin
  go_enter Tryz.func204,Tryz.ntmps204
  go_wp2_with fail
  refine wp_loop_rounds 5 ?_
  repeat (rw[rounds_succ];go_wp2_with fail)
  refine(zHJ b).mono ?_;rintro e w1 ⟨⟨v,rfl,hm⟩,hb1⟩
  have HM:=zPf hm
  have HB:=zPf hb1
  clear hm hb1
  go_wp2_with fail
  go_ret
  exact⟨⟨_,rfl,by rw[HE.out];exact HM.out⟩,HB.out⟩
theorem zMZ (b c d e b' c' d' e':Int) (w:World):
  (Op.equalIn 10000 76 (.agg #[.int .u64 b,.int .u64 c,.int .u64 d,.int .u64 e]) (.agg #[.int .u64 b',.int .u64 c',.int .u64 d',.int .u64 e'])).run Tryz.prog w= .ok (decide (b=b')&&decide (c=c')&&decide (d=d')&&decide (e=e')) w:=by
 obtain⟨i,hi⟩: ∃i,Tryz.prog.info? 74=some i:=Option.isSome_iff_exists.1 (by kernel_rfl)
 rw[run_equalIn_array w 9999 _ _ Tryz.underlying76 hi,show Tryz.prog.cellsOf 74=1 by kernel_rfl]
 simp[Op.eqItems,go_sem,List.range_succ]
 repeat' split
 all_goals simp_all
theorem zMa (c d:Cls):(decide (((c.w0.toNat:Nat):Int)=((d.w0.toNat:Nat):Int))&&decide (((c.w1.toNat:Nat):Int)=((d.w1.toNat:Nat):Int))&&decide (((c.w2.toNat:Nat):Int)=((d.w2.toNat:Nat):Int))&&decide (((c.w3.toNat:Nat):Int)=((d.w3.toNat:Nat):Int)))=decide (c=d):=by
 obtain⟨c0,c1,c2,c3⟩:=c
 obtain⟨d0,d1,d2,d3⟩:=d
 simp only[Cls.mk.injEq,←BitVec.toNat_inj,Int.ofNat_inj,Bool.decide_and,Bool.and_assoc]
theorem zKP (c d:Cls) (w:World):(binOp .neq 76 (zBE c) (zBE d)).run Tryz.prog w= .ok (.bool (!decide (c=d))) w:=by
 rw[run_neq_struct,zMZ,zMa];rfl
theorem zNW (c d:Cls) (w:World):(binOp .eql 76 (zBE c) (zBE d)).run Tryz.prog w= .ok (.bool (decide (c=d))) w:=by
 rw[run_eql_struct,zMZ,zMa];rfl
theorem zFz (b:Nat) {w:World} {n:Nat} (hn:n=w.heap.size):
  Calls Tryz.prog 201 #[.slice (some ⟨n,0,none⟩) 1 1] (w.alloc (.cells #[.int .u8 (b:Nat)] 5)) fun e w'=>(∃v,e= .returned v∧Mks w' w.heap.size v [mk b])∧Below w.heap.size w w':=by
 subst hn;exact zHJ b
def zBn (w:World) (B:Nat) (c:Cls):Prop:=w.heap[B]?=some (.cells (zAS c) 76 (0,0))
theorem zBn.lt {w:World} {B:Nat} {c:Cls} (h:zBn w B c):B<w.heap.size:=(zPn.1 h).1
theorem zBn.below {w w':World} {B:Nat} {c:Cls} (h:zBn w B c) (hb:Below w.heap.size w w'):zBn w' B c:=(hb.block B h.lt).trans h
theorem zBn.new (w:World) (c:Cls):zBn (w.alloc (.cells (zAS c) 76)) w.heap.size c:=zPs _ _
theorem zBn.cells {w:World} {B:Nat} {c:Cls} (h:zBn w B c):w.cell? ⟨B,0,none⟩=some (.int .u64 c.w0.toNat)∧w.cell? ⟨B,1,none⟩=some (.int .u64 c.w1.toNat)∧w.cell? ⟨B,2,none⟩=some (.int .u64 c.w2.toNat)∧w.cell? ⟨B,3,none⟩=some (.int .u64 c.w3.toNat)∧ ∀j,w.frozen? ⟨B,j,none⟩=false:=
 ⟨zAX h 0 (by omega),zAX h 1 (by omega),zAX h 2 (by omega),zAX h 3 (by omega),fun j=>zAE h j⟩
def zPH (w:World) (B:Nat) (d:Cls):World:=(((w.setCell ⟨B,0,none⟩ (.int .u64 d.w0.toNat)).setCell ⟨B,1,none⟩ (.int .u64 d.w1.toNat)).setCell ⟨B,2,none⟩ (.int .u64 d.w2.toNat)).setCell ⟨B,3,none⟩ (.int .u64 d.w3.toNat)
theorem zBn.put {w:World} {B:Nat} {c:Cls} (h:zBn w B c) (d:Cls):zBn (zPH w B d) B d:=
 zCw (zCw (zCw (zCw h 0 (by omega) d.w0) 1 (by omega) d.w1) 2 (by omega) d.w2) 3 (by omega) d.w3
theorem Mks.put4 {w:World} {base B:Nat} {v:Value} {L:List Mk} (h:Mks w base v L) (hB:B<base) (d:Cls):Mks (zPH w B d) base v L:=
 ownsRow_setCell_below (ownsRow_setCell_below (ownsRow_setCell_below (ownsRow_setCell_below h (a:=⟨B,0,none⟩) hB _) (a:=⟨B,1,none⟩) hB _) (a:=⟨B,2,none⟩) hB _) (a:=⟨B,3,none⟩) hB _
theorem zK2 {w:World} {B k:Nat} (h:k≤B) (d:Cls):Below k w (zPH w B d):=
 ((((zPg k w).setCell (p:=⟨B,0,none⟩) h _).setCell (p:=⟨B,1,none⟩) h _).setCell (p:=⟨B,2,none⟩) h _).setCell (p:=⟨B,3,none⟩) h _
theorem zBn.grown {w w':World} {B:Nat} {c:Cls} {row:Option Nat} (h:zBn w B c) (hg:w.grownBy w' row) (hr:row≠some B):zBn w' B c:=(hg.block B h.lt hr.symm).trans h
theorem zGL: ∀(l:List (Nat × Nat)) (i:Nat) (r:Nat × Nat),l[i]?=some r→(zBV l)[i*2]?=some (.int .u8 (r.1:Nat))∧(zBV l)[i*2+1]?=some (.int .u8 (r.2:Nat))
 |[],i,r,h=>by simp at h
 |x::l,0,r,h=>by
  simp at h
  subst h
  exact⟨rfl,rfl⟩
 |x::l,i+1,r,h=>by
  have h1:=zGL l i r (by simpa using h)
  have h2:zBV (x::l)= .int .u8 (x.1:Nat):: .int .u8 (x.2:Nat)::zBV l:=rfl
  rw[h2,show(i+1)*2=i*2+1+1 by omega]
  simpa using h1
structure BrS (w:World) (m:Nat) (rv:Value) (rs:List (Nat × Nat)) (B lo hi:Nat) (wr:World) (lv:Value) (A:List Mk):Prop where
 mks:Mks wr (w.heap.size+1) lv A
 run:wr.ownsRow m 168 2 rv rs.length (zBV rs)
 ne: ∀g,lv.ownBlock=some g→rv.ownBlock≠some g
 bl:Below w.heap.size w wr
 lt:B<wr.heap.size
 b0:wr.cell? ⟨B,0,none⟩=some (.int .u8 (lo:Nat))
 b1:wr.cell? ⟨B,1,none⟩=some (.int .u8 (hi:Nat))
 bne:lv.ownBlock≠some B
theorem BrS.below {w:World} {m:Nat} {rv:Value} {rs:List (Nat × Nat)} {B lo hi:Nat} {wr wr':World} {lv:Value} {A:List Mk} (h:BrS w m rv rs B lo hi wr lv A) (hb:Below wr.heap.size wr wr'):BrS w m rv rs B lo hi wr' lv A:=
 ⟨h.mks.below hb,zAU h.run fun g hg=>hb.block g (h.run.lt g hg).2,h.ne,h.bl.trans (hb.mono h.bl.size),zPi h.lt hb.size,(hb.cell (p:=⟨B,0,none⟩) h.lt).trans h.b0,(hb.cell (p:=⟨B,1,none⟩) h.lt).trans h.b1,h.bne⟩
theorem BrS.app {w:World} {m:Nat} {rv:Value} {rs:List (Nat × Nat)} {B lo hi:Nat} {wr wr':World} {lv lv':Value} {A L:List Mk} (h:BrS w m rv rs B lo hi wr lv A) (hm:Mks wr' (w.heap.size+1) lv' (A++L)) (hg:wr.grownBy wr' lv.ownBlock) (hk:lv'.ownBlock=lv.ownBlock∨lv'.ownBlock=some wr.heap.size):BrS w m rv rs B lo hi wr' lv' (A++L):=
 have hB:wr'.heap[B]?=wr.heap[B]?:=hg.block B h.lt h.bne.symm
 ⟨hm,zAU h.run fun g hr=>hg.block g (h.run.lt g hr).2 (fun e=>h.ne g e.symm hr),
  fun g hl e=>by
   rcases hk with hk|hk
   ·exact h.ne g (hk▸hl) e
   ·have h1:=(h.run.lt g e).2
    rw[hk]at hl;cases hl;omega,
  h.bl.grown hg h.bl.size (fun k hk=>by have:=(h.mks.lt k hk).1;omega),zPi h.lt hg.size,
  (zPj (a:=⟨B,0,none⟩) hB).trans h.b0,(zPj (a:=⟨B,1,none⟩) hB).trans h.b1,
  fun e=>by
   rcases hk with hk|hk
   ·exact h.bne (hk▸e)
   ·have h1:=h.lt
    rw[hk]at e;cases e;omega⟩
theorem zLR (c:Cls) {w:World} (ha:zLb w) (ht:zFw w):
  Calls Tryz.prog 171 #[zBE c] w fun e w'=>(∃v,e= .returned v∧Mks w' w.heap.size v ((zB8 c).map mk))∧Below w.heap.size w w':=by
 have HA:=zPf ha
 have HT:=zPf ht
 clear ha ht
 go_enter Tryz.func171,Tryz.ntmps171
 go_wp2_with fail
 obtain⟨W1,hW1⟩: ∃W1,w.alloc (.cells (zAS c) 76)=W1:=⟨_,rfl⟩
 have hs1:w.heap.size+1=W1.heap.size:=by rw[←hW1];simp
 have HC1:=zPf (show zBn W1 w.heap.size c by rw[←hW1];exact zBn.new _ _)
 have HB1:=zPf (show Below w.heap.size w W1 by rw[←hW1];exact(zPg _ w).alloc (zPh _) _)
 rw[show(w.alloc (.cells #[.int .u64 c.w0.toNat,.int .u64 c.w1.toNat,.int .u64 c.w2.toNat,.int .u64 c.w3.toNat] 76))=w.alloc (.cells (zAS c) 76)from rfl,hW1]
 clear hW1
 refine(zFz 91 hs1).mono ?_;rintro e w2 ⟨⟨v2,rfl,hm2⟩,hb2⟩
 have HC2:=zPf (HC1.out.below hb2)
 have HB2:=zPf (HB1.out.trans (hb2.mono HB1.out.size))
 have HM2:=zPf (show Mks w2 (w.heap.size+1) v2 [mk 91]by rw[hs1];exact hm2)
 clear hm2 hb2 HC1 HB1 hs1
 go_wp2_with fail
 refine(zGQ 0 255 (by omega) (by omega) _).mono ?_;rintro e w3 ⟨rfl,hb3⟩
 have HC3:=zPf (HC2.out.below hb3)
 have HB3:=zPf (HB2.out.trans (hb3.mono HB2.out.size))
 have HM3:=zPf (HM2.out.below hb3)
 clear hb3 HC2 HB2 HM2
 rw[show Cls.range 0 255=zPO from rfl]
 generalize hall:zPO=al
 have HAL:=zPf hall
 clear hall
 go_upto_region 3 with fail
 obtain⟨W4,hW4⟩: ∃W4,w3.alloc (.cells (zAS al) 76)=W4:=⟨_,rfl⟩
 have HL4:=zPf (show zBn W4 w3.heap.size al by rw[←hW4];exact zBn.new _ _)
 have hb4:Below w3.heap.size w3 W4:=by rw[←hW4];exact(zPg _ w3).alloc (zPh _) _
 have HC4:=zPf (HC3.out.below hb4)
 have HB4:=zPf (HB3.out.trans (hb4.mono HB3.out.size))
 have HM4:=zPf (HM3.out.below hb4)
 rw[show(w3.alloc (.cells #[.int .u64 al.w0.toNat,.int .u64 al.w1.toNat,.int .u64 al.w2.toNat,.int .u64 al.w3.toNat] 76))=w3.alloc (.cells (zAS al) 76)from rfl,hW4]
 generalize w3.heap.size=b4 at HL4 ⊢
 clear hW4 hb4 HC3 HB3 HM3
 go_cut [21] (fun v wd=>v= .bool c.neg∧Below W4.heap.size W4 wd)
 case first=>
  obtain⟨z0,z1,z2,z3,_⟩:=HL4.out.cells
  obtain⟨c0,c1,c2,c3,_⟩:=HC4.out.cells
  have hbB:b4<W4.heap.size:=HL4.out.lt
  have hbC:w.heap.size<W4.heap.size:=HC4.out.lt
  by_cases h1:c=al
  ·have q1: ∀w,(binOp .neq 76 (zBE c) (zBE al)).run Tryz.prog w= .ok (.bool false) w:=fun w=>by rw[zKP,zPq h1];rfl
   have HN:=zPf (show c.neg=false by unfold Cls.neg;rw[HAL.out];simp[h1])
   clear h1
   go_wp2_with fail
   go_meet
   exact⟨by rw[HN.out],zPg _ _⟩
  ·have q1: ∀w,(binOp .neq 76 (zBE c) (zBE al)).run Tryz.prog w= .ok (.bool true) w:=fun w=>by rw[zKP,zPr h1];rfl
   by_cases h2:c.has 10=true
   ·have HN:=zPf (show c.neg=true by unfold Cls.neg;rw[HAL.out,decide_eq_true h1,h2];rfl)
    have H2:=zPf h2
    clear h1 h2
    go_wp2_with fail
    refine(zKR c (b:=10) (by omega)).mono ?_;rintro e w5 ⟨rfl,hb5⟩
    rw[H2.out]
    go_wp2_with fail
    go_meet
    exact⟨by rw[HN.out],hb5⟩
   ·have H2:=zPf (show c.has 10=false by simpa using h2)
    have HN:=zPf (show c.neg=decide (c=Cls.zero)by unfold Cls.neg;rw[HAL.out,decide_eq_true h1,H2.out];rfl)
    have HQ:=zPf (zNW c Cls.zero)
    clear h1 h2
    go_wp2_with fail
    refine(zKR c (b:=10) (by omega)).mono ?_;rintro e w5 ⟨rfl,hb5⟩
    obtain⟨c0',c1',c2',c3',_⟩:=(HC4.out.below hb5).cells
    have q2: ∀w,(binOp .eql 76 (zBE c) (.agg #[.int .u64 0,.int .u64 0,.int .u64 0,.int .u64 0])).run Tryz.prog w= .ok (.bool (decide (c=Cls.zero))) w:=HQ.out
    clear c0 c1 c2 c3
    rw[H2.out]
    generalize hz:decide (c=Cls.zero)=z at q2 HN
    clear hz
    go_wp2_with fail
    go_meet
    exact⟨by rw[HN.out],hb5⟩
 case rest=>
 obtain⟨rfl,hb5⟩:=hcut
 have HC5:=zPf (HC4.out.below hb5)
 have HB5:=zPf (HB4.out.trans (hb5.mono HB4.out.size))
 have HM5:=zPf (HM4.out.below hb5)
 clear hb5 HC4 HB4 HM4 HL4 HAL W4
 go_upto_if 21 with fail
 go_cut [3] (fun v wd=>zBn wd w.heap.size (if c.neg then c.not else c)∧Mks wd (w.heap.size+1) v (mk 91::(if c.neg then [mk 94]else []))∧Below w.heap.size w wd)
 case first=>
  by_cases hn:c.neg=true
  ·rw[hn]
   have HN:=zPf hn
   clear hn
   go_wp2_with fail
   refine(zFz 94 rfl).mono ?_;rintro e w7 ⟨⟨v7,rfl,hm7⟩,hb7⟩
   have HC7:=zPf (HC5.out.below hb7)
   have HB7:=zPf (HB5.out.trans (hb7.mono HB5.out.size))
   have HM7:=zPf (HM5.out.below hb7)
   have HS7:=zPf (Src.own hm7)
   have hs7:=zPf (show w.heap.size+1≤w7.heap.size from HC7.out.lt)
   clear hm7 hb7
   go_wp2_with (at_builtin;refine zBA rfl _ _ rfl (w.heap.size+1) rfl HM7.out (ys:=[mk 94]) rfl HS7.out (by simp) hs7.out ?_)
   intro v8 w8 hm8 hgr8 hblk8
   have HM8:=zPf (show Mks w8 (w.heap.size+1) v8 [mk 91,mk 94]from hm8)
   have HC8:=zPf (HC7.out.grown hgr8 (fun e=>by have:=(HM7.out.lt _ e).1;omega))
   have HB8:=zPf (HB7.out.grown hgr8 (by have:=hs7.out;omega) (fun k hk=>by have:=(HM7.out.lt k hk).1;omega))
   clear hm8 hgr8 hblk8
   obtain⟨c0,c1,c2,c3,_⟩:=HC8.out.cells
   have hbC:w.heap.size<w8.heap.size:=HC8.out.lt
   go_wp2_with fail
   refine(zES c _).mono ?_;rintro e w9 ⟨rfl,hb9⟩
   have HC9:=zPf (HC8.out.below hb9)
   have HB9:=zPf (HB8.out.trans (hb9.mono HB8.out.size))
   have HM9:=zPf (HM8.out.below hb9)
   clear hb9 c0 c1 c2 c3 hbC
   obtain⟨c0,c1,c2,c3,cf⟩:=HC9.out.cells
   have hbC:w.heap.size<w9.heap.size:=HC9.out.lt
   go_wp2_with fail
   go_meet
   exact⟨by rw[if_pos HN.out];exact HC9.out.put c.not,by rw[if_pos HN.out];exact HM9.out.put4 (by omega) c.not,HB9.out.trans (zK2 (zPh _) c.not)⟩
  ·have hn':c.neg=false:=by simpa using hn
   rw[hn']
   have HN:=zPf hn
   clear hn hn'
   go_wp2_with fail
   go_meet
   exact⟨by rw[if_neg HN.out];exact HC5.out,by rw[if_neg HN.out];exact HM5.out,HB5.out⟩
 case rest=>
 obtain⟨hc6,hm6,hb6⟩:=hcut
 have HM6:=zPf hm6
 have HB6:=zPf hb6
 have HC6:=zPf hc6
 have hT6:=zPf (HT.out.below HB6.out)
 have HP:=zPf (show(zB8 c).map mk=(mk 91::(if c.neg then [mk 94]else []))++(((if c.neg then c.not else c).runs.flatMap zHw).map mk++[mk 93])by
  unfold zB8;split<;>simp)
 have HLEN:=zPf (zDe c)
 generalize mk 91::(if c.neg then [mk 94]else [])=pre at HM6 HP
 generalize (if c.neg then c.not else c)=d at HC6 HP
 clear hc6 hm6 hb6 HC5 HB5 HM5
 obtain⟨c0,c1,c2,c3,_⟩:=HC6.out.cells
 have hbC:w.heap.size<wc.heap.size:=HC6.out.lt
 go_wp2_with fail
 refine(zLx d hT6.out).mono ?_;rintro e w7 ⟨⟨v7,rfl,hr7⟩,hb7⟩
 have HR7:=zPf hr7
 have HB7:=zPf (HB6.out.trans (hb7.mono HB6.out.size))
 have HM7:=zPf (HM6.out.below hb7)
 have HLN:=zPf (zEP d)
 have HFit:=zPf (zOD (c:=d))
 have hst:=zPf (show w.heap.size<w7.heap.size from zPi hbC hb7.size)
 have hln:((d.runs.length:Nat):Int)≤256:=by have:=zEP d;omega
 have hdis:=zPf (show∀g,u3.ownBlock=some g→v7.ownBlock≠some g from fun g h1 h2=>by
  have:=(HM6.out.lt g h1).2
  have:=(hr7.lt g h2).1
  omega)
 clear hb7 hr7 HM6 HB6 c0 c1 c2 c3 hbC HC6
 have hA7:=zPf (HA.out.below HB7.out)
 generalize d.runs=rs at HR7 HP HLN HFit hln ⊢
 obtain⟨oa,cap,rfl,hpos⟩: ∃oa cap,v7= .slice oa rs.length cap∧(0<rs.length→ ∃g,oa=some ⟨g,0,none⟩):=by
  rcases HR7.out.2 with ⟨rfl,h0⟩|⟨g,cap,cur,rfl,_⟩
  ·exact⟨none,0,by rw[h0],fun h=>by omega⟩
  ·exact⟨_,_,rfl,fun _=>⟨g,rfl⟩⟩
 go_wp2_with fail
 go_loopg [3,31] rs.length (fun n lv iv wr=> ∃d:Nat,iv= .int .i64 (d:Nat)∧n=rs.length - d∧d≤rs.length∧Mks wr (w.heap.size+1) lv (pre++((rs.take d).flatMap zHw).map mk)∧wr.ownsRow wc.heap.size 168 2 (.slice oa rs.length cap) rs.length (zBV rs)∧(∀g,lv.ownBlock=some g→(Value.slice oa rs.length cap).ownBlock≠some g)∧Below w.heap.size w wr∧w.heap.size<wr.heap.size)
 case atStart=>exact⟨0,rfl,by omega,by omega,by simpa using HM7.out,HR7.out,hdis.out,HB7.out,hst.out⟩
 case round=>
  obtain⟨d,rfl,hg,hd,hm,hr,hne,hb,hss⟩:=hrel
  have HSS:=zPf hss
  have HG:=zPf hg
  have HHB:=zPf hb
  by_cases hlt:d<rs.length
  ·have hlt':(d:Int)<(rs.length:Int):=by omega
   obtain⟨g,rfl⟩:=hpos (by omega)
   obtain⟨r,hrd⟩: ∃r,rs[d]?=some r:=⟨_,zPw hlt⟩
   obtain⟨hat0,hat1⟩:=zGL rs d r hrd
   have k0:=(hr.cellAt (d*2) (by omega)).trans hat0
   have k1:=(hr.cellAt (d*2+1) (by omega)).trans hat1
   have hgw:g<wr.heap.size:=(hr.lt g rfl).2
   obtain⟨hr1,hr2⟩:=HFit.out r (zP9 hrd)
   have HTK:=zPf (show(rs.take (d+1)).flatMap zHw=(rs.take d).flatMap zHw++zHw r by rw[List.take_add_one,hrd];simp)
   have HLEN2:=zPf (show(pre++((rs.take d).flatMap zHw).map mk).length≤3000 by
    have h1:=HLEN.out
    have h2:=congrArg List.length HP.out
    have h3:((rs.take d).flatMap zHw).length≤(rs.flatMap zHw).length:=by
     conv=>rhs;rw[←List.take_append_drop d rs,List.flatMap_append]
     simp
    simp only[List.length_append,List.length_map,List.length_cons,List.length_nil]at h2 ⊢
    omega)
   generalize hAA:pre++((rs.take d).flatMap zHw).map mk=A at hm HLEN2
   have HAA:=zPf hAA
   clear hAA
   have HBS:=zPf (show BrS w wc.heap.size (.slice (some ⟨g,0,none⟩) rs.length cap) rs wr.heap.size r.1 r.2 (wr.alloc (.cells #[.int .u8 (r.1:Nat),.int .u8 (r.2:Nat)] 168)) u3 A from
    have hb1:Below wr.heap.size wr (wr.alloc (.cells #[.int .u8 (r.1:Nat),.int .u8 (r.2:Nat)] 168)):=(zPg _ wr).alloc (zPh _) _
    ⟨hm.below hb1,zAU hr fun g hg=>hb1.block g (hr.lt g hg).2,hne,hb.trans (hb1.mono hb.size),by simp,by simp[go_sem],by simp[go_sem],fun e=>by have:=(hm.lt _ e).2;omega⟩)
   clear hm hr hne hb hat0 hat1 hg
   go_wp2_with fail
   generalize wr.alloc (.cells #[.int .u8 (r.1:Nat),.int .u8 (r.2:Nat)] 168)=W1 at HBS ⊢
   generalize hBB:wr.heap.size=B at HBS ⊢
   have HBB:=zPf hBB
   clear k0 k1 hgw hBB
   refine(zKT hr1 (HA.out.below HBS.out.bl)).mono ?_;rintro e w8 ⟨⟨v8,rfl,hm8⟩,hb8⟩
   have S8:=zPf (HBS.out.below hb8)
   have R8:=zPf (Src.own hm8)
   clear hm8 hb8 HBS
   go_wp2_with (at_builtin;refine zBA rfl _ _ rfl (w.heap.size+1) rfl S8.out.mks (ys:=(zJJ r.1).map mk) rfl R8.out (by have:=HLEN2.out;have:=zC4 r.1;simp only[List.length_map];omega) (by have:=S8.out.lt;have:=HHB.out.size;have:=HBB.out;omega) ?_)
   intro v9 w9 hm9 hgr9 hblk9
   have S9:=zPf (S8.out.app hm9 hgr9 hblk9)
   clear hm9 hgr9 hblk9 S8 R8
   have HLEN3:=zPf (show(A++(zJJ r.1).map mk).length≤3005 by have:=HLEN2.out;have:=zC4 r.1;simp only[List.length_append,List.length_map];omega)
   generalize hA2:A++(zJJ r.1).map mk=A2 at S9 HLEN3
   have HA2:=zPf hA2
   clear hA2
   have x0:=S9.out.b0
   have x1:=S9.out.b1
   have hBw:=S9.out.lt
   by_cases hq:r.2=r.1
   ·have hq':(((r.2:Nat):Int) !=((r.1:Nat):Int))=false:=by rw[hq];simp
    have HRB:=zPf (show zHw r=zJJ r.1 by unfold zHw;rw[if_pos hq,List.append_nil])
    clear hq
    go_wp2_with fail
    go_roundg (rs.length - (d+1))
    case measure=>have:=HG.out;omega
    case rel=>exact⟨d+1,by go_num,rfl,by omega,by rw[HTK.out,HRB.out,List.map_append,←List.append_assoc,HAA.out,HA2.out];exact S9.out.mks,S9.out.run,S9.out.ne,S9.out.bl,by have:=S9.out.lt;have:=HBB.out;have:=HSS.out;omega⟩
   ·have hq':(((r.2:Nat):Int) !=((r.1:Nat):Int))=true:=by rw[bne_iff_ne];omega
    have HRB:=zPf (show zHw r=zJJ r.1++45::zJJ r.2 by unfold zHw;rw[if_neg hq])
    clear hq
    go_wp2_with fail
    refine(zFz 45 rfl).mono ?_;rintro e wa ⟨⟨va,rfl,hma⟩,hba⟩
    have Sa:=zPf (S9.out.below hba)
    have Ra:=zPf (Src.own hma)
    clear hma hba S9 x0 x1 hBw
    go_wp2_with (at_builtin;refine zBA rfl _ _ rfl (w.heap.size+1) rfl Sa.out.mks (ys:=[mk 45]) rfl Ra.out (by have:=HLEN3.out;simp only[List.length_cons,List.length_nil];omega) (by have:=Sa.out.lt;have:=HHB.out.size;have:=HBB.out;omega) ?_)
    intro vb wb hmb hgrb hblkb
    have Sb:=zPf (Sa.out.app hmb hgrb hblkb)
    clear hmb hgrb hblkb Sa Ra
    have HLEN4:=zPf (show(A2++[mk 45]).length≤3006 by have:=HLEN3.out;simp only[List.length_append,List.length_cons,List.length_nil];omega)
    generalize hA3:A2++[mk 45]=A3 at Sb HLEN4
    have HA3:=zPf hA3
    clear hA3
    have x0:=Sb.out.b0
    have x1:=Sb.out.b1
    have hBw:=Sb.out.lt
    go_wp2_with fail
    refine(zKT hr2 (HA.out.below Sb.out.bl)).mono ?_;rintro e wd ⟨⟨vd,rfl,hmd⟩,hbd⟩
    have Sd:=zPf (Sb.out.below hbd)
    have Rd:=zPf (Src.own hmd)
    clear hmd hbd Sb x0 x1 hBw
    go_wp2_with (at_builtin;refine zBA rfl _ _ rfl (w.heap.size+1) rfl Sd.out.mks (ys:=(zJJ r.2).map mk) rfl Rd.out (by have:=HLEN4.out;have:=zC4 r.2;simp only[List.length_map];omega) (by have:=Sd.out.lt;have:=HHB.out.size;have:=HBB.out;omega) ?_)
    intro ve we hme hgre hblke
    have Se:=zPf (Sd.out.app hme hgre hblke)
    clear hme hgre hblke Sd Rd
    go_wp2_with fail
    go_roundg (rs.length - (d+1))
    case measure=>have:=HG.out;omega
    case rel=>exact⟨d+1,by go_num,rfl,by omega,by
     have h:=Se.out.mks
     have e:pre++((rs.take (d+1)).flatMap zHw).map mk=A3++(zJJ r.2).map mk:=by rw[HTK.out,HRB.out,←HA3.out,←HA2.out,←HAA.out];simp
     rw[e];exact h,Se.out.run,Se.out.ne,Se.out.bl,by have:=Se.out.lt;have:=HBB.out;have:=HSS.out;omega⟩
  ·have hlt': ¬(d:Int)<(rs.length:Int):=by omega
   have hde:d=rs.length:=by omega
   subst hde
   rw[List.take_length]at hm
   have HM:=zPf hm
   have hLL:=zPf (show(pre++(rs.flatMap zHw).map mk).length≤3000 by
    have h1:=HLEN.out
    have h2:=congrArg List.length HP.out
    simp only[List.length_append,List.length_map,List.length_cons,List.length_nil]at h2 ⊢
    omega)
   clear hm hr hne hb hg
   go_wp2_with fail
   refine(zFz 93 rfl).mono ?_;rintro e wa ⟨⟨va,rfl,hma⟩,hba⟩
   have Ma:=zPf (HM.out.below hba)
   have Ba:=zPf (HHB.out.trans (hba.mono HHB.out.size))
   have Ra:=zPf (Src.own hma)
   have HSW:=zPf (show w.heap.size<wa.heap.size from zPi HSS.out hba.size)
   clear hma hba
   go_wp2_with (at_builtin;refine zBA rfl _ _ rfl (w.heap.size+1) rfl Ma.out (ys:=[mk 93]) rfl Ra.out (by have:=hLL.out;simp only[List.length_cons,List.length_nil];omega) (by have:=HSW.out;omega) ?_)
   intro vb wb hmb hgrb hblkb
   have Bb:=zPf (Ba.out.grown hgrb (Ba.out.size) (fun k hk=>by have:=(Ma.out.lt k hk).1;omega))
   have Mb:=zPf (show Mks wb w.heap.size vb ((zB8 c).map mk)by rw[HP.out];exact zA6 hmb (by omega))
   clear hmb hgrb hblkb
   go_wp2_with fail
   go_ret
   exact⟨⟨_,rfl,Mb.out⟩,Bb.out⟩
end Go.Proofs.YtfjbnpdffillbaaGreatDoor
