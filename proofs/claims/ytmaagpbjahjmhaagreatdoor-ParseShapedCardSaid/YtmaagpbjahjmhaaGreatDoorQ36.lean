/- Parts: Yd Ye Za Yf Yg Yk Zb. -/
import Derived.Test.YtmaagpbjahjmhaaGreatDoorQ35
import Derived.Test.YtmaagpbjahjmhaaGreatDoorQ25
import Derived.Test.YtmaagpbjahjmhaaGreatDoorQ38
import Derived.Test.YtmaagpbjahjmhaaGreatDoorQ31
import Derived.Test.YtmaagpbjahjmhaaGreatDoorQ13
import Derived.Laws.Cover3
import Derived.Laws.CopyOwn
import Derived.Deep.MidRow
import Derived.Laws.ResultCell
set_option maxHeartbeats 12800000
set_option maxRecDepth 100000
namespace Go.Proofs.YtmaagpbjahjmhaaGreatDoor
section
open Go.RowKit
theorem zDD:(Tryz.prog.info? 34).map (·.size)=some 256:=by kernel_rfl
def zDV (T:List Nat):Array Value:=(u8s T).toArray
theorem zCO (T:List Nat):(zDV T).size=T.length:=by simp[zDV,u8s]
theorem zDo (T:List Nat):(zDV T).all (·.oneCell')=true:=by
 unfold zDV
 rw[←Array.all_toList,List.all_eq_true]
 exact zLt T
theorem zB6 {T:List Nat} (h:T.length=256):(Tryz.prog.info? 34).map (·.size)=some (zDV T).size:=by rw[zCO,h];exact zDD
theorem zDE:(Tryz.zeroCells34:Array Value).size=256:=by kernel_rfl
theorem zBa:zBd.length=256:=by kernel_rfl
theorem zIG {d:Nat} (h:d<256):zBd[d]?=some d:=by unfold zBd;rw[List.getElem?_range h]
theorem zBm {w:World} {g k:Nat} (cs:Array Value) (h:k≠g):(w.setRow g cs).heap[k]?=w.heap[k]?:=by
 simp[World.setRow,Array.getElem?_modify,Ne.symm h]
theorem zK7 {w:World} :Calls Tryz.prog 217 #[] w fun e w'=>e= .returned (.agg (zDV zBd))∧Below w.heap.size w w':=by
 obtain⟨i0,hi,hz0,hz1,hz2⟩:=info_parts (zNK).hi
 have HB0:=zQr ((zQs w.heap.size w).alloc (zQt _) (.cells Tryz.zeroCells34 34))
 have HR0:=zQr (zQ4 w (.cells Tryz.zeroCells34 34))
 have HN0:Hid ((w.alloc (.cells Tryz.zeroCells34 34)).heap.size=w.heap.size+1):=zQr (by simp)
 go_enter Tryz.func217,Tryz.ntmps217
 go_upto_region 1 with fail
 obtain⟨W0,hW0⟩: ∃W,w.alloc (.cells Tryz.zeroCells34 34)=W:=⟨_,rfl⟩
 rw[hW0]at HB0 HR0 HN0 ⊢
 obtain⟨r0,hr0⟩: ∃a,w.heap.size=a:=⟨_,rfl⟩
 have HQ:=zQr hr0
 rw[hr0]at HR0 HN0 ⊢
 clear hW0 hr0
 go_wp2_with (at_make;refine wpList_make_full _ rfl _ _ 22 rfl W0.heap.size 5 i0 _ 1 Tryz.underlying22 hi hz0 hz1 .i64 .i64 256 256 256 rfl rfl (by omega) (by omega) (by rw[hz2];decide) (by unfold maxLen;decide) (Nat.le_refl _) ?_)
 intro w1 hown hgr
 obtain⟨B,hB⟩: ∃a,W0.heap.size=a:=⟨_,rfl⟩
 have HBR:=zQr (show r0<B by have:=HN0.out;omega)
 have hb1:=(zQs W0.heap.size W0).grown hgr (zQt _) (fun k hk=>by cases hk)
 rw[hB]at hown hb1 ⊢
 have HO1:=zQr hown
 have HB1:=zQr hb1
 clear hown hgr hi hz0 hz1 hz2 hB hb1
 go_wp2_with fail
 go_loopg [6] 256 (fun n iv wr=> ∃(d:Nat) (xs:List Value),iv= .int .i64 (d:Nat)∧n=256 - d∧d≤256∧wr.ownsRow B 5 1 (.slice (some ⟨B,0,none⟩) 256 256) 256 xs∧xs.take d=(u8s zBd).take d∧Below B W0 wr)
 case atStart=>exact⟨0,_,rfl,by omega,by omega,HO1.out,by simp,HB1.out⟩
 case round=>
  obtain⟨d,xs,rfl,hg2,hd,ho,ht,hb⟩:=hrel
  have HG:=zQr hg2
  have HO:=zQr ho
  have HT:=zQr ht
  have HB:=zQr hb
  have hgw:B<wr.heap.size:=(ho.lt _ rfl).2
  clear hg2 ht hb
  by_cases hlt:d<256
  ·have hlt':(d:Int)<256:=by omega
   obtain⟨_,g',hg',_,hcs,hfz⟩:=zBW ho (by omega)
   cases hg'
   obtain⟨u0,_,z0⟩:=hcs d (by omega)
   have f0:=hfz d
   have HXL:=zQr (show xs.length=256*1 from ho.1)
   have HR:=zQr (zER [.int .u8 (d:Nat)] d HO.out)
   have HTT:=zQr (zDH [.int .u8 (d:Nat)] xs d (by rw[HXL.out];simp;omega))
   have HPL:=zQr (zIG hlt)
   clear ho hcs hfz
   go_wp2_with fail
   go_roundg (256 - (d+1))
   case measure=>have:=HG.out;omega
   case rel=>exact⟨d+1,_,by go_num,rfl,by omega,HR.out,by rw[show(u8s zBd).take (d+1)=(u8s zBd).take d++[.int .u8 (d:Nat)]by rw[List.take_add_one];simp only[u8s,List.getElem?_map,HPL.out,Option.map_some,Option.toList_some],←HT.out,←HTT.out];rfl,HB.out.trans ((zQs B wr).setCell (p:=⟨B,d,none⟩) (zQt _) _)⟩
  ·obtain rfl:d=256:=by omega
   have hlt': ¬(256:Int)<256:=by omega
   have hxs:xs=u8s zBd:=by
    have h1:xs.length=256:=by simpa using ho.1
    have h2:=HT.out
    rw[List.take_of_length_le (by omega),List.take_of_length_le (by rw[zBZ,zBa];omega)]at h2
    exact h2
   subst hxs
   have hra:wr.rangeAt B 0 (u8s zBd):=fun j v hv=>by
    obtain⟨_,g',hg',_,hcs,_⟩:=zBW ho (by omega)
    cases hg'
    obtain⟨u,hu,hc⟩:=hcs j (by have:=(zQy.1 hv).1;rw[zBZ,zBa]at this;omega)
    rw[hv]at hu
    cases hu
    rw[Nat.zero_add]
    exact hc
   have HRA:=zQr hra
   have hr:=(HB.out.block r0 HBR.out).trans HR0.out
   have HR:=zQr hr
   have hap: ∀W,(Instr.arrayAt 34 (.slice (some ⟨B,0,none⟩) 256 256)).run Tryz.prog W= .ok (.pointer (some ⟨B,0,none⟩)) W:=fun W=>run_arrayAt W _ _ 256 _ 256 256 Tryz.underlying34 (zQt _)
   clear ho hlt HT HO hra hr hgw
   go_wp2_with (first|refine wpList_load_mid rfl 34 _ rfl B 0 rfl (u8s zBd) _ HRA.out Tryz.underlying34 rfl (by rw[zBZ,zBa];exact zDD) ?_|refine wpList_store_row rfl 34 _ _ rfl r0 (zDV zBd) rfl rfl 34 _ HR.out (zB6 zBa) (by rw[zDE,zCO,zBa]) (zDo _) ?_)
   refine zRQ (results_cell_row rfl _ _ r0 34 (zDV zBd) (0,0) _ rfl (setRow_heap _ _ _ _ _ _ HR.out) Tryz.underlying34 rfl (zB6 zBa)) rfl ⟨rfl,?_⟩
   have hq:=HQ.out
   subst hq
   exact below_setRow (HB0.out.trans (HB.out.mono (by have:=HN0.out;have:=HBR.out;omega))) (zQt _) _
def zFv (s:List Nat):List Value:=(List.range 256).map fun b=> .bool (decide (b∈s))
theorem zFY {s:List Nat} {b:Nat} (h:b<256):(zFv s)[b]?=some (.bool (decide (b∈s))):=by
 unfold zFv
 rw[List.getElem?_map,List.getElem?_range h];rfl
theorem zL8 {s:List Nat} {b:Nat} :(zFv s).set b (.bool true)=zFv (s++[b]):=by
 apply List.ext_getElem?
 intro i
 by_cases hi:i<256
 ·by_cases hib:b=i
  ·subst hib
   rw[List.getElem?_set_self (by simp[zFv];omega),zFY hi]
   simp
  ·rw[List.getElem?_set_ne hib,zFY hi,zFY hi]
   simp[Ne.symm hib]
 ·rw[zRR (by simp[zFv];omega),zRR (by simp[zFv];omega)]
theorem zL7:(Tryz.zeroCells225:Array Value)=(zFv []).toArray:=by kernel_rfl
theorem zNW (T:List Nat) (b x:Nat):(u8s T).set b (.int .u8 (x:Nat))=u8s (T.set b x):=by simp[u8s,List.map_set]
def TbO (r:Option (List Nat)) (e:Ending):Prop:=
 match r with
 |none=> ∃v:Array Value,e= .returned (.tuple #[.agg v,.int .i64 60])∧v.size=256∧v.all (·.oneCell')=true
 |some t=>e= .returned (.tuple #[.agg (zDV t),.int .i64 0])∧t.length=256∧ ∀j,t.getD j 0<256
end
section
open Go.RowKit
theorem zBA {P:Program} {fn:Func} {p u:Tmp} {ty:TypeId} (h:fn.results= #[.cell p ty,.tmp u]) (tmps:Array Value) (w:World) (g:Nat) (t:TypeId) (cs:Array Value) (fr:Nat × Nat) (d:TypeDesc)
  (hp:tmps.getD p undef= .pointer (some ⟨g,0,none⟩)) (hg:w.heap[g]?=some (.cells cs t fr))
  (hu:P.underlying ty=some d) (hd:(match d with| .struct _| .array _ _=>true|_=>false)=true) (hi:(P.info? ty).map (·.size)=some cs.size):
  (results fn tmps).run P w= .ok (.tuple #[.agg cs,tmps.getD u undef]) w:=by
 have hp':tmps[p]?.getD undef= .pointer (some ⟨g,0,none⟩):=by simpa using hp
 simp[results,h,hp',asAddr,run_loadVar_row w g t ty cs fr d hg hu hd hi]
theorem zBl {w:World} {g:Nat} {cs:Array Value} :(w.setRow g cs).heap.size=w.heap.size:=by simp[World.setRow]
theorem zD2.below {w w':World} {oa:Option Addr} {T:List Nat} (h:zD2 w oa T) (hb:Below w.heap.size w w'):zD2 w' oa T:=fun hp=>by
 obtain⟨g,o,h1,h2⟩:=h hp
 exact⟨g,o,h1,fun i hi=>(hb.cell (zRO w _ (h2 i hi))).trans (h2 i hi)⟩
theorem zNk: ∀j,zBd.getD j 0<256:=fun j=>by
 by_cases h:j<256
 ·rw[zQ0,zIG h];exact h
 ·rw[zQ0,zRR (by rw[zBa];omega)];decide
theorem zEh {w:World} {b:Nat} {l:List Value} {t:TypeId} (h:w.heap[b]?=some (.cells l.toArray t (0,0))) (k:Nat) (v:Value):(w.setCell ⟨b,k,none⟩ v).heap[b]?=some (.cells (l.set k v).toArray t (0,0)):=by
 simp only[World.setCell,Array.getElem?_modify,h,if_true,Option.map_some]
 simp
section
variable {w:World} {f g:List Nat} {oa ob:Option Addr} {ca cb:Nat}
theorem zLx (hf:zD2 w oa f) (hg:zD2 w ob g) (hu: ∀b∈f,b<256) (hu2: ∀b∈g,b<256) (hl:f.length≤4294967296):
  Calls Tryz.prog 186 #[.slice oa f.length ca,.slice ob g.length cb] w fun e w'=>TbO (zP2 f g) e∧Below w.heap.size w w':=by
 have HF:=zQr hf
 have HG0:=zQr hg
 have HU:=zQr hu
 have HU2:=zQr hu2
 have HB0:=zQr ((zQs w.heap.size w).alloc (zQt _) (.cells Tryz.zeroCells34 34))
 have HR0:=zQr (zQ4 w (.cells Tryz.zeroCells34 34))
 have HN0:Hid ((w.alloc (.cells Tryz.zeroCells34 34)).heap.size=w.heap.size+1):=zQr (by simp)
 obtain⟨R,hR⟩: ∃R,zP2 f g=R:=⟨_,rfl⟩
 rw[hR]
 unfold zP2 at hR
 have HR:=zQr hR
 clear hf hg hu hu2 hR
 go_enter Tryz.func186,Tryz.ntmps186
 go_upto_region 1 with fail
 obtain⟨W0,hW0⟩: ∃W,w.alloc (.cells Tryz.zeroCells34 34)=W:=⟨_,rfl⟩
 rw[hW0]at HB0 HR0 HN0 ⊢
 obtain⟨r0,hr0⟩: ∃a,w.heap.size=a:=⟨_,rfl⟩
 have HQ:=zQr hr0
 rw[hr0]at HR0 HN0 ⊢
 clear hW0 hr0
 have hr:=HR.out
 by_cases hlen:f.length=g.length
 case neg=>
  rw[if_neg hlen]at hr
  subst hr
  have q1:((f.length:Int) !=(g.length:Int))=true:=bne_iff_ne.2 (by omega)
  clear hlen hl
  go_wp2_with (refine wpList_store_row rfl 34 _ _ rfl r0 _ rfl rfl 34 _ HR0.out (by kernel_rfl) (by kernel_rfl) (by kernel_rfl) ?_)
  refine zRQ (zBA rfl _ _ r0 34 _ (0,0) _ rfl (setRow_heap _ _ _ _ _ _ HR0.out) Tryz.underlying34 rfl (by kernel_rfl)) rfl ⟨⟨_,rfl,by kernel_rfl,by kernel_rfl⟩,?_⟩
  have hq:=HQ.out
  subst hq
  exact below_setRow HB0.out (zQt _) _
 rw[if_pos hlen]at hr
 have HT:Hid (zPR (f.drop 0) (g.drop 0) [] zBd=R):=zQr hr
 have HLEN:=zQr hlen
 have q1:((f.length:Int) !=(g.length:Int))=false:=by rw[hlen];simp
 clear hlen hr HR
 go_wp2_with fail
 refine zK7.mono ?_;rintro e w1 ⟨rfl,hb1⟩
 have HB1:=zQr (HB0.out.trans (hb1.mono (by have:=HN0.out;have:=HQ.out;omega)))
 have HR1:=zQr ((hb1.block r0 (by have:=HN0.out;omega)).trans HR0.out)
 have HN1:=zQr (show r0<w1.heap.size by have:=HN0.out;have:=hb1.size;omega)
 have HS0:=zQr (zQ4 w1 (.cells Tryz.zeroCells34 34))
 clear hb1 q1
 go_upto_region 5 with (refine wpList_store_row rfl 34 _ _ rfl w1.heap.size (zDV zBd) rfl rfl 34 _ HS0.out (zB6 zBa) (by rw[zDE,zCO,zBa]) (zDo _) ?_)
 have HT0:Hid ((((w1.alloc (.cells Tryz.zeroCells34 34)).setRow w1.heap.size (zDV zBd)).alloc (.cells Tryz.zeroCells225 225)).heap[w1.heap.size]?=some (.cells (zDV zBd) 34 (0,0))):=zQr ((zQ5 _ _ (by rw[zBl];simp)).trans (setRow_heap _ _ _ _ _ _ HS0.out))
 have HS1:Hid ((((w1.alloc (.cells Tryz.zeroCells34 34)).setRow w1.heap.size (zDV zBd)).alloc (.cells Tryz.zeroCells225 225)).heap[w1.heap.size+1]?=some (.cells (zFv []).toArray 225 (0,0))):=zQr (by
  have h:=zQ4 ((w1.alloc (.cells Tryz.zeroCells34 34)).setRow w1.heap.size (zDV zBd)) (.cells Tryz.zeroCells225 225)
  rw[zBl,show(w1.alloc (.cells Tryz.zeroCells34 34)).heap.size=w1.heap.size+1 by simp]at h
  rw[h,zL7])
 have HRR:Hid ((((w1.alloc (.cells Tryz.zeroCells34 34)).setRow w1.heap.size (zDV zBd)).alloc (.cells Tryz.zeroCells225 225)).heap[r0]?=some (.cells Tryz.zeroCells34 34 (0,0))):=zQr (by
  have h1:=HN1.out
  rw[zQ5 _ _ (by rw[zBl];simp;omega),zBm _ (by omega),zQ5 _ _ h1]
  exact HR1.out)
 have HBB:Hid (Below w.heap.size w (((w1.alloc (.cells Tryz.zeroCells34 34)).setRow w1.heap.size (zDV zBd)).alloc (.cells Tryz.zeroCells225 225))):=zQr ((below_setRow (HB1.out.alloc HB1.out.size _) HB1.out.size _).alloc (by rw[zBl];have:=HB1.out.size;simp;omega) _)
 obtain⟨W2,hW2⟩: ∃W,((w1.alloc (.cells Tryz.zeroCells34 34)).setRow w1.heap.size (zDV zBd)).alloc (.cells Tryz.zeroCells225 225)=W:=⟨_,rfl⟩
 rw[hW2]at HT0 HS1 HRR HBB ⊢
 clear hW2 HS0 HR1
 obtain⟨b0,hb0⟩: ∃a,w1.heap.size=a:=⟨_,rfl⟩
 rw[hb0]at HT0 HS1 HN1 ⊢
 clear hb0 HB1 HB0
 go_wp2_with fail
 go_loopg [19] f.length (fun n iv wr=> ∃(d:Nat) (s t:List Nat),iv= .int .i64 (d:Nat)∧n=f.length - d∧d≤f.length∧Hid (zPR (f.drop d) (g.drop d) s t=R)∧Hid (t.length=256)∧Hid (∀j,t.getD j 0<256)∧wr.heap[b0]?=some (.cells (zDV t) 34 (0,0))∧wr.heap[b0+1]?=some (.cells (zFv s).toArray 225 (0,0))∧wr.heap[r0]?=some (.cells Tryz.zeroCells34 34 (0,0))∧Below w.heap.size w wr)
 case atStart=>exact⟨0,[],zBd,rfl,by omega,by omega,HT,zQr zBa,zQr zNk,HT0.out,HS1.out,HRR.out,HBB.out⟩
 case round=>
 obtain⟨d,s,t,rfl,hgm,hd,HTN,HTL,HTU,ht,hs,hr,hb⟩:=hrel
 have HG:=zQr hgm
 have HTB:=zQr ht
 have HSE:=zQr hs
 have HRB:=zQr hr
 have HB:=zQr hb
 clear hgm ht hs hr hb HT HT0 HS1 HRR HBB
 by_cases hlt:d<f.length
 ·have hlt':(d:Int)<(f.length:Int):=by omega
  obtain⟨fb,fo,rfl,hfc⟩:=(HF.out.below HB.out) (by omega)
  have hfx:=hfc d hlt
  obtain⟨gb,go,rfl,hgc⟩:=HG0.out (by have:=HLEN.out;omega)
  have hgx0:=hgc d (by have:=HLEN.out;omega)
  have hgl:gb<w.heap.size:=zRO w _ hgx0
  have hgx:=(HB.out.cell (p:=⟨gb,go+d,none⟩) hgl).trans hgx0
  have hgn: ¬gb=b0+1:=by have:=HQ.out;have:=HN1.out;omega
  clear hgx0 hgl
  have hx256:f.getD d 0<256:=by rw[zQ0,zQ8 hlt];exact HU.out _ (List.getElem_mem hlt)
  have hy256:g.getD d 0<256:=by
   have:=HLEN.out
   rw[zQ0,zQ8 (show d<g.length by omega)];exact HU2.out _ (List.getElem_mem (by omega))
  have hst:=HTN.out
  rw[List.drop_eq_getElem_cons hlt,zPR,List.drop_drop,show(g.drop d).getD 0 0=g.getD d 0 by rw[zQ0,List.getElem?_drop,zQ0,Nat.add_zero],
   show f[d]=f.getD d 0 by rw[zQ0,zQ8 hlt];rfl]at hst
  generalize f.getD d 0=x at hfx hx256 hst
  generalize g.getD d 0=y at hgx hy256 hst
  have HST:=zQr hst
  have HX:=zQr hx256
  have HY:=zQr hy256
  have HI:=zQr (show d<f.length from hlt)
  have hlg:(d:Int)<(g.length:Int):=by have:=HLEN.out;omega
  have hsx:wr.cell? ⟨b0+1,x,none⟩=some (.bool (decide (x∈s))):=(zQ6 _ _ x _ _ (0,0) HSE.out).trans (by simpa using zFY hx256)
  have fsx:wr.frozen? ⟨b0+1,x,none⟩=false:=zAF HSE.out x
  clear hfc hgc hst hlt
  by_cases hm:x∈s
  ·rw[zQ2 hm]at hsx
   have hr:=HST.out
   rw[if_pos hm]at hr
   subst hr
   clear hm hgx hlg hgn
   go_wp2_with (refine wpList_store_row rfl 34 _ _ rfl r0 _ rfl rfl 34 _ HRB.out (by kernel_rfl) (by kernel_rfl) (by kernel_rfl) ?_)
   refine zRQ (zBA rfl _ _ r0 34 _ (0,0) _ rfl (setRow_heap _ _ _ _ _ _ HRB.out) Tryz.underlying34 rfl (by kernel_rfl)) rfl ⟨⟨_,rfl,by kernel_rfl,by kernel_rfl⟩,?_⟩
   exact below_setRow HB.out (Nat.le_of_eq HQ.out) _
  ·rw[zQ3 hm]at hsx
   have hr:=HST.out
   rw[if_neg hm]at hr
   have HR2:=zQr hr
   have htx0:wr.cell? ⟨b0,x,none⟩=some (.int .u8 (t.getD x 0:Nat)):=(zQ6 _ _ x _ _ (0,0) HTB.out).trans (by
    have:=HTL.out
    have:=HX.out
    simp[zDV,u8s,List.getD_eq_getElem?_getD,List.getElem?_eq_getElem (show x<t.length by omega)])
   have ftx:wr.frozen? ⟨b0,x,none⟩=false:=frozen_of_row _ _ _ _ _ HTB.out
   have HT2:Hid (((wr.setCell ⟨b0+1,x,none⟩ (.bool true)).setCell ⟨b0,x,none⟩ (.int .u8 (y:Nat))).heap[b0]?=some (.cells (zDV (t.set x y)) 34 (0,0))):=zQr (by
    have:=zEh (w:=wr.setCell ⟨b0+1,x,none⟩ (.bool true)) (b:=b0) (l:=u8s t) (t:=34) ((zQ1 _ _ _ _ (by show b0≠b0+1;omega)).trans HTB.out) x (.int .u8 (y:Nat))
    rw[zNW]at this
    exact this)
   have HS2:Hid (((wr.setCell ⟨b0+1,x,none⟩ (.bool true)).setCell ⟨b0,x,none⟩ (.int .u8 (y:Nat))).heap[b0+1]?=some (.cells (zFv (s++[x])).toArray 225 (0,0))):=zQr (by
    rw[zQ1 _ _ _ _ (by show b0+1≠b0;omega),←zL8]
    exact zEh HSE.out x (.bool true))
   have HRR2:Hid (((wr.setCell ⟨b0+1,x,none⟩ (.bool true)).setCell ⟨b0,x,none⟩ (.int .u8 (y:Nat))).heap[r0]?=some (.cells Tryz.zeroCells34 34 (0,0))):=zQr (by
    have:=HN1.out
    rw[zQ1 _ _ _ _ (by show r0≠b0;omega),zQ1 _ _ _ _ (by show r0≠b0+1;omega)]
    exact HRB.out)
   have HB2:Hid (Below w.heap.size w ((wr.setCell ⟨b0+1,x,none⟩ (.bool true)).setCell ⟨b0,x,none⟩ (.int .u8 (y:Nat)))):=zQr ((HB.out.setCell (p:=⟨b0+1,x,none⟩) (by have:=HN1.out;have:=HQ.out;show w.heap.size≤b0+1;omega) _).setCell (p:=⟨b0,x,none⟩) (by have:=HN1.out;have:=HQ.out;show w.heap.size≤b0;omega) _)
   have HTU2:Hid (∀j,(t.set x y).getD j 0<256):=zQr (fun j=>by
    rw[zQ0,List.getElem?_set]
    split
    ·split
     ·exact HY.out
     ·decide
    ·rw[←zQ0];exact HTU.out j)
   clear hm hr
   go_wp2_with fail
   go_roundg (f.length - (d+1))
   case measure=>have:=HG.out;have:=HI.out;omega
   case rel=>exact⟨d+1,s++[x],t.set x y,by go_num,rfl,HI.out,HR2,zQr (by rw[List.length_set];exact HTL.out),HTU2,HT2.out,HS2.out,HRR2.out,HB2.out⟩
 ·obtain rfl:d=f.length:=by omega
  have hlt': ¬(f.length:Int)<(f.length:Int):=by omega
  have hst:=HTN.out
  rw[List.drop_length,zPR]at hst
  subst hst
  have HRA:Hid (wr.rangeAt b0 0 (u8s t)):=zQr (fun j v hv=>by
   rw[Nat.zero_add]
   exact(zQ6 _ _ j _ _ (0,0) HTB.out).trans (by simpa [zDV]using hv))
  clear hlt
  go_wp2_with (first|refine wpList_load_mid rfl 34 _ rfl b0 0 rfl (u8s t) _ HRA.out Tryz.underlying34 rfl (by rw[zBZ,HTL.out];exact zDD) ?_|refine wpList_store_row rfl 34 _ _ rfl r0 (zDV t) rfl rfl 34 _ HRB.out (zB6 HTL.out) (by rw[zDE,zCO,HTL.out]) (zDo _) ?_)
  refine zRQ (zBA rfl _ _ r0 34 (zDV t) (0,0) _ rfl (setRow_heap _ _ _ _ _ _ HRB.out) Tryz.underlying34 rfl (zB6 HTL.out)) rfl ⟨⟨rfl,HTL.out,HTU.out⟩,?_⟩
  exact below_setRow HB.out (Nat.le_of_eq HQ.out) _
end
end
section
open Go.RowKit
theorem zHU {w:World} {base:Nat} {e:TypeId} {size:Nat} {o:Option Addr} {n c:Nat} {xs:List Value} (h:w.ownsRow base e size (.slice o n c) n xs):n≤maxLen:=by
 rcases h.2 with ⟨h1,h2⟩|⟨g,cap,cur,h1,hb,hg,hnc,hcm,hcs,ht⟩
 ·omega
 ·exact zRE hnc hcm
def PcV (w:World) (oa:Option Addr) (P:List Pc):Prop:=
 P.length≤maxLen∧(0<P.length→ ∃nb no,oa=some ⟨nb,no,none⟩∧nb<w.heap.size∧ ∀i p,P[i]?=some p→w.cell? ⟨nb,no+i*2,none⟩=some (.int .i64 p.k)∧ ∃ob cb,w.cell? ⟨nb,no+i*2+1,none⟩=some (.slice ob p.t.length cb)∧zD2 w ob p.t∧p.t.length≤maxLen)
section
variable {w w':World} {base:Nat} {l:List Value} {c:Cm} {oa ob:Option Addr} {ca cb:Nat} {T:List Nat} {re:List Nd} {P:List Pc}
theorem PcV.below (h:PcV w oa P) (hb:Below w.heap.size w w'):PcV w' oa P:=⟨h.1,fun hp=>by
 obtain⟨nb,no,h1,h2,h3⟩:=h.2 hp
 refine⟨nb,no,h1,zQu h2 hb.size,fun i p hi=>?_⟩
 obtain⟨e1,ob,cb,e2,e3,e4⟩:=h3 i p hi
 exact⟨(hb.cell (p:=⟨nb,no+i*2,none⟩) h2).trans e1,ob,cb,(hb.cell (p:=⟨nb,no+i*2+1,none⟩) h2).trans e2,e3.below hb,e4⟩⟩
theorem Nos.toU {v:Value} (h:Nos w base v re): ∃o k,v= .slice o re.length k∧NdU w o re∧re.length≤maxLen:=by
 obtain⟨o,k,rfl,h2⟩:=h
 obtain⟨o2,k2,he,h3⟩:=h2.toU
 cases he
 exact⟨o,k,rfl,h3,zHU h2⟩
theorem Bys.toU {v:Value} (h:Bys w base v T): ∃o k,v= .slice o T.length k∧zD2 w o T∧T.length≤maxLen:=by
 obtain⟨o,k,rfl,h2⟩:=h
 exact⟨o,k,rfl,(zF3 h2).1,zHU h2⟩
theorem Pcs.toU {v:Value} (h:Pcs w base v P): ∃o k,v= .slice o P.length k∧PcV w o P:=by
 obtain⟨o,k,ts,rfl,h1,h2,h3⟩:=h
 refine⟨o,k,rfl,zHU h2,fun hp=>?_⟩
 obtain⟨_,g,rfl,hg,hcs,_⟩:=zBW h2 hp
 refine⟨g,0,rfl,hg,fun i p hpi=>?_⟩
 have hi:=(zQy.1 hpi).1
 obtain⟨u0,hu0,c0⟩:=hcs (i*2) (by omega)
 obtain⟨u1,hu1,c1⟩:=hcs (i*2+1) (by omega)
 rw[zE0 _ _ _ h1,hpi]at hu0
 rw[zF1 _ _ _ h1]at hu1
 cases hu0
 obtain⟨ob,cb,e,e1,e2⟩:=(h3 i u1 p hu1 hpi).toU
 subst e
 exact⟨by rw[Nat.zero_add];exact c0,ob,cb,by rw[Nat.zero_add];exact c1,e1,e2⟩
theorem zE8 {n:Nat} (h:n≤maxLen):(n:Int)≤9223372036854775807:=by unfold maxLen at h;omega
end
end
section
open Go.RowKit
theorem zDr: ∀(L:List Mk) (e:Bool) (acc t:List Nat),zEw L e acc=some t→(∀b∈acc,b<256)→(∀m∈L,m.b<256)→(∀b∈t,b<256)∧t.length≤acc.length+L.length
 |[],e,acc,t,h,h1,h2=>by
  unfold zEw at h
  split at h
  ·cases h
  ·cases h;exact⟨h1,by simp⟩
 |m::L,true,acc,t,h,h1,h2=>by
  have hm:=h2 m (by simp)
  unfold zEw at h
  split at h
  ·have:=zDr L _ _ t h (fun b hb=>by rcases zRM.1 hb with hb|hb;exact h1 b hb;simp at hb;omega) (fun x hx=>h2 x (by simp[hx]))
   exact⟨this.1,by have:=this.2;simp at this ⊢;omega⟩
  ·split at h
   ·cases h
   ·have:=zDr L _ _ t h (fun b hb=>by rcases zRM.1 hb with hb|hb;exact h1 b hb;simp at hb;omega) (fun x hx=>h2 x (by simp[hx]))
    exact⟨this.1,by have:=this.2;simp at this ⊢;omega⟩
 |m::L,false,acc,t,h,h1,h2=>by
  have hm:=h2 m (by simp)
  unfold zEw at h
  split at h
  ·have:=zDr L _ _ t h h1 (fun x hx=>h2 x (by simp[hx]))
   exact⟨this.1,by have:=this.2;simp at this ⊢;omega⟩
  ·have:=zDr L _ _ t h (fun b hb=>by rcases zRM.1 hb with hb|hb;exact h1 b hb;simp at hb;omega) (fun x hx=>h2 x (by simp[hx]))
   exact⟨this.1,by have:=this.2;simp at this ⊢;omega⟩
theorem MkV.mem {w:World} {oa:Option Addr} {ca:Nat} {L:List Mk} (h:MkV w oa ca L): ∀m∈L,m.b<256:=fun m hm=>by
 obtain⟨i,hi,rfl⟩:=List.getElem_of_mem hm
 have:=h.u i hi
 simpa [zAI,List.getD_eq_getElem?_getD,hi]using this
section
variable {w:World} {L M:List Mk} {oa ob:Option Addr} {ca cb:Nat}
theorem zI9 (h1:MkV w oa ca L) (h2:MkV w ob cb M) (l1:L.length≤4294967296) (l2:M.length≤4294967296):
  Calls Tryz.prog 147 #[.slice oa L.length ca,.slice ob M.length cb] w fun e w'=>TbO (zGe L M) e∧Below w.heap.size w w':=by
 have H2:=zQr h2
 have HL1:=zQr l1
 have HL2:=zQr l2
 have HU1:=zQr h1.mem
 have HU2:=zQr h2.mem
 have HB0:=zQr ((zQs w.heap.size w).alloc (zQt _) (.cells Tryz.zeroCells34 34))
 have HR0:=zQr (zQ4 w (.cells Tryz.zeroCells34 34))
 have HS1:=zQr (zHz (h1.below ((zQs w.heap.size w).alloc (zQt _) (.cells Tryz.zeroCells34 34))) l1)
 have HN0:Hid ((w.alloc (.cells Tryz.zeroCells34 34)).heap.size=w.heap.size+1):=zQr (by simp)
 obtain⟨R,hR⟩: ∃R,zGe L M=R:=⟨_,rfl⟩
 rw[hR]
 unfold zGe at hR
 have HR:=zQr hR
 clear h1 h2 l1 l2 hR
 go_enter Tryz.func147,Tryz.ntmps147
 go_upto_region 1 with fail
 obtain⟨W0,hW0⟩: ∃W,w.alloc (.cells Tryz.zeroCells34 34)=W:=⟨_,rfl⟩
 rw[hW0]at HB0 HR0 HN0 HS1 ⊢
 obtain⟨r0,hr0⟩: ∃a,w.heap.size=a:=⟨_,rfl⟩
 have HQ:=zQr hr0
 rw[hr0]at HR0 HN0 ⊢
 clear hW0 hr0
 go_wp2_with fail
 refine HS1.out.mono ?_;rintro e w1 ⟨hs1,hb1⟩
 have HB1:=zQr (HB0.out.trans (hb1.mono HB0.out.size))
 have HR1:=zQr ((hb1.block r0 (by have:=HN0.out;omega)).trans HR0.out)
 have HS2:=zQr (zHz (H2.out.below HB1.out) HL2.out)
 clear hb1 HS1
 cases hq1:zJF L with
 |none=>
  rw[hq1]at hs1
  obtain⟨v1,rfl⟩:=hs1
  have hr:=HR.out
  rw[hq1]at hr
  simp only at hr
  subst hr
  clear hq1
  go_wp2_with fail
  refine HS2.out.mono ?_;rintro e w2 ⟨hs2,hb2⟩
  have HB2:=zQr (HB1.out.trans (hb2.mono HB1.out.size))
  have HR2:=zQr ((hb2.block r0 (by have:=(zQz.1 HR1.out).1;omega)).trans HR1.out)
  obtain⟨v2,x2,rfl⟩: ∃v x,e= .returned (.tuple #[v,.bool x]):=by
   cases hq2:zJF M with
   |none=>rw[hq2]at hs2;obtain⟨v,rfl⟩:=hs2;exact⟨v,false,rfl⟩
   |some t=>rw[hq2]at hs2;obtain⟨v,rfl,_⟩:=hs2;exact⟨v,true,rfl⟩
  clear hs2 hb2 HS2
  go_wp2_with (refine wpList_store_row rfl 34 _ _ rfl r0 _ rfl rfl 34 _ HR2.out (by kernel_rfl) (by kernel_rfl) (by kernel_rfl) ?_)
  refine zRQ (zBA rfl _ _ r0 34 _ (0,0) _ rfl (setRow_heap _ _ _ _ _ _ HR2.out) Tryz.underlying34 rfl (by kernel_rfl)) rfl ⟨⟨_,rfl,by kernel_rfl,by kernel_rfl⟩,?_⟩
  exact below_setRow HB2.out (Nat.le_of_eq HQ.out) _
 |some f=>
  rw[hq1]at hs1
  obtain⟨v1,rfl,o1,c1,rfl,hf1⟩:=hs1
  have HF1:=zQr hf1
  have hfu:=zDr L _ _ f hq1 (fun b hb=>by cases hb) HU1.out
  have HFU:=zQr hfu
  have hr:=HR.out
  rw[hq1]at hr
  have HR':=zQr hr
  clear hq1 hf1 hfu hr
  go_wp2_with fail
  refine HS2.out.mono ?_;rintro e w2 ⟨hs2,hb2⟩
  have HB2:=zQr (HB1.out.trans (hb2.mono HB1.out.size))
  have HR2:=zQr ((hb2.block r0 (by have:=(zQz.1 HR1.out).1;omega)).trans HR1.out)
  have HT1:=zQr ((zF3 HF1.out).1.below hb2)
  clear hb2 HS2
  cases hq2:zJF M with
  |none=>
   rw[hq2]at hs2
   obtain⟨v2,rfl⟩:=hs2
   have hr:=HR'.out
   rw[hq2]at hr
   simp only at hr
   subst hr
   clear hq2
   go_wp2_with (refine wpList_store_row rfl 34 _ _ rfl r0 _ rfl rfl 34 _ HR2.out (by kernel_rfl) (by kernel_rfl) (by kernel_rfl) ?_)
   refine zRQ (zBA rfl _ _ r0 34 _ (0,0) _ rfl (setRow_heap _ _ _ _ _ _ HR2.out) Tryz.underlying34 rfl (by kernel_rfl)) rfl ⟨⟨_,rfl,by kernel_rfl,by kernel_rfl⟩,?_⟩
   exact below_setRow HB2.out (Nat.le_of_eq HQ.out) _
  |some g=>
   rw[hq2]at hs2
   obtain⟨v2,rfl,o2,c2,rfl,hg2⟩:=hs2
   have hgu:=zDr M _ _ g hq2 (fun b hb=>by cases hb) HU2.out
   have hr:=HR'.out
   rw[hq2]at hr
   simp only at hr
   have HNEW:=zQr (zLx (ca:=c1) (cb:=c2) HT1.out (zF3 hg2).1 HFU.out.1 hgu.1 (by have:=HFU.out.2;have:=HL1.out;simp at *; omega))
   rw[hr]at HNEW
   clear hq2 hg2 hgu hr
   go_wp2_with fail
   refine HNEW.out.mono ?_;rintro e w3 ⟨ht3,hb3⟩
   have HB3:=zQr (HB2.out.trans (hb3.mono HB2.out.size))
   have HR3:=zQr ((hb3.block r0 (by have:=(zQz.1 HR2.out).1;omega)).trans HR2.out)
   clear hb3 HNEW
   cases R with
   |none=>
    obtain⟨v3,rfl,hz3,hn3⟩:=ht3
    have HZ3:=zQr hz3
    have HN3:=zQr hn3
    clear hz3 hn3
    go_wp2_with (refine wpList_store_row rfl 34 _ _ rfl r0 v3 rfl rfl 34 _ HR3.out (by rw[HZ3.out];exact zDD) (by rw[zDE,HZ3.out]) HN3.out ?_)
    refine zRQ (zBA rfl _ _ r0 34 v3 (0,0) _ rfl (setRow_heap _ _ _ _ _ _ HR3.out) Tryz.underlying34 rfl (by rw[HZ3.out];exact zDD)) rfl ⟨⟨_,rfl,HZ3.out,HN3.out⟩,?_⟩
    exact below_setRow HB3.out (Nat.le_of_eq HQ.out) _
   |some t=>
    obtain⟨rfl,htl,htu⟩:=ht3
    have HTL:=zQr htl
    have HTU:=zQr htu
    clear htl htu
    go_wp2_with (refine wpList_store_row rfl 34 _ _ rfl r0 (zDV t) rfl rfl 34 _ HR3.out (zB6 HTL.out) (by rw[zDE,zCO,HTL.out]) (zDo _) ?_)
    refine zRQ (zBA rfl _ _ r0 34 (zDV t) (0,0) _ rfl (setRow_heap _ _ _ _ _ _ HR3.out) Tryz.underlying34 rfl (zB6 HTL.out)) rfl ⟨⟨rfl,HTL.out,HTU.out⟩,?_⟩
    exact below_setRow HB3.out (Nat.le_of_eq HQ.out) _
end
end
section
open Go.RowKit
theorem zFw {P:Program} (w:World) (g o:Nat) (t ty:TypeId) (old cells:Array Value) (hg:w.heap[g]?=some (.cells old t (0,0))) (hi:(P.info? ty).map (·.size)=some cells.size)
  (ho:o+cells.size≤old.size) (h1:cells.all (·.oneCell')=true):
  (storeVar ty ⟨g,o,none⟩ (.agg cells)).run P w= .ok () (w.setRow g (old.toList.take o++cells.toList++old.toList.drop (o+cells.size)).toArray):=by
 have:=run_storeCells_at P g o t cells.toList 0 old w hg (by simpa using ho) (fun v hv=>(Array.all_eq_true_iff_forall_mem.1 h1) v (by simpa using hv))
 cases hq:P.info? ty with
 |none=>simp[hq]at hi
 |some i=>
  have hs:cells.size=i.size:=by simp[hq]at hi;omega
  simp[storeVar,sizeOf,typeInfo,hq,Value.cells,hs,this]
theorem zFi {P:Program} {ops:Array Oper} {rest:List Oper} {op:Oper} {a:Act} {w:World} {Q:Exit→Act→World→Prop} (hgd:op.guard=none) (ty:TypeId) (x y:Operand) (hop:op.op= .store ty x y)
  (g o:Nat) (cells:Array Value) (hx:a.eval x= .pointer (some ⟨g,o,none⟩)) (hy:a.eval y= .agg cells)
  (t:TypeId) (old:Array Value) (hg:w.heap[g]?=some (.cells old t (0,0))) (hi:(P.info? ty).map (·.size)=some cells.size)
  (ho:o+cells.size≤old.size) (h1:cells.all (·.oneCell')=true) (W:World) (hW:w.setRow g (old.toList.take o++cells.toList++old.toList.drop (o+cells.size)).toArray=W)
  (h:wpList P ops Q rest (a.put op.dst undef) W):wpList P ops Q (op::rest) a w:=
 wpList_plain hgd fun _ hK=>by
  unfold Oper.wp execOp
  simp only[hop,hx,hy,Instr.storeAt,Instr.sureAddr,Sem.run_bind,Sem.run_pure,Result.andThen_ok,zFw w g o t ty old cells hg hi ho h1,hW]
  exact hK _ _ h
section
variable {w w':World} {E:PE} {i j k n:Nat} {l l':List Value} {base:Nat} {c:Cm}
theorem RS.row (h:RS E w i l) (hl:zEq l'):RS E (w.setRow E.cb l'.toArray) i l':=
 {h with
  v:=h.v.block (zBm _ h.wc) (fun hp g hg _=>zBm _ (h.tc hp g hg)) (Nat.le_of_eq zBl.symm)
  r:=(zBm _ h.rc).trans h.r
  c:=setRow_heap _ _ _ _ _ _ h.c
  cl:=hl
  g:=by
   obtain⟨n,h1,hx,hy,hw,hc⟩:=h.lo
   exact h.g.kept (S:=fun k=>k=E.cb) ⟨rfl,rfl,rfl,Nat.le_of_eq zBl.symm,fun _ _ hk=>zBm _ hk⟩ h1 hx hy fun k hk e=>by have e':k=E.cb:=e;omega }
theorem zAU.putRow (E:PE) (w:World) (cs:Array Value):zAU w (w.setRow E.cb cs) E.W:=⟨rfl,rfl,rfl,Nat.le_of_eq zBl.symm,fun _ _ hk=>zBm _ fun e=>hk (.inr e)⟩
theorem zI2 (hl:l.length=272) (xs:List Value) (hk:k<16):(l.take 16++xs)[k]?=l[k]?:=by
 rw[zRC (by rw[List.length_take];omega),List.getElem?_take,if_pos hk]
theorem zEq.tab (h:zEq l) {t:List Nat} (ht:t.length=256):zEq (l.take 16++u8s t):=
 ⟨by rw[zRB,List.length_take,zBZ,h.len,ht];rfl,fun v hv=>(zRM.1 hv).elim (fun hv=>h.one v (List.mem_of_mem_take hv)) (zLt t v)⟩
theorem CmM.setTab (h:CmM w base l c) (hl:l.length=272) {t:List Nat} (ht:t.length=256):CmM w base (l.take 16++u8s t) { c with tb:=t } where
 a:=⟨(zI2 hl _ (by omega)).trans h.a.1,(zI2 hl _ (by omega)).trans h.a.2.1,h.a.2.2.imp fun _ e=>⟨(zI2 hl _ (by omega)).trans e.1,e.2⟩⟩
 b:=⟨(zI2 hl _ (by omega)).trans h.b.1,(zI2 hl _ (by omega)).trans h.b.2.1,h.b.2.2.imp fun _ e=>⟨(zI2 hl _ (by omega)).trans e.1,e.2⟩⟩
 nt:=(zI2 hl _ (by omega)).trans h.nt
 nm:=(zI2 hl _ (by omega)).trans h.nm
 p:=(zI2 hl _ (by omega)).trans h.p
 tx:=h.tx.imp fun _ e=>⟨(zI2 hl _ (by omega)).trans e.1,e.2⟩
 re:=h.re.imp fun _ e=>⟨(zI2 hl _ (by omega)).trans e.1,e.2⟩
 fi:=h.fi.imp fun _ e=>⟨(zI2 hl _ (by omega)).trans e.1,e.2⟩
 ct:=(zI2 hl _ (by omega)).trans h.ct
 al:=(zI2 hl _ (by omega)).trans h.al
 pr:=(zI2 hl _ (by omega)).trans h.pr
 wr:=(zI2 hl _ (by omega)).trans h.wr
 tb:=fun k hk=>by
  rw[zRD (by rw[List.length_take];omega),List.length_take,show 16+k - min 16 l.length=k by omega]
  simp[u8s,List.getD_eq_getElem?_getD,show k<t.length by omega]
theorem Mks.kept {v:Value} {L:List Mk} (h:Mks w base v L) {S:Nat→Prop} (k:zAU w w' S) (hS: ∀k,base≤k→ ¬S k):Mks w' base v L:=k.row h fun b hb=>hS b (h.lt b hb).1
theorem zKH {T:List Nat} {d:Nat} {ends:Bool} (hd:d<256) (hT: ∀j,T.getD j 0<256) {r:List Mk × Nat} (h:zBf T d ends i=some r): ∀i,i<r.1.length→(zAI r.1 i).b<256:=fun _ hi=>zJX hd hT h _ (zE9 hi)
theorem zJS (h:RS E w i l) (hm:CmM w base l c) (hb:E.wb<base∧E.cb<base) (hbw:base≤w.heap.size):
  Calls Tryz.prog 92 #[.pointer (some ⟨E.rb,0,none⟩),.pointer (some ⟨E.cb,0,none⟩)] w (HdO E w base (zGd E.T i c)):=by
 have HS:=zQr (zOo (E:=E) hb)
 have HBW:=zQr hbw
 have H:=zQr h
 have HM:=zQr hm
 have K:=zQr (zAU.refl w E.W)
 obtain⟨R,hR⟩: ∃R,zGd E.T i c=R:=⟨_,rfl⟩
 rw[hR]
 unfold zGd at hR
 have hUT:=zQr h.v.u
 by_cases hi:E.T.length≤i
 ·rw[if_pos hi]at hR
  subst hR
  have HD:=zQr (zIq H.out HM.out.p hi)
  clear h hm hb hbw hi
  go_enter Tryz.func92,Tryz.ntmps92
  go_wp2_with fail
  refine HD.out.mono ?_;rintro e w9 hp
  have HR9:Hid (Res E w (.error (70,c.at_)) [] e w9):=zQr (Res.up K.out hp)
  obtain⟨fb,rfl⟩:=HR9.out.bad
  clear hp
  go_wp2_with fail
  exact⟨rfl,HR9.out⟩
 rw[if_neg hi]at hR
 have HD:=zQr (zKU H.out (by omega))
 obtain⟨d,hd⟩: ∃d,E.T.getD i 0=d:=⟨_,rfl⟩
 have hd256:d<256:=by rw[←hd];exact h.v.u i
 rw[hd]at hR HD
 have HDD:=zQr hd256
 have HR:=zQr hR
 clear h hm hb hbw hi hR hd hd256
 go_enter Tryz.func92,Tryz.ntmps92
 go_wp2_with fail
 refine HD.out.mono ?_;rintro e w1 ⟨rfl,h1,k1⟩
 have H1:=zQr h1
 have HM1:=zQr (HM.out.kept k1 HS.out)
 have K1:=zQr k1
 clear h1 k1 HD
 cases hq1:zBf E.T d false (i+1)with
 |none=>
  have hr:=HR.out
  rw[hq1]at hr
  subst hr
  have HP:=zQr (zFa H1.out HM1.out.p HDD.out hq1)
  clear hq1
  go_wp2_with fail
  refine HP.out.mono ?_;rintro e w9 hp
  have HR9:Hid (Res E w (.error (70,c.at_)) [] e w9):=zQr (Res.up K1.out hp)
  obtain⟨fb,rfl⟩:=HR9.out.bad
  clear hp
  go_wp2_with fail
  exact⟨rfl,HR9.out⟩
 |some r1=>
  obtain⟨L,j1⟩:=r1
  have hr:=HR.out
  rw[hq1]at hr
  simp only at hr
  have HR1:=zQr hr
  have HLU:=zQr (zKH HDD.out hUT.out hq1)
  have HLL:=zQr (zBr hq1)
  have HP:=zQr (zHP H1.out HDD.out hq1)
  clear hq1 hr HR
  go_wp2_with fail
  refine HP.out.mono ?_;rintro e w2 ⟨⟨v2,rfl,hm2⟩,h2,k2⟩
  obtain⟨o2,c2,rfl⟩:=hm2.form
  have HK2:=zQr hm2
  have H2:=zQr h2
  have HM2:=zQr (HM1.out.kept k2 HS.out)
  have K2:=zQr (K1.out.tr k2)
  clear h2 k2 hm2 HP
  cases hq2:zBf E.T d false j1 with
  |none=>
   have hr:=HR1.out
   rw[hq2]at hr
   subst hr
   have HP:=zQr (zFa H2.out HM2.out.p HDD.out hq2)
   clear hq2
   go_wp2_with fail
   refine HP.out.mono ?_;rintro e w9 hp
   have HR9:Hid (Res E w (.error (70,c.at_)) [] e w9):=zQr (Res.up K2.out hp)
   obtain⟨fb,rfl⟩:=HR9.out.bad
   clear hp
   go_wp2_with fail
   exact⟨rfl,HR9.out⟩
  |some r2=>
   obtain⟨M,j2⟩:=r2
   have hr:=HR1.out
   rw[hq2]at hr
   simp only at hr
   have HR2:=zQr hr
   have HMU:=zQr (zKH HDD.out hUT.out hq2)
   have HML:=zQr (zBr hq2)
   have HP:=zQr (zHP H2.out HDD.out hq2)
   clear hq2 hr HR1
   go_wp2_with fail
   refine HP.out.mono ?_;rintro e w3 ⟨⟨v3,rfl,hm3⟩,h3,k3⟩
   obtain⟨o3,c3,rfl⟩:=hm3.form
   have hm2:Mks w3 w1.heap.size (.slice o2 L.length c2) L:=HK2.out.kept k3 fun k hk hE=>by
    have:=H1.out.lts
    rcases hE with hE|hE<;>omega
   obtain⟨oa,ca,he,hv2⟩:=hm2.toV HLU.out
   cases he
   obtain⟨ob,cb',he,hv3⟩:=hm3.toV HMU.out
   cases he
   have H3:=zQr h3
   have HM3:=zQr (HM2.out.kept k3 HS.out)
   have K3:=zQr (K2.out.tr k3)
   have HTP:=zQr (zI9 hv2 hv3 (by have:=HLL.out;have:=H3.out.v.len;omega) (by have:=HML.out;have:=H3.out.v.len;omega))
   clear h3 k3 hm3 hm2 HP HK2 hv2 hv3
   go_wp2_with fail
   refine HTP.out.mono ?_;rintro e w4 ⟨ht4,hb4⟩
   have h4:=H3.out.below hb4
   have hb5:=(zQs w4.heap.size w4).alloc (zQt _) (.cells Tryz.zeroCells34 34)
   have HM4:=zQr (HM3.out.kept (zAU.bel (S:=E.W) hb4) HS.out)
   have K4:=zQr (K3.out.tr (zAU.bel hb4))
   have H4:=zQr h4
   have HZ:=zQr (zQ4 w4 (.cells Tryz.zeroCells34 34))
   clear hb4 h4 HTP hb5
   cases hq3:zGe L M with
   |none=>
    rw[hq3]at ht4
    have hr:=HR2.out
    rw[hq3]at hr
    subst hr
    obtain⟨v4,rfl,hz4,hn4⟩:=ht4
    have HZ4:=zQr hz4
    have HN4:=zQr hn4
    clear hq3 hz4 hn4
    go_upto_region 4 with (refine wpList_store_row rfl 34 _ _ rfl w4.heap.size v4 rfl rfl 34 _ HZ.out (by rw[HZ4.out];exact zDD) (by rw[zDE,HZ4.out]) HN4.out ?_)
    have HB5:Hid (Below w4.heap.size w4 ((w4.alloc (.cells Tryz.zeroCells34 34)).setRow w4.heap.size v4)):=zQr (below_setRow ((zQs _ _).alloc (zQt _) _) (zQt _) _)
    obtain⟨W5,hW5⟩: ∃W,(w4.alloc (.cells Tryz.zeroCells34 34)).setRow w4.heap.size v4=W:=⟨_,rfl⟩
    rw[hW5]at HB5 ⊢
    clear hW5
    have H5:=zQr (H4.out.below HB5.out)
    have HM5:=zQr (HM4.out.kept (zAU.bel (S:=E.W) HB5.out) HS.out)
    have K5:=zQr (K4.out.tr (zAU.bel HB5.out))
    go_wp2_with fail
    refine(zA8 (er:=60) H5.out HM5.out.p (by decide)).mono ?_;rintro e w9 ⟨hp,hb9⟩
    have HR9:Hid (Res E w (.error (60,c.at_)) [] e w9):=zQr ⟨K5.out.tr (zAU.bel hb9),_,_,hp,H5.out.below hb9⟩
    obtain⟨fb,rfl⟩:=HR9.out.bad
    clear hp hb9
    go_wp2_with fail
    exact⟨rfl,HR9.out⟩
   |some t=>
    rw[hq3]at ht4
    have hr:=HR2.out
    rw[hq3]at hr
    simp only at hr
    have HRR:=zQr hr
    obtain⟨rfl,htl,htu⟩:=ht4
    have HTL:=zQr htl
    clear hq3 htl htu hr
    go_upto_region 4 with (refine wpList_store_row rfl 34 _ _ rfl w4.heap.size (zDV t) rfl rfl 34 _ HZ.out (zB6 HTL.out) (by rw[zDE,zCO,HTL.out]) (zDo _) ?_)
    have HB5:Hid (Below w4.heap.size w4 ((w4.alloc (.cells Tryz.zeroCells34 34)).setRow w4.heap.size (zDV t))):=zQr (below_setRow ((zQs _ _).alloc (zQt _) _) (zQt _) _)
    have HZ5:Hid (((w4.alloc (.cells Tryz.zeroCells34 34)).setRow w4.heap.size (zDV t)).heap[w4.heap.size]?=some (.cells (zDV t) 34 (0,0))):=zQr (setRow_heap _ _ _ _ _ _ HZ.out)
    obtain⟨W5,hW5⟩: ∃W,(w4.alloc (.cells Tryz.zeroCells34 34)).setRow w4.heap.size (zDV t)=W:=⟨_,rfl⟩
    rw[hW5]at HB5 HZ5 ⊢
    clear hW5
    have H5:=zQr (H4.out.below HB5.out)
    have HM5:=zQr (HM4.out.kept (zAU.bel (S:=E.W) HB5.out) HS.out)
    have K5:=zQr (K4.out.tr (zAU.bel HB5.out))
    obtain⟨b5,hb5⟩: ∃a,w4.heap.size=a:=⟨_,rfl⟩
    rw[hb5]at HZ5 ⊢
    clear hb5 HB5 HZ
    go_wp2_with fail
    refine zGE.mono ?_;rintro e w9 ⟨rfl,rfl⟩
    have HRA:Hid (W5.rangeAt b5 0 (u8s t)):=zQr (fun j v hv=>by
     rw[Nat.zero_add]
     exact(zQ6 _ _ j _ _ (0,0) HZ5.out).trans (by simpa [zDV]using hv))
    have HLE:=zQr H5.out.cl.len
    have HW6:Hid (W5.setRow E.cb ((l.toArray.toList.take 16++(zDV t).toList++l.toArray.toList.drop (16+(zDV t).size)).toArray)=W5.setRow E.cb (l.take 16++u8s t).toArray):=zQr (by
     rw[zCO,HTL.out,List.drop_of_length_le (by have:=HLE.out;simp;omega),List.append_nil]
     simp[zDV])
    have H6:=zQr (H5.out.row (H5.out.cl.tab HTL.out))
    have HM6:=zQr ((HM5.out.setTab HLE.out HTL.out).kept (zAU.putRow E W5 (l.take 16++u8s t).toArray) HS.out)
    have K6:=zQr (K5.out.tr (zAU.putRow E W5 (l.take 16++u8s t).toArray))
    obtain⟨W6,hW6⟩: ∃W,W5.setRow E.cb (l.take 16++u8s t).toArray=W:=⟨_,rfl⟩
    rw[hW6]at H6 HM6 K6 HW6
    obtain⟨l6,hl6⟩: ∃l',l.take 16++u8s t=l':=⟨_,rfl⟩
    rw[hl6]at H6 HM6
    clear hW6 hl6
    go_upto_region 6 with (first|refine wpList_load_mid rfl 34 _ rfl b5 0 rfl (u8s t) _ HRA.out Tryz.underlying34 rfl (by rw[zBZ,HTL.out];exact zDD) ?_|refine zFi rfl 34 _ _ rfl E.cb 16 (zDV t) rfl rfl 36 _ H5.out.c (zB6 HTL.out) (by rw[zCO,HTL.out,List.size_toArray,HLE.out];decide) (zDo _) _ HW6.out ?_)
    have HPE:=zQr (zF0 H6.out)
    unfold zGA at HRR
    simp only at HRR
    unfold zPW at HPE
    go_wp2_with fail
    refine HPE.out.mono ?_;rintro e w7 hf7
    by_cases hq:(zHd E.T j2).1≠0
    ·rw[if_pos hq]at hf7
     have hRR:=HRR.out
     rw[if_pos hq]at hRR
     subst hRR
     have HR4:Hid (Res E w (.error (zHd E.T j2)) [] e w7):=zQr (Res.up K6.out hf7)
     obtain⟨fb,rfl⟩:=HR4.out.bad
     clear hf7 hq
     go_wp2_with fail
     exact⟨rfl,HR4.out⟩
    ·rw[if_neg hq]at hf7
     have hRR:=HRR.out
     rw[if_neg hq]at hRR
     subst hRR
     obtain⟨k7,rfl,h7⟩:=hf7
     have HK7:=zQr (K6.out.tr k7)
     have HH7:=zQr h7
     have HM7:=zQr (HM6.out.kept k7 HS.out)
     clear hq k7 h7
     go_wp2_with fail
     go_end0
     exact⟨rfl,HK7.out,l6,HH7.out,HM7.out⟩
end
end
section
open Go.RowKit
theorem zLD {ere:Bool} {L:List Mk} (hu: ∀i,i<L.length→(zAI L i).b<256) {re:List Nd} (h:zBN ere L= .ok re):0<re.length∧re.length≤16386∧ ∀x∈re,x.kids≤re.length:=by
 unfold zBN at h
 split at h
 ·cases h
 ·rename_i h1
  split at h
  ·cases h
  ·cases hs:zBt ere L 64 ⟨0,[]⟩with
   |no e p=>rw[hs]at h;cases h
   |ok re2 t=>
    rw[hs]at h
    have hgood:=zC6 re2 _ _ _ _ _ (zEt hs)
    have hok:=zET (fun p hp=>hgood.2.2 p (Nat.zero_le _) hp)
    have hsm:=zDX hu 64 (by simp) hs
    have hri:=(zEB hu 64 (by simp) hs).le
    simp only at h
    split at h
    ·split at h
     ·cases h
     ·cases h
      exact⟨hgood.1,by simp only at hsm;omega,hok.2⟩
    ·cases h
theorem zLV {T:List Nat} (n:Nat): ∀(i:Nat) (c c':Cm) (j:Nat),zDB T n i c= .ok (c',j)→c'.re=c.re∧c'.fi=c.fi∧c'.at_=c.at_:=by
 induction n with
 |zero=>intro i c c' j h;cases h;exact⟨rfl,rfl,rfl⟩
 |succ n ih=>
  intro i c c' j h
  rw[zFD]at h
  split at h
  ·unfold zMp at h
   split at h
   ·cases h
   ·exact ih _ { c with al:=true } _ _ h
  ·split at h
   ·unfold zMo at h
    split at h
    ·cases h
    ·exact ih _ { c with pr:=true } _ _ h
   ·split at h
    ·cases hq:zHg T 1048576 i with
     |none=>rw[hq]at h;cases h
     |some r=>
      rw[hq]at h
      unfold zMq at h
      simp only at h
      split at h
      ·cases h
      ·exact ih _ { c with ct:=r.1 } _ _ h
    ·split at h
     ·unfold zMn at h
      split at h
      ·cases h
      ·unfold zGW at h
       simp only at h
       split at h
       ·cases h;exact⟨rfl,rfl,rfl⟩
       ·cases h
     ·unfold zGA at h
      simp only at h
      split at h
      ·cases h
      ·cases h;exact⟨rfl,rfl,rfl⟩
theorem zCR: ∀(L:List Mk) (e:Bool) (P Q:List Pc),zCS L e P=some Q→Q.length≤P.length+L.length
 |[],e,P,Q,h=>by
  unfold zCS at h
  split at h
  ·cases h
  ·cases h;simp
 |m::L,true,P,Q,h=>by
  unfold zCS at h
  split at h
  ·have:=zCR L _ _ _ h;simp at this ⊢;omega
  ·split at h
   ·have:=zCR L _ _ _ h;have:=zCN P 10;simp;omega
   ·have:=zCR L _ _ _ h;have:=zCN P m.b;simp;omega
 |m::L,false,P,Q,h=>by
  unfold zCS at h
  split at h
  ·have:=zCR L _ _ _ h;have:=zCN P m.b;simp;omega
  ·split at h
   ·have:=zCR L _ _ _ h;simp at this ⊢;omega
   ·split at h
    ·have:=zCR L _ _ _ h;simp;omega
    ·have:=zCR L _ _ _ h;have:=zCN P m.b;simp;omega
theorem zOC {L:List Mk} {P:List Pc} (h:zLW L=some P):P.length≤L.length:=by
 have:=zCR L _ _ _ h
 simpa using this
section
variable {w w':World} {E:PE} {i j k n:Nat} {l:List Value} {base:Nat} {c:Cm}
theorem Bys.mono {b2:Nat} {v:Value} {T:List Nat} (h:Bys w base v T) (hb:b2≤base):Bys w b2 v T:=by
 obtain⟨o,c,rfl,h1⟩:=h
 exact⟨o,c,rfl,zAR h1 hb⟩
theorem Pcs.mono {b2:Nat} {v:Value} {P:List Pc} (h:Pcs w base v P) (hb:b2≤base):Pcs w b2 v P:=by
 obtain⟨o,c,ts,rfl,h1,h2,h3⟩:=h
 exact⟨o,c,ts,rfl,h1,zAR h2 hb,fun i t p ht hp=>(h3 i t p ht hp).mono hb⟩
theorem Pcs.pk {o:Option Addr} {m cp:Nat} {P:List Pc} (h:Pcs w base (.slice o m cp) P):PkR w o (P.map (·.k)):=fun hp=>by
 obtain⟨o2,c2,ts,he,h1,h2,h3⟩:=h
 rw[List.length_map]at hp
 cases he
 obtain⟨_,g,rfl,hg,hcs,_⟩:=zBW h2 hp
 refine⟨g,0,rfl,hg,fun i k hk=>?_⟩
 rw[List.getElem?_map]at hk
 cases hpi:P[i]? with
 |none=>rw[hpi]at hk;cases hk
 |some p=>
  rw[hpi]at hk
  cases hk
  have hi:=(zQy.1 hpi).1
  obtain⟨u0,hu0,c0⟩:=hcs (i*2) (by omega)
  rw[zE0 _ _ _ h1,hpi]at hu0
  cases hu0
  obtain⟨u1,hu1,c1⟩:=hcs (i*2+1) (by omega)
  rw[zF1 _ _ _ h1]at hu1
  obtain⟨ot,ct,rfl,_⟩:=h3 i u1 p hu1 hpi
  rw[Nat.zero_add]
  exact⟨c0,ot,_,ct,c1⟩
theorem Nos.nv {o:Option Addr} {m cp:Nat} {re:List Nd} (h:Nos w base (.slice o m cp) re) (hl:re.length≤16386) (hk: ∀x∈re,x.kids≤re.length):NdV w o re∧m=re.length:=by
 obtain⟨o2,c2,he,h2⟩:=h
 cases he
 obtain⟨oa,cp,he,hv⟩:=h2.toV (by omega) hk
 cases he
 exact⟨hv,rfl⟩
theorem zIH (h:RS E w i l) (hm:CmM w base l c) (hc0:c.re=[]) (hb:E.wb<base∧E.cb<base) (hbw:base≤w.heap.size):
  Calls Tryz.prog 91 #[.pointer (some ⟨E.rb,0,none⟩),.pointer (some ⟨E.cb,0,none⟩)] w (HdO E w base (zFE E.ere E.T i c)):=by
 have HS:=zQr (zOo (E:=E) hb)
 have HBB:=zQr hb
 have HBW:=zQr hbw
 have H:=zQr h
 have HM:=zQr hm
 have K:=zQr (zAU.refl w E.W)
 have HER:Hid (1≠0):=zQr (by decide)
 have HC0:Hid ({ c with re:=[] } =c):=zQr (by cases c;simp only at hc0;rw[hc0])
 clear hc0
 obtain⟨R,hR⟩: ∃R,zFE E.ere E.T i c=R:=⟨_,rfl⟩
 rw[hR]
 unfold zFE at hR
 have hUT:=zQr h.v.u
 by_cases hi:E.T.length≤i
 ·rw[if_pos hi]at hR
  subst hR
  have HD:=zQr (zIq H.out HM.out.p hi)
  clear h hm hb hbw hi
  go_enter Tryz.func91,Tryz.ntmps91
  go_wp2_with fail
  refine HD.out.mono ?_;rintro e w9 hp
  have HR9:Hid (Res E w (.error (70,c.at_)) [] e w9):=zQr (Res.up K.out hp)
  obtain⟨fb,rfl⟩:=HR9.out.bad
  clear hp
  go_wp2_with fail
  exact⟨rfl,HR9.out⟩
 rw[if_neg hi]at hR
 have HD:=zQr (zKU H.out (by omega))
 obtain⟨d,hd⟩: ∃d,E.T.getD i 0=d:=⟨_,rfl⟩
 have hd256:d<256:=by rw[←hd];exact h.v.u i
 rw[hd]at hR HD
 have HDD:=zQr hd256
 have HR:=zQr hR
 clear h hm hb hbw hi hR hd hd256
 go_enter Tryz.func91,Tryz.ntmps91
 go_wp2_with fail
 refine HD.out.mono ?_;rintro e w1 ⟨rfl,h1,k1⟩
 have H1:=zQr h1
 have HM1:=zQr (HM.out.kept k1 HS.out)
 have K1:=zQr k1
 clear h1 k1 HD
 cases hq1:zBf E.T d false (i+1)with
 |none=>
  have hr:=HR.out
  rw[hq1]at hr
  subst hr
  have HP:=zQr (zFa H1.out HM1.out.p HDD.out hq1)
  clear hq1
  go_wp2_with fail
  refine HP.out.mono ?_;rintro e w9 hp
  have HR9:Hid (Res E w (.error (70,c.at_)) [] e w9):=zQr (Res.up K1.out hp)
  obtain⟨fb,rfl⟩:=HR9.out.bad
  clear hp
  go_wp2_with fail
  exact⟨rfl,HR9.out⟩
 |some r1=>
 obtain⟨L,j1⟩:=r1
 have hr:=HR.out
 rw[hq1]at hr
 simp only at hr
 have HR1:=zQr hr
 have HLU:=zQr (zKH HDD.out hUT.out hq1)
 have HLL:=zQr (zBr hq1)
 have HP:=zQr (zHP H1.out HDD.out hq1)
 clear hq1 hr HR
 go_wp2_with fail
 refine HP.out.mono ?_;rintro e w2 ⟨⟨v2,rfl,hm2⟩,h2,k2⟩
 obtain⟨oa,ca,rfl,hv2⟩:=hm2.toV HLU.out
 have HV2:=zQr hv2
 have H2:=zQr h2
 have HM2:=zQr (HM1.out.kept k2 HS.out)
 have K2:=zQr (K1.out.tr k2)
 clear h2 k2 hm2 HP hv2
 go_upto_if 14 with fail
 go_cut [5] (fun v5 wd=> ∃(re:List Nd) (l':List Value),v5= .int .i64 0∧Hid (reS E.ere L c= .ok re)∧RS E wd j1 l'∧CmM wd base l' { c with re:=re } ∧zAU w wd E.W)
 case first=>
  by_cases hL:L=[]
  ·have q1: ¬(0:Int)<(L.length:Int):=by rw[hL];simp
   have hre:reS E.ere L c= .ok []:=by unfold reS;rw[if_pos hL]
   have HRE:=zQr hre
   have HM3:Hid (CmM w2 base l { c with re:=[] }):=zQr (by rw[HC0.out];exact HM2.out)
   clear hL hre
   go_wp2_with fail
   go_meet
   exact⟨[],l,rfl,HRE,H2.out,HM3.out,K2.out⟩
  ·have q1:(0:Int)<(L.length:Int):=by
    cases L with
    |nil=>exact absurd rfl hL
    |cons x l=>simp only[List.length_cons];omega
   have r1:=H2.out.r1
   have HPA:=zQr (zE2 (ere:=E.ere) (cap:=ca) HV2.out.arg)
   go_wp2_with fail
   refine HPA.out.mono ?_;rintro e w3 ⟨hp3,hb3⟩
   have h3:=H2.out.below hb3
   have m3:=HM2.out.kept (zAU.bel (S:=E.W) hb3) HS.out
   obtain⟨v10,hv10,_⟩:=m3.re
   have c10:w3.cell? ⟨E.cb,10,none⟩=some v10:=h3.cc hv10
   have f10:=h3.cf 10
   cases hq:zBN E.ere L with
   |error p=>
    obtain⟨er,pl⟩:=p
    rw[hq]at hp3
    have hp3':e= .returned (.tuple #[.slice none 0 0,.int .i64 (er:Nat),.int .i64 (pl:Nat)]):=hp3
    subst hp3'
    have HER:Hid (er≠0):=zQr (zE3 HLU.out hq).1
    have hr:=HR1.out
    unfold reS at hr
    rw[if_neg hL,hq]at hr
    simp only at hr
    subst hr
    have H4:=zQr (h3.set 10 (v:= .slice none 0 0) rfl)
    have HM4:=zQr ((m3.setRe h3.cl.len (v:= .slice none 0 0) (x:=[]) ⟨none,0,rfl,Nds.nil _ _⟩).kept (zAU.put E w3 10 (.slice none 0 0)) HS.out)
    have K4:=zQr ((K2.out.tr (zAU.bel hb3)).tr (zAU.put E w3 10 (.slice none 0 0)))
    clear h3 m3 hv10 hb3 hp3 hq hL r1 HPA
    go_upto_region 5 with fail
    obtain⟨W4,hW4⟩: ∃W,w3.setCell ⟨E.cb,10,none⟩ (.slice none 0 0)=W:=⟨_,rfl⟩
    rw[hW4]at H4 HM4 K4 ⊢
    clear hW4 c10 f10
    go_wp2_with fail
    refine(zA8 (er:=er) H4.out HM4.out.p (by first|decide|exact HER.out)).mono ?_;rintro e w9 ⟨hp,hb9⟩
    have HR9:Hid (Res E w (.error (er,c.at_)) [] e w9):=zQr ⟨K4.out.tr (zAU.bel hb9),_,_,hp,H4.out.below hb9⟩
    obtain⟨fb,rfl⟩:=HR9.out.bad
    clear hp hb9
    go_wp2_with fail
    exact⟨rfl,HR9.out⟩
   |ok re=>
    rw[hq]at hp3
    obtain⟨v3,rfl,hn3⟩:=hp3
    obtain⟨o3,cc3,rfl⟩:=hn3.form
    have hre:reS E.ere L c= .ok re:=by unfold reS;rw[if_neg hL,hq]
    have HRE:=zQr hre
    have H4:=zQr (h3.set 10 (v:= .slice o3 re.length cc3) rfl)
    have HM4:Hid (CmM (w3.setCell ⟨E.cb,10,none⟩ (.slice o3 re.length cc3)) base (l.set 10 (.slice o3 re.length cc3)) { c with re:=re }):=zQr ((m3.setRe h3.cl.len (v:= .slice o3 re.length cc3) (x:=re) ⟨o3,cc3,rfl,Nds.mono hn3 (zRE HBW.out K2.out.size)⟩).kept (zAU.put E w3 10 (.slice o3 re.length cc3)) HS.out)
    have K4:=zQr ((K2.out.tr (zAU.bel hb3)).tr (zAU.put E w3 10 (.slice o3 re.length cc3)))
    clear h3 m3 hv10 hb3 hn3 hq hL hre r1 HPA
    go_upto_region 5 with fail
    obtain⟨W4,hW4⟩: ∃W,w3.setCell ⟨E.cb,10,none⟩ (.slice o3 re.length cc3)=W:=⟨_,rfl⟩
    rw[hW4]at H4 HM4 K4 ⊢
    clear hW4 c10 f10
    go_wp2_with fail
    refine zGE.mono ?_;rintro e w9 ⟨rfl,rfl⟩
    go_wp2_with fail
    go_meet
    exact⟨re,_,rfl,HRE,H4.out,HM4.out,K4.out⟩
 case rest=>
 obtain⟨re,l3,rfl,HRE,h3,m3,k3⟩:=hcut
 have H3:=zQr h3
 have HM3:=zQr m3
 have K3:=zQr k3
 have hr:=HR1.out
 rw[HRE.out]at hr
 simp only at hr
 have HR2:=zQr hr
 clear h3 m3 k3 H2 HM2 K2 HV2 hr HR1
 cases hq2:zBf E.T d true j1 with
 |none=>
  have hr:=HR2.out
  rw[hq2]at hr
  subst hr
  have HP:=zQr (zFa H3.out HM3.out.p HDD.out hq2)
  clear hq2
  go_wp2_with fail
  refine HP.out.mono ?_;rintro e w9 hp
  have HR9:Hid (Res E w (.error (70,c.at_)) [] e w9):=zQr (Res.up K3.out hp)
  obtain⟨fb,rfl⟩:=HR9.out.bad
  clear hp
  go_wp2_with fail
  exact⟨rfl,HR9.out⟩
 |some r2=>
 obtain⟨M,j2⟩:=r2
 have hr:=HR2.out
 rw[hq2]at hr
 simp only at hr
 have HR3:=zQr hr
 have HMU:=zQr (zKH HDD.out hUT.out hq2)
 have HML:=zQr (zBr hq2)
 have HMZ:=zQr (show M.length≤4294967293 by have:=(zBr hq2).2.2;have:=(zBr hq2).2.1;have:=H3.out.v.len;have:=HLL.out;simp only at *; omega)
 have HP:=zQr (zHP H3.out HDD.out hq2)
 clear hq2 hr HR2
 go_wp2_with fail
 refine HP.out.mono ?_;rintro e w4 ⟨⟨v4,rfl,hm4⟩,h4,k4⟩
 obtain⟨ob,cb,rfl,hv4⟩:=hm4.toV HMU.out
 have HFP:=zQr (zJr hv4 HMZ.out)
 have H4:=zQr h4
 have HM4:=zQr (HM3.out.kept k4 HS.out)
 have K4:=zQr (K3.out.tr k4)
 clear h4 k4 hm4 HP hv4
 go_wp2_with fail
 refine HFP.out.mono ?_;rintro e w5 ⟨hf5,hb5⟩
 have h5:=H4.out.below hb5
 have m5:=HM4.out.kept (zAU.bel (S:=E.W) hb5) HS.out
 obtain⟨v11,hv11,_⟩:=m5.fi
 have c11:w5.cell? ⟨E.cb,11,none⟩=some v11:=h5.cc hv11
 have f11:=h5.cf 11
 cases hq3:zLW M with
 |none=>
  rw[hq3]at hf5
  obtain⟨pl,rfl⟩:=hf5
  have hr:=HR3.out
  rw[hq3]at hr
  subst hr
  have H6:=zQr (h5.set 11 (v:= .slice none 0 0) rfl)
  have HM6:=zQr ((m5.setFi h5.cl.len (v:= .slice none 0 0) (x:=[]) ⟨none,0,[],rfl,rfl,zQ7 _ _ _ _,fun i t p ht=>by cases ht⟩).kept (zAU.put E w5 11 (.slice none 0 0)) HS.out)
  have K6:=zQr ((K4.out.tr (zAU.bel hb5)).tr (zAU.put E w5 11 (.slice none 0 0)))
  clear h5 m5 hv11 hb5 hq3 HFP
  go_upto_region 7 with fail
  obtain⟨W6,hW6⟩: ∃W,w5.setCell ⟨E.cb,11,none⟩ (.slice none 0 0)=W:=⟨_,rfl⟩
  rw[hW6]at H6 HM6 K6 ⊢
  clear hW6 c11 f11
  go_wp2_with fail
  refine(zA8 (er:=61) H6.out HM6.out.p (by first|decide|exact HER.out)).mono ?_;rintro e w9 ⟨hp,hb9⟩
  have HR9:Hid (Res E w (.error (61,c.at_)) [] e w9):=zQr ⟨K6.out.tr (zAU.bel hb9),_,_,hp,H6.out.below hb9⟩
  obtain⟨fb,rfl⟩:=HR9.out.bad
  clear hp hb9
  go_wp2_with fail
  exact⟨rfl,HR9.out⟩
 |some p=>
 rw[hq3]at hf5
 obtain⟨v5,rfl,hpc5⟩:=hf5
 obtain⟨o5,c5,ts5,rfl,hpc5'⟩:=hpc5
 have hpc:Pcs w5 w4.heap.size (.slice o5 p.length c5) p:=⟨o5,c5,ts5,rfl,hpc5'⟩
 have hr:=HR3.out
 rw[hq3]at hr
 simp only at hr
 have HR4:=zQr hr
 have HPL:=zQr (zOC hq3)
 have H6:=zQr (h5.set 11 (v:= .slice o5 p.length c5) rfl)
 have HM6:Hid (CmM (w5.setCell ⟨E.cb,11,none⟩ (.slice o5 p.length c5)) base (l3.set 11 (.slice o5 p.length c5)) { c with re:=re,fi:=p }):=zQr ((m5.setFi h5.cl.len (v:= .slice o5 p.length c5) (x:=p) (hpc.mono (zRE HBW.out K4.out.size))).kept (zAU.put E w5 11 (.slice o5 p.length c5)) HS.out)
 have K6:=zQr ((K4.out.tr (zAU.bel hb5)).tr (zAU.put E w5 11 (.slice o5 p.length c5)))
 clear h5 m5 hv11 hb5 hq3 HFP hpc hpc5' hr HR3
 go_upto_region 7 with fail
 obtain⟨W6,hW6⟩: ∃W,w5.setCell ⟨E.cb,11,none⟩ (.slice o5 p.length c5)=W:=⟨_,rfl⟩
 rw[hW6]at H6 HM6 K6 ⊢
 obtain⟨l6,hl6⟩: ∃l',l3.set 11 (.slice o5 p.length c5)=l':=⟨_,rfl⟩
 rw[hl6]at H6 HM6
 clear hW6 hl6 c11 f11
 go_wp2_with fail
 refine zGE.mono ?_;rintro e w9 ⟨rfl,rfl⟩
 have HFL:=zQr (zJV H6.out HM6.out HBB.out (zRE HBW.out K6.out.size))
 go_wp2_with fail
 refine HFL.out.mono ?_;rintro e w7 hf7
 cases hq4:zIm E.T j2 { c with re:=re,fi:=p } with
 |error z=>
  rw[hq4]at hf7
  have hr:=HR4.out
  rw[hq4]at hr
  subst hr
  have HR7:Hid (Res E w (.error z) [] e w7):=zQr (Res.up (l:=[]) K6.out hf7)
  obtain⟨fb,rfl⟩:=HR7.out.bad
  clear hf7 hq4
  go_wp2_with fail
  exact⟨rfl,HR7.out⟩
 |ok z=>
 obtain⟨c7,j7⟩:=z
 rw[hq4]at hf7
 obtain⟨kr,kf,ka⟩:=zLV _ _ _ _ _ hq4
 simp only at kr kf ka
 have hr:=HR4.out
 rw[hq4]at hr
 simp only at hr
 have HR5:=zQr hr
 obtain⟨rfl,k7,l7,h7,m7⟩:=hf7
 obtain⟨vr,hvr,hnr⟩:=m7.re
 obtain⟨vf,hvf,hnf⟩:=m7.fi
 rw[kr]at hnr
 rw[kf]at hnf
 obtain⟨orr,cr,rfl,hnr2⟩:=hnr
 obtain⟨of,cf,tf,rfl,hnf2⟩:=hnf
 have c10:=h7.cc hvr
 have c11:=h7.cc hvf
 have HKA:=zQr ka
 have hcl:E.cb<w7.heap.size:=h7.lts.2.2
 have H7:=zQr h7
 have HM7:=zQr m7
 have K7:=zQr (K6.out.tr k7)
 have HPK:=zQr (Pcs.pk (w:=w7.drew) (base:=base) (o:=of) (cp:=cf) (m:=p.length) (P:=p) (Pcs.kept ⟨of,cf,tf,rfl,hnf2⟩ (zAU.drew w7 E.W) HS.out))
 have HNR:=zQr (show Nos w7 base (.slice orr re.length cr) re from⟨orr,cr,rfl,hnr2⟩)
 clear h7 m7 k7 hvr hvf hnr2 hnf2 kr kf ka hq4 hr HR4 HFL
 go_upto_region 9 with fail
 by_cases hz:re=[]
 ·have hr:=HR5.out
  rw[if_neg (fun h=>h.1 hz)]at hr
  subst hr
  subst hz
  refine zAA (X:=none) 19 [([0,1,2,3,4,5,6,7,8,9,10,12,13,14,15],11),([],16)] [17,18] (by kernel_rfl) (by kernel_rfl) rfl (fun _ _ _ _ _ h=>h) ?_
  simp only[zAK,zAC,zAE,zAD,zAB,List.getD_cons_zero,List.getD_cons_succ,List.drop_succ_cons,List.drop_nil]
  repeat (go_big_quiet_step (fail))
  refine wpQuiet_nil ?_
  go_wp2_with fail
  refine⟨zAJ.refl _,?_⟩
  repeat (go_big_quiet_step (fail))
  refine wpQuiet_nil ?_
  go_wp2_with fail
  refine⟨zAJ.refl _,?_⟩
  repeat (go_big_quiet_step (fail))
  refine wpQuiet_nil ?_
  go_wp2_with fail
  go_end0
  exact⟨rfl,K7.out.tr (zAU.drew w7 E.W),l7,H7.out.drew,HM7.out.kept (zAU.drew w7 E.W) HS.out⟩
 ·have hre:=HRE.out
  unfold reS at hre
  have hLn:L≠[]:=fun e=>by rw[if_pos e]at hre;cases hre;exact hz rfl
  rw[if_neg hLn]at hre
  have hpl:zBN E.ere L= .ok re:=by
   cases hq:zBN E.ere L with
   |error e=>rw[hq]at hre;cases hre
   |ok r=>rw[hq]at hre;cases hre;rfl
  obtain⟨f1,f2,f3⟩:=zLD HLU.out hpl
  have h0:0<re.length:=f1
  have HMO:=zG7 (w:=w7.drew) (ca:=cf) HPK.out (by rw[List.length_map];have:=HPL.out;have:=HMZ.out;omega)
  rw[List.length_map,←zHb]at HMO
  have HMO:=zQr HMO
  have HNV:=zQr (HNR.out.nv f2 f3).1
  have hr:=HR5.out
  have HZ:=zQr hz
  clear hre hLn hpl f1 f2 f3 hz
  refine zAA (X:=none) 19 [([0,1,2,3,4,5,6,7,8,9,10,12,13,14,15],11),([],16)] [17,18] (by kernel_rfl) (by kernel_rfl) rfl (fun _ _ _ _ _ h=>h) ?_
  simp only[zAK,zAC,zAE,zAD,zAB,List.getD_cons_zero,List.getD_cons_succ,List.drop_succ_cons,List.drop_nil]
  repeat (go_big_quiet_step (fail))
  refine wpQuiet_nil ?_
  go_wp2_with fail
  refine HMO.out.mono ?_;rintro e w8 ⟨rfl,hb8⟩
  have hk8:=zAJ.of_below (X:=none) hb8
  have HB8:=zQr ((zQs w7.heap.size w7).drew.trans hb8)
  clear hb8
  go_wp2_with fail
  refine⟨hk8,?_⟩
  clear hk8
  repeat (go_big_quiet_step (fail))
  refine wpQuiet_nil ?_
  have HGR:=zQr (zGF (cap:=cr) (HNV.out.below HB8.out))
  go_wp2_with fail
  refine HGR.out.mono ?_;rintro e w9 ⟨rfl,hb9⟩
  have hk9:=zAJ.of_below (X:=none) hb9
  have HB9:=zQr (HB8.out.trans (hb9.mono HB8.out.size))
  clear hb9
  go_wp2_with fail
  refine⟨hk9,?_⟩
  clear hk9
  have H9:=zQr (H7.out.below HB9.out)
  have HM9:=zQr (HM7.out.kept (zAU.bel (S:=E.W) HB9.out) HS.out)
  have K9:=zQr (K7.out.tr (zAU.bel HB9.out))
  by_cases hgm:(zBH re:Int)<zEf p
  ·rw[if_pos ⟨HZ.out,hgm⟩]at hr
   subst hr
   repeat (go_big_quiet_step (fail))
   refine wpQuiet_nil ?_
   go_wp2_with fail
   rw[←HKA.out]
   refine(zA8 (er:=44) H9.out HM9.out.p (by first|decide|exact HER.out)).mono ?_;rintro e w9 ⟨hp,hb9⟩
   have HR9:Hid (Res E w (.error (44,c7.at_)) [] e w9):=zQr ⟨K9.out.tr (zAU.bel hb9),_,_,hp,H9.out.below hb9⟩
   obtain⟨fb,rfl⟩:=HR9.out.bad
   clear hp hb9
   go_wp2_with fail
   exact⟨rfl,HR9.out⟩
  ·rw[if_neg (fun h=>hgm h.2)]at hr
   subst hr
   repeat (go_big_quiet_step (fail))
   refine wpQuiet_nil ?_
   go_wp2_with fail
   go_end0
   exact⟨rfl,K9.out,l7,H9.out,HM9.out⟩
end
end
section
open Go.RowKit
structure CmB (w:World) (b:Nat) (l:List Value):Prop where
 heap:w.heap[b]?=some (.cells l.toArray 36 (0,0))
 cl:zEq l
section
variable {w w':World} {b:Nat} {l:List Value}
theorem CmB.lt (h:CmB w b l):b<w.heap.size:=(zQz.1 h.heap).1
theorem CmB.cell (h:CmB w b l) (j:Nat):w.cell? ⟨b,j,none⟩=l[j]?:=(zQ6 _ _ j _ _ (0,0) h.heap).trans (by simp)
theorem CmB.fz (h:CmB w b l) (j:Nat):w.frozen? ⟨b,j,none⟩=false:=zAF h.heap j
theorem CmB.block (h:CmB w b l) (hb:w'.heap[b]?=w.heap[b]?):CmB w' b l:=⟨hb.trans h.heap,h.cl⟩
theorem CmB.below (h:CmB w b l) (hb:Below w.heap.size w w'):CmB w' b l:=h.block (hb.block b h.lt)
theorem CmB.other (h:CmB w b l) {c:Nat} (hc:b≠c) (o:Nat) (v:Value):CmB (w.setCell ⟨c,o,none⟩ v) b l:=h.block (zQ1 _ _ _ _ hc)
theorem CmB.set (h:CmB w b l) (i:Nat) {v:Value} (hv:v.oneCell'=true):CmB (w.setCell ⟨b,i,none⟩ v) b (l.set i v):=
 ⟨by
  rw[setCell_eq_setRow w b i _ _ _ v h.heap,setRow_heap w b _ _ _ _ h.heap]
  simp,h.cl.set i hv⟩
theorem CmB.new (hl:zEq l) (w:World):CmB (w.alloc (.cells l.toArray 36)) w.heap.size l:=⟨zQ4 w _,hl⟩
end
section
variable {w:World} {c:Cm} {L M:List Value}
end
end
end Go.Proofs.YtmaagpbjahjmhaaGreatDoor
