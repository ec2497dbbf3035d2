/- Parts: Yd Ye Yf Yg Yk Yua Za Zb. -/
import Derived.Test.YtmaagpbjahjmhaaGreatDoorQ37
import Derived.Test.YtmaagpbjahjmhaaGreatDoorQ34
import Derived.Test.YtmaagpbjahjmhaaGreatDoorQ28
import Derived.Test.YtmaagpbjahjmhaaGreatDoorQ14
import Derived.Test.YtmaagpbjahjmhaaGreatDoorQ46
import Derived.Laws.Cover3
import Derived.Laws.CopyOwn
import Derived.Deep.MidRow
import Derived.Laws.ResultCell
set_option maxHeartbeats 12800000
set_option maxRecDepth 100000
namespace Go.Proofs.YtmaagpbjahjmhaaGreatDoor
section
open Go.RowKit
theorem zDK:(Tryz.prog.info? 34).map (·.size)=some 256:=by kernel_rfl
def zDe (T:List Nat):Array Value:=(u8s T).toArray
theorem zCZ (T:List Nat):(zDe T).size=T.length:=by simp[zDe,u8s]
theorem zDw (T:List Nat):(zDe T).all (·.oneCell')=true:=by
 unfold zDe
 rw[←Array.all_toList,List.all_eq_true]
 exact zHJ T
theorem zCD {T:List Nat} (h:T.length=256):(Tryz.prog.info? 34).map (·.size)=some (zDe T).size:=by rw[zCZ,h];exact zDK
theorem zDL:(Tryz.zeroCells34:Array Value).size=256:=by kernel_rfl
theorem zBf:zBi.length=256:=by kernel_rfl
theorem zIG {d:Nat} (h:d<256):zBi[d]?=some d:=by unfold zBi;rw[List.getElem?_range h]
theorem zB7 {w:World} {g k:Nat} (cs:Array Value) (h:k≠g):(w.setRow g cs).heap[k]?=w.heap[k]?:=by
 simp[World.setRow,Array.getElem?_modify,Ne.symm h]
theorem zLA {w:World} :Calls Tryz.prog 217 #[] w fun e w'=>e= .returned (.agg (zDe zBi))∧Below w.heap.size w w':=by
 obtain⟨i0,hi,hz0,hz1,hz2⟩:=info_parts (zLf).hi
 have HB0:=zQk ((zQl w.heap.size w).alloc (zQm _) (.cells Tryz.zeroCells34 34))
 have HR0:=zQk (zQx w (.cells Tryz.zeroCells34 34))
 have HN0:Hid ((w.alloc (.cells Tryz.zeroCells34 34)).heap.size=w.heap.size+1):=zQk (by simp)
 go_enter Tryz.func217,Tryz.ntmps217
 go_upto_region 1 with fail
 obtain⟨W0,hW0⟩: ∃W,w.alloc (.cells Tryz.zeroCells34 34)=W:=⟨_,rfl⟩
 rw[hW0]at HB0 HR0 HN0 ⊢
 obtain⟨r0,hr0⟩: ∃a,w.heap.size=a:=⟨_,rfl⟩
 have HQ:=zQk hr0
 rw[hr0]at HR0 HN0 ⊢
 clear hW0 hr0
 go_wp2_with (at_make;refine wpList_make_full _ rfl _ _ 22 rfl W0.heap.size 5 i0 _ 1 Tryz.underlying22 hi hz0 hz1 .i64 .i64 256 256 256 rfl rfl (by omega) (by omega) (by rw[hz2];decide) (by unfold maxLen;decide) (Nat.le_refl _) ?_)
 intro w1 hown hgr
 obtain⟨B,hB⟩: ∃a,W0.heap.size=a:=⟨_,rfl⟩
 have HBR:=zQk (show r0<B by have:=HN0.out;omega)
 have hb1:=(zQl W0.heap.size W0).grown hgr (zQm _) (fun k hk=>by cases hk)
 rw[hB]at hown hb1 ⊢
 have HO1:=zQk hown
 have HB1:=zQk hb1
 clear hown hgr hi hz0 hz1 hz2 hB hb1
 go_wp2_with fail
 go_loopg [6] 256 (fun n iv wr=> ∃(d:Nat) (xs:List Value),iv= .int .i64 (d:Nat)∧n=256 - d∧d≤256∧wr.ownsRow B 5 1 (.slice (some ⟨B,0,none⟩) 256 256) 256 xs∧xs.take d=(u8s zBi).take d∧Below B W0 wr)
 case atStart=>exact⟨0,_,rfl,by omega,by omega,HO1.out,by simp,HB1.out⟩
 case round=>
  obtain⟨d,xs,rfl,hg2,hd,ho,ht,hb⟩:=hrel
  have HG:=zQk hg2
  have HO:=zQk ho
  have HT:=zQk ht
  have HB:=zQk hb
  have hgw:B<wr.heap.size:=(ho.lt _ rfl).2
  clear hg2 ht hb
  by_cases hlt:d<256
  ·have hlt':(d:Int)<256:=by omega
   obtain⟨_,g',hg',_,hcs,hfz⟩:=zB0 ho (by omega)
   cases hg'
   obtain⟨u0,_,z0⟩:=hcs d (by omega)
   have f0:=hfz d
   have HXL:=zQk (show xs.length=256*1 from ho.1)
   have HR:=zQk (zH3 [.int .u8 (d:Nat)] d HO.out)
   have HTT:=zQk (zF4 [.int .u8 (d:Nat)] xs d (by rw[HXL.out];simp;omega))
   have HPL:=zQk (zIG hlt)
   clear ho hcs hfz
   go_wp2_with fail
   go_roundg (256 - (d+1))
   case measure=>have:=HG.out;omega
   case rel=>exact⟨d+1,_,by go_num,rfl,by omega,HR.out,by rw[show(u8s zBi).take (d+1)=(u8s zBi).take d++[.int .u8 (d:Nat)]by rw[List.take_add_one];simp only[u8s,List.getElem?_map,HPL.out,Option.map_some,Option.toList_some],←HT.out,←HTT.out];rfl,HB.out.trans ((zQl B wr).setCell (p:=⟨B,d,none⟩) (zQm _) _)⟩
  ·obtain rfl:d=256:=by omega
   have hlt': ¬(256:Int)<256:=by omega
   have hxs:xs=u8s zBi:=by
    have h1:xs.length=256:=by simpa using ho.1
    have h2:=HT.out
    rw[List.take_of_length_le (by omega),List.take_of_length_le (by rw[zBt,zBf];omega)]at h2
    exact h2
   subst hxs
   have hra:wr.rangeAt B 0 (u8s zBi):=fun j v hv=>by
    obtain⟨_,g',hg',_,hcs,_⟩:=zB0 ho (by omega)
    cases hg'
    obtain⟨u,hu,hc⟩:=hcs j (by have:=(zQr.1 hv).1;rw[zBt,zBf]at this;omega)
    rw[hv]at hu
    cases hu
    rw[Nat.zero_add]
    exact hc
   have HRA:=zQk hra
   have hr:=(HB.out.block r0 HBR.out).trans HR0.out
   have HR:=zQk hr
   have hap: ∀W,(Instr.arrayAt 34 (.slice (some ⟨B,0,none⟩) 256 256)).run Tryz.prog W= .ok (.pointer (some ⟨B,0,none⟩)) W:=fun W=>run_arrayAt W _ _ 256 _ 256 256 Tryz.underlying34 (zQm _)
   clear ho hlt HT HO hra hr hgw
   go_wp2_with (first|refine wpList_load_mid rfl 34 _ rfl B 0 rfl (u8s zBi) _ HRA.out Tryz.underlying34 rfl (by rw[zBt,zBf];exact zDK) ?_|refine wpList_store_row rfl 34 _ _ rfl r0 (zDe zBi) rfl rfl 34 _ HR.out (zCD zBf) (by rw[zDL,zCZ,zBf]) (zDw _) ?_)
   refine zRJ (results_cell_row rfl _ _ r0 34 (zDe zBi) (0,0) _ rfl (setRow_heap _ _ _ _ _ _ HR.out) Tryz.underlying34 rfl (zCD zBf)) rfl ⟨rfl,?_⟩
   have hq:=HQ.out
   subst hq
   exact below_setRow (HB0.out.trans (HB.out.mono (by have:=HN0.out;have:=HBR.out;omega))) (zQm _) _
def zF5 (s:List Nat):List Value:=(List.range 256).map fun b=> .bool (decide (b∈s))
theorem zFi {s:List Nat} {b:Nat} (h:b<256):(zF5 s)[b]?=some (.bool (decide (b∈s))):=by
 unfold zF5
 rw[List.getElem?_map,List.getElem?_range h];rfl
theorem zMH {s:List Nat} {b:Nat} :(zF5 s).set b (.bool true)=zF5 (s++[b]):=by
 apply List.ext_getElem?
 intro i
 by_cases hi:i<256
 ·by_cases hib:b=i
  ·subst hib
   rw[List.getElem?_set_self (by simp[zF5];omega),zFi hi]
   simp
  ·rw[List.getElem?_set_ne hib,zFi hi,zFi hi]
   simp[Ne.symm hib]
 ·rw[zRK (by simp[zF5];omega),zRK (by simp[zF5];omega)]
theorem zMG:(Tryz.zeroCells225:Array Value)=(zF5 []).toArray:=by kernel_rfl
theorem zNi (T:List Nat) (b x:Nat):(u8s T).set b (.int .u8 (x:Nat))=u8s (T.set b x):=by simp[u8s,List.map_set]
def TbO (r:Option (List Nat)) (e:Ending):Prop:=
 match r with
 |none=> ∃v:Array Value,e= .returned (.tuple #[.agg v,.int .i64 60])∧v.size=256∧v.all (·.oneCell')=true
 |some t=>e= .returned (.tuple #[.agg (zDe t),.int .i64 0])∧t.length=256∧ ∀j,t.getD j 0<256
end
section
open Go.RowKit
theorem zBA {P:Program} {fn:Func} {p u:Tmp} {ty:TypeId} (h:fn.results= #[.cell p ty,.tmp u]) (tmps:Array Value) (w:World) (g:Nat) (t:TypeId) (cs:Array Value) (fr:Nat × Nat) (d:TypeDesc)
  (hp:tmps.getD p undef= .pointer (some ⟨g,0,none⟩)) (hg:w.heap[g]?=some (.cells cs t fr))
  (hu:P.underlying ty=some d) (hd:(match d with| .struct _| .array _ _=>true|_=>false)=true) (hi:(P.info? ty).map (·.size)=some cs.size):
  (results fn tmps).run P w= .ok (.tuple #[.agg cs,tmps.getD u undef]) w:=by
 have hp':tmps[p]?.getD undef= .pointer (some ⟨g,0,none⟩):=by simpa using hp
 simp[results,h,hp',asAddr,run_loadVar_row w g t ty cs fr d hg hu hd hi]
theorem zB3 {w:World} {g:Nat} {cs:Array Value} :(w.setRow g cs).heap.size=w.heap.size:=by simp[World.setRow]
theorem zDa.below {w w':World} {oa:Option Addr} {T:List Nat} (h:zDa w oa T) (hb:Below w.heap.size w w'):zDa w' oa T:=fun hp=>by
 obtain⟨g,o,h1,h2⟩:=h hp
 exact⟨g,o,h1,fun i hi=>(hb.cell (zRH w _ (h2 i hi))).trans (h2 i hi)⟩
theorem zNz: ∀j,zBi.getD j 0<256:=fun j=>by
 by_cases h:j<256
 ·rw[zQt,zIG h];exact h
 ·rw[zQt,zRK (by rw[zBf];omega)];decide
theorem zEr {w:World} {b:Nat} {l:List Value} {t:TypeId} (h:w.heap[b]?=some (.cells l.toArray t (0,0))) (k:Nat) (v:Value):(w.setCell ⟨b,k,none⟩ v).heap[b]?=some (.cells (l.set k v).toArray t (0,0)):=by
 simp only[World.setCell,Array.getElem?_modify,h,if_true,Option.map_some]
 simp
section
variable {w:World} {f g:List Nat} {oa ob:Option Addr} {ca cb:Nat}
theorem zL6 (hf:zDa w oa f) (hg:zDa w ob g) (hu: ∀b∈f,b<256) (hu2: ∀b∈g,b<256) (hl:f.length≤4294967296):
  Calls Tryz.prog 186 #[.slice oa f.length ca,.slice ob g.length cb] w fun e w'=>TbO (zQA f g) e∧Below w.heap.size w w':=by
 have HF:=zQk hf
 have HG0:=zQk hg
 have HU:=zQk hu
 have HU2:=zQk hu2
 have HB0:=zQk ((zQl w.heap.size w).alloc (zQm _) (.cells Tryz.zeroCells34 34))
 have HR0:=zQk (zQx w (.cells Tryz.zeroCells34 34))
 have HN0:Hid ((w.alloc (.cells Tryz.zeroCells34 34)).heap.size=w.heap.size+1):=zQk (by simp)
 obtain⟨R,hR⟩: ∃R,zQA f g=R:=⟨_,rfl⟩
 rw[hR]
 unfold zQA at hR
 have HR:=zQk hR
 clear hf hg hu hu2 hR
 go_enter Tryz.func186,Tryz.ntmps186
 go_upto_region 1 with fail
 obtain⟨W0,hW0⟩: ∃W,w.alloc (.cells Tryz.zeroCells34 34)=W:=⟨_,rfl⟩
 rw[hW0]at HB0 HR0 HN0 ⊢
 obtain⟨r0,hr0⟩: ∃a,w.heap.size=a:=⟨_,rfl⟩
 have HQ:=zQk hr0
 rw[hr0]at HR0 HN0 ⊢
 clear hW0 hr0
 have hr:=HR.out
 by_cases hlen:f.length=g.length
 case neg=>
  rw[if_neg hlen]at hr
  subst hr
  have q1:((f.length:Int) !=(g.length:Int))=true:=bne_iff_ne.2 (by omega)
  clear hlen hl
  go_wp2_with (refine wpList_store_row rfl 34 _ _ rfl r0 _ rfl rfl 34 _ HR0.out (by kernel_rfl) (by kernel_rfl) (by kernel_rfl) ?_)
  refine zRJ (zBA rfl _ _ r0 34 _ (0,0) _ rfl (setRow_heap _ _ _ _ _ _ HR0.out) Tryz.underlying34 rfl (by kernel_rfl)) rfl ⟨⟨_,rfl,by kernel_rfl,by kernel_rfl⟩,?_⟩
  have hq:=HQ.out
  subst hq
  exact below_setRow HB0.out (zQm _) _
 rw[if_pos hlen]at hr
 have HT:Hid (zPh (f.drop 0) (g.drop 0) [] zBi=R):=zQk hr
 have HLEN:=zQk hlen
 have q1:((f.length:Int) !=(g.length:Int))=false:=by rw[hlen];simp
 clear hlen hr HR
 go_wp2_with fail
 refine zLA.mono ?_;rintro e w1 ⟨rfl,hb1⟩
 have HB1:=zQk (HB0.out.trans (hb1.mono (by have:=HN0.out;have:=HQ.out;omega)))
 have HR1:=zQk ((hb1.block r0 (by have:=HN0.out;omega)).trans HR0.out)
 have HN1:=zQk (show r0<w1.heap.size by have:=HN0.out;have:=hb1.size;omega)
 have HS0:=zQk (zQx w1 (.cells Tryz.zeroCells34 34))
 clear hb1 q1
 go_upto_region 5 with (refine wpList_store_row rfl 34 _ _ rfl w1.heap.size (zDe zBi) rfl rfl 34 _ HS0.out (zCD zBf) (by rw[zDL,zCZ,zBf]) (zDw _) ?_)
 have HT0:Hid ((((w1.alloc (.cells Tryz.zeroCells34 34)).setRow w1.heap.size (zDe zBi)).alloc (.cells Tryz.zeroCells225 225)).heap[w1.heap.size]?=some (.cells (zDe zBi) 34 (0,0))):=zQk ((zQy _ _ (by rw[zB3];simp)).trans (setRow_heap _ _ _ _ _ _ HS0.out))
 have HS1:Hid ((((w1.alloc (.cells Tryz.zeroCells34 34)).setRow w1.heap.size (zDe zBi)).alloc (.cells Tryz.zeroCells225 225)).heap[w1.heap.size+1]?=some (.cells (zF5 []).toArray 225 (0,0))):=zQk (by
  have h:=zQx ((w1.alloc (.cells Tryz.zeroCells34 34)).setRow w1.heap.size (zDe zBi)) (.cells Tryz.zeroCells225 225)
  rw[zB3,show(w1.alloc (.cells Tryz.zeroCells34 34)).heap.size=w1.heap.size+1 by simp]at h
  rw[h,zMG])
 have HRR:Hid ((((w1.alloc (.cells Tryz.zeroCells34 34)).setRow w1.heap.size (zDe zBi)).alloc (.cells Tryz.zeroCells225 225)).heap[r0]?=some (.cells Tryz.zeroCells34 34 (0,0))):=zQk (by
  have h1:=HN1.out
  rw[zQy _ _ (by rw[zB3];simp;omega),zB7 _ (by omega),zQy _ _ h1]
  exact HR1.out)
 have HBB:Hid (Below w.heap.size w (((w1.alloc (.cells Tryz.zeroCells34 34)).setRow w1.heap.size (zDe zBi)).alloc (.cells Tryz.zeroCells225 225))):=zQk ((below_setRow (HB1.out.alloc HB1.out.size _) HB1.out.size _).alloc (by rw[zB3];have:=HB1.out.size;simp;omega) _)
 obtain⟨W2,hW2⟩: ∃W,((w1.alloc (.cells Tryz.zeroCells34 34)).setRow w1.heap.size (zDe zBi)).alloc (.cells Tryz.zeroCells225 225)=W:=⟨_,rfl⟩
 rw[hW2]at HT0 HS1 HRR HBB ⊢
 clear hW2 HS0 HR1
 obtain⟨b0,hb0⟩: ∃a,w1.heap.size=a:=⟨_,rfl⟩
 rw[hb0]at HT0 HS1 HN1 ⊢
 clear hb0 HB1 HB0
 go_wp2_with fail
 go_loopg [19] f.length (fun n iv wr=> ∃(d:Nat) (s t:List Nat),iv= .int .i64 (d:Nat)∧n=f.length - d∧d≤f.length∧Hid (zPh (f.drop d) (g.drop d) s t=R)∧Hid (t.length=256)∧Hid (∀j,t.getD j 0<256)∧wr.heap[b0]?=some (.cells (zDe t) 34 (0,0))∧wr.heap[b0+1]?=some (.cells (zF5 s).toArray 225 (0,0))∧wr.heap[r0]?=some (.cells Tryz.zeroCells34 34 (0,0))∧Below w.heap.size w wr)
 case atStart=>exact⟨0,[],zBi,rfl,by omega,by omega,HT,zQk zBf,zQk zNz,HT0.out,HS1.out,HRR.out,HBB.out⟩
 case round=>
 obtain⟨d,s,t,rfl,hgm,hd,HTN,HTL,HTU,ht,hs,hr,hb⟩:=hrel
 have HG:=zQk hgm
 have HTB:=zQk ht
 have HSE:=zQk hs
 have HRB:=zQk hr
 have HB:=zQk hb
 clear hgm ht hs hr hb HT HT0 HS1 HRR HBB
 by_cases hlt:d<f.length
 ·have hlt':(d:Int)<(f.length:Int):=by omega
  obtain⟨fb,fo,rfl,hfc⟩:=(HF.out.below HB.out) (by omega)
  have hfx:=hfc d hlt
  obtain⟨gb,go,rfl,hgc⟩:=HG0.out (by have:=HLEN.out;omega)
  have hgx0:=hgc d (by have:=HLEN.out;omega)
  have hgl:gb<w.heap.size:=zRH w _ hgx0
  have hgx:=(HB.out.cell (p:=⟨gb,go+d,none⟩) hgl).trans hgx0
  have hgn: ¬gb=b0+1:=by have:=HQ.out;have:=HN1.out;omega
  clear hgx0 hgl
  have hx256:f.getD d 0<256:=by rw[zQt,zQ1 hlt];exact HU.out _ (List.getElem_mem hlt)
  have hy256:g.getD d 0<256:=by
   have:=HLEN.out
   rw[zQt,zQ1 (show d<g.length by omega)];exact HU2.out _ (List.getElem_mem (by omega))
  have hst:=HTN.out
  rw[List.drop_eq_getElem_cons hlt,zPh,List.drop_drop,show(g.drop d).getD 0 0=g.getD d 0 by rw[zQt,List.getElem?_drop,zQt,Nat.add_zero],
   show f[d]=f.getD d 0 by rw[zQt,zQ1 hlt];rfl]at hst
  generalize f.getD d 0=x at hfx hx256 hst
  generalize g.getD d 0=y at hgx hy256 hst
  have HST:=zQk hst
  have HX:=zQk hx256
  have HY:=zQk hy256
  have HI:=zQk (show d<f.length from hlt)
  have hlg:(d:Int)<(g.length:Int):=by have:=HLEN.out;omega
  have hsx:wr.cell? ⟨b0+1,x,none⟩=some (.bool (decide (x∈s))):=(zQz _ _ x _ _ (0,0) HSE.out).trans (by simpa using zFi hx256)
  have fsx:wr.frozen? ⟨b0+1,x,none⟩=false:=zAF HSE.out x
  clear hfc hgc hst hlt
  by_cases hm:x∈s
  ·rw[zQv hm]at hsx
   have hr:=HST.out
   rw[if_pos hm]at hr
   subst hr
   clear hm hgx hlg hgn
   go_wp2_with (refine wpList_store_row rfl 34 _ _ rfl r0 _ rfl rfl 34 _ HRB.out (by kernel_rfl) (by kernel_rfl) (by kernel_rfl) ?_)
   refine zRJ (zBA rfl _ _ r0 34 _ (0,0) _ rfl (setRow_heap _ _ _ _ _ _ HRB.out) Tryz.underlying34 rfl (by kernel_rfl)) rfl ⟨⟨_,rfl,by kernel_rfl,by kernel_rfl⟩,?_⟩
   exact below_setRow HB.out (Nat.le_of_eq HQ.out) _
  ·rw[zQw hm]at hsx
   have hr:=HST.out
   rw[if_neg hm]at hr
   have HR2:=zQk hr
   have htx0:wr.cell? ⟨b0,x,none⟩=some (.int .u8 (t.getD x 0:Nat)):=(zQz _ _ x _ _ (0,0) HTB.out).trans (by
    have:=HTL.out
    have:=HX.out
    simp[zDe,u8s,List.getD_eq_getElem?_getD,List.getElem?_eq_getElem (show x<t.length by omega)])
   have ftx:wr.frozen? ⟨b0,x,none⟩=false:=frozen_of_row _ _ _ _ _ HTB.out
   have HT2:Hid (((wr.setCell ⟨b0+1,x,none⟩ (.bool true)).setCell ⟨b0,x,none⟩ (.int .u8 (y:Nat))).heap[b0]?=some (.cells (zDe (t.set x y)) 34 (0,0))):=zQk (by
    have:=zEr (w:=wr.setCell ⟨b0+1,x,none⟩ (.bool true)) (b:=b0) (l:=u8s t) (t:=34) ((zQu _ _ _ _ (by show b0≠b0+1;omega)).trans HTB.out) x (.int .u8 (y:Nat))
    rw[zNi]at this
    exact this)
   have HS2:Hid (((wr.setCell ⟨b0+1,x,none⟩ (.bool true)).setCell ⟨b0,x,none⟩ (.int .u8 (y:Nat))).heap[b0+1]?=some (.cells (zF5 (s++[x])).toArray 225 (0,0))):=zQk (by
    rw[zQu _ _ _ _ (by show b0+1≠b0;omega),←zMH]
    exact zEr HSE.out x (.bool true))
   have HRR2:Hid (((wr.setCell ⟨b0+1,x,none⟩ (.bool true)).setCell ⟨b0,x,none⟩ (.int .u8 (y:Nat))).heap[r0]?=some (.cells Tryz.zeroCells34 34 (0,0))):=zQk (by
    have:=HN1.out
    rw[zQu _ _ _ _ (by show r0≠b0;omega),zQu _ _ _ _ (by show r0≠b0+1;omega)]
    exact HRB.out)
   have HB2:Hid (Below w.heap.size w ((wr.setCell ⟨b0+1,x,none⟩ (.bool true)).setCell ⟨b0,x,none⟩ (.int .u8 (y:Nat)))):=zQk ((HB.out.setCell (p:=⟨b0+1,x,none⟩) (by have:=HN1.out;have:=HQ.out;show w.heap.size≤b0+1;omega) _).setCell (p:=⟨b0,x,none⟩) (by have:=HN1.out;have:=HQ.out;show w.heap.size≤b0;omega) _)
   have HTU2:Hid (∀j,(t.set x y).getD j 0<256):=zQk (fun j=>by
    rw[zQt,List.getElem?_set]
    split
    ·split
     ·exact HY.out
     ·decide
    ·rw[←zQt];exact HTU.out j)
   clear hm hr
   go_wp2_with fail
   go_roundg (f.length - (d+1))
   case measure=>have:=HG.out;have:=HI.out;omega
   case rel=>exact⟨d+1,s++[x],t.set x y,by go_num,rfl,HI.out,HR2,zQk (by rw[List.length_set];exact HTL.out),HTU2,HT2.out,HS2.out,HRR2.out,HB2.out⟩
 ·obtain rfl:d=f.length:=by omega
  have hlt': ¬(f.length:Int)<(f.length:Int):=by omega
  have hst:=HTN.out
  rw[List.drop_length,zPh]at hst
  subst hst
  have HRA:Hid (wr.rangeAt b0 0 (u8s t)):=zQk (fun j v hv=>by
   rw[Nat.zero_add]
   exact(zQz _ _ j _ _ (0,0) HTB.out).trans (by simpa [zDe]using hv))
  clear hlt
  go_wp2_with (first|refine wpList_load_mid rfl 34 _ rfl b0 0 rfl (u8s t) _ HRA.out Tryz.underlying34 rfl (by rw[zBt,HTL.out];exact zDK) ?_|refine wpList_store_row rfl 34 _ _ rfl r0 (zDe t) rfl rfl 34 _ HRB.out (zCD HTL.out) (by rw[zDL,zCZ,HTL.out]) (zDw _) ?_)
  refine zRJ (zBA rfl _ _ r0 34 (zDe t) (0,0) _ rfl (setRow_heap _ _ _ _ _ _ HRB.out) Tryz.underlying34 rfl (zCD HTL.out)) rfl ⟨⟨rfl,HTL.out,HTU.out⟩,?_⟩
  exact below_setRow HB.out (Nat.le_of_eq HQ.out) _
end
end
section
open Go.RowKit
theorem zDz: ∀(L:List Mk) (e:Bool) (acc t:List Nat),zE3 L e acc=some t→(∀b∈acc,b<256)→(∀m∈L,m.b<256)→(∀b∈t,b<256)∧t.length≤acc.length+L.length
 |[],e,acc,t,h,h1,h2=>by
  unfold zE3 at h
  split at h
  ·cases h
  ·cases h;exact⟨h1,by simp⟩
 |m::L,true,acc,t,h,h1,h2=>by
  have hm:=h2 m (by simp)
  unfold zE3 at h
  split at h
  ·have:=zDz L _ _ t h (fun b hb=>by rcases zRF.1 hb with hb|hb;exact h1 b hb;simp at hb;omega) (fun x hx=>h2 x (by simp[hx]))
   exact⟨this.1,by have:=this.2;simp at this ⊢;omega⟩
  ·split at h
   ·cases h
   ·have:=zDz L _ _ t h (fun b hb=>by rcases zRF.1 hb with hb|hb;exact h1 b hb;simp at hb;omega) (fun x hx=>h2 x (by simp[hx]))
    exact⟨this.1,by have:=this.2;simp at this ⊢;omega⟩
 |m::L,false,acc,t,h,h1,h2=>by
  have hm:=h2 m (by simp)
  unfold zE3 at h
  split at h
  ·have:=zDz L _ _ t h h1 (fun x hx=>h2 x (by simp[hx]))
   exact⟨this.1,by have:=this.2;simp at this ⊢;omega⟩
  ·have:=zDz L _ _ t h (fun b hb=>by rcases zRF.1 hb with hb|hb;exact h1 b hb;simp at hb;omega) (fun x hx=>h2 x (by simp[hx]))
   exact⟨this.1,by have:=this.2;simp at this ⊢;omega⟩
theorem MkV.mem {w:World} {oa:Option Addr} {ca:Nat} {L:List Mk} (h:MkV w oa ca L): ∀m∈L,m.b<256:=fun m hm=>by
 obtain⟨i,hi,rfl⟩:=List.getElem_of_mem hm
 have:=h.u i hi
 simpa [zAH,List.getD_eq_getElem?_getD,hi]using this
section
variable {w:World} {L M:List Mk} {oa ob:Option Addr} {ca cb:Nat}
theorem zJC (h1:MkV w oa ca L) (h2:MkV w ob cb M) (l1:L.length≤4294967296) (l2:M.length≤4294967296):
  Calls Tryz.prog 147 #[.slice oa L.length ca,.slice ob M.length cb] w fun e w'=>TbO (zD9 L M) e∧Below w.heap.size w w':=by
 have H2:=zQk h2
 have HL1:=zQk l1
 have HL2:=zQk l2
 have HU1:=zQk h1.mem
 have HU2:=zQk h2.mem
 have HB0:=zQk ((zQl w.heap.size w).alloc (zQm _) (.cells Tryz.zeroCells34 34))
 have HR0:=zQk (zQx w (.cells Tryz.zeroCells34 34))
 have HS1:=zQk (zH9 (h1.below ((zQl w.heap.size w).alloc (zQm _) (.cells Tryz.zeroCells34 34))) l1)
 have HN0:Hid ((w.alloc (.cells Tryz.zeroCells34 34)).heap.size=w.heap.size+1):=zQk (by simp)
 obtain⟨R,hR⟩: ∃R,zD9 L M=R:=⟨_,rfl⟩
 rw[hR]
 unfold zD9 at hR
 have HR:=zQk hR
 clear h1 h2 l1 l2 hR
 go_enter Tryz.func147,Tryz.ntmps147
 go_upto_region 1 with fail
 obtain⟨W0,hW0⟩: ∃W,w.alloc (.cells Tryz.zeroCells34 34)=W:=⟨_,rfl⟩
 rw[hW0]at HB0 HR0 HN0 HS1 ⊢
 obtain⟨r0,hr0⟩: ∃a,w.heap.size=a:=⟨_,rfl⟩
 have HQ:=zQk hr0
 rw[hr0]at HR0 HN0 ⊢
 clear hW0 hr0
 go_wp2_with fail
 refine HS1.out.mono ?_;rintro e w1 ⟨hs1,hb1⟩
 have HB1:=zQk (HB0.out.trans (hb1.mono HB0.out.size))
 have HR1:=zQk ((hb1.block r0 (by have:=HN0.out;omega)).trans HR0.out)
 have HS2:=zQk (zH9 (H2.out.below HB1.out) HL2.out)
 clear hb1 HS1
 cases hq1:zJM L with
 |none=>
  rw[hq1]at hs1
  obtain⟨v1,rfl⟩:=hs1
  have hr:=HR.out
  rw[hq1]at hr
  simp only at hr
  subst hr
  clear hq1
  go_wp2_with fail
  refine HS2.out.mono ?_;rintro e w2 ⟨hs2,hb2⟩
  have HB2:=zQk (HB1.out.trans (hb2.mono HB1.out.size))
  have HR2:=zQk ((hb2.block r0 (by have:=(zQs.1 HR1.out).1;omega)).trans HR1.out)
  obtain⟨v2,x2,rfl⟩: ∃v x,e= .returned (.tuple #[v,.bool x]):=by
   cases hq2:zJM M with
   |none=>rw[hq2]at hs2;obtain⟨v,rfl⟩:=hs2;exact⟨v,false,rfl⟩
   |some t=>rw[hq2]at hs2;obtain⟨v,rfl,_⟩:=hs2;exact⟨v,true,rfl⟩
  clear hs2 hb2 HS2
  go_wp2_with (refine wpList_store_row rfl 34 _ _ rfl r0 _ rfl rfl 34 _ HR2.out (by kernel_rfl) (by kernel_rfl) (by kernel_rfl) ?_)
  refine zRJ (zBA rfl _ _ r0 34 _ (0,0) _ rfl (setRow_heap _ _ _ _ _ _ HR2.out) Tryz.underlying34 rfl (by kernel_rfl)) rfl ⟨⟨_,rfl,by kernel_rfl,by kernel_rfl⟩,?_⟩
  exact below_setRow HB2.out (Nat.le_of_eq HQ.out) _
 |some f=>
  rw[hq1]at hs1
  obtain⟨v1,rfl,o1,c1,rfl,hf1⟩:=hs1
  have HF1:=zQk hf1
  have hfu:=zDz L _ _ f hq1 (fun b hb=>by cases hb) HU1.out
  have HFU:=zQk hfu
  have hr:=HR.out
  rw[hq1]at hr
  have HR':=zQk hr
  clear hq1 hf1 hfu hr
  go_wp2_with fail
  refine HS2.out.mono ?_;rintro e w2 ⟨hs2,hb2⟩
  have HB2:=zQk (HB1.out.trans (hb2.mono HB1.out.size))
  have HR2:=zQk ((hb2.block r0 (by have:=(zQs.1 HR1.out).1;omega)).trans HR1.out)
  have HT1:=zQk ((zDU HF1.out).1.below hb2)
  clear hb2 HS2
  cases hq2:zJM M with
  |none=>
   rw[hq2]at hs2
   obtain⟨v2,rfl⟩:=hs2
   have hr:=HR'.out
   rw[hq2]at hr
   simp only at hr
   subst hr
   clear hq2
   go_wp2_with (refine wpList_store_row rfl 34 _ _ rfl r0 _ rfl rfl 34 _ HR2.out (by kernel_rfl) (by kernel_rfl) (by kernel_rfl) ?_)
   refine zRJ (zBA rfl _ _ r0 34 _ (0,0) _ rfl (setRow_heap _ _ _ _ _ _ HR2.out) Tryz.underlying34 rfl (by kernel_rfl)) rfl ⟨⟨_,rfl,by kernel_rfl,by kernel_rfl⟩,?_⟩
   exact below_setRow HB2.out (Nat.le_of_eq HQ.out) _
  |some g=>
   rw[hq2]at hs2
   obtain⟨v2,rfl,o2,c2,rfl,hg2⟩:=hs2
   have hgu:=zDz M _ _ g hq2 (fun b hb=>by cases hb) HU2.out
   have hr:=HR'.out
   rw[hq2]at hr
   simp only at hr
   have HNEW:=zQk (zL6 (ca:=c1) (cb:=c2) HT1.out (zDU hg2).1 HFU.out.1 hgu.1 (by have:=HFU.out.2;have:=HL1.out;simp at *; omega))
   rw[hr]at HNEW
   clear hq2 hg2 hgu hr
   go_wp2_with fail
   refine HNEW.out.mono ?_;rintro e w3 ⟨ht3,hb3⟩
   have HB3:=zQk (HB2.out.trans (hb3.mono HB2.out.size))
   have HR3:=zQk ((hb3.block r0 (by have:=(zQs.1 HR2.out).1;omega)).trans HR2.out)
   clear hb3 HNEW
   cases R with
   |none=>
    obtain⟨v3,rfl,hz3,hn3⟩:=ht3
    have HZ3:=zQk hz3
    have HN3:=zQk hn3
    clear hz3 hn3
    go_wp2_with (refine wpList_store_row rfl 34 _ _ rfl r0 v3 rfl rfl 34 _ HR3.out (by rw[HZ3.out];exact zDK) (by rw[zDL,HZ3.out]) HN3.out ?_)
    refine zRJ (zBA rfl _ _ r0 34 v3 (0,0) _ rfl (setRow_heap _ _ _ _ _ _ HR3.out) Tryz.underlying34 rfl (by rw[HZ3.out];exact zDK)) rfl ⟨⟨_,rfl,HZ3.out,HN3.out⟩,?_⟩
    exact below_setRow HB3.out (Nat.le_of_eq HQ.out) _
   |some t=>
    obtain⟨rfl,htl,htu⟩:=ht3
    have HTL:=zQk htl
    have HTU:=zQk htu
    clear htl htu
    go_wp2_with (refine wpList_store_row rfl 34 _ _ rfl r0 (zDe t) rfl rfl 34 _ HR3.out (zCD HTL.out) (by rw[zDL,zCZ,HTL.out]) (zDw _) ?_)
    refine zRJ (zBA rfl _ _ r0 34 (zDe t) (0,0) _ rfl (setRow_heap _ _ _ _ _ _ HR3.out) Tryz.underlying34 rfl (zCD HTL.out)) rfl ⟨⟨rfl,HTL.out,HTU.out⟩,?_⟩
    exact below_setRow HB3.out (Nat.le_of_eq HQ.out) _
end
end
section
open Go.RowKit
theorem zF7 {P:Program} (w:World) (g o:Nat) (t ty:TypeId) (old cells:Array Value) (hg:w.heap[g]?=some (.cells old t (0,0))) (hi:(P.info? ty).map (·.size)=some cells.size)
  (ho:o+cells.size≤old.size) (h1:cells.all (·.oneCell')=true):
  (storeVar ty ⟨g,o,none⟩ (.agg cells)).run P w= .ok () (w.setRow g (old.toList.take o++cells.toList++old.toList.drop (o+cells.size)).toArray):=by
 have:=run_storeCells_at P g o t cells.toList 0 old w hg (by simpa using ho) (fun v hv=>(Array.all_eq_true_iff_forall_mem.1 h1) v (by simpa using hv))
 cases hq:P.info? ty with
 |none=>simp[hq]at hi
 |some i=>
  have hs:cells.size=i.size:=by simp[hq]at hi;omega
  simp[storeVar,sizeOf,typeInfo,hq,Value.cells,hs,this]
theorem zFr {P:Program} {ops:Array Oper} {rest:List Oper} {op:Oper} {a:Act} {w:World} {Q:Exit→Act→World→Prop} (hgd:op.guard=none) (ty:TypeId) (x y:Operand) (hop:op.op= .store ty x y)
  (g o:Nat) (cells:Array Value) (hx:a.eval x= .pointer (some ⟨g,o,none⟩)) (hy:a.eval y= .agg cells)
  (t:TypeId) (old:Array Value) (hg:w.heap[g]?=some (.cells old t (0,0))) (hi:(P.info? ty).map (·.size)=some cells.size)
  (ho:o+cells.size≤old.size) (h1:cells.all (·.oneCell')=true) (W:World) (hW:w.setRow g (old.toList.take o++cells.toList++old.toList.drop (o+cells.size)).toArray=W)
  (h:wpList P ops Q rest (a.put op.dst undef) W):wpList P ops Q (op::rest) a w:=
 wpList_plain hgd fun _ hK=>by
  unfold Oper.wp execOp
  simp only[hop,hx,hy,Instr.storeAt,Instr.sureAddr,Sem.run_bind,Sem.run_pure,Result.andThen_ok,zF7 w g o t ty old cells hg hi ho h1,hW]
  exact hK _ _ h
section
variable {w w':World} {E:PE} {i j k n:Nat} {l l':List Value} {base:Nat} {c:Cm}
theorem RS.row (h:RS E w i l) (hl:zFb l'):RS E (w.setRow E.cb l'.toArray) i l':=
 {h with
  v:=h.v.block (zB7 _ h.wc) (fun hp g hg _=>zB7 _ (h.tc hp g hg)) (Nat.le_of_eq zB3.symm)
  r:=(zB7 _ h.rc).trans h.r
  c:=setRow_heap _ _ _ _ _ _ h.c
  cl:=hl
  g:=by
   obtain⟨n,h1,hx,hy,hw,hc⟩:=h.lo
   exact h.g.kept (S:=fun k=>k=E.cb) ⟨rfl,rfl,rfl,Nat.le_of_eq zB3.symm,fun _ _ hk=>zB7 _ hk⟩ h1 hx hy fun k hk e=>by have e':k=E.cb:=e;omega }
theorem zAQ.putRow (E:PE) (w:World) (cs:Array Value):zAQ w (w.setRow E.cb cs) E.W:=⟨rfl,rfl,rfl,Nat.le_of_eq zB3.symm,fun _ _ hk=>zB7 _ fun e=>hk (.inr e)⟩
theorem zI5 (hl:l.length=272) (xs:List Value) (hk:k<16):(l.take 16++xs)[k]?=l[k]?:=by
 rw[zQ5 (by rw[List.length_take];omega),List.getElem?_take,if_pos hk]
theorem zFb.tab (h:zFb l) {t:List Nat} (ht:t.length=256):zFb (l.take 16++u8s t):=
 ⟨by rw[zQ4,List.length_take,zBt,h.len,ht];rfl,fun v hv=>(zRF.1 hv).elim (fun hv=>h.one v (List.mem_of_mem_take hv)) (zHJ t v)⟩
theorem CmM.setTab (h:CmM w base l c) (hl:l.length=272) {t:List Nat} (ht:t.length=256):CmM w base (l.take 16++u8s t) { c with tb:=t } where
 a:=⟨(zI5 hl _ (by omega)).trans h.a.1,(zI5 hl _ (by omega)).trans h.a.2.1,h.a.2.2.imp fun _ e=>⟨(zI5 hl _ (by omega)).trans e.1,e.2⟩⟩
 b:=⟨(zI5 hl _ (by omega)).trans h.b.1,(zI5 hl _ (by omega)).trans h.b.2.1,h.b.2.2.imp fun _ e=>⟨(zI5 hl _ (by omega)).trans e.1,e.2⟩⟩
 nt:=(zI5 hl _ (by omega)).trans h.nt
 nm:=(zI5 hl _ (by omega)).trans h.nm
 p:=(zI5 hl _ (by omega)).trans h.p
 tx:=h.tx.imp fun _ e=>⟨(zI5 hl _ (by omega)).trans e.1,e.2⟩
 re:=h.re.imp fun _ e=>⟨(zI5 hl _ (by omega)).trans e.1,e.2⟩
 fi:=h.fi.imp fun _ e=>⟨(zI5 hl _ (by omega)).trans e.1,e.2⟩
 ct:=(zI5 hl _ (by omega)).trans h.ct
 al:=(zI5 hl _ (by omega)).trans h.al
 pr:=(zI5 hl _ (by omega)).trans h.pr
 wr:=(zI5 hl _ (by omega)).trans h.wr
 tb:=fun k hk=>by
  rw[zQ6 (by rw[List.length_take];omega),List.length_take,show 16+k - min 16 l.length=k by omega]
  simp[u8s,List.getD_eq_getElem?_getD,show k<t.length by omega]
theorem Mks.kept {v:Value} {L:List Mk} (h:Mks w base v L) {S:Nat→Prop} (k:zAQ w w' S) (hS: ∀k,base≤k→ ¬S k):Mks w' base v L:=k.row h fun b hb=>hS b (h.lt b hb).1
theorem zGs {T:List Nat} {d:Nat} {ends:Bool} (hd:d<256) (hT: ∀j,T.getD j 0<256) {r:List Mk × Nat} (h:zAu T d ends i=some r): ∀i,i<r.1.length→(zAH r.1 i).b<256:=fun _ hi=>zHT hd hT h _ (zFI hi)
theorem zJX (h:RS E w i l) (hm:CmM w base l c) (hb:E.wb<base∧E.cb<base) (hbw:base≤w.heap.size):
  Calls Tryz.prog 92 #[.pointer (some ⟨E.rb,0,none⟩),.pointer (some ⟨E.cb,0,none⟩)] w (HdO E w base (zB5 E.T i c)):=by
 have HS:=zQk (zO4 (E:=E) hb)
 have HBW:=zQk hbw
 have H:=zQk h
 have HM:=zQk hm
 have K:=zQk (zAQ.refl w E.W)
 obtain⟨R,hR⟩: ∃R,zB5 E.T i c=R:=⟨_,rfl⟩
 rw[hR]
 unfold zB5 at hR
 have hUT:=zQk h.v.u
 by_cases hi:E.T.length≤i
 ·rw[if_pos hi]at hR
  subst hR
  have HD:=zQk (zIq H.out HM.out.p hi)
  clear h hm hb hbw hi
  go_enter Tryz.func92,Tryz.ntmps92
  go_wp2_with fail
  refine HD.out.mono ?_;rintro e w9 hp
  have HR9:Hid (Res E w (.error (70,c.at_)) [] e w9):=zQk (Res.up K.out hp)
  obtain⟨fb,rfl⟩:=HR9.out.bad
  clear hp
  go_wp2_with fail
  exact⟨rfl,HR9.out⟩
 rw[if_neg hi]at hR
 have HD:=zQk (zKX H.out (by omega))
 obtain⟨d,hd⟩: ∃d,E.T.getD i 0=d:=⟨_,rfl⟩
 have hd256:d<256:=by rw[←hd];exact h.v.u i
 rw[hd]at hR HD
 have HDD:=zQk hd256
 have HR:=zQk hR
 clear h hm hb hbw hi hR hd hd256
 go_enter Tryz.func92,Tryz.ntmps92
 go_wp2_with fail
 refine HD.out.mono ?_;rintro e w1 ⟨rfl,h1,k1⟩
 have H1:=zQk h1
 have HM1:=zQk (HM.out.kept k1 HS.out)
 have K1:=zQk k1
 clear h1 k1 HD
 cases hq1:zAu E.T d false (i+1)with
 |none=>
  have hr:=HR.out
  rw[hq1]at hr
  subst hr
  have HP:=zQk (zFk H1.out HM1.out.p HDD.out hq1)
  clear hq1
  go_wp2_with fail
  refine HP.out.mono ?_;rintro e w9 hp
  have HR9:Hid (Res E w (.error (70,c.at_)) [] e w9):=zQk (Res.up K1.out hp)
  obtain⟨fb,rfl⟩:=HR9.out.bad
  clear hp
  go_wp2_with fail
  exact⟨rfl,HR9.out⟩
 |some r1=>
  obtain⟨L,j1⟩:=r1
  have hr:=HR.out
  rw[hq1]at hr
  simp only at hr
  have HR1:=zQk hr
  have HLU:=zQk (zGs HDD.out hUT.out hq1)
  have HLL:=zQk (zBG hq1)
  have HP:=zQk (zHS H1.out HDD.out hq1)
  clear hq1 hr HR
  go_wp2_with fail
  refine HP.out.mono ?_;rintro e w2 ⟨⟨v2,rfl,hm2⟩,h2,k2⟩
  obtain⟨o2,c2,rfl⟩:=hm2.form
  have HK2:=zQk hm2
  have H2:=zQk h2
  have HM2:=zQk (HM1.out.kept k2 HS.out)
  have K2:=zQk (K1.out.tr k2)
  clear h2 k2 hm2 HP
  cases hq2:zAu E.T d false j1 with
  |none=>
   have hr:=HR1.out
   rw[hq2]at hr
   subst hr
   have HP:=zQk (zFk H2.out HM2.out.p HDD.out hq2)
   clear hq2
   go_wp2_with fail
   refine HP.out.mono ?_;rintro e w9 hp
   have HR9:Hid (Res E w (.error (70,c.at_)) [] e w9):=zQk (Res.up K2.out hp)
   obtain⟨fb,rfl⟩:=HR9.out.bad
   clear hp
   go_wp2_with fail
   exact⟨rfl,HR9.out⟩
  |some r2=>
   obtain⟨M,j2⟩:=r2
   have hr:=HR1.out
   rw[hq2]at hr
   simp only at hr
   have HR2:=zQk hr
   have HMU:=zQk (zGs HDD.out hUT.out hq2)
   have HML:=zQk (zBG hq2)
   have HP:=zQk (zHS H2.out HDD.out hq2)
   clear hq2 hr HR1
   go_wp2_with fail
   refine HP.out.mono ?_;rintro e w3 ⟨⟨v3,rfl,hm3⟩,h3,k3⟩
   obtain⟨o3,c3,rfl⟩:=hm3.form
   have hm2:Mks w3 w1.heap.size (.slice o2 L.length c2) L:=HK2.out.kept k3 fun k hk hE=>by
    have:=H1.out.lts
    rcases hE with hE|hE<;>omega
   obtain⟨oa,ca,he,hv2⟩:=hm2.toV HLU.out
   cases he
   obtain⟨ob,cb',he,hv3⟩:=hm3.toV HMU.out
   cases he
   have H3:=zQk h3
   have HM3:=zQk (HM2.out.kept k3 HS.out)
   have K3:=zQk (K2.out.tr k3)
   have HTP:=zQk (zJC hv2 hv3 (by have:=HLL.out;have:=H3.out.v.len;omega) (by have:=HML.out;have:=H3.out.v.len;omega))
   clear h3 k3 hm3 hm2 HP HK2 hv2 hv3
   go_wp2_with fail
   refine HTP.out.mono ?_;rintro e w4 ⟨ht4,hb4⟩
   have h4:=H3.out.below hb4
   have hb5:=(zQl w4.heap.size w4).alloc (zQm _) (.cells Tryz.zeroCells34 34)
   have HM4:=zQk (HM3.out.kept (zAQ.bel (S:=E.W) hb4) HS.out)
   have K4:=zQk (K3.out.tr (zAQ.bel hb4))
   have H4:=zQk h4
   have HZ:=zQk (zQx w4 (.cells Tryz.zeroCells34 34))
   clear hb4 h4 HTP hb5
   cases hq3:zD9 L M with
   |none=>
    rw[hq3]at ht4
    have hr:=HR2.out
    rw[hq3]at hr
    subst hr
    obtain⟨v4,rfl,hz4,hn4⟩:=ht4
    have HZ4:=zQk hz4
    have HN4:=zQk hn4
    clear hq3 hz4 hn4
    go_upto_region 4 with (refine wpList_store_row rfl 34 _ _ rfl w4.heap.size v4 rfl rfl 34 _ HZ.out (by rw[HZ4.out];exact zDK) (by rw[zDL,HZ4.out]) HN4.out ?_)
    have HB5:Hid (Below w4.heap.size w4 ((w4.alloc (.cells Tryz.zeroCells34 34)).setRow w4.heap.size v4)):=zQk (below_setRow ((zQl _ _).alloc (zQm _) _) (zQm _) _)
    obtain⟨W5,hW5⟩: ∃W,(w4.alloc (.cells Tryz.zeroCells34 34)).setRow w4.heap.size v4=W:=⟨_,rfl⟩
    rw[hW5]at HB5 ⊢
    clear hW5
    have H5:=zQk (H4.out.below HB5.out)
    have HM5:=zQk (HM4.out.kept (zAQ.bel (S:=E.W) HB5.out) HS.out)
    have K5:=zQk (K4.out.tr (zAQ.bel HB5.out))
    go_wp2_with fail
    refine(zA6 (er:=60) H5.out HM5.out.p (by decide)).mono ?_;rintro e w9 ⟨hp,hb9⟩
    have HR9:Hid (Res E w (.error (60,c.at_)) [] e w9):=zQk ⟨K5.out.tr (zAQ.bel hb9),_,_,hp,H5.out.below hb9⟩
    obtain⟨fb,rfl⟩:=HR9.out.bad
    clear hp hb9
    go_wp2_with fail
    exact⟨rfl,HR9.out⟩
   |some t=>
    rw[hq3]at ht4
    have hr:=HR2.out
    rw[hq3]at hr
    simp only at hr
    have HRR:=zQk hr
    obtain⟨rfl,htl,htu⟩:=ht4
    have HTL:=zQk htl
    clear hq3 htl htu hr
    go_upto_region 4 with (refine wpList_store_row rfl 34 _ _ rfl w4.heap.size (zDe t) rfl rfl 34 _ HZ.out (zCD HTL.out) (by rw[zDL,zCZ,HTL.out]) (zDw _) ?_)
    have HB5:Hid (Below w4.heap.size w4 ((w4.alloc (.cells Tryz.zeroCells34 34)).setRow w4.heap.size (zDe t))):=zQk (below_setRow ((zQl _ _).alloc (zQm _) _) (zQm _) _)
    have HZ5:Hid (((w4.alloc (.cells Tryz.zeroCells34 34)).setRow w4.heap.size (zDe t)).heap[w4.heap.size]?=some (.cells (zDe t) 34 (0,0))):=zQk (setRow_heap _ _ _ _ _ _ HZ.out)
    obtain⟨W5,hW5⟩: ∃W,(w4.alloc (.cells Tryz.zeroCells34 34)).setRow w4.heap.size (zDe t)=W:=⟨_,rfl⟩
    rw[hW5]at HB5 HZ5 ⊢
    clear hW5
    have H5:=zQk (H4.out.below HB5.out)
    have HM5:=zQk (HM4.out.kept (zAQ.bel (S:=E.W) HB5.out) HS.out)
    have K5:=zQk (K4.out.tr (zAQ.bel HB5.out))
    obtain⟨b5,hb5⟩: ∃a,w4.heap.size=a:=⟨_,rfl⟩
    rw[hb5]at HZ5 ⊢
    clear hb5 HB5 HZ
    go_wp2_with fail
    refine zGP.mono ?_;rintro e w9 ⟨rfl,rfl⟩
    have HRA:Hid (W5.rangeAt b5 0 (u8s t)):=zQk (fun j v hv=>by
     rw[Nat.zero_add]
     exact(zQz _ _ j _ _ (0,0) HZ5.out).trans (by simpa [zDe]using hv))
    have HLE:=zQk H5.out.cl.len
    have HW6:Hid (W5.setRow E.cb ((l.toArray.toList.take 16++(zDe t).toList++l.toArray.toList.drop (16+(zDe t).size)).toArray)=W5.setRow E.cb (l.take 16++u8s t).toArray):=zQk (by
     rw[zCZ,HTL.out,List.drop_of_length_le (by have:=HLE.out;simp;omega),List.append_nil]
     simp[zDe])
    have H6:=zQk (H5.out.row (H5.out.cl.tab HTL.out))
    have HM6:=zQk ((HM5.out.setTab HLE.out HTL.out).kept (zAQ.putRow E W5 (l.take 16++u8s t).toArray) HS.out)
    have K6:=zQk (K5.out.tr (zAQ.putRow E W5 (l.take 16++u8s t).toArray))
    obtain⟨W6,hW6⟩: ∃W,W5.setRow E.cb (l.take 16++u8s t).toArray=W:=⟨_,rfl⟩
    rw[hW6]at H6 HM6 K6 HW6
    obtain⟨l6,hl6⟩: ∃l',l.take 16++u8s t=l':=⟨_,rfl⟩
    rw[hl6]at H6 HM6
    clear hW6 hl6
    go_upto_region 6 with (first|refine wpList_load_mid rfl 34 _ rfl b5 0 rfl (u8s t) _ HRA.out Tryz.underlying34 rfl (by rw[zBt,HTL.out];exact zDK) ?_|refine zFr rfl 34 _ _ rfl E.cb 16 (zDe t) rfl rfl 36 _ H5.out.c (zCD HTL.out) (by rw[zCZ,HTL.out,List.size_toArray,HLE.out];decide) (zDw _) _ HW6.out ?_)
    have HPE:=zQk (zGA H6.out)
    unfold zCf at HRR
    simp only at HRR
    unfold zPl at HPE
    go_wp2_with fail
    refine HPE.out.mono ?_;rintro e w7 hf7
    by_cases hq:(zEy E.T j2).1≠0
    ·rw[if_pos hq]at hf7
     have hRR:=HRR.out
     rw[if_pos hq]at hRR
     subst hRR
     have HR4:Hid (Res E w (.error (zEy E.T j2)) [] e w7):=zQk (Res.up K6.out hf7)
     obtain⟨fb,rfl⟩:=HR4.out.bad
     clear hf7 hq
     go_wp2_with fail
     exact⟨rfl,HR4.out⟩
    ·rw[if_neg hq]at hf7
     have hRR:=HRR.out
     rw[if_neg hq]at hRR
     subst hRR
     obtain⟨k7,rfl,h7⟩:=hf7
     have HK7:=zQk (K6.out.tr k7)
     have HH7:=zQk h7
     have HM7:=zQk (HM6.out.kept k7 HS.out)
     clear hq k7 h7
     go_wp2_with fail
     go_end0
     exact⟨rfl,HK7.out,l6,HH7.out,HM7.out⟩
end
end
section
open Go.RowKit
theorem zFA {ere:Bool} {L:List Mk} (hu: ∀i,i<L.length→(zAH L i).b<256) {re:List Nd} (h:zAz ere L= .ok re):0<re.length∧re.length≤16386∧ ∀x∈re,x.kids≤re.length:=by
 unfold zAz at h
 split at h
 ·cases h
 ·rename_i h1
  split at h
  ·cases h
  ·cases hs:zBp ere L 64 ⟨0,[]⟩with
   |no e p=>rw[hs]at h;cases h
   |ok re2 t=>
    rw[hs]at h
    have hgood:=zD2 re2 _ _ _ _ _ (zC5 hs)
    have hok:=zF2 (fun p hp=>hgood.2.2 p (Nat.zero_le _) hp)
    have hsm:=zDg hu 64 (by simp) hs
    have hri:=(zEQ hu 64 (by simp) hs).le
    simp only at h
    split at h
    ·split at h
     ·cases h
     ·cases h
      exact⟨hgood.1,by simp only at hsm;omega,hok.2⟩
    ·cases h
theorem zLb {T:List Nat} (n:Nat): ∀(i:Nat) (c c':Cm) (j:Nat),zBb T n i c= .ok (c',j)→c'.re=c.re∧c'.fi=c.fi∧c'.at_=c.at_:=by
 induction n with
 |zero=>intro i c c' j h;cases h;exact⟨rfl,rfl,rfl⟩
 |succ n ih=>
  intro i c c' j h
  rw[zB9]at h
  split at h
  ·unfold zHl at h
   split at h
   ·cases h
   ·exact ih _ { c with al:=true } _ _ h
  ·split at h
   ·unfold zHk at h
    split at h
    ·cases h
    ·exact ih _ { c with pr:=true } _ _ h
   ·split at h
    ·cases hq:zFD T 1048576 i with
     |none=>rw[hq]at h;cases h
     |some r=>
      rw[hq]at h
      unfold zHm at h
      simp only at h
      split at h
      ·cases h
      ·exact ih _ { c with ct:=r.1 } _ _ h
    ·split at h
     ·unfold zHj at h
      split at h
      ·cases h
      ·unfold zCl at h
       simp only at h
       split at h
       ·cases h;exact⟨rfl,rfl,rfl⟩
       ·cases h
     ·unfold zCf at h
      simp only at h
      split at h
      ·cases h
      ·cases h;exact⟨rfl,rfl,rfl⟩
theorem zCb: ∀(L:List Mk) (e:Bool) (P Q:List Pc),zCA L e P=some Q→Q.length≤P.length+L.length
 |[],e,P,Q,h=>by
  unfold zCA at h
  split at h
  ·cases h
  ·cases h;simp
 |m::L,true,P,Q,h=>by
  unfold zCA at h
  split at h
  ·have:=zCb L _ _ _ h;simp at this ⊢;omega
  ·split at h
   ·have:=zCb L _ _ _ h;have:=zCX P 10;simp;omega
   ·have:=zCb L _ _ _ h;have:=zCX P m.b;simp;omega
 |m::L,false,P,Q,h=>by
  unfold zCA at h
  split at h
  ·have:=zCb L _ _ _ h;have:=zCX P m.b;simp;omega
  ·split at h
   ·have:=zCb L _ _ _ h;simp at this ⊢;omega
   ·split at h
    ·have:=zCb L _ _ _ h;simp;omega
    ·have:=zCb L _ _ _ h;have:=zCX P m.b;simp;omega
theorem zOO {L:List Mk} {P:List Pc} (h:zGR L=some P):P.length≤L.length:=by
 have:=zCb L _ _ _ h
 simpa using this
section
variable {w w':World} {E:PE} {i j k n:Nat} {l:List Value} {base:Nat} {c:Cm}
theorem Bys.mono {b2:Nat} {v:Value} {T:List Nat} (h:Bys w base v T) (hb:b2≤base):Bys w b2 v T:=by
 obtain⟨o,c,rfl,h1⟩:=h
 exact⟨o,c,rfl,zAT h1 hb⟩
theorem Pcs.mono {b2:Nat} {v:Value} {P:List Pc} (h:Pcs w base v P) (hb:b2≤base):Pcs w b2 v P:=by
 obtain⟨o,c,ts,rfl,h1,h2,h3⟩:=h
 exact⟨o,c,ts,rfl,h1,zAT h2 hb,fun i t p ht hp=>(h3 i t p ht hp).mono hb⟩
theorem Pcs.pk {o:Option Addr} {m cp:Nat} {P:List Pc} (h:Pcs w base (.slice o m cp) P):PkR w o (P.map (·.k)):=fun hp=>by
 obtain⟨o2,c2,ts,he,h1,h2,h3⟩:=h
 rw[List.length_map]at hp
 cases he
 obtain⟨_,g,rfl,hg,hcs,_⟩:=zB0 h2 hp
 refine⟨g,0,rfl,hg,fun i k hk=>?_⟩
 rw[List.getElem?_map]at hk
 cases hpi:P[i]? with
 |none=>rw[hpi]at hk;cases hk
 |some p=>
  rw[hpi]at hk
  cases hk
  have hi:=(zQr.1 hpi).1
  obtain⟨u0,hu0,c0⟩:=hcs (i*2) (by omega)
  rw[zE7 _ _ _ h1,hpi]at hu0
  cases hu0
  obtain⟨u1,hu1,c1⟩:=hcs (i*2+1) (by omega)
  rw[zGB _ _ _ h1]at hu1
  obtain⟨ot,ct,rfl,_⟩:=h3 i u1 p hu1 hpi
  rw[Nat.zero_add]
  exact⟨c0,ot,_,ct,c1⟩
theorem Nos.nv {o:Option Addr} {m cp:Nat} {re:List Nd} (h:Nos w base (.slice o m cp) re) (hl:re.length≤16386) (hk: ∀x∈re,x.kids≤re.length):NdV w o re∧m=re.length:=by
 obtain⟨o2,c2,he,h2⟩:=h
 cases he
 obtain⟨oa,cp,he,hv⟩:=h2.toV (by omega) hk
 cases he
 exact⟨hv,rfl⟩
theorem zIH (h:RS E w i l) (hm:CmM w base l c) (hc0:c.re=[]) (hb:E.wb<base∧E.cb<base) (hbw:base≤w.heap.size):
  Calls Tryz.prog 91 #[.pointer (some ⟨E.rb,0,none⟩),.pointer (some ⟨E.cb,0,none⟩)] w (HdO E w base (zBT E.ere E.T i c)):=by
 have HS:=zQk (zO4 (E:=E) hb)
 have HBB:=zQk hb
 have HBW:=zQk hbw
 have H:=zQk h
 have HM:=zQk hm
 have K:=zQk (zAQ.refl w E.W)
 have HER:Hid (1≠0):=zQk (by decide)
 have HC0:Hid ({ c with re:=[] } =c):=zQk (by cases c;simp only at hc0;rw[hc0])
 clear hc0
 obtain⟨R,hR⟩: ∃R,zBT E.ere E.T i c=R:=⟨_,rfl⟩
 rw[hR]
 unfold zBT at hR
 have hUT:=zQk h.v.u
 by_cases hi:E.T.length≤i
 ·rw[if_pos hi]at hR
  subst hR
  have HD:=zQk (zIq H.out HM.out.p hi)
  clear h hm hb hbw hi
  go_enter Tryz.func91,Tryz.ntmps91
  go_wp2_with fail
  refine HD.out.mono ?_;rintro e w9 hp
  have HR9:Hid (Res E w (.error (70,c.at_)) [] e w9):=zQk (Res.up K.out hp)
  obtain⟨fb,rfl⟩:=HR9.out.bad
  clear hp
  go_wp2_with fail
  exact⟨rfl,HR9.out⟩
 rw[if_neg hi]at hR
 have HD:=zQk (zKX H.out (by omega))
 obtain⟨d,hd⟩: ∃d,E.T.getD i 0=d:=⟨_,rfl⟩
 have hd256:d<256:=by rw[←hd];exact h.v.u i
 rw[hd]at hR HD
 have HDD:=zQk hd256
 have HR:=zQk hR
 clear h hm hb hbw hi hR hd hd256
 go_enter Tryz.func91,Tryz.ntmps91
 go_wp2_with fail
 refine HD.out.mono ?_;rintro e w1 ⟨rfl,h1,k1⟩
 have H1:=zQk h1
 have HM1:=zQk (HM.out.kept k1 HS.out)
 have K1:=zQk k1
 clear h1 k1 HD
 cases hq1:zAu E.T d false (i+1)with
 |none=>
  have hr:=HR.out
  rw[hq1]at hr
  subst hr
  have HP:=zQk (zFk H1.out HM1.out.p HDD.out hq1)
  clear hq1
  go_wp2_with fail
  refine HP.out.mono ?_;rintro e w9 hp
  have HR9:Hid (Res E w (.error (70,c.at_)) [] e w9):=zQk (Res.up K1.out hp)
  obtain⟨fb,rfl⟩:=HR9.out.bad
  clear hp
  go_wp2_with fail
  exact⟨rfl,HR9.out⟩
 |some r1=>
 obtain⟨L,j1⟩:=r1
 have hr:=HR.out
 rw[hq1]at hr
 simp only at hr
 have HR1:=zQk hr
 have HLU:=zQk (zGs HDD.out hUT.out hq1)
 have HLL:=zQk (zBG hq1)
 have HP:=zQk (zHS H1.out HDD.out hq1)
 clear hq1 hr HR
 go_wp2_with fail
 refine HP.out.mono ?_;rintro e w2 ⟨⟨v2,rfl,hm2⟩,h2,k2⟩
 obtain⟨oa,ca,rfl,hv2⟩:=hm2.toV HLU.out
 have HV2:=zQk hv2
 have H2:=zQk h2
 have HM2:=zQk (HM1.out.kept k2 HS.out)
 have K2:=zQk (K1.out.tr k2)
 clear h2 k2 hm2 HP hv2
 go_upto_if 14 with fail
 go_cut [5] (fun v5 wd=> ∃(re:List Nd) (l':List Value),v5= .int .i64 0∧Hid (reS E.ere L c= .ok re)∧RS E wd j1 l'∧CmM wd base l' { c with re:=re } ∧zAQ w wd E.W)
 case first=>
  by_cases hL:L=[]
  ·have q1: ¬(0:Int)<(L.length:Int):=by rw[hL];simp
   have hre:reS E.ere L c= .ok []:=by unfold reS;rw[if_pos hL]
   have HRE:=zQk hre
   have HM3:Hid (CmM w2 base l { c with re:=[] }):=zQk (by rw[HC0.out];exact HM2.out)
   clear hL hre
   go_wp2_with fail
   go_meet
   exact⟨[],l,rfl,HRE,H2.out,HM3.out,K2.out⟩
  ·have q1:(0:Int)<(L.length:Int):=by
    cases L with
    |nil=>exact absurd rfl hL
    |cons x l=>simp only[List.length_cons];omega
   have r1:=H2.out.r1
   have HPA:=zQk (zE9 (ere:=E.ere) (cap:=ca) HV2.out.arg)
   go_wp2_with fail
   refine HPA.out.mono ?_;rintro e w3 ⟨hp3,hb3⟩
   have h3:=H2.out.below hb3
   have m3:=HM2.out.kept (zAQ.bel (S:=E.W) hb3) HS.out
   obtain⟨v10,hv10,_⟩:=m3.re
   have c10:w3.cell? ⟨E.cb,10,none⟩=some v10:=h3.cc hv10
   have f10:=h3.cf 10
   cases hq:zAz E.ere L with
   |error p=>
    obtain⟨er,pl⟩:=p
    rw[hq]at hp3
    have hp3':e= .returned (.tuple #[.slice none 0 0,.int .i64 (er:Nat),.int .i64 (pl:Nat)]):=hp3
    subst hp3'
    have HER:Hid (er≠0):=zQk (zD1 HLU.out hq).1
    have hr:=HR1.out
    unfold reS at hr
    rw[if_neg hL,hq]at hr
    simp only at hr
    subst hr
    have H4:=zQk (h3.set 10 (v:= .slice none 0 0) rfl)
    have HM4:=zQk ((m3.setRe h3.cl.len (v:= .slice none 0 0) (x:=[]) ⟨none,0,rfl,Nds.nil _ _⟩).kept (zAQ.put E w3 10 (.slice none 0 0)) HS.out)
    have K4:=zQk ((K2.out.tr (zAQ.bel hb3)).tr (zAQ.put E w3 10 (.slice none 0 0)))
    clear h3 m3 hv10 hb3 hp3 hq hL r1 HPA
    go_upto_region 5 with fail
    obtain⟨W4,hW4⟩: ∃W,w3.setCell ⟨E.cb,10,none⟩ (.slice none 0 0)=W:=⟨_,rfl⟩
    rw[hW4]at H4 HM4 K4 ⊢
    clear hW4 c10 f10
    go_wp2_with fail
    refine(zA6 (er:=er) H4.out HM4.out.p (by first|decide|exact HER.out)).mono ?_;rintro e w9 ⟨hp,hb9⟩
    have HR9:Hid (Res E w (.error (er,c.at_)) [] e w9):=zQk ⟨K4.out.tr (zAQ.bel hb9),_,_,hp,H4.out.below hb9⟩
    obtain⟨fb,rfl⟩:=HR9.out.bad
    clear hp hb9
    go_wp2_with fail
    exact⟨rfl,HR9.out⟩
   |ok re=>
    rw[hq]at hp3
    obtain⟨v3,rfl,hn3⟩:=hp3
    obtain⟨o3,cc3,rfl⟩:=hn3.form
    have hre:reS E.ere L c= .ok re:=by unfold reS;rw[if_neg hL,hq]
    have HRE:=zQk hre
    have H4:=zQk (h3.set 10 (v:= .slice o3 re.length cc3) rfl)
    have HM4:Hid (CmM (w3.setCell ⟨E.cb,10,none⟩ (.slice o3 re.length cc3)) base (l.set 10 (.slice o3 re.length cc3)) { c with re:=re }):=zQk ((m3.setRe h3.cl.len (v:= .slice o3 re.length cc3) (x:=re) ⟨o3,cc3,rfl,Nds.mono hn3 (zQ7 HBW.out K2.out.size)⟩).kept (zAQ.put E w3 10 (.slice o3 re.length cc3)) HS.out)
    have K4:=zQk ((K2.out.tr (zAQ.bel hb3)).tr (zAQ.put E w3 10 (.slice o3 re.length cc3)))
    clear h3 m3 hv10 hb3 hn3 hq hL hre r1 HPA
    go_upto_region 5 with fail
    obtain⟨W4,hW4⟩: ∃W,w3.setCell ⟨E.cb,10,none⟩ (.slice o3 re.length cc3)=W:=⟨_,rfl⟩
    rw[hW4]at H4 HM4 K4 ⊢
    clear hW4 c10 f10
    go_wp2_with fail
    refine zGP.mono ?_;rintro e w9 ⟨rfl,rfl⟩
    go_wp2_with fail
    go_meet
    exact⟨re,_,rfl,HRE,H4.out,HM4.out,K4.out⟩
 case rest=>
 obtain⟨re,l3,rfl,HRE,h3,m3,k3⟩:=hcut
 have H3:=zQk h3
 have HM3:=zQk m3
 have K3:=zQk k3
 have hr:=HR1.out
 rw[HRE.out]at hr
 simp only at hr
 have HR2:=zQk hr
 clear h3 m3 k3 H2 HM2 K2 HV2 hr HR1
 cases hq2:zAu E.T d true j1 with
 |none=>
  have hr:=HR2.out
  rw[hq2]at hr
  subst hr
  have HP:=zQk (zFk H3.out HM3.out.p HDD.out hq2)
  clear hq2
  go_wp2_with fail
  refine HP.out.mono ?_;rintro e w9 hp
  have HR9:Hid (Res E w (.error (70,c.at_)) [] e w9):=zQk (Res.up K3.out hp)
  obtain⟨fb,rfl⟩:=HR9.out.bad
  clear hp
  go_wp2_with fail
  exact⟨rfl,HR9.out⟩
 |some r2=>
 obtain⟨M,j2⟩:=r2
 have hr:=HR2.out
 rw[hq2]at hr
 simp only at hr
 have HR3:=zQk hr
 have HMU:=zQk (zGs HDD.out hUT.out hq2)
 have HML:=zQk (zBG hq2)
 have HMZ:=zQk (show M.length≤4294967293 by have:=(zBG hq2).2.2;have:=(zBG hq2).2.1;have:=H3.out.v.len;have:=HLL.out;simp only at *; omega)
 have HP:=zQk (zHS H3.out HDD.out hq2)
 clear hq2 hr HR2
 go_wp2_with fail
 refine HP.out.mono ?_;rintro e w4 ⟨⟨v4,rfl,hm4⟩,h4,k4⟩
 obtain⟨ob,cb,rfl,hv4⟩:=hm4.toV HMU.out
 have HFP:=zQk (zJv hv4 HMZ.out)
 have H4:=zQk h4
 have HM4:=zQk (HM3.out.kept k4 HS.out)
 have K4:=zQk (K3.out.tr k4)
 clear h4 k4 hm4 HP hv4
 go_wp2_with fail
 refine HFP.out.mono ?_;rintro e w5 ⟨hf5,hb5⟩
 have h5:=H4.out.below hb5
 have m5:=HM4.out.kept (zAQ.bel (S:=E.W) hb5) HS.out
 obtain⟨v11,hv11,_⟩:=m5.fi
 have c11:w5.cell? ⟨E.cb,11,none⟩=some v11:=h5.cc hv11
 have f11:=h5.cf 11
 cases hq3:zGR M with
 |none=>
  rw[hq3]at hf5
  obtain⟨pl,rfl⟩:=hf5
  have hr:=HR3.out
  rw[hq3]at hr
  subst hr
  have H6:=zQk (h5.set 11 (v:= .slice none 0 0) rfl)
  have HM6:=zQk ((m5.setFi h5.cl.len (v:= .slice none 0 0) (x:=[]) ⟨none,0,[],rfl,rfl,zQ0 _ _ _ _,fun i t p ht=>by cases ht⟩).kept (zAQ.put E w5 11 (.slice none 0 0)) HS.out)
  have K6:=zQk ((K4.out.tr (zAQ.bel hb5)).tr (zAQ.put E w5 11 (.slice none 0 0)))
  clear h5 m5 hv11 hb5 hq3 HFP
  go_upto_region 7 with fail
  obtain⟨W6,hW6⟩: ∃W,w5.setCell ⟨E.cb,11,none⟩ (.slice none 0 0)=W:=⟨_,rfl⟩
  rw[hW6]at H6 HM6 K6 ⊢
  clear hW6 c11 f11
  go_wp2_with fail
  refine(zA6 (er:=61) H6.out HM6.out.p (by first|decide|exact HER.out)).mono ?_;rintro e w9 ⟨hp,hb9⟩
  have HR9:Hid (Res E w (.error (61,c.at_)) [] e w9):=zQk ⟨K6.out.tr (zAQ.bel hb9),_,_,hp,H6.out.below hb9⟩
  obtain⟨fb,rfl⟩:=HR9.out.bad
  clear hp hb9
  go_wp2_with fail
  exact⟨rfl,HR9.out⟩
 |some p=>
 rw[hq3]at hf5
 obtain⟨v5,rfl,hpc5⟩:=hf5
 obtain⟨o5,c5,ts5,rfl,hpc5'⟩:=hpc5
 have hpc:Pcs w5 w4.heap.size (.slice o5 p.length c5) p:=⟨o5,c5,ts5,rfl,hpc5'⟩
 have hr:=HR3.out
 rw[hq3]at hr
 simp only at hr
 have HR4:=zQk hr
 have HPL:=zQk (zOO hq3)
 have H6:=zQk (h5.set 11 (v:= .slice o5 p.length c5) rfl)
 have HM6:Hid (CmM (w5.setCell ⟨E.cb,11,none⟩ (.slice o5 p.length c5)) base (l3.set 11 (.slice o5 p.length c5)) { c with re:=re,fi:=p }):=zQk ((m5.setFi h5.cl.len (v:= .slice o5 p.length c5) (x:=p) (hpc.mono (zQ7 HBW.out K4.out.size))).kept (zAQ.put E w5 11 (.slice o5 p.length c5)) HS.out)
 have K6:=zQk ((K4.out.tr (zAQ.bel hb5)).tr (zAQ.put E w5 11 (.slice o5 p.length c5)))
 clear h5 m5 hv11 hb5 hq3 HFP hpc hpc5' hr HR3
 go_upto_region 7 with fail
 obtain⟨W6,hW6⟩: ∃W,w5.setCell ⟨E.cb,11,none⟩ (.slice o5 p.length c5)=W:=⟨_,rfl⟩
 rw[hW6]at H6 HM6 K6 ⊢
 obtain⟨l6,hl6⟩: ∃l',l3.set 11 (.slice o5 p.length c5)=l':=⟨_,rfl⟩
 rw[hl6]at H6 HM6
 clear hW6 hl6 c11 f11
 go_wp2_with fail
 refine zGP.mono ?_;rintro e w9 ⟨rfl,rfl⟩
 have HFL:=zQk (zJa H6.out HM6.out HBB.out (zQ7 HBW.out K6.out.size))
 go_wp2_with fail
 refine HFL.out.mono ?_;rintro e w7 hf7
 cases hq4:zDG E.T j2 { c with re:=re,fi:=p } with
 |error z=>
  rw[hq4]at hf7
  have hr:=HR4.out
  rw[hq4]at hr
  subst hr
  have HR7:Hid (Res E w (.error z) [] e w7):=zQk (Res.up (l:=[]) K6.out hf7)
  obtain⟨fb,rfl⟩:=HR7.out.bad
  clear hf7 hq4
  go_wp2_with fail
  exact⟨rfl,HR7.out⟩
 |ok z=>
 obtain⟨c7,j7⟩:=z
 rw[hq4]at hf7
 obtain⟨kr,kf,ka⟩:=zLb _ _ _ _ _ hq4
 simp only at kr kf ka
 have hr:=HR4.out
 rw[hq4]at hr
 simp only at hr
 have HR5:=zQk hr
 obtain⟨rfl,k7,l7,h7,m7⟩:=hf7
 obtain⟨vr,hvr,hnr⟩:=m7.re
 obtain⟨vf,hvf,hnf⟩:=m7.fi
 rw[kr]at hnr
 rw[kf]at hnf
 obtain⟨orr,cr,rfl,hnr2⟩:=hnr
 obtain⟨of,cf,tf,rfl,hnf2⟩:=hnf
 have c10:=h7.cc hvr
 have c11:=h7.cc hvf
 have HKA:=zQk ka
 have hcl:E.cb<w7.heap.size:=h7.lts.2.2
 have H7:=zQk h7
 have HM7:=zQk m7
 have K7:=zQk (K6.out.tr k7)
 have HPK:=zQk (Pcs.pk (w:=w7.drew) (base:=base) (o:=of) (cp:=cf) (m:=p.length) (P:=p) (Pcs.kept ⟨of,cf,tf,rfl,hnf2⟩ (zAQ.drew w7 E.W) HS.out))
 have HNR:=zQk (show Nos w7 base (.slice orr re.length cr) re from⟨orr,cr,rfl,hnr2⟩)
 clear h7 m7 k7 hvr hvf hnr2 hnf2 kr kf ka hq4 hr HR4 HFL
 go_upto_region 9 with fail
 by_cases hz:re=[]
 ·have hr:=HR5.out
  rw[if_neg (fun h=>h.1 hz)]at hr
  subst hr
  subst hz
  refine zAA (X:=none) 19 [([0,1,2,3,4,5,6,7,8,9,10,12,13,14,15],11),([],16)] [17,18] (by kernel_rfl) (by kernel_rfl) rfl (fun _ _ _ _ _ h=>h) ?_
  simp only[zAM,zAC,zAE,zAD,zAB,List.getD_cons_zero,List.getD_cons_succ,List.drop_succ_cons,List.drop_nil]
  repeat (go_big_quiet_step (fail))
  refine wpQuiet_nil ?_
  go_wp2_with fail
  refine⟨zAI.refl _,?_⟩
  repeat (go_big_quiet_step (fail))
  refine wpQuiet_nil ?_
  go_wp2_with fail
  refine⟨zAI.refl _,?_⟩
  repeat (go_big_quiet_step (fail))
  refine wpQuiet_nil ?_
  go_wp2_with fail
  go_end0
  exact⟨rfl,K7.out.tr (zAQ.drew w7 E.W),l7,H7.out.drew,HM7.out.kept (zAQ.drew w7 E.W) HS.out⟩
 ·have hre:=HRE.out
  unfold reS at hre
  have hLn:L≠[]:=fun e=>by rw[if_pos e]at hre;cases hre;exact hz rfl
  rw[if_neg hLn]at hre
  have hpl:zAz E.ere L= .ok re:=by
   cases hq:zAz E.ere L with
   |error e=>rw[hq]at hre;cases hre
   |ok r=>rw[hq]at hre;cases hre;rfl
  obtain⟨f1,f2,f3⟩:=zFA HLU.out hpl
  have h0:0<re.length:=f1
  have HMO:=zFO (w:=w7.drew) (ca:=cf) HPK.out (by rw[List.length_map];have:=HPL.out;have:=HMZ.out;omega)
  rw[List.length_map,←zHe]at HMO
  have HMO:=zQk HMO
  have HNV:=zQk (HNR.out.nv f2 f3).1
  have hr:=HR5.out
  have HZ:=zQk hz
  clear hre hLn hpl f1 f2 f3 hz
  refine zAA (X:=none) 19 [([0,1,2,3,4,5,6,7,8,9,10,12,13,14,15],11),([],16)] [17,18] (by kernel_rfl) (by kernel_rfl) rfl (fun _ _ _ _ _ h=>h) ?_
  simp only[zAM,zAC,zAE,zAD,zAB,List.getD_cons_zero,List.getD_cons_succ,List.drop_succ_cons,List.drop_nil]
  repeat (go_big_quiet_step (fail))
  refine wpQuiet_nil ?_
  go_wp2_with fail
  refine HMO.out.mono ?_;rintro e w8 ⟨rfl,hb8⟩
  have hk8:=zAI.of_below (X:=none) hb8
  have HB8:=zQk ((zQl w7.heap.size w7).drew.trans hb8)
  clear hb8
  go_wp2_with fail
  refine⟨hk8,?_⟩
  clear hk8
  repeat (go_big_quiet_step (fail))
  refine wpQuiet_nil ?_
  have HGR:=zQk (zEY (cap:=cr) (HNV.out.below HB8.out))
  go_wp2_with fail
  refine HGR.out.mono ?_;rintro e w9 ⟨rfl,hb9⟩
  have hk9:=zAI.of_below (X:=none) hb9
  have HB9:=zQk (HB8.out.trans (hb9.mono HB8.out.size))
  clear hb9
  go_wp2_with fail
  refine⟨hk9,?_⟩
  clear hk9
  have H9:=zQk (H7.out.below HB9.out)
  have HM9:=zQk (HM7.out.kept (zAQ.bel (S:=E.W) HB9.out) HS.out)
  have K9:=zQk (K7.out.tr (zAQ.bel HB9.out))
  by_cases hgm:(zCR re:Int)<zGj p
  ·rw[if_pos ⟨HZ.out,hgm⟩]at hr
   subst hr
   repeat (go_big_quiet_step (fail))
   refine wpQuiet_nil ?_
   go_wp2_with fail
   rw[←HKA.out]
   refine(zA6 (er:=44) H9.out HM9.out.p (by first|decide|exact HER.out)).mono ?_;rintro e w9 ⟨hp,hb9⟩
   have HR9:Hid (Res E w (.error (44,c7.at_)) [] e w9):=zQk ⟨K9.out.tr (zAQ.bel hb9),_,_,hp,H9.out.below hb9⟩
   obtain⟨fb,rfl⟩:=HR9.out.bad
   clear hp hb9
   go_wp2_with fail
   exact⟨rfl,HR9.out⟩
  ·rw[if_neg (fun h=>hgm h.2)]at hr
   subst hr
   repeat (go_big_quiet_step (fail))
   refine wpQuiet_nil ?_
   go_wp2_with fail
   go_end0
   exact⟨rfl,K9.out,l7,H9.out,HM9.out⟩
end
end
section
def Fit (re:List Nd):Prop:=re.length≤16386∧ ∀x∈re,x.kids≤re.length
theorem Fit.nil:Fit []:=⟨by decide,fun x hx=>by cases hx⟩
def zI4 (c:Cm):Prop:=Fit c.a.re∧Fit c.b.re∧Fit c.re
section
variable {T:List Nat} {ere:Bool}
theorem zNQ (hT: ∀j,T.getD j 0<256) (i:Nat):Fit (zBe ere T i).1.re:=by
 unfold zBe
 split
 ·exact Fit.nil
 simp only
 split
 ·split
  ·exact Fit.nil
  ·split<;>exact Fit.nil
 split
 ·exact Fit.nil
 split
 ·exact Fit.nil
 split
 ·split
  ·exact Fit.nil
  ·rename_i hp
   split
   ·exact Fit.nil
   ·split
    ·exact Fit.nil
    ·rename_i hl
     have:=zFA (zGs (hT _) hT hp) hl
     exact⟨this.2.1,this.2.2⟩
 ·exact Fit.nil
theorem zKe (hT: ∀j,T.getD j 0<256) {i j:Nat} {a:Ad} (h:zEG ere T i= .ok (a,j)):Fit a.re:=by
 unfold zEG at h
 simp only at h
 split at h
 ·cases h
 ·cases h;exact zNQ hT i
theorem zNt (hT: ∀j,T.getD j 0<256) {a b:Ad} {i m j:Nat} (h:zF6 ere T a i= .ok (b,m,j)):Fit b.re:=by
 unfold zF6 at h
 split at h
 ·cases h;exact Fit.nil
 split at h
 ·cases h;exact Fit.nil
 split at h
 ·cases h
 rename_i ha
 split at h
 ·cases h
 ·cases h;exact zKe hT ha
theorem zMu (hT: ∀j,T.getD j 0<256) {i n k:Nat} {c:Cm} (h:zBy ere T i n= .ok (c,k)):zI4 c:=by
 unfold zBy at h
 split at h
 ·cases h
 rename_i ha
 split at h
 ·cases h
 rename_i hb
 simp only at h
 split at h
 ·cases h
 split at h
 ·cases h
 split at h
 ·cases h
 ·cases h;exact⟨zKe hT ha,zNt hT hb,Fit.nil⟩
theorem zIm {i q:Nat} {c c':Cm} (hc:zI4 c) (h:zCl T i c= .ok (c',q)):zI4 c':=by
 unfold zCl at h
 simp only at h
 split at h
 ·cases h;exact hc
 ·cases h
theorem zGM {i q:Nat} {c c':Cm} (hc:zI4 c) (h:zCf T i c= .ok (c',q)):zI4 c':=by
 unfold zCf at h
 simp only at h
 split at h
 ·cases h
 ·cases h;exact hc
theorem zD4: ∀(n i q:Nat) (c c':Cm),zI4 c→zBb T n i c= .ok (c',q)→zI4 c'
 |0,i,q,c,c',hc,h=>by unfold zBb at h;cases h;exact hc
 |n+1,i,q,c,c',hc,h=>by
  unfold zBb at h
  simp only at h
  split at h
  ·split at h
   ·cases h
   ·exact zD4 n _ _ _ _ (by exact hc) h
  split at h
  ·split at h
   ·cases h
   ·exact zD4 n _ _ _ _ (by exact hc) h
  split at h
  ·split at h
   ·cases h
   ·split at h
    ·cases h
    ·exact zD4 n _ _ _ _ (by exact hc) h
  split at h
  ·split at h
   ·cases h
   ·exact zIm (by exact hc) h
  ·exact zGM (by exact hc) h
theorem zPC (hT: ∀j,T.getD j 0<256) {d i j:Nat} {e:Bool} {l:List Mk} (hd:d<256) (hp:zAu T d e i=some (l,j)) {c:Cm} {re:List Nd} (h:reS ere l c= .ok re):Fit re:=by
 unfold reS at h
 split at h
 ·cases h;exact Fit.nil
 split at h
 ·cases h
 rename_i hl
 cases h
 have:=zFA (zGs hd hT hp) hl
 exact⟨this.2.1,this.2.2⟩
theorem zJ3 (hT: ∀j,T.getD j 0<256) {i q:Nat} {c c':Cm} (hc:zI4 c) (h:zBT ere T i c= .ok (c',q)):zI4 c':=by
 unfold zBT at h
 split at h
 ·cases h
 split at h
 ·cases h
 rename_i hp
 split at h
 ·cases h
 rename_i hr
 split at h
 ·cases h
 split at h
 ·cases h
 split at h
 ·cases h
 rename_i hf
 split at h
 ·cases h
 ·cases h;exact zD4 _ _ _ _ _ (by exact⟨hc.1,hc.2.1,zPC hT (hT _) hp hr⟩) hf
theorem zKx {i q:Nat} {c c':Cm} (hc:zI4 c) (h:zB5 T i c= .ok (c',q)):zI4 c':=by
 unfold zB5 at h
 split at h
 ·cases h
 split at h
 ·cases h
 split at h
 ·cases h
 split at h
 ·cases h
 ·exact zGM (by exact hc) h
theorem zNG (hT: ∀j,T.getD j 0<256) {i q:Nat} {c c':Cm} (hc:zI4 c) (h:zCJ ere T i c= .ok (c',q)):zI4 c':=by
 unfold zCJ at h
 split at h
 ·cases h;exact hc
 split at h
 ·exact zJ3 hT hc h
 split at h
 ·exact zKx hc h
 split at h
 ·unfold zCL at h
  simp only at h
  split at h
  ·cases h
  ·cases h;exact hc
 split at h
 ·exact zIm hc h
 split at h
 ·unfold zHr at h
  split at h
  ·cases h
  ·cases h;exact hc
 ·exact zGM hc h
theorem zGa (hT: ∀j,T.getD j 0<256): ∀(n i:Nat) (l L:List Cm),(∀c∈l,zI4 c)→zD8 ere T n i l= .ok L→ ∀c∈L,zI4 c
 |0,i,l,L,hl,h=>by unfold zD8 at h;cases h;exact hl
 |n+1,i,l,L,hl,h=>by
  unfold zD8 at h
  simp only at h
  split at h
  ·cases h;exact hl
  split at h
  ·exact zGa hT n _ _ L hl h
  split at h
  ·cases h
  rename_i hh
  split at h
  ·cases h
  rename_i hb
  refine zGa hT n _ _ L (fun c hc=>?_) h
  rcases zRF.1 hc with hc|hc
  ·exact hl c hc
  ·rw[List.mem_singleton]at hc
   subst hc
   exact zNG hT (zMu hT hh) hb
theorem zOY (hT: ∀j,T.getD j 0<256) {L:List Cm} (h:zCB ere T= .ok L): ∀c∈L,zI4 c:=by
 unfold zCB at h
 split at h
 ·cases h
 ·exact zGa hT _ _ _ _ (fun c hc=>by cases hc) h
end
end
section
open Go.RowKit
theorem zHY {w:World} {base:Nat} {e:TypeId} {size:Nat} {o:Option Addr} {n c:Nat} {xs:List Value} (h:w.ownsRow base e size (.slice o n c) n xs):n≤maxLen:=by
 rcases h.2 with ⟨h1,h2⟩|⟨g,cap,cur,h1,hb,hg,hnc,hcm,hcs,ht⟩
 ·omega
 ·exact zQ7 hnc hcm
def PcV (w:World) (oa:Option Addr) (P:List Pc):Prop:=
 P.length≤maxLen∧(0<P.length→ ∃nb no,oa=some ⟨nb,no,none⟩∧nb<w.heap.size∧ ∀i p,P[i]?=some p→w.cell? ⟨nb,no+i*2,none⟩=some (.int .i64 p.k)∧ ∃ob cb,w.cell? ⟨nb,no+i*2+1,none⟩=some (.slice ob p.t.length cb)∧zDa w ob p.t∧p.t.length≤maxLen)
structure EqV (w:World) (l:List Value) (c:Cm):Prop where
 a0:l[0]?=some (.int .i8 c.a.kind)
 a1:l[1]?=some (.int .i64 c.a.n)
 a2: ∃o k,l[2]?=some (.slice o c.a.re.length k)∧NdU w o c.a.re∧c.a.re.length≤maxLen
 b0:l[3]?=some (.int .i8 c.b.kind)
 b1:l[4]?=some (.int .i64 c.b.n)
 b2: ∃o k,l[5]?=some (.slice o c.b.re.length k)∧NdU w o c.b.re∧c.b.re.length≤maxLen
 nt:l[6]?=some (.bool c.nt)
 nm:l[7]?=some (.int .u8 (c.nm:Nat))
 p:l[8]?=some (.int .i64 (c.at_:Nat))
 tx: ∃o k,l[9]?=some (.slice o c.tx.length k)∧zDa w o c.tx∧c.tx.length≤maxLen
 re: ∃o k,l[10]?=some (.slice o c.re.length k)∧NdU w o c.re∧c.re.length≤maxLen
 fi: ∃o k,l[11]?=some (.slice o c.fi.length k)∧PcV w o c.fi
 ct:l[12]?=some (.int .i64 (c.ct:Nat))
 al:l[13]?=some (.bool c.al)
 pr:l[14]?=some (.bool c.pr)
 wr:l[15]?=some (.bool c.wr)
 tb: ∀k,k<256→l[16+k]?=some (.int .u8 (c.tb.getD k 0:Nat))
section
variable {w w':World} {base:Nat} {l:List Value} {c:Cm} {oa ob:Option Addr} {ca cb:Nat} {T:List Nat} {re:List Nd} {P:List Pc}
theorem PcV.below (h:PcV w oa P) (hb:Below w.heap.size w w'):PcV w' oa P:=⟨h.1,fun hp=>by
 obtain⟨nb,no,h1,h2,h3⟩:=h.2 hp
 refine⟨nb,no,h1,zQn h2 hb.size,fun i p hi=>?_⟩
 obtain⟨e1,ob,cb,e2,e3,e4⟩:=h3 i p hi
 exact⟨(hb.cell (p:=⟨nb,no+i*2,none⟩) h2).trans e1,ob,cb,(hb.cell (p:=⟨nb,no+i*2+1,none⟩) h2).trans e2,e3.below hb,e4⟩⟩
theorem EqV.below (h:EqV w l c) (hb:Below w.heap.size w w'):EqV w' l c:=
 {h with
  a2:=by obtain⟨o,k,h1,h2,h3⟩:=h.a2;exact⟨o,k,h1,h2.below hb,h3⟩
  b2:=by obtain⟨o,k,h1,h2,h3⟩:=h.b2;exact⟨o,k,h1,h2.below hb,h3⟩
  tx:=by obtain⟨o,k,h1,h2,h3⟩:=h.tx;exact⟨o,k,h1,h2.below hb,h3⟩
  re:=by obtain⟨o,k,h1,h2,h3⟩:=h.re;exact⟨o,k,h1,h2.below hb,h3⟩
  fi:=by obtain⟨o,k,h1,h2⟩:=h.fi;exact⟨o,k,h1,h2.below hb⟩ }
theorem Nos.toU {v:Value} (h:Nos w base v re): ∃o k,v= .slice o re.length k∧NdU w o re∧re.length≤maxLen:=by
 obtain⟨o,k,rfl,h2⟩:=h
 obtain⟨o2,k2,he,h3⟩:=h2.toU
 cases he
 exact⟨o,k,rfl,h3,zHY h2⟩
theorem Bys.toU {v:Value} (h:Bys w base v T): ∃o k,v= .slice o T.length k∧zDa w o T∧T.length≤maxLen:=by
 obtain⟨o,k,rfl,h2⟩:=h
 exact⟨o,k,rfl,(zDU h2).1,zHY h2⟩
theorem Pcs.toU {v:Value} (h:Pcs w base v P): ∃o k,v= .slice o P.length k∧PcV w o P:=by
 obtain⟨o,k,ts,rfl,h1,h2,h3⟩:=h
 refine⟨o,k,rfl,zHY h2,fun hp=>?_⟩
 obtain⟨_,g,rfl,hg,hcs,_⟩:=zB0 h2 hp
 refine⟨g,0,rfl,hg,fun i p hpi=>?_⟩
 have hi:=(zQr.1 hpi).1
 obtain⟨u0,hu0,c0⟩:=hcs (i*2) (by omega)
 obtain⟨u1,hu1,c1⟩:=hcs (i*2+1) (by omega)
 rw[zE7 _ _ _ h1,hpi]at hu0
 rw[zGB _ _ _ h1]at hu1
 cases hu0
 obtain⟨ob,cb,e,e1,e2⟩:=(h3 i u1 p hu1 hpi).toU
 subst e
 exact⟨by rw[Nat.zero_add];exact c0,ob,cb,by rw[Nat.zero_add];exact c1,e1,e2⟩
theorem CmM.eqV (h:CmM w base l c):EqV w l c where
 a0:=h.a.1
 a1:=h.a.2.1
 a2:=by obtain⟨v,h1,h2⟩:=h.a.2.2;obtain⟨o,k,rfl,h3⟩:=h2.toU;exact⟨o,k,h1,h3⟩
 b0:=h.b.1
 b1:=h.b.2.1
 b2:=by obtain⟨v,h1,h2⟩:=h.b.2.2;obtain⟨o,k,rfl,h3⟩:=h2.toU;exact⟨o,k,h1,h3⟩
 nt:=h.nt
 nm:=h.nm
 p:=h.p
 tx:=by obtain⟨v,h1,h2⟩:=h.tx;obtain⟨o,k,rfl,h3⟩:=h2.toU;exact⟨o,k,h1,h3⟩
 re:=by obtain⟨v,h1,h2⟩:=h.re;obtain⟨o,k,rfl,h3⟩:=h2.toU;exact⟨o,k,h1,h3⟩
 fi:=by obtain⟨v,h1,h2⟩:=h.fi;obtain⟨o,k,rfl,h3⟩:=h2.toU;exact⟨o,k,h1,h3⟩
 ct:=h.ct
 al:=h.al
 pr:=h.pr
 wr:=h.wr
 tb:=h.tb
theorem EqV.tail {L M:List Value} (h:EqV w L c) (k:EqV w' M c) (hL:L.length=272) (hM:M.length=272):L.drop 16=M.drop 16:=List.ext_getElem? fun j=>by
 rw[List.getElem?_drop,List.getElem?_drop]
 by_cases hj:j<256
 ·rw[h.tb j hj,k.tb j hj]
 ·rw[zRK (by omega),zRK (by omega)]
theorem zFH {n:Nat} (h:n≤maxLen):(n:Int)≤9223372036854775807:=by unfold maxLen at h;omega
theorem zKV (ha:zDa w oa T) (hb:zDa w ob T) (z:T.length≤maxLen):
  Calls Tryz.prog 22 #[.slice oa T.length ca,.slice ob T.length cb] w fun e w'=>e= .returned (.bool true)∧Below w.heap.size w w':=by
 have HA:=zQk ha
 have HB:=zQk hb
 have hz:=zFH z
 clear ha hb z
 go_enter Tryz.func22,Tryz.ntmps22
 go_wp2_with fail
 go_loopg [5] T.length (fun n iv wr=> ∃d:Nat,iv= .int .i64 (d:Nat)∧n=T.length - d∧d≤T.length∧Below w.heap.size w wr)
 case atStart=>exact⟨0,rfl,by omega,by omega,zQl _ _⟩
 case round=>
  obtain⟨d,rfl,hg,hd,hbe⟩:=hrel
  have HG:=zQk hg
  have HBE:=zQk hbe
  clear hg
  by_cases hlt:d<T.length
  ·have hlt':(d:Int)<(T.length:Int):=by omega
   obtain⟨na,oo,rfl,hna⟩:=(HA.out.below hbe) (by omega)
   obtain⟨nb,ob',rfl,hnb⟩:=(HB.out.below hbe) (by omega)
   have n0:=hna d hlt
   have m0:=hnb d hlt
   have nal:=zRH _ _ n0
   have nbl:=zRH _ _ m0
   revert n0 m0
   generalize T.getD d 0=x
   intro n0 m0
   have e1:((x:Int) !=(x:Int))=false:=by simp
   clear hna hnb hbe
   go_wp2_with fail
   refine zAA (X:=none) 9 [] [0,1,2,3,4,5,6,7,8] (by kernel_rfl) (by kernel_rfl) rfl (fun _ _ _ _ _ h=>h) ?_
   simp only[zAM,zAC,zAD,zAB,List.getD_cons_zero,List.getD_cons_succ,List.drop_succ_cons,List.drop_nil]
   repeat (go_big_quiet_step (fail))
   refine wpQuiet_nil ?_
   go_wp2_with fail
   go_roundg (T.length - (d+1))
   case measure=>have:=HG.out;omega
   case rel=>exact⟨d+1,by go_num,rfl,by omega,HBE.out.drew⟩
  ·have hlt': ¬(d:Int)<(T.length:Int):=by omega
   clear hbe
   go_wp2_with fail
   go_ret
   exact⟨rfl,HBE.out⟩
theorem zKU (ha:NdU w oa re) (hb:NdU w ob re) (z:re.length≤maxLen):
  Calls Tryz.prog 106 #[.slice oa re.length ca,.slice ob re.length cb] w fun e w'=>e= .returned (.bool true)∧Below w.heap.size w w':=by
 have HA:=zQk ha
 have HB:=zQk hb
 have hla:=zFH z
 clear ha hb z
 go_enter Tryz.func106,Tryz.ntmps106
 go_wp2_with fail
 go_loopg [5] re.length (fun n iv wr=> ∃d:Nat,iv= .int .i64 (d:Nat)∧n=re.length - d∧d≤re.length∧Below w.heap.size w wr)
 case atStart=>exact⟨0,rfl,by omega,by omega,zQl _ _⟩
 case round=>
  obtain⟨d,rfl,hg,hd,hbe⟩:=hrel
  have HG:=zQk hg
  have HBE:=zQk hbe
  clear hg
  by_cases hlt:d<re.length
  ·have hlt':(d:Int)<(re.length:Int):=by omega
   obtain⟨na,oo,rfl,nal0,hna⟩:=HA.out (by omega)
   obtain⟨nb,ob',rfl,nbl0,hnb⟩:=HB.out (by omega)
   obtain⟨x,hx⟩: ∃x,re[d]?=some x:=⟨_,zQ1 hlt⟩
   have hna2: ∀i,i<re.length→ ∀j,j<9→wr.cell? ⟨na,oo+i*9+j,none⟩=(zAV (re.getD i Nd.zero))[j]?:=fun i hi j hj=>(hbe.cell (p:=⟨na,oo+i*9+j,none⟩) nal0).trans (hna i hi j hj)
   have hnb2: ∀i,i<re.length→ ∀j,j<9→wr.cell? ⟨nb,ob'+i*9+j,none⟩=(zAV (re.getD i Nd.zero))[j]?:=fun i hi j hj=>(hbe.cell (p:=⟨nb,ob'+i*9+j,none⟩) nbl0).trans (hnb i hi j hj)
   obtain⟨n0,n1,n2,n3,n4,n5,n6,n7,n8⟩:=NdU.cells hna2 hx
   obtain⟨m0,m1,m2,m3,m4,m5,m6,m7,m8⟩:=NdU.cells hnb2 hx
   have nal:na<wr.heap.size:=zQn nal0 hbe.size
   have nbl:nb<wr.heap.size:=zQn nbl0 hbe.size
   have hq:=zPO x x
   have HX:=zQk hx
   clear hna hnb hna2 hnb2 hbe hx nal0 nbl0
   rw[show(!decide (x=x))=false by simp]at hq
   obtain⟨op,⟨x0,x1,x2,x3⟩,xn,xmin,xmax,xk⟩:=x
   simp only[ndV]at n0 n1 n2 n3 n4 n5 n6 n7 n8 m0 m1 m2 m3 m4 m5 m6 m7 m8 hq
   go_wp2_with fail
   refine zAA (X:=none) 9 [] [0,1,2,3,4,5,6,7,8] (by kernel_rfl) (by kernel_rfl) rfl (fun _ _ _ _ _ h=>h) ?_
   simp only[zAM,zAC,zAD,zAB,List.getD_cons_zero,List.getD_cons_succ,List.drop_succ_cons,List.drop_nil]
   repeat (go_big_quiet_step (fail))
   refine wpQuiet_nil ?_
   go_wp2_with fail
   go_roundg (re.length - (d+1))
   case measure=>have:=HG.out;omega
   case rel=>exact⟨d+1,by go_num,rfl,by omega,HBE.out.drew⟩
  ·have hlt': ¬(d:Int)<(re.length:Int):=by omega
   have hde:d=re.length:=by omega
   subst hde
   go_wp2_with fail
   go_ret
   exact⟨rfl,HBE.out⟩
theorem zM2 (k n:Int) (ha:NdU w oa re) (hb:NdU w ob re) (z:re.length≤maxLen):
  Calls Tryz.prog 105 #[.agg #[.int .i8 k,.int .i64 n,.slice oa re.length ca],.agg #[.int .i8 k,.int .i64 n,.slice ob re.length cb]] w fun e w'=>e= .returned (.bool true)∧Below w.heap.size w w':=by
 have hb1:=((zQl w.heap.size w).alloc (zQm _) (.cells #[.int .i8 k,.int .i64 n,.slice oa re.length ca] 31)).alloc (by simp) (.cells #[.int .i8 k,.int .i64 n,.slice ob re.length cb] 31)
 have HE:=zQk (zKU (ca:=ca) (cb:=cb) (ha.below hb1) (hb.below hb1) z)
 have HB:=zQk hb1
 clear ha hb hb1
 go_enter Tryz.func105,Tryz.ntmps105
 go_wp2_with fail
 refine HE.out.mono ?_;rintro e w1 ⟨rfl,hb1⟩
 have HB1:=zQk (HB.out.trans (hb1.mono HB.out.size))
 clear hb1
 go_wp2_with fail
 go_ret
 exact⟨rfl,HB1.out⟩
theorem zOP (k:Int) (ha:zDa w oa T) (hb:zDa w ob T) (z:T.length≤maxLen):
  Calls Tryz.prog 155 #[.agg #[.int .i64 k,.slice oa T.length ca],.agg #[.int .i64 k,.slice ob T.length cb]] w fun e w'=>e= .returned (.bool true)∧Below w.heap.size w w':=by
 have hb1:=((zQl w.heap.size w).alloc (zQm _) (.cells #[.int .i64 k,.slice oa T.length ca] 103)).alloc (by simp) (.cells #[.int .i64 k,.slice ob T.length cb] 103)
 have HE:=zQk (zKV (ca:=ca) (cb:=cb) (ha.below hb1) (hb.below hb1) z)
 have HB:=zQk hb1
 have hk:(k==k)=true:=beq_self_eq_true k
 clear ha hb hb1
 go_enter Tryz.func155,Tryz.ntmps155
 go_wp2_with fail
 refine HE.out.mono ?_
 rintro e w2 ⟨rfl,hb2⟩
 have HB2:=zQk (HB.out.trans (hb2.mono HB.out.size))
 clear hb2
 go_wp2_with fail
 go_ret
 exact⟨rfl,HB2.out⟩
theorem zM1 (h:PcV w oa P) (ho:PcV w ob P):
  Calls Tryz.prog 107 #[.slice oa P.length ca,.slice ob P.length cb] w fun e w'=>e= .returned (.bool true)∧Below w.heap.size w w':=by
 have H:=zQk h
 have HO:=zQk ho
 have hz:=zFH h.1
 clear h ho
 go_enter Tryz.func107,Tryz.ntmps107
 go_wp2_with fail
 go_loopg [5] P.length (fun n iv wr=> ∃d:Nat,iv= .int .i64 (d:Nat)∧n=P.length - d∧d≤P.length∧Below w.heap.size w wr)
 case atStart=>exact⟨0,rfl,by omega,by omega,zQl _ _⟩
 case round=>
  obtain⟨d,rfl,hg,hd,hbe⟩:=hrel
  have HG:=zQk hg
  have HBE:=zQk hbe
  clear hg
  by_cases hlt:d<P.length
  ·have hlt':(d:Int)<(P.length:Int):=by omega
   obtain⟨na,oo,hoa,nal,hna⟩:=(H.out.below hbe).2 (by omega)
   obtain⟨nb,oo',hob,nbl,hnb⟩:=(HO.out.below hbe).2 (by omega)
   obtain⟨p,hp⟩: ∃p,P[d]?=some p:=⟨_,zQ1 hlt⟩
   obtain⟨z0,o1,k1,z1,t1,q1⟩:=hna d p hp
   obtain⟨e1,o2,k2,e2,t2,_⟩:=hnb d p hp
   have HD:=zQk ((zQl wr.heap.size wr).drew)
   have HE:=zQk (zOP (ca:=k1) (cb:=k2) p.k (t1.below HD.out) (t2.below HD.out) q1)
   subst hoa
   subst hob
   clear hna hnb hbe hp t1 t2 q1
   go_wp2_with fail
   refine zAA (X:=none) 8 [] [0,1,2,3,4,5,6,7] (by kernel_rfl) (by kernel_rfl) rfl (fun _ _ _ _ _ h=>h) ?_
   simp only[zAM,zAC,zAD,zAB,List.getD_cons_zero,List.getD_cons_succ,List.drop_succ_cons,List.drop_zero]
   repeat (go_big_quiet_step (fail))
   refine wpQuiet_nil ?_
   go_wp2_with fail
   refine HE.out.mono ?_
   rintro e w2 ⟨rfl,hb2⟩
   have HB2:=zQk (HBE.out.trans ((HD.out.trans hb2).mono HBE.out.size))
   clear hb2 e1 e2 z0 z1
   go_wp2_with fail
   go_roundg (P.length - (d+1))
   case measure=>have:=HG.out;omega
   case rel=>exact⟨d+1,by go_num,rfl,by omega,HB2.out⟩
  ·have hlt': ¬(d:Int)<(P.length:Int):=by omega
   clear hbe
   go_wp2_with fail
   go_ret
   exact⟨rfl,HBE.out⟩
end
end
section
open Go.RowKit
structure CmB (w:World) (b:Nat) (l:List Value):Prop where
 heap:w.heap[b]?=some (.cells l.toArray 36 (0,0))
 cl:zFb l
section
variable {w w':World} {b:Nat} {l:List Value}
theorem CmB.lt (h:CmB w b l):b<w.heap.size:=(zQs.1 h.heap).1
theorem CmB.cell (h:CmB w b l) (j:Nat):w.cell? ⟨b,j,none⟩=l[j]?:=(zQz _ _ j _ _ (0,0) h.heap).trans (by simp)
theorem CmB.fz (h:CmB w b l) (j:Nat):w.frozen? ⟨b,j,none⟩=false:=zAF h.heap j
theorem CmB.block (h:CmB w b l) (hb:w'.heap[b]?=w.heap[b]?):CmB w' b l:=⟨hb.trans h.heap,h.cl⟩
theorem CmB.below (h:CmB w b l) (hb:Below w.heap.size w w'):CmB w' b l:=h.block (hb.block b h.lt)
theorem CmB.other (h:CmB w b l) {c:Nat} (hc:b≠c) (o:Nat) (v:Value):CmB (w.setCell ⟨c,o,none⟩ v) b l:=h.block (zQu _ _ _ _ hc)
theorem CmB.set (h:CmB w b l) (i:Nat) {v:Value} (hv:v.oneCell'=true):CmB (w.setCell ⟨b,i,none⟩ v) b (l.set i v):=
 ⟨by
  rw[setCell_eq_setRow w b i _ _ _ v h.heap,setRow_heap w b _ _ _ _ h.heap]
  simp,h.cl.set i hv⟩
theorem CmB.new (hl:zFb l) (w:World):CmB (w.alloc (.cells l.toArray 36)) w.heap.size l:=⟨zQx w _,hl⟩
end
theorem CmB.tab2 {w:World} {b:Nat} {l:List Value} (h:CmB w b l):w.rangeAt b 16 (l.drop 16):=fun j v hv=>by
 rw[h.cell,←hv,List.getElem?_drop]
theorem CmB.row2 {w:World} {b:Nat} {l:List Value} (h:CmB w b l):w.rangeAt b 0 l:=fun j v hv=>by rw[h.cell,Nat.zero_add,←hv]
section
variable {w:World} {c:Cm} {L M:List Value}
theorem zNM (hL:zFb L) (hM:zFb M) (hx:EqV w L c) (hy:EqV w M c):
  Calls Tryz.prog 37 #[.agg L.toArray,.agg M.toArray] w fun e w'=>e= .returned (.bool true)∧Below w.heap.size w w':=by
 have hb1:=((zQl w.heap.size w).alloc (zQm _) (.cells L.toArray 36)).alloc (by simp) (.cells M.toArray 36)
 have HC:=zQk ((CmB.new hL w).below ((zQl _ _).alloc (zQm _) (.cells M.toArray 36)))
 have HD:=zQk (CmB.new hM (w.alloc (.cells L.toArray 36)))
 have hsz:(w.alloc (.cells L.toArray 36)).heap.size=w.heap.size+1:=by simp
 rw[hsz]at HD
 have HB:=zQk hb1
 have HU:=zQk (hx.below hb1)
 have HV:=zQk (hy.below hb1)
 have HX:=zQk hx
 have HY:=zQk hy
 have HTL:=zQk (hx.tail hy hL.len hM.len)
 have hq:=zKt (xs:=(M.drop 16).toArray) (fun i hi2=>⟨_,by rw[List.getElem?_toArray,List.getElem?_drop];exact hy.tb i hi2⟩)
 have HTI:Hid ((Tryz.prog.info? 34).map (·.size)=some (M.drop 16).length):=zQk (by rw[zKu,List.length_drop,hM.len])
 clear hL hM hx hy hb1 hsz
 go_enter Tryz.func37,Tryz.ntmps37
 go_upto_region 1 with fail
 obtain⟨W,hW⟩: ∃W,(w.alloc (.cells L.toArray 36)).alloc (.cells M.toArray 36)=W:=⟨_,rfl⟩
 rw[hW]at HC HD HB HU HV ⊢
 clear hW
 obtain⟨ou,ku,eu,ru,zu⟩:=HU.out.a2
 obtain⟨ov,kv,ev,rv,_⟩:=HV.out.a2
 have RU:=zQk ru
 have RV:=zQk rv
 clear ru rv
 have a0:=(HC.out.cell 0).trans HX.out.a0
 have b0:=(HD.out.cell 0).trans HY.out.a0
 have a1:=(HC.out.cell 1).trans HX.out.a1
 have b1:=(HD.out.cell 1).trans HY.out.a1
 have a2:=(HC.out.cell 2).trans eu
 have b2:=(HD.out.cell 2).trans ev
 have kl:=HC.out.lt
 have kd:=HD.out.lt
 have HE:=zQk (zM2 (ca:=ku) (cb:=kv) c.a.kind c.a.n RU.out RV.out zu)
 go_wp2_with fail
 refine HE.out.mono ?_;rintro e v1 ⟨rfl,hb⟩
 have HC1:=zQk (HC.out.below hb)
 have HD1:=zQk (HD.out.below hb)
 have HU1:=zQk (HU.out.below hb)
 have HV1:=zQk (HV.out.below hb)
 have HB1:=zQk (HB.out.trans (hb.mono HB.out.size))
 clear hb kl kd HE HC HD HU HV HB a0 b0 a1 b1 a2 b2
 clear eu ev RU RV zu
 obtain⟨ou,ku,eu,ru,zu⟩:=HU1.out.b2
 obtain⟨ov,kv,ev,rv,_⟩:=HV1.out.b2
 have RU:=zQk ru
 have RV:=zQk rv
 clear ru rv
 have a3:=(HC1.out.cell 3).trans HX.out.b0
 have b3:=(HD1.out.cell 3).trans HY.out.b0
 have a4:=(HC1.out.cell 4).trans HX.out.b1
 have b4:=(HD1.out.cell 4).trans HY.out.b1
 have a5:=(HC1.out.cell 5).trans eu
 have b5:=(HD1.out.cell 5).trans ev
 have kl:=HC1.out.lt
 have kd:=HD1.out.lt
 have HE:=zQk (zM2 (ca:=ku) (cb:=kv) c.b.kind c.b.n RU.out RV.out zu)
 go_wp2_with fail
 refine HE.out.mono ?_;rintro e v2 ⟨rfl,hb⟩
 have HC2:=zQk (HC1.out.below hb)
 have HD2:=zQk (HD1.out.below hb)
 have HU2:=zQk (HU1.out.below hb)
 have HV2:=zQk (HV1.out.below hb)
 have HB2:=zQk (HB1.out.trans (hb.mono HB1.out.size))
 clear hb kl kd HE HC1 HD1 HU1 HV1 HB1 a3 b3 a4 b4 a5 b5
 clear eu ev RU RV zu
 obtain⟨ou,ku,eu,ru,zu⟩:=HU2.out.tx
 obtain⟨ov,kv,ev,rv,_⟩:=HV2.out.tx
 have RU:=zQk ru
 have RV:=zQk rv
 clear ru rv
 have a6:=(HC2.out.cell 6).trans HX.out.nt
 have b6:=(HD2.out.cell 6).trans HY.out.nt
 have a7:=(HC2.out.cell 7).trans HX.out.nm
 have b7:=(HD2.out.cell 7).trans HY.out.nm
 have a9:=(HC2.out.cell 9).trans eu
 have b9:=(HD2.out.cell 9).trans ev
 have kl:=HC2.out.lt
 have kd:=HD2.out.lt
 have HE:=zQk (zKV (ca:=ku) (cb:=kv) RU.out RV.out zu)
 go_wp2_with fail
 refine HE.out.mono ?_;rintro e v3 ⟨rfl,hb⟩
 have HC3:=zQk (HC2.out.below hb)
 have HD3:=zQk (HD2.out.below hb)
 have HU3:=zQk (HU2.out.below hb)
 have HV3:=zQk (HV2.out.below hb)
 have HB3:=zQk (HB2.out.trans (hb.mono HB2.out.size))
 clear hb kl kd HE HC2 HD2 HU2 HV2 HB2 a6 b6 a7 b7 a9 b9
 clear eu ev RU RV zu
 obtain⟨ou,ku,eu,ru,zu⟩:=HU3.out.re
 obtain⟨ov,kv,ev,rv,_⟩:=HV3.out.re
 have RU:=zQk ru
 have RV:=zQk rv
 clear ru rv
 have a10:=(HC3.out.cell 10).trans eu
 have b10:=(HD3.out.cell 10).trans ev
 have kl:=HC3.out.lt
 have kd:=HD3.out.lt
 have HE:=zQk (zKU (ca:=ku) (cb:=kv) RU.out RV.out zu)
 go_wp2_with fail
 refine HE.out.mono ?_;rintro e v4 ⟨rfl,hb⟩
 have HC4:=zQk (HC3.out.below hb)
 have HD4:=zQk (HD3.out.below hb)
 have HU4:=zQk (HU3.out.below hb)
 have HV4:=zQk (HV3.out.below hb)
 have HB4:=zQk (HB3.out.trans (hb.mono HB3.out.size))
 clear hb kl kd HE HC3 HD3 HU3 HV3 HB3 a10 b10
 clear eu ev RU RV zu
 obtain⟨ou,ku,eu,ru⟩:=HU4.out.fi
 obtain⟨ov,kv,ev,rv⟩:=HV4.out.fi
 have RU:=zQk ru
 have RV:=zQk rv
 clear ru rv
 have a11:=(HC4.out.cell 11).trans eu
 have b11:=(HD4.out.cell 11).trans ev
 have kl:=HC4.out.lt
 have kd:=HD4.out.lt
 have HE:=zQk (zM1 (ca:=ku) (cb:=kv) RU.out RV.out)
 go_wp2_with fail
 refine HE.out.mono ?_;rintro e v5 ⟨rfl,hb⟩
 have HC5:=zQk (HC4.out.below hb)
 have HD5:=zQk (HD4.out.below hb)
 have HU5:=zQk (HU4.out.below hb)
 have HV5:=zQk (HV4.out.below hb)
 have HB5:=zQk (HB4.out.trans (hb.mono HB4.out.size))
 clear hb kl kd HE HC4 HD4 HU4 HV4 HB4 a11 b11
 clear eu ev RU RV
 have a12:=(HC5.out.cell 12).trans HX.out.ct
 have b12:=(HD5.out.cell 12).trans HY.out.ct
 have a13:=(HC5.out.cell 13).trans HX.out.al
 have b13:=(HD5.out.cell 13).trans HY.out.al
 have a14:=(HC5.out.cell 14).trans HX.out.pr
 have b14:=(HD5.out.cell 14).trans HY.out.pr
 have a15:=(HC5.out.cell 15).trans HX.out.wr
 have b15:=(HD5.out.cell 15).trans HY.out.wr
 have kl:=HC5.out.lt
 have kd:=HD5.out.lt
 have HT1:=zQk HC5.out.tab2
 have HT2:=zQk HD5.out.tab2
 rw[HTL.out]at HT1
 go_wp2_with (first|refine zAf (by kernel_rfl) 34 _ rfl w.heap.size 16 rfl _ _ HT1.out Tryz.underlying34 rfl HTI.out ?_|refine zAf (by kernel_rfl) 34 _ rfl (w.heap.size+1) 16 rfl _ _ HT2.out Tryz.underlying34 rfl HTI.out ?_)
 go_ret
 exact⟨rfl,HB5.out⟩
theorem zOy (hL:zFb L) (hM:zFb M) (hx:EqV w L c) (hy:EqV w M c):
  Calls Tryz.prog 9 #[.agg L.toArray,.agg M.toArray] w fun e w'=>e= .returned (.bool true)∧Below w.heap.size w w':=by
 have hb1:=((zQl w.heap.size w).alloc (zQm _) (.cells L.toArray 36)).alloc (by simp) (.cells M.toArray 36)
 have HC:=zQk ((CmB.new hL w).below ((zQl _ _).alloc (zQm _) (.cells M.toArray 36)))
 have HD:=zQk (CmB.new hM (w.alloc (.cells L.toArray 36)))
 have hsz:(w.alloc (.cells L.toArray 36)).heap.size=w.heap.size+1:=by simp
 rw[hsz]at HD
 have HB:=zQk hb1
 have HX:=zQk (zNM hL hM (hx.below hb1) (hy.below hb1))
 have HX8:=zQk hx.p
 have HY8:=zQk hy.p
 have HI1:Hid ((Tryz.prog.info? 36).map (·.size)=some L.length):=zQk (by rw[zCH,hL.len])
 have HI2:Hid ((Tryz.prog.info? 36).map (·.size)=some M.length):=zQk (by rw[zCH,hM.len])
 clear hL hM hx hy hb1 hsz
 go_enter Tryz.func9,Tryz.ntmps9
 go_upto_region 1 with fail
 obtain⟨W,hW⟩: ∃W,(w.alloc (.cells L.toArray 36)).alloc (.cells M.toArray 36)=W:=⟨_,rfl⟩
 rw[hW]at HC HD HB HX ⊢
 clear hW
 have HR1:=zQk HC.out.row2
 have HR2:=zQk HD.out.row2
 have a8:=(HC.out.cell 8).trans HX8.out
 have b8:=(HD.out.cell 8).trans HY8.out
 have kl:=HC.out.lt
 have kd:=HD.out.lt
 go_wp2_with (first|refine zAf (by kernel_rfl) 36 _ rfl w.heap.size 0 rfl _ _ HR1.out Tryz.underlying36 rfl HI1.out ?_|refine zAf (by kernel_rfl) 36 _ rfl (w.heap.size+1) 0 rfl _ _ HR2.out Tryz.underlying36 rfl HI2.out ?_)
 refine HX.out.mono ?_;rintro e v1 ⟨rfl,hb⟩
 have HB1:=zQk (HB.out.trans (hb.mono HB.out.size))
 clear hb a8 b8 kl kd
 go_wp2_with fail
 go_ret
 exact⟨rfl,HB1.out⟩
end
end
end Go.Proofs.YtmaagpbjahjmhaaGreatDoor
