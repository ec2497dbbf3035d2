/- Parts: Ki Kj Kk Kl Kn Ko Kq Kr Ks Kxa Fn Kv Kya. -/
import Derived.Test.YtfjbnpdffillbaaGreatDoorQ28
import Derived.Test.YtfjbnpdffillbaaGreatDoorQ29
import Derived.Test.YtfjbnpdffillbaaGreatDoorQ17
import Derived.Test.YtfjbnpdffillbaaGreatDoorQ18
import Derived.Test.YtfjbnpdffillbaaGreatDoorQ26
import Derived.Test.YtfjbnpdffillbaaGreatDoorQ6
import Derived.Sort.CutIn
import Derived.Lib.IndexLaws
set_option maxHeartbeats 6400000
set_option maxRecDepth 100000
namespace Go.Proofs.YtfjbnpdffillbaaGreatDoor
section
open Go.RowKit Go.Shelf
attribute [local go_sem] Oper.semAt_some
theorem zNS (l:List UInt8) (c:UInt8):(0≤Lib.indexByte l c)↔c∈l:=by
 constructor
 ·intro h
  obtain⟨o,ho⟩: ∃o:Nat,Lib.indexByte l c=o:=⟨(Lib.indexByte l c).toNat,by omega⟩
  exact zP9 (Lib.indexByte_some ho).1
 ·intro h
  rcases Int.lt_or_le (Lib.indexByte l c) 0 with h1|h1
  ·have h2:=Lib.indexByte_ge l c
   obtain⟨k,hk⟩:=List.getElem?_of_mem h
   exact absurd hk (Lib.indexByte_none (by omega) k)
  ·exact h1
theorem zLJ (s:ByteArray) (b:Nat) (hb:b<256) {w:World} :
  Calls Tryz.prog 126 #[.string s,.int .u8 (b:Nat)] w fun e w'=>(∃k:Int,e= .returned (.int .i64 k)∧(0≤k↔b∈zAW s))∧w'=w:=
 (shl.strings_IndexByte s b w).mono fun e w' ⟨he,hw⟩=>⟨⟨_,he,by
  rw[zNS,show(b:Int).toNat=b from Int.toNat_natCast b]
  unfold zAW
  rw[List.mem_map]
  constructor
  ·intro h
   exact⟨_,h,by rw[UInt8.toNat_ofNat'];omega⟩
  ·rintro⟨x,hx,rfl⟩
   rwa[show x.toNat.toUInt8=x from UInt8.ofNat_toNat]⟩,hw⟩
theorem zLo (ere:Bool) (S:ByteArray) (h:S=if ere then⟨#[46,91,42,94,36,92]⟩++⟨#[40,41,43,63,123,124]⟩else⟨#[46,91,42,94,36,92]⟩):zAW S=spB ere:=by
 subst h
 cases ere<;>rfl
section
variable {w W W':World} {E:SpE} {out:List Nat} {at_:Nat} {ok:Bool} {ov v v':Value}
theorem SpB.low (h:SpB w E ov W v) (k:Below w.heap.size W W'):SpB w E ov W' v:=
 ⟨⟨k.os.trans h.but.os,k.tape.trans h.but.tape,k.output.trans h.but.output,zP2 h.but.size k.size,fun i hi h1 h2=>(k.block i hi).trans (h.but.block i hi h1 h2)⟩,h.new⟩
theorem zNc {b o:Nat} {u:Value} (h:W.cell? ⟨b,o,none⟩=some u): ∃x:Obj,W.heap[b]?=some x∧x.isCells=true:=cells_of_cell (a:=⟨b,o,none⟩) h
theorem SpS.own_cells (h:SpS W E out at_ ok v) {g:Nat} (hg:v.ownBlock=some g): ∃x:Obj,W.heap[g]?=some x∧x.isCells=true:=by
 rcases h.own.2 with ⟨rfl,_⟩|⟨g',cap,cur,rfl,_,hgb,_⟩
 ·cases hg
 ·cases hg;exact⟨_,hgb,rfl⟩
theorem SpB.others (h:SpS W E out at_ ok v) (hb:SpB W E v W' v'):KeepsOthers W W':=
 ⟨hb.but.size,fun k o hk ho=>by
  refine(hb.but.block k (zPn.1 hk).1 ?_ ?_).trans hk
  ·intro e;subst e
   obtain⟨x,hx,hc⟩:=zNc h.c0
   rw[hk]at hx;cases hx;rw[ho]at hc;cases hc
  ·intro e
   obtain⟨x,hx,hc⟩:=h.own_cells e.symm
   rw[hk]at hx;cases hx;rw[ho]at hc;cases hc⟩
theorem SpB.kp (h:SpS W E out at_ ok v) (hb:SpB W E v W' v') {Bn:Nat} (hB:Bn<W.heap.size) (h1:Bn≠E.bx) (h2:v.ownBlock≠some Bn):Kp E.w0.heap.size Bn W W':=by
 have q:=h.w0lt
 refine⟨⟨hb.but.os,hb.but.tape,hb.but.output,hb.but.size,fun k hk=>hb.but.block k (by have:=h.xlt;omega) (by omega) (fun e=>by have:=h.ovlt k e.symm;have:=h.exv;omega)⟩,fun o ho _=>(hb.but.block Bn hB h1 (fun e=>h2 e.symm)).trans ho⟩
def SpI (w:World) (E:SpE) (ov:Value) (S:ByteArray) (Bn:Nat) (o:List Nat) (at_:Nat) (k:Bool) (W:World):Prop:=
 ∃v,SpS W E o at_ k v∧SpB w E ov W v∧W.cell? ⟨w.heap.size,0,none⟩=some (.pointer (some ⟨E.bx,0,none⟩))∧W.cell? ⟨w.heap.size+2,0,none⟩=some (.string S)∧Bn<W.heap.size∧ ∀g,v.ownBlock=some g→g≠w.heap.size∧g≠w.heap.size+2∧g≠Bn
theorem SpI.grown {S:ByteArray} {Bn:Nat} {row:Option Nat} (h:SpI w E ov S Bn out at_ ok W) (hg:W.grownBy W' row) (hr: ∀r,row=some r→Bn<r∧ ∃o:Obj,W.heap[r]?=some o∧o.isCells=false) (hw:w.heap.size+2<Bn) (hx:E.bv<w.heap.size):SpI w E ov S Bn out at_ ok W':=by
 obtain⟨v,h1,h2,h3,h4,h5,h6⟩:=h
 have q1:=h1.ebe;have q2:=h1.ebr;have q3:=h1.exv;have q4:=h1.lt
 have hlow: ∀k,k≤Bn→k<W.heap.size→W'.heap[k]?=W.heap[k]?:=fun k hk hs=>hg.block k hs (fun e=>by have:=(hr k e.symm).1;omega)
 refine⟨v,h1.block (fun g hgo=>hg.block g (h1.ovlt g hgo).2 (fun e=>?_)) ⟨hg.os,hg.tape,hg.output,hg.size,fun k hk=>hlow k (by have:=h1.w0lt;omega) (by have:=h1.w0lt;omega)⟩ (hlow _ (by omega) (by omega)) (hlow _ (by omega) (by omega)) (hlow _ (by omega) (by omega)) (hlow _ (by omega) (by omega)),h2.low ⟨hg.os,hg.tape,hg.output,hg.size,fun k hk=>hlow k (by omega) (by omega)⟩,(zPj (a:=⟨w.heap.size,0,none⟩) (hlow w.heap.size (by omega) (by omega))).trans h3,(zPj (a:=⟨w.heap.size+2,0,none⟩) (hlow (w.heap.size+2) (by omega) (by omega))).trans h4,zPi h5 hg.size,h6⟩
 obtain⟨_,o,ho,hc⟩:=hr g e.symm
 obtain⟨x,hx2,hcx⟩:=h1.own_cells hgo
 rw[ho]at hx2;cases hx2;rw[hc]at hcx;cases hcx
theorem SpI.said {S:ByteArray} {Bn:Nat} {o':List Nat} {k':Bool} (h1:SpS W E out at_ ok v) (h2:SpB w E ov W v) (h3:W.cell? ⟨w.heap.size,0,none⟩=some (.pointer (some ⟨E.bx,0,none⟩))) (h4:W.cell? ⟨w.heap.size+2,0,none⟩=some (.string S)) (h5:Bn<W.heap.size) (h6: ∀g,v.ownBlock=some g→g≠w.heap.size∧g≠w.heap.size+2∧g≠Bn)
  (hw:w.heap.size+2<Bn) (hx:E.bv<w.heap.size) (hs:SpS W' E o' at_ k' v') (hb:SpB W E v W' v'):KeepsOthers W W'∧Kp E.w0.heap.size Bn W W'∧SpI w E ov S Bn o' at_ k' W':=by
 have q3:=h1.exv
 refine⟨hb.others h1,hb.kp h1 h5 (by omega) (fun e=>(h6 Bn e).2.2 rfl),v',hs,h2.trans hb,(hb.cell (by omega) (by omega) (fun e=>(h6 _ e.symm).1 rfl)).trans h3,(hb.cell (by omega) (by omega) (fun e=>(h6 _ e.symm).2.1 rfl)).trans h4,zPi h5 hb.but.size,fun g hg=>?_⟩
 rcases hb.new with e|e
 ·exact h6 g (e▸hg)
 ·have:=e g hg;omega
end
theorem zKX (w:World) (b:Nat) (hb:b<256): ∃s:ByteArray,zAW s=[b]∧s.size=1∧
  (convert 22 9 (.slice (some ⟨w.heap.size,0,none⟩) 1 1)).run Tryz.prog (w.alloc (.cells #[.int .u8 (b:Nat)] 5)).drew= .ok (.string s) (w.alloc (.cells #[.int .u8 (b:Nat)] 5)).drew:=by
 have h1:zAW (strOfNums ([b].map fun b:Nat=>(b:Int)))=[b]:=zDw [b] (by simpa using hb)
 refine⟨_,h1,by rw[←zAh,h1];rfl,?_⟩
 refine run_convert_bytes_arg _ _ _ Tryz.underlying22 Tryz.underlying5 w.heap.size 0 1 1 _ rfl (fun i hi=>?_) _ Tryz.underlying9
 obtain rfl:i=0:=by omega
 simp[go_sem]
def stP (ere:Bool) (out:List Nat) (ok:Bool):List (Fin 256)→List Nat × Bool
 |[]=>(out,ok)
 |x::_=>(out++zFO ere x.val,ok&&decide ((out++zFO ere x.val).length≤4096))
theorem zOA {w:World} {E:SpE} {out:List Nat} {at_:Nat} {ok:Bool} {ov:Value} (h:SpS w E out at_ ok ov) (c:Cls) (b:Nat) (hc:c.els=[b]) (hl:out.length≤90000):
  Calls Tryz.prog 146 #[.pointer (some ⟨E.bx,0,none⟩),zBE c] w (SpP w E ov fun out' at' ok'=>out'=out++zJb E.ere c∧at'=at_∧ok'=(ok&&decide ((out++zJb E.ere c).length≤4096))):=by
 have H:=zPf h
 have c1:=h.c1
 have hxl:=h.xlt
 have hvl:=h.lt
 have hb256:b<256:=zNs (c:=c) (by rw[hc];exact List.mem_singleton_self b)
 have HSB:=zPf (show zJb E.ere c=zFO E.ere b by unfold zJb;rw[hc];rfl)
 have HCE:=zPf hc
 have hx1:E.bx<w.heap.size+1:=by omega
 have hx2:E.bx<w.heap.size+1+1:=by omega
 have HQ:=zPf (fun S=>zIY w E.bx c S _ rfl)
 clear h hc
 refine(callsIn_wide (n:=8)).1 ?_
 refine callsIn_of_wp_marks Tryz.func146 rfl trivial ?_ rfl
 simp only[Tryz.ntmps146,List.size_toArray,List.length_cons,List.length_nil,Nat.reduceAdd,Nat.reduceSub,Array.replicate_succ,Array.replicate_zero,List.push_toArray,List.append_toArray,List.nil_append,List.cons_append]
 gi_upto_if 9 with fail
 gi_cut []from 5 (fun wd=>Below w.heap.size w wd∧wd.cell? ⟨w.heap.size,0,none⟩=some (.pointer (some ⟨E.bx,0,none⟩))∧zBn wd (w.heap.size+1) c∧(∃S,wd.cell? ⟨w.heap.size+2,0,none⟩=some (.string S)∧zAW S=spB E.ere)∧w.heap.size+3=wd.heap.size)
 case first=>
  cases hE:E.ere with
  |true=>
   have HE:=zPf hE
   clear hE c1
   gi_wp2_with fail
   gi_meet
   have h:=HQ.out (⟨#[46,91,42,94,36,92]⟩++⟨#[40,41,43,63,123,124]⟩)
   exact⟨h.1,h.2.1,h.2.2.1,⟨_,h.2.2.2.1,zLo E.ere _ (by rw[HE.out,if_pos rfl])⟩,h.2.2.2.2.symm⟩
  |false=>
   have HE:=zPf hE
   clear hE c1
   gi_wp2_with fail
   gi_meet
   have h:=HQ.out ⟨#[46,91,42,94,36,92]⟩
   exact⟨h.1,h.2.1,h.2.2.1,⟨_,h.2.2.2.1,zLo E.ere _ (by rw[HE.out,if_neg Bool.false_ne_true])⟩,h.2.2.2.2.symm⟩
 case rest=>
 obtain⟨hb,hx,hcb,⟨S,hS,hSB⟩,hsz⟩:=hcut
 have HSS:=zPf hSB
 have HB:=zPf hb
 have HS:=zPf (H.out.below hb)
 have HC:=zPf hcb
 have hxs:=hcb.lt
 have hxs0:w.heap.size<wc.heap.size:=by omega
 have hxs2:w.heap.size+2<wc.heap.size:=by omega
 obtain⟨z0,z1,z2,z3,_⟩:=hcb.cells
 clear hb hcb hx1 hx2 c1 hSB HQ hsz
 gi_wp2_with fail
 refine⟨trivial,?_⟩
 refine(callsIn_wide.2 (zIW c)).mono ?_;rintro e w1 ⟨rfl,hb1⟩
 have HB1:=zPf (HB.out.trans (hb1.mono HB.out.size))
 have HS1:=zPf (HS.out.below hb1)
 have HC1:=zPf (HC.out.below hb1)
 have hx1:=(hb1.cell (p:=⟨w.heap.size,0,none⟩) hxs0).trans hx
 have hS1:=(hb1.cell (p:=⟨w.heap.size+2,0,none⟩) hxs2).trans hS
 have hls2:=zPi hxs2 hb1.size
 have hls:=zPi hxs0 hb1.size
 obtain⟨z0,z1,z2,z3,_⟩:=HC1.out.cells
 have hlc:=HC1.out.lt
 have hn1:((c.els.length:Int)==1)=true:=by rw[HCE.out];rfl
 have hn2:((c.els.length:Int)==256)=false:=by rw[HCE.out];rfl
 clear hb1 hx hS hxs hxs0 hxs2
 gi_wp2_with fail
 refine⟨trivial,?_⟩
 refine(callsIn_wide.2 (zKb c)).mono ?_;rintro e w2 ⟨rfl,rfl⟩
 gi_wp2_with fail
 obtain⟨W0,hW0⟩: ∃W0,w1.alloc (.cells (zAS c) 76)=W0:=⟨_,rfl⟩
 have hsz:W0.heap.size=w1.heap.size+1:=by rw[←hW0];simp
 have hbx:W0.heap[w1.heap.size]?=some (.cells (zAS c) 76 (0,0)):=by rw[←hW0];exact zPs _ _
 have hb0:Below w1.heap.size w1 W0:=by rw[←hW0];exact(zPg _ _).alloc (zPh _) _
 rw[hW0]
 clear hW0
 have HW0:=zPf (HS1.out.below hb0)
 have hI0:SpI w E ov S w1.heap.size out at_ ok W0:=
  ⟨ov,HW0.out,SpB.of_below (E:=E) (ov:=ov) (HB1.out.trans (hb0.mono HB1.out.size)),(hb0.cell (p:=⟨w.heap.size,0,none⟩) hls).trans hx1,(hb0.cell (p:=⟨w.heap.size+2,0,none⟩) hls2).trans hS1,by omega,fun g hg=>by have:=H.out.ovlt g hg;omega⟩
 have hg0:2<E.w0.heap.size:=by
  have h1:=H.out.tb.tz 0 (by decide)
  by_cases hlt:2<E.w0.heap.size
  ·exact hlt
  ·rw[World.cell?,Array.getElem?_eq_none (show E.w0.heap.size≤(⟨2,0,none⟩:Addr).block by show E.w0.heap.size≤2;omega)]at h1;cases h1
 clear z0 z1 z2 z3 hx1 hS1
 have HLN1:=zPf (show c.els.length=1 by rw[HCE.out];rfl)
 have hown:OwnFrom W0.heap.size (fun(pre:List (Fin 256)) W=>SpI w E ov S w1.heap.size (stP E.ere out ok pre).1 at_ (stP E.ere out ok pre).2 W):=
  fun s A B row hs hg hr=>SpI.grown hs hg (fun r e=>by have:=(hr r e).1;exact⟨by omega,(hr r e).2⟩) hls2 hvl
 refine wpIn_rangeFunc_ownF (w0:=W0) rfl (by omega) (gf:=199) (lb:= #[.pointer (some ⟨w1.heap.size,0,none⟩)]) rfl trivial (enters_of Tryz.func199 (by kernel_rfl) rfl)
  (zJF 7 w1.heap.size E.w0.heap.size (by omega) c W0 (by omega) HW0.out.b0.size hbx HW0.out.tabs.tz hg0) (fun h k=>h.trans' k) (fun W l o o' hl ho hc=>Kp.put (w:=W0) HW0.out.b0.size W l o o' hl ho hc) (zPg _ _) (fun _=>rfl)
  (fun pre W=>SpI w E ov S w1.heap.size (stP E.ere out ok pre).1 at_ (stP E.ere out ok pre).2 W)
  (fun _ _ _=>False)
  hown
  (fun _ _ _ _ _ hs _ _=>hs)
  hI0
  (fun x=> { tmps:= #[.pointer (some ⟨E.bx,0,none⟩),zBE c,.pointer (some ⟨w.heap.size,0,none⟩),.pointer (some ⟨w.heap.size+1,0,none⟩),.pointer (some ⟨w.heap.size+1+1,0,none⟩),.int .u8 (x.val:Nat),u6,u7,u8,u9,u10,u11,zBE c,.int .i64 (c.els.length:Nat),.bool false,.bool false,u16,u17,u18,u19,u20,.bool true,.bool true,zBE c,.func (.func 199) #[] #[.pointer (some ⟨w1.heap.size,0,none⟩)],.int .u8 (x.val:Nat),u26,u27,u28,u29,u30,u31,u32,u33,u34,u35,u36,u37,u38,u39,u40,u41,u42,u43,u44,u45,u46,u47,u48,u49,u50,u51,u52,u53,u54,u55,u56,u57,u58,u59,u60,u61,u62,u63,u64,u65,u66,u67,u68,u69,u70,u71,u72,u73,u74,u75,u76,u77,u78,u79,u80],defers:=[] }) ?assign ?body ?done ?stop
 case assign=>
  intro l x W K hK
  gi_wp2
  exact hK
 case body=>
  rintro l pre x W hI hlt
  obtain rfl:pre=[]:=zQE (by have:=HLN1.out;omega)
  obtain⟨v,h1,h2,h3,h4,h5,h6⟩:=hI
  dsimp only[stP]at h1
  dsimp only
  have HI:=zPf (fun(o':List Nat) (k':Bool) (W':World) (v':Value) (hs:SpS W' E o' at_ k' v') (hb:SpB W E v W' v')=>SpI.said h1 h2 h3 h4 h5 h6 hls2 hvl hs hb)
  have HS9:=zPf h1
  have hc5:=h1.c5
  have hxl9:=h1.xlt
  have hws:w.heap.size<W.heap.size:=by omega
  have hws2:w.heap.size+2<W.heap.size:=by omega
  have hx256:=x.isLt
  have hvw: ∀g,v.ownBlock=some g→g<W.heap.size:=fun g hg=>(h1.ovlt g hg).2
  clear h1 h2 h5 h6 hI0 hown hb0 hbx hg0 hsz
  by_cases h10:x.val=10
  ·have HBB:=zPf (show zFO E.ere x.val=[92,110]from if_pos h10)
   have h10':(((x.val:Nat):Int)==10)=true:=beq_iff_eq.2 (by omega)
   clear h10
   gi_wp2_with fail
   refine⟨trivial,?_⟩
   refine(CallsIn.inRound l (callsIn_wide.2 (zBI HS9.out _ (zFO E.ere x.val) (by rw[HBB.out];rfl) (by omega) (by rw[HBB.out];simp)))).mono ?_
   rintro e W2 ⟨rfl,o2,a2,k2,v2,hs2,hb2,rfl,rfl,rfl⟩
   have HF:=zPf (HI.out _ _ _ _ hs2 hb2)
   clear hs2 hb2
   gi_wp2_with fail
   exact HF.out
  ·have h10':(((x.val:Nat):Int)==10)=false:=zPl.2 (by omega)
   have H10:=zPf h10
   clear h10
   gi_wp2_with fail
   refine⟨trivial,?_⟩
   refine(CallsIn.inRound l (callsIn_wide.2 (zLJ S x.val hx256))).mono ?_
   rintro e W2 ⟨⟨k,rfl,hk⟩,rfl⟩
   rw[HSS.out]at hk
   by_cases hin:x.val∈spB E.ere
   ·have hk0:0≤k:=hk.2 hin
    have HBB:=zPf (show zFO E.ere x.val=[92,x.val]by unfold zFO;rw[if_neg H10.out,if_pos (List.contains_iff_mem.2 hin)])
    obtain⟨s1,hs1,hsz1,hcv⟩:=zKX W2 x.val hx256
    have HS1':=zPf hs1
    have hsz2: ¬9223372036854775807<1+s1.size:=by omega
    have hbA:Below W2.heap.size W2 (W2.alloc (.cells #[.int .u8 (x.val:Nat)] 5)).drew:=((zPg _ W2).alloc (zPh _) _).drew
    have HSA:=zPf (HS9.out.below hbA)
    have HBA:=zPf (SpB.of_below (E:=E) (ov:=v) hbA)
    clear hk hin hs1 hbA hsz1
    gi_wp2_with fail
    refine zDg (X:=(none)) (zGg l) rfl (fun _ _ h=>h) 8 [([0,1,2,3,4],5),([],6)] [7] (by kernel_rfl) (by kernel_rfl) rfl (fun _ _ _ _ _ h=>h) ?_
    simp only[zAI,zAC,zAF,zAD,zAB,List.getD_cons_zero,List.getD_cons_succ,List.drop_succ_cons,List.drop_zero]
    repeat (go_big_quiet_step (fail))
    refine wpQuiet_nil ?_
    go_wp2_with fail
    refine⟨zAa (zAR _ _),?_⟩
    repeat (go_big_quiet_step (fail))
    refine wpQuiet_nil ?_
    go_wp2_with fail
    refine⟨zAJ.refl _,?_⟩
    repeat (go_big_quiet_step (fail))
    refine wpQuiet_nil ?_
    go_wp2_with fail
    have HCC:=zPf (zBI HSA.out (⟨#[92]⟩++s1) (zFO E.ere x.val) (by rw[HBB.out,zDE,HS1'.out];rfl) (by omega) (by rw[HBB.out];simp))
    refine HCC.out.mono ?_
    rintro e W3 ⟨rfl,o2,a2,k2,v2,hs2,hb2,rfl,rfl,rfl⟩
    have HF:=zPf (HI.out _ _ _ _ hs2 (HBA.out.trans hb2))
    clear hs2 hb2
    go_wp2_with fail
    gi_wp2_with fail
    exact HF.out
   ·have hk0: ¬0≤k:=fun h=>hin (hk.1 h)
    have HBB:=zPf (show zFO E.ere x.val=[x.val]by unfold zFO;rw[if_neg H10.out,if_neg (fun h=>hin (List.contains_iff_mem.1 h))])
    obtain⟨s1,hs1,hsz1,hcv⟩:=zKX W2 x.val hx256
    have HS1':=zPf hs1
    have hsz2: ¬9223372036854775807<1+s1.size:=by omega
    have hbA:Below W2.heap.size W2 (W2.alloc (.cells #[.int .u8 (x.val:Nat)] 5)).drew:=((zPg _ W2).alloc (zPh _) _).drew
    have HSA:=zPf (HS9.out.below hbA)
    have HBA:=zPf (SpB.of_below (E:=E) (ov:=v) hbA)
    clear hk hin hs1 hbA hsz1
    gi_wp2_with fail
    refine zDg (X:=(none)) (zGg l) rfl (fun _ _ h=>h) 7 [([0,1,2,3,4],5),([],6)] [] (by kernel_rfl) (by kernel_rfl) rfl (fun _ _ _ _ _ h=>h) ?_
    simp only[zAI,zAC,zAF,zAD,zAB,List.getD_cons_zero,List.getD_cons_succ,List.drop_succ_cons,List.drop_zero]
    repeat (go_big_quiet_step (fail))
    refine wpQuiet_nil ?_
    go_wp2_with fail
    refine⟨zAa (zAR _ _),?_⟩
    repeat (go_big_quiet_step (fail))
    refine wpQuiet_nil ?_
    go_wp2_with fail
    refine⟨zAJ.refl _,?_⟩
    repeat (go_big_quiet_step (fail))
    refine wpQuiet_nil ?_
    go_wp2_with fail
    have HCC:=zPf (zBI HSA.out s1 (zFO E.ere x.val) (by rw[HBB.out,HS1'.out]) (by omega) (by rw[HBB.out];simp))
    refine HCC.out.mono ?_
    rintro e W3 ⟨rfl,o2,a2,k2,v2,hs2,hb2,rfl,rfl,rfl⟩
    have HF:=zPf (HI.out _ _ _ _ hs2 (HBA.out.trans hb2))
    clear hs2 hb2
    go_wp2_with fail
    gi_wp2_with fail
    exact HF.out
 case done=>
  rintro D ys W hD hS hI hK
  gi_wp2
  refine⟨by simp,.inl ⟨_,_,rfl,run_takeDeferred hK,?_⟩⟩
  refine⟨_,results_none rfl _ _ _,?_⟩
  rw[HCE.out]at hS
  obtain⟨y,rfl,hy⟩: ∃y:Fin 256,ys=[y]∧y.val=b:=by
   match ys,hS with
   |[y],h=>exact⟨y,rfl,by simpa [zIn]using h⟩
  obtain⟨v,h1,h2,_⟩:=SpI.grown hI (grownBy_putObj' W D (.deferred none)) (fun r e=>by cases e;exact⟨by omega,_,hK,rfl⟩) hls2 hvl
  dsimp only[stP]at h1
  rw[hy]at h1
  exact⟨rfl,_,_,_,v,h1,h2,by rw[HSB.out],rfl,by rw[HSB.out]⟩
 case stop=>
  rintro D c pre W _ _ h _
  exact h.elim
theorem zM8 {w:World} {E:SpE} {out:List Nat} {at_:Nat} {ok:Bool} {ov:Value} (h:SpS w E out at_ ok ov) (c:Cls) (hl:out.length≤90000):
  Calls Tryz.prog 146 #[.pointer (some ⟨E.bx,0,none⟩),zBE c] w (SpP w E ov fun out' at' ok'=>out'=out++zJb E.ere c∧at'=at_∧ok'=(ok&&decide ((out++zJb E.ere c).length≤4096))):=by
 by_cases hc:c.els.length=1
 ·obtain⟨b,hb⟩:=List.length_eq_one_iff.1 hc
  exact zOA h c b hb hl
 ·exact zLs h c hc hl
end
section
open Go.RowKit
structure zFx (W:World) (E:SpE) (B:Nat) (x:Nd) (v:Value):Prop where
 at_:zE9 W B x
 nx:B≠E.bx
 no:v.ownBlock≠some B
section
variable {w W W':World} {E:SpE} {B:Nat} {x:Nd} {v v':Value}
theorem zFx.lt (h:zFx W E B x v):B<W.heap.size:=(zPn.1 h.at_).1
theorem zFx.next (h:zFx W E B x v) (hb:SpB W E v W' v'):zFx W' E B x v':=
 ⟨(hb.but.block B h.lt h.nx (fun e=>h.no e.symm)).trans h.at_,h.nx,by
  rcases hb.new with e|e
  ·rw[e];exact h.no
  ·exact fun e2=>by have:=e B e2;have:=h.lt;omega⟩
theorem zFx.below (h:zFx W E B x v) (hb:Below W.heap.size W W'):zFx W' E B x v:=⟨(hb.block B h.lt).trans h.at_,h.nx,h.no⟩
theorem zFx.cells (h:zFx W E B x v):W.cell? ⟨B,0,none⟩=some (.int .i8 x.op)∧(W.cell? ⟨B,1,none⟩=some (.int .u64 x.set.w0.toNat)∧W.cell? ⟨B,2,none⟩=some (.int .u64 x.set.w1.toNat)∧W.cell? ⟨B,3,none⟩=some (.int .u64 x.set.w2.toNat)∧W.cell? ⟨B,4,none⟩=some (.int .u64 x.set.w3.toNat))∧W.cell? ⟨B,5,none⟩=some (.int .i64 x.n)∧W.cell? ⟨B,6,none⟩=some (.int .i64 x.min)∧W.cell? ⟨B,7,none⟩=some (.int .i64 x.max)∧W.cell? ⟨B,8,none⟩=some (.int .i64 x.kids):=by
 have c:=fun j=>zPu W B j _ _ (0,0) h.at_
 exact⟨c 0,⟨c 1,c 2,c 3,c 4⟩,c 5,c 6,c 7,c 8⟩
theorem zFx.new {out:List Nat} {a:Nat} {k:Bool} (h:SpS w E out a k v) (x:Nd) (W:World) (hW:W=w.alloc (.cells (zAO x) 78)):zFx W E w.heap.size x v∧SpS W E out a k v∧SpB w E v W v:=by
 subst hW
 have hb:Below w.heap.size w (w.alloc (.cells (zAO x) 78)):=(zPg _ _).alloc (zPh _) _
 exact⟨⟨zPs _ _,by have:=h.xlt;omega,fun e=>by have:=h.ovlt _ e;omega⟩,h.below hb,SpB.of_below hb⟩
end
def zO9 (w:World) (E:SpE) (ov:Value) (out:List Nat) (a:Nat) (ok:Bool) (n:List Nat):Ending→World→Prop:=
 SpP w E ov fun out' at' ok'=>out'=out++n∧at'=a∧ok'=(ok&&decide ((out++n).length≤4096))
theorem zMB (ok:Bool) (a b:List Nat) (hab:a.length≤b.length):(ok&&decide (a.length≤4096)&&decide (b.length≤4096))=(ok&&decide (b.length≤4096)):=by
 cases ok with
 |false=>rfl
 |true=>
  by_cases h:b.length≤4096
  ·rw[zPq h,zPq (show a.length≤4096 by omega)];rfl
  ·rw[zPr h];simp
theorem zO9.join {w W:World} {E:SpE} {ov v:Value} {out n m:List Nat} {a:Nat} {ok:Bool} {e:Ending} {w':World} (hb:SpB w E ov W v) (h:zO9 W E v (out++n) a (ok&&decide ((out++n).length≤4096)) m e w'):zO9 w E ov out a ok (n++m) e w':=by
 obtain⟨he,o,a',k,v',hs,hb',rfl,rfl,rfl⟩:=h
 exact⟨he,_,_,_,_,hs,hb.trans hb',by rw[List.append_assoc],rfl,by rw[zMB _ _ _ (by simp),List.append_assoc]⟩
theorem SpS.col {w:World} {E:SpE} {o m:List Nat} {a:Nat} {ok:Bool} {v:Value} (h:SpS w E (o++m) a (ok&&decide (o.length≤4096)&&decide ((o++m).length≤4096)) v):SpS w E (o++m) a (ok&&decide ((o++m).length≤4096)) v:=by
 rwa[zMB _ _ _ (by simp)]at h
theorem zDU {m:Int} (h0: -1≤m) (h1:m≤255):(zHZ m).length≤20:=zH9 (by omega) (by omega)
theorem zBT (ere:Bool) (b:Nat):(zA7 ere b).length≤2:=by unfold zA7;split<;>simp
theorem zKh {w:World} {E:SpE} {out:List Nat} {a:Nat} {ok:Bool} {ov:Value} (h:SpS w E out a ok ov) (n:Nd) (h1:0≤n.min∧n.min≤255) (h2: -1≤n.max∧n.max≤255) (hl:out.length≤80000):
  Calls Tryz.prog 205 #[.pointer (some ⟨E.bx,0,none⟩),ndV n] w (zO9 w E ov out a ok (zMY E.ere n)):=by
 obtain⟨hbox,hs,hb⟩:=zFx.new h n _ rfl
 have H:=zPf hs
 have HB:=zPf hb
 have HX:=zPf hbox
 have H1:=zPf h1
 have H2:=zPf h2
 have hxl:=h.xlt
 clear h hbox hs hb h1 h2
 have e1: ∀k:Int,(n.min==k)=decide (n.min=k):=fun k=>by rw[Bool.eq_iff_iff];simp
 go_enter Tryz.func205,Tryz.ntmps205
 go_upto_region 1 with fail
 rw[show(w.alloc (.cells #[.int .i8 n.op,.int .u64 n.set.w0.toNat,.int .u64 n.set.w1.toNat,.int .u64 n.set.w2.toNat,.int .u64 n.set.w3.toNat,.int .i64 n.n,.int .i64 n.min,.int .i64 n.max,.int .i64 n.kids] 78))=w.alloc (.cells (zAO n) 78)from rfl]
 generalize w.alloc (.cells (zAO n) 78)=W at H HB HX ⊢
 generalize hBB:w.heap.size=B at HX ⊢
 clear hBB hxl e1
 have hxl:=H.out.xlt
 have hBl:=HX.out.lt
 obtain⟨_,_,_,m6,m7,_⟩:=HX.out.cells
 have k1:=H.out.c1
 have k5:=H.out.c5
 have k6:=H.out.c6
 go_cut [4] (fun v wd=>v= .bool (decide (n.min=0)&&decide (n.max<0))∧W=wd)
 case first=>
  by_cases q1:n.min=0
  ·have q1':(n.min==0)=true:=by rw[q1];rfl
   have Q1:=zPf q1
   clear q1
   go_wp2_with fail
   go_meet
   exact⟨by rw[zPq Q1.out,Bool.true_and],rfl⟩
  ·have q1':(n.min==0)=false:=zPl.2 q1
   have Q1:=zPf q1
   clear q1
   go_wp2_with fail
   go_meet
   exact⟨by rw[zPr Q1.out,Bool.false_and],rfl⟩
 case rest=>
 obtain⟨rfl,rfl⟩:=hcut
 generalize hE:E.ere=er at k1
 have HE:=zPf hE
 clear hE
 by_cases qa:n.min=0∧n.max<0
 ·have HD:=zPf (show zMY E.ere n=[42]from if_pos qa)
  rw[zPq qa.1,zPq qa.2,Bool.true_and]
  clear qa
  go_wp2_with fail
  refine(zBI H.out _ [42] rfl (by omega) (by simp)).mono ?_
  rintro e w2 ⟨rfl,o2,a2,k2,v2,hs2,hb2,hr2⟩
  have HS2:=zPf hs2
  have HB2:=zPf (HB.out.trans hb2)
  have HR2:=zPf hr2
  clear hs2 hb2 hr2
  go_wp2_with fail
  go_end0
  exact⟨rfl,_,_,_,_,HS2.out,HB2.out,by rw[HD.out];exact HR2.out⟩
 ·have QA:=zPf qa
  rw[show(decide (n.min=0)&&decide (n.max<0))=false by rw[Bool.and_eq_false_iff,decide_eq_false_iff_not,decide_eq_false_iff_not];by_cases h:n.min=0;exact .inr (fun h2=>qa ⟨h,h2⟩);exact .inl h]
  clear qa
  go_upto_region 3 with fail
  go_cut [18] (fun v wd=>v= .bool (er&&decide (n.min=1)&&decide (n.max<0))∧W=wd)
  case first=>
   cases er with
   |false=>
    go_wp2_with fail
    go_meet
    exact⟨rfl,rfl⟩
   |true=>
    by_cases q1:n.min=1
    ·have q1':(n.min==1)=true:=by rw[q1];rfl
     have Q1:=zPf q1
     clear q1
     go_wp2_with fail
     go_meet
     exact⟨by rw[zPq Q1.out,Bool.true_and,Bool.true_and],rfl⟩
    ·have q1':(n.min==1)=false:=zPl.2 q1
     have Q1:=zPf q1
     clear q1
     go_wp2_with fail
     go_meet
     exact⟨by rw[zPr Q1.out];rfl,rfl⟩
  case rest=>
  obtain⟨rfl,rfl⟩:=hcut
  by_cases qb:er=true∧n.min=1∧n.max<0
  ·have HD:=zPf (show zMY E.ere n=[43]by unfold zMY;rw[if_neg QA.out,if_pos (by rw[HE.out];exact qb)])
   rw[zPq qb.2.1,zPq qb.2.2,qb.1,Bool.true_and,Bool.true_and]
   clear qb
   go_wp2_with fail
   refine(zBI H.out _ [43] rfl (by omega) (by simp)).mono ?_
   rintro e w2 ⟨rfl,o2,a2,k2,v2,hs2,hb2,hr2⟩
   have HS2:=zPf hs2
   have HB2:=zPf (HB.out.trans hb2)
   have HR2:=zPf hr2
   clear hs2 hb2 hr2
   go_wp2_with fail
   go_end0
   exact⟨rfl,_,_,_,_,HS2.out,HB2.out,by rw[HD.out];exact HR2.out⟩
  ·have QB:=zPf qb
   rw[show(er&&decide (n.min=1)&&decide (n.max<0))=false by
    cases er with
    |false=>rfl
    |true=>rw[Bool.true_and,Bool.and_eq_false_iff,decide_eq_false_iff_not,decide_eq_false_iff_not];by_cases h:n.min=1;exact .inr (fun h2=>qb ⟨rfl,h,h2⟩);exact .inl h]
   clear qb
   go_upto_region 5 with fail
   go_cut [38] (fun v wd=>v= .bool (er&&decide (n.min=0)&&decide (n.max=1))∧W=wd)
   case first=>
    cases er with
    |false=>
     go_wp2_with fail
     go_meet
     exact⟨rfl,rfl⟩
    |true=>
     by_cases q1:n.min=0
     ·have q1':(n.min==0)=true:=by rw[q1];rfl
      have Q1:=zPf q1
      have e1:(n.max==1)=decide (n.max=1):=by rw[Bool.eq_iff_iff];simp
      clear q1
      go_wp2_with fail
      go_meet
      exact⟨by rw[zPq Q1.out,Bool.true_and,Bool.true_and],rfl⟩
     ·have q1':(n.min==0)=false:=zPl.2 q1
      have Q1:=zPf q1
      clear q1
      go_wp2_with fail
      go_meet
      exact⟨by rw[zPr Q1.out];rfl,rfl⟩
   case rest=>
   obtain⟨rfl,rfl⟩:=hcut
   by_cases qc:er=true∧n.min=0∧n.max=1
   ·have HD:=zPf (show zMY E.ere n=[63]by unfold zMY;rw[if_neg QA.out,if_neg (by rw[HE.out];exact QB.out),if_pos (by rw[HE.out];exact qc)])
    rw[zPq qc.2.1,zPq qc.2.2,qc.1,Bool.true_and,Bool.true_and]
    clear qc
    go_wp2_with fail
    refine(zBI H.out _ [63] rfl (by omega) (by simp)).mono ?_
    rintro e w2 ⟨rfl,o2,a2,k2,v2,hs2,hb2,hr2⟩
    have HS2:=zPf hs2
    have HB2:=zPf (HB.out.trans hb2)
    have HR2:=zPf hr2
    clear hs2 hb2 hr2
    go_wp2_with fail
    go_end0
    exact⟨rfl,_,_,_,_,HS2.out,HB2.out,by rw[HD.out];exact HR2.out⟩
   ·have HD:=zPf (show zMY E.ere n=zA7 E.ere 123++(zHZ n.min++((if n.max=n.min then []else 44::(if 0≤n.max then zHZ n.max else []))++zA7 E.ere 125))by
     unfold zMY;rw[if_neg QA.out,if_neg (by rw[HE.out];exact QB.out),if_neg (by rw[HE.out];exact qc)])
    rw[show(er&&decide (n.min=0)&&decide (n.max=1))=false by
     cases er with
     |false=>rfl
     |true=>rw[Bool.true_and,Bool.and_eq_false_iff,decide_eq_false_iff_not,decide_eq_false_iff_not];by_cases h:n.min=0;exact .inr (fun h2=>qc ⟨rfl,h,h2⟩);exact .inl h]
    clear qc
    go_wp2_with fail
    refine(zDI H.out 123 (by omega)).mono ?_
    rintro e w2 ⟨rfl,o2,a2,kk2,v2,hs2,hb2,rfl,rfl,rfl⟩
    rw[show(123:UInt8).toNat=123 from rfl]at hs2
    have HB2:=zPf (HB.out.trans hb2)
    have HX2:=zPf (HX.out.next hb2)
    have hlo:(out++zA7 E.ere 123).length≤80002:=by have:=zBT E.ere 123;rw[zPz];omega
    generalize ho:out++zA7 E.ere 123=o2 at hs2 hlo
    have HO2:=zPf ho
    have HS2:=zPf hs2
    clear hs2 hb2 hxl hBl m6 m7 k1 k5 k6 HX HB ho
    have hxl:=HS2.out.xlt
    have hBl:=HX2.out.lt
    obtain⟨_,_,_,m6,m7,_⟩:=HX2.out.cells
    have k5:=HS2.out.c5
    go_wp2_with fail
    refine zAA (X:=none) 7 [([0,1,2,3,4,5],6)] [] (by kernel_rfl) (by kernel_rfl) rfl (fun _ _ _ _ _ h=>h) ?_
    simp only[zAI,zAC,zAF,zAD,zAB,List.getD_cons_zero,List.getD_cons_succ,List.drop_succ_cons,List.drop_zero]
    repeat (go_big_quiet_step (fail))
    refine wpQuiet_nil ?_
    go_wp2_with fail
    refine(zEy (n:=n.min) (by have:=H1.out;omega) (by have:=H1.out;omega) (w:=w2.drew) HS2.out.drew.tabs.pw).mono ?_;rintro e w3 ⟨rfl,hb3⟩
    have HS3:=zPf (HS2.out.drew.below hb3)
    have HB3:=zPf ((HB2.out.below (zPg _ _).drew).below hb3)
    have HX3:=zPf ((HX2.out.below (zPg _ _).drew).below hb3)
    have HK3:=zPf (zAJ.of_below (X:=none) hb3)
    clear hb3 hxl hBl m6 m7 k5 HB2 HX2
    go_wp2_with fail
    refine⟨HK3.out,?_⟩
    repeat (go_big_quiet_step (fail))
    refine wpQuiet_nil ?_
    go_wp2_with fail
    refine(zBI HS3.out _ (zHZ n.min) (zD6 n.min) (by omega) (by have:=zDU (m:=n.min) (by have:=H1.out;omega) (by have:=H1.out;omega);omega)).mono ?_
    rintro e w4 ⟨rfl,o4,a4,kk4,v4,hs4,hb4,rfl,rfl,rfl⟩
    have HB4:=zPf (HB3.out.trans hb4)
    have HX4:=zPf (HX3.out.next hb4)
    rw[←HO2.out]at hs4
    replace hs4:=hs4.col
    have hlo4:(out++zA7 E.ere 123++zHZ n.min).length≤80022:=by have:=zBT E.ere 123;have:=zDU (m:=n.min) (by have:=H1.out;omega) (by have:=H1.out;omega);rw[zPz,zPz];omega
    generalize ho4:out++zA7 E.ere 123++zHZ n.min=o4 at hs4 hlo4
    have HO4:=zPf ho4
    have HS4:=zPf hs4
    clear hs4 hb4 ho4 HS3 HB3 HX3 HK3 HS2
    have hxl:=HS4.out.xlt
    have hBl:=HX4.out.lt
    obtain⟨_,_,_,m6,m7,_⟩:=HX4.out.cells
    go_upto_if 75 with fail
    go_cut [] (fun wd=> ∃v,SpS wd E (o4++(if n.max=n.min then []else 44::(if 0≤n.max then zHZ n.max else []))) a4 (ok&&decide ((o4++(if n.max=n.min then []else 44::(if 0≤n.max then zHZ n.max else []))).length≤4096)) v∧SpB w E ov wd v)
    case first=>
     by_cases q1:n.max=n.min
     ·have q1':(n.max !=n.min)=false:=by rw[q1];simp
      have Q1:=zPf q1
      clear q1
      go_wp2_with fail
      go_meet
      exact⟨_,by rw[if_pos Q1.out,List.append_nil];exact HS4.out,HB4.out⟩
     ·have q1':(n.max !=n.min)=true:=by rw[bne_iff_ne];exact q1
      have Q1:=zPf q1
      have k5:=HS4.out.c5
      clear q1
      go_wp2_with fail
      refine(zBI HS4.out _ [44] rfl (by omega) (by simp)).mono ?_
      rintro e w5 ⟨rfl,o5,a5,kk5,v5,hs5,hb5,rfl,rfl,rfl⟩
      have HB5:=zPf (HB4.out.trans hb5)
      have HX5:=zPf (HX4.out.next hb5)
      have HS5:=zPf hs5.col
      clear hs5 hb5 hxl hBl m6 m7 k5 q1'
      have hxl:=HS5.out.xlt
      have hBl:=HX5.out.lt
      obtain⟨_,_,_,m6,m7,_⟩:=HX5.out.cells
      by_cases q2:0≤n.max
      ·have Q2:=zPf q2
       have k5:=HS5.out.c5
       go_wp2_with fail
       refine zAA (X:=none) 7 [([0,1,2,3,4,5],6)] [] (by kernel_rfl) (by kernel_rfl) rfl (fun _ _ _ _ _ h=>h) ?_
       simp only[zAI,zAC,zAF,zAD,zAB,List.getD_cons_zero,List.getD_cons_succ,List.drop_succ_cons,List.drop_zero]
       repeat (go_big_quiet_step (fail))
       refine wpQuiet_nil ?_
       go_wp2_with fail
       refine(zEy (n:=n.max) (by have:=H2.out;omega) (by have:=H2.out;omega) (w:=w5.drew) HS5.out.drew.tabs.pw).mono ?_;rintro e w6 ⟨rfl,hb6⟩
       have HS6:=zPf (HS5.out.drew.below hb6)
       have HB6:=zPf ((HB5.out.below (zPg _ _).drew).below hb6)
       have HK6:=zPf (zAJ.of_below (X:=none) hb6)
       clear hb6 hxl hBl m6 m7 k5
       go_wp2_with fail
       refine⟨HK6.out,?_⟩
       repeat (go_big_quiet_step (fail))
       refine wpQuiet_nil ?_
       go_wp2_with fail
       refine(zBI HS6.out _ (zHZ n.max) (zD6 n.max) (by rw[zPz];simp;omega) (by have:=zDU (m:=n.max) (by have:=H2.out;omega) (by have:=H2.out;omega);omega)).mono ?_
       rintro e w7 ⟨rfl,o7,a7,kk7,v7,hs7,hb7,rfl,rfl,rfl⟩
       have HB7:=zPf (HB6.out.trans hb7)
       have HS7:=zPf hs7.col
       clear hs7 hb7
       go_wp2_with fail
       go_meet
       exact⟨_,by rw[if_neg Q1.out,if_pos Q2.out];have h:=HS7.out;rw[List.append_assoc]at h;exact h,HB7.out⟩
      ·have Q2:=zPf q2
       go_wp2_with fail
       go_meet
       exact⟨_,by rw[if_neg Q1.out,if_neg (by have:=Q2.out;omega)];exact HS5.out,HB5.out⟩
    case rest=>
    obtain⟨v8,hs8,hb8⟩:=hcut
    have hlm:(if n.max=n.min then []else 44::(if 0≤n.max then zHZ n.max else [])).length≤21:=by
     have:=zDU (m:=n.max) (by have:=H2.out;omega) (by have:=H2.out;omega)
     split
     ·simp
     ·split<;>simp<;>omega
    generalize hmm:(if n.max=n.min then []else 44::(if 0≤n.max then zHZ n.max else []))=mid at hs8 hlm
    have HMM:=zPf hmm
    have HS8:=zPf hs8
    have HB8:=zPf hb8
    clear hs8 hb8 hmm hxl hBl m6 m7
    have hxl:=HS8.out.xlt
    have k6:=HS8.out.c6
    go_wp2_with fail
    refine(zDI HS8.out 125 (by rw[zPz];omega)).mono ?_
    rintro e w9 ⟨rfl,o9,a9,kk9,v9,hs9,hb9,rfl,rfl,rfl⟩
    rw[show(125:UInt8).toNat=125 from rfl]at hs9
    have HB9:=zPf (HB8.out.trans hb9)
    have HS9:=zPf hs9.col
    clear hs9 hb9
    go_wp2_with fail
    go_end0
    have HFin:=HS9.out
    rw[←HO4.out,←HMM.out,List.append_assoc,List.append_assoc,List.append_assoc,←HD.out]at HFin
    exact⟨rfl,_,_,_,_,HFin,HB9.out,rfl,rfl,rfl⟩
end
section
open Go.RowKit
theorem zH8 {G:Nat→List Bool→Option (Nat × List Bool)} (hG: ∀i en r,G i en=some r→en.length≤255→r.2.length≤255): ∀(k i:Nat) (en:List Bool) (r:Nat × List Bool),zAy G k i en=some r→en.length≤255→r.2.length≤255
 |0,_,_,_,he,hl=>by simp only[zAy,Option.some.injEq]at he;subst he;exact hl
 |k+1,i,en,r,he,hl=>by
  unfold zAy at he
  split at he
  ·cases he
  ·rename_i j en1 h1
   exact zH8 hG k _ _ _ he (hG _ _ _ h1 hl)
theorem zD3 (re:List Nd): ∀(f g i:Nat) (en:List Bool) (r:Nat × List Bool),zAi re f g i en=some r→en.length≤255→r.2.length≤255
 |0,_,_,_,_,h,_=>by simp[zAi]at h
 |f+1,g,i,en,r,h,hl=>by
  rw[zAi]at h
  split at h
  ·cases h
  ·split at h
   ·cases h
   ·split at h
    ·cases h
    ·split at h
     ·split at h
      ·cases h
      ·rename_i hn
       split at h
       ·cases h
       ·rename_i j en1 hk
        cases h
        have:=zH8 (fun i en r=>zD3 re f (g+1) i en r) _ _ _ _ hk (by simp;omega)
        simpa using this
     ·exact zH8 (fun i en r=>zD3 re f g i en r) _ _ _ _ h hl
structure NdK (re:List Nd) (f g i:Nat) (en:List Bool) (j:Nat) (x:Nd):Prop where
 hx:re[i]?=some x
 op:1≤x.op∧x.op≤8
 leaf:x.op≤3∨x.op=8→j=i+1
 ref:x.op=8→1≤x.n∧x.n≤255
 rep:x.op=6→(0≤x.min∧x.min≤255)∧(-1≤x.max∧x.max≤255)∧ ∃en',zAi re f g (i+1) en=some (j,en')
 grp:x.op=7→g<64∧(en++[false]).length≤255∧ ∃en',zAi re f (g+1) (i+1) (en++[false])=some (j,en')
 kids:x.op=4∨x.op=5→ ∃en',zAy (zAi re f g) x.kids.toNat (i+1) en=some (j,en')
 cat:x.op=4→x.kids=0∨2≤x.kids
 alt:x.op=5→2≤x.kids
theorem zIv {G:Nat→List Bool→Option (Nat × List Bool)} {i:Nat} {en:List Bool} {r:Nat × List Bool} (h:zAy G 1 i en=some r):G i en=some r:=by
 unfold zAy at h
 split at h
 ·cases h
 ·rename_i j e1 h1
  simp only[zAy,Option.some.injEq]at h
  rw[h1,h]
theorem zD4 {re:List Nd} {f g i:Nat} {en:List Bool} {j:Nat} {en':List Bool} (h:zAi re (f+1) g i en=some (j,en')) (hl:en.length≤255): ∃x,NdK re f g i en j x:=by
 rw[zAi]at h
 split at h
 ·cases h
 rename_i x hx
 split at h
 ·cases h
 rename_i hg
 have hg':zAl x=true:=by simpa using hg
 split at h
 ·cases h
 rename_i h8
 unfold zAl at hg'
 simp only[Bool.and_eq_true,decide_eq_true_eq,Bool.or_eq_true,beq_iff_eq]at hg'
 obtain⟨⟨⟨⟨⟨o1,o2⟩,_⟩,_⟩,hm⟩,hk⟩:=hg'
 refine⟨x,hx,⟨o1,o2⟩,?_,?_,?_,?_,?_,?_,?_⟩
 ·intro ho
  rw[if_neg (by omega),if_neg (by omega),if_neg (by omega)]at hk
  rw[if_neg (by omega)]at h
  have:x.kids=0:=by simpa using hk
  rw[this]at h
  simp only[Int.toNat_zero,zAy,Option.some.injEq,Prod.mk.injEq]at h
  exact h.1.symm
 ·intro ho
  simp only[ho,Bool.and_eq_true,Bool.or_eq_true,decide_eq_true_eq,beq_self_eq_true,true_and,not_or,Bool.not_eq_true,Bool.not_eq_false']at h8
  omega
 ·intro ho
  rw[if_pos ho]at hm
  rw[if_pos (.inl ho)]at hk
  rw[if_neg (by omega)]at h
  have hk1:x.kids=1:=by simpa using hk
  rw[hk1]at h
  simp only[Bool.and_eq_true,decide_eq_true_eq,Bool.or_eq_true,beq_iff_eq]at hm
  exact⟨by omega,by omega,en',zIv h⟩
 ·intro ho
  rw[if_pos (.inr ho)]at hk
  rw[if_pos ho]at h
  have hk1:x.kids=1:=by simpa using hk
  rw[hk1]at h
  split at h
  ·cases h
  rename_i hn
  split at h
  ·cases h
  rename_i j1 e1 h1
  cases h
  exact⟨by omega,by simp;omega,e1,zIv h1⟩
 ·intro ho
  rw[if_neg (by omega)]at h
  exact⟨en',h⟩
 ·intro ho
  rw[if_neg (by omega),if_neg (by omega),if_pos ho]at hk
  simpa using hk
 ·intro ho
  rw[if_neg (by omega),if_pos ho]at hk
  simpa using hk
def Hd (out:List Nat) (ok:Bool) (B j:Nat) (r:Option (List Nat × Nat)) (out':List Nat) (at':Nat) (ok':Bool):Prop:=
 (ok'=true→ok=true∧ ∃s,r=some (s,j)∧at'=j∧out'=out++s∧(out++s).length≤4096)∧
 (ok'=false→(ok=false→out'=out)∧(ok=true→out'.length≤B∧ ∀s k,r=some (s,k)→4096<(out++s).length))
def LI (out:List Nat) (ok:Bool) (B:Nat) (r:Option (List Nat × Nat)) (rest:Nat→Option (List Nat × Nat)) (kn:Nat→List Bool→Option (Nat × List Bool)) (j:Nat) (o':List Nat) (a':Nat) (k':Bool):Prop:=
 (k'=true→ok=true∧ ∃s en2,o'=out++s∧(out++s).length≤4096∧en2.length≤255∧(∃en',kn a' en2=some (j,en'))∧r=(rest a').map fun p=>(s++p.1,p.2))∧
 (k'=false→(ok=false→o'=out)∧(ok=true→o'.length≤B∧ ∀s e,r=some (s,e)→4096<(out++s).length))
theorem LI.off {out:List Nat} {B:Nat} {r:Option (List Nat × Nat)} {rest:Nat→Option (List Nat × Nat)} {kn:Nat→List Bool→Option (Nat × List Bool)} {j a:Nat} :LI out false B r rest kn j out a false:=
 ⟨fun h=>(by cases h),fun _=>⟨fun _=>rfl,fun h=>(by cases h)⟩⟩
theorem Hd.off {out:List Nat} {B:Nat} {r:Option (List Nat × Nat)} {j a:Nat} :Hd out false B j r out a false:=
 ⟨fun h=>(by cases h),fun _=>⟨fun _=>rfl,fun h=>(by cases h)⟩⟩
theorem LI.next_off {out:List Nat} {ok:Bool} {B:Nat} {r:Option (List Nat × Nat)} {rest rest':Nat→Option (List Nat × Nat)} {kn kn':Nat→List Bool→Option (Nat × List Bool)} {j:Nat} {o':List Nat} {a' a2:Nat} (h:LI out ok B r rest kn j o' a' false):LI out ok B r rest' kn' j o' a2 false:=
 ⟨fun h=>(by cases h),h.2⟩
theorem LI.done {out:List Nat} {ok:Bool} {B:Nat} {r:Option (List Nat × Nat)} {rest:Nat→Option (List Nat × Nat)} {kn:Nat→List Bool→Option (Nat × List Bool)} {j:Nat} {o':List Nat} {a':Nat} {k':Bool} (h:LI out ok B r rest kn j o' a' k') (hr: ∀a,rest a=some ([],a)) (hk: ∀a e,kn a e=some (a,e)):Hd out ok B j r o' a' k':=by
 refine⟨fun e=>?_,h.2⟩
 obtain⟨h1,s,en2,h2,h3,h4,⟨en',h5⟩,h6⟩:=h.1 e
 rw[hk]at h5
 simp only[Option.some.injEq,Prod.mk.injEq]at h5
 obtain⟨rfl,_⟩:=h5
 rw[hr]at h6
 exact⟨h1,s,by rw[h6];simp,rfl,h2,h3⟩
theorem LI.next {out:List Nat} {B B1:Nat} {r:Option (List Nat × Nat)} {one:Option (List Nat × Nat)} {rest rest':Nat→Option (List Nat × Nat)} {G:Nat→List Bool→Option (Nat × List Bool)} {m j a' j1:Nat} {s:List Nat} {en2 en3 en':List Bool} {o2:List Nat} {a2:Nat} {k2:Bool}
  (hr:r=(rest a').map fun p=>(s++p.1,p.2)) (hk:zAy G (m+1) a' en2=some (j,en')) (hG:G a' en2=some (j1,en3)) (he:en3.length≤255)
  (hrest:rest a'=match (generalizing:=false) one with|none=>none|some (t,jj)=>(rest' jj).map fun p=>(t++p.1,p.2))
  (hd:Hd (out++s) true B1 j1 one o2 a2 k2) (hB:B1≤B):LI out true B r rest' (zAy G m) j o2 a2 k2:=by
 refine⟨fun e=>?_,fun e=>?_⟩
 ·obtain⟨_,t,h1,rfl,rfl,h4⟩:=hd.1 e
  rw[h1]at hrest
  rw[hrest]at hr
  refine⟨rfl,s++t,en3,by rw[List.append_assoc],by rwa[←List.append_assoc],he,⟨en',?_⟩,?_⟩
  ·rw[zAy,hG]at hk
   exact hk
  ·rw[hr]
   show((rest' a2).map fun p=>(t++p.1,p.2)).map _=_
   cases rest' a2 with
   |none=>rfl
   |some p=>simp
 ·obtain⟨h1,h2⟩:=(hd.2 e).2 rfl
  refine⟨fun h=>(by cases h),fun _=>⟨by omega,fun u e2 hu=>?_⟩⟩
  rw[hr]at hu
  obtain⟨p,hp,hpe⟩:=Option.map_eq_some_iff.1 hu
  rw[hrest]at hp
  cases ho:one with
  |none=>rw[ho]at hp;cases hp
  |some q=>
   obtain⟨t,jj⟩:=q
   rw[ho]at hp
   obtain⟨p2,hp2,rfl⟩:=Option.map_eq_some_iff.1 hp
   have h3:=h2 t jj ho
   cases hpe
   simp only[List.length_append]at h3 ⊢
   omega
theorem zGS (ere:Bool) (re:List Nd) (wh:Nat→Option (List Nat × Nat)) (k:Nat) (first:Bool) (i:Nat):zDi ere re wh (k+1) first i=match (generalizing:=false) zFG ere re wh first (k==0) i with|none=>none|some (t,jj)=>(zDi ere re wh k false jj).map fun p=>(t++p.1,p.2):=by
 rw[zDi]
 cases zFG ere re wh first (k==0) i with
 |none=>rfl
 |some q=>
  obtain⟨t,jj⟩:=q
  show(match zDi ere re wh k false jj with|none=>none|some (t',e)=>some (t++t',e))=(zDi ere re wh k false jj).map fun p=>(t++p.1,p.2)
  cases zDi ere re wh k false jj<;>rfl
theorem zHP (ere:Bool) (re:List Nd) (wh:Nat→Option (List Nat × Nat)) (k:Nat) (first:Bool) (i:Nat):zGO ere re wh (k+1) first i=match (generalizing:=false) (zKu ere re wh i).map (fun p=>((if first then []else [124])++p.1,p.2))with|none=>none|some (t,jj)=>(zGO ere re wh k false jj).map fun p=>(t++p.1,p.2):=by
 rw[zGO]
 cases zKu ere re wh i with
 |none=>rfl
 |some q=>
  obtain⟨t,jj⟩:=q
  show(match zGO ere re wh k false jj with|none=>none|some (t',e)=>some ((if first then []else [124])++(t++t'),e))=(zGO ere re wh k false jj).map fun p=>(((if first then []else [124])++t)++p.1,p.2)
  cases zGO ere re wh k false jj<;>simp
theorem SpS.node {w:World} {E:SpE} {out:List Nat} {a:Nat} {ok:Bool} {ov:Value} (h:SpS w E out a ok ov) {i:Nat} {x:Nd} (hx:E.re[i]?=some x): ∃nb no,E.oa=some ⟨nb,no,none⟩∧zG1 w nb no E.re∧nb<w.heap.size∧(i:Int)<(E.re.length:Int)∧nb≠E.bx:=by
 have hi:i<E.re.length:=(zPm.1 hx).1
 obtain⟨nb,no,h1,h2⟩:=h.nd.at_ (by omega)
 exact⟨nb,no,h1,h2.below h.b0,(h2.below h.b0).lt,by omega,fun e=>by have:=h2.lt;have:=h.w0lt;omega⟩
theorem zF2 {w:World} {E:SpE} {out:List Nat} {a:Nat} {ov:Value} (h:SpS w E out a false ov) (p q:Bool):
  Calls Tryz.prog 172 #[.pointer (some ⟨E.bx,0,none⟩),.bool p,.bool q] w (SpP w E ov fun o' a' k'=>o'=out∧a'=a∧k'=false):=by
 have H:=zPf h
 have c4:=h.c4
 have hxl:=h.xlt
 clear h
 go_enter Tryz.func172,Tryz.ntmps172
 go_wp2_with fail
 go_end0
 exact⟨rfl,_,_,_,_,H.out,SpB.refl _ _ _,rfl,rfl,rfl⟩
end
section
open Go.RowKit
theorem Hd.said {out n:List Nat} {B j:Nat} {r:Option (List Nat × Nat)} (ok:Bool) (hl:out.length≤4096) (hB:4096+n.length≤B) (hr:r=if ok then some (n,j)else none):Hd out true B j r (out++n) j (ok&&decide ((out++n).length≤4096)):=by
 subst hr
 cases ok with
 |false=>exact⟨fun h=>(by cases h),fun _=>⟨fun h=>(by cases h),fun _=>⟨by simp;omega,fun _ _ h=>(by simp at h)⟩⟩⟩
 |true=>
  refine⟨fun h=>⟨rfl,n,rfl,rfl,rfl,by simpa using h⟩,fun h=>⟨fun h=>(by cases h),fun _=>⟨by simp;omega,fun s k e=>?_⟩⟩⟩
  simp only[if_true,Option.some.injEq,Prod.mk.injEq]at e
  obtain⟨rfl,_⟩:=e
  simp at h
  simp;omega
theorem Hd.wrap {out A C:List Nat} {B1 B j:Nat} {r r':Option (List Nat × Nat)} {ok:Bool} {o2:List Nat} {a2:Nat} {k2:Bool} (hl:out.length≤4096) (hok:ok=decide ((out++A).length≤4096)) (h:Hd (out++A) ok B1 j r o2 a2 k2) (hr:r'=r.map fun p=>(A++(p.1++C),p.2)) (hB:B1+C.length≤B) (hA:4096+A.length+C.length≤B):
  Hd out true B j r' (o2++C) a2 (k2&&decide ((o2++C).length≤4096)):=by
 subst hr
 have hm: ∀s k,(r.map fun p=>(A++(p.1++C),p.2))=some (s,k)→ ∃t,r=some (t,k)∧s=A++(t++C):=fun s k e=>by
  obtain⟨p,hp,hpe⟩:=Option.map_eq_some_iff.1 e
  cases hpe
  exact⟨p.1,hp,rfl⟩
 cases k2 with
 |true=>
  obtain⟨_,s,rfl,rfl,rfl,h4⟩:=h.1 rfl
  refine⟨fun e=>⟨rfl,_,rfl,rfl,by simp,by simp at e ⊢;omega⟩,fun e=>⟨fun h=>(by cases h),fun _=>⟨by simp at h4 ⊢;omega,fun t k e2=>?_⟩⟩⟩
  obtain⟨u,hu,rfl⟩:=hm t k e2
  simp only[Option.some.injEq,Prod.mk.injEq]at hu
  obtain⟨rfl,_⟩:=hu
  simp at e ⊢;omega
 |false=>
  refine⟨fun e=>(by simp at e),fun _=>⟨fun h=>(by cases h),fun _=>?_⟩⟩
  by_cases hq:(out++A).length≤4096
  ·obtain⟨h1,h2⟩:=(h.2 rfl).2 (by rw[hok];exact zPq hq)
   refine⟨by simp;omega,fun s k e=>?_⟩
   obtain⟨u,hu,rfl⟩:=hm s k e
   have:=h2 u k hu
   simp at this ⊢;omega
  ·have h1:=(h.2 rfl).1 (by rw[hok];exact zPr hq)
   subst h1
   refine⟨by simp;omega,fun s k e=>?_⟩
   obtain⟨u,hu,rfl⟩:=hm s k e
   simp at hq ⊢;omega
def BD (f:Nat):Nat:=10000+100*f
def zO4 (E:SpE) (f:Nat):Prop:= ∀(g i:Nat) (en:List Bool) (j:Nat) (en':List Bool) (w:World) (out:List Nat) (ov:Value) (x:Nd),g≤64→en.length≤255→zAi E.re f g i en=some (j,en')→E.re[i]?=some x→SpS w E out i true ov→out.length≤4096→
 Calls Tryz.prog 116 #[.pointer (some ⟨E.bx,0,none⟩),ndV x] w (SpP w E ov (Hd out true (BD f) j (zFP E.ere E.re (zA2 E.ere E.re (65 - g)) i)))
def zMl (E:SpE) (f:Nat):Prop:= ∀(g i:Nat) (en:List Bool) (j:Nat) (en':List Bool) (w:World) (out:List Nat) (ok:Bool) (ov:Value),g≤64→en.length≤255→zAi E.re f g i en=some (j,en')→SpS w E out i ok ov→out.length≤4200→(ok=true→out.length≤4096)→
 Calls Tryz.prog 117 #[.pointer (some ⟨E.bx,0,none⟩)] w (SpP w E ov (Hd out ok (BD f) j (zA2 E.ere E.re (66 - g) i)))
theorem zJa (ere:Bool) (c:Cls):(zJb ere c).length≤2819:=by
 unfold zJb
 split
 ·simp
 ·split
  ·unfold zFO;split
   ·simp
   ·split<;>simp
  ·exact zDe c
theorem zNI {E:SpE} (f:Nat) (hf:f≤260) (HWC:Hid (zMl E f)):zO4 E (f+1):=by
 intro g i en j en' w out ov x hg hel hn hx h hl
 obtain⟨x',hk⟩:=zD4 hn hel
 obtain rfl:x'=x:=zQB (hk.hx.symm.trans hx)
 obtain⟨hbox,hs,hb⟩:=zFx.new h x' _ rfl
 have H:=zPf hs
 have HB:=zPf hb
 have HX:=zPf hbox
 have HK:=zPf hk
 have hi:=(zPm.1 hk.hx).1
 have hre:=h.nd.len
 have hxl:=h.xlt
 clear h hbox hs hb hk hn hx
 go_enter Tryz.func116,Tryz.ntmps116
 go_upto_region 1 with fail
 rw[show(w.alloc (.cells #[.int .i8 x'.op,.int .u64 x'.set.w0.toNat,.int .u64 x'.set.w1.toNat,.int .u64 x'.set.w2.toNat,.int .u64 x'.set.w3.toNat,.int .i64 x'.n,.int .i64 x'.min,.int .i64 x'.max,.int .i64 x'.kids] 78))=w.alloc (.cells (zAO x') 78)from rfl]
 generalize w.alloc (.cells (zAO x') 78)=W at H HB HX ⊢
 generalize hBB:w.heap.size=B at HX ⊢
 clear hBB hxl
 have hxl:=H.out.xlt
 have c3:=H.out.c3
 have fz3:=H.out.fz 3
 have hi64:(i:Int)<4294967296:=by omega
 obtain⟨i1,hi1⟩: ∃i1,i1=i+1:=⟨_,rfl⟩
 have HS1:=H.out.setAt i1
 have HB1:=HB.out.store 3 (.int .i64 (i1:Nat))
 have HX1:=HX.out.next ((SpB.refl W E ov).store 3 (.int .i64 (i1:Nat)))
 have hic:((i1:Nat):Int)=(i:Int)+1:=by omega
 rw[hic]at HS1 HB1 HX1
 go_upto_region 2 with fail
 generalize W.setCell ⟨E.bx,3,none⟩ (.int .i64 ((i:Int)+1))=W1 at HS1 HB1 HX1 ⊢
 have H1:=zPf HS1
 have HBB:=zPf HB1
 have HXX:=zPf HX1
 clear HS1 HB1 HX1 hxl c3 fz3 H HB HX hi64
 have hxl:=H1.out.xlt
 have hBl:=HXX.out.lt
 have c3:=H1.out.c3
 have c6:=H1.out.c6
 obtain⟨m0,⟨m1,m2,m3,m4⟩,m5,m6,m7,m8⟩:=HXX.out.cells
 by_cases h1:x'.op=1
 ·have q1:(x'.op==1)=true:=by rw[h1];rfl
  have H0:=zPf h1
  clear h1
  go_wp2_with fail
  refine(zM8 H1.out x'.set (by omega)).mono ?_
  rintro e w2 ⟨rfl,o2,a2,k2,v2,hs2,hb2,rfl,rfl,rfl⟩
  have HS2:=zPf hs2
  have HB2:=zPf (HBB.out.trans hb2)
  clear hs2 hb2
  go_wp2_with fail
  go_end0
  refine⟨rfl,_,_,_,_,HS2.out,HB2.out,?_⟩
  have hj:=HK.out.leaf (by have:=H0.out;omega)
  rw[hi1,←hj]
  exact Hd.said true (by omega) (by have:=zJa E.ere x'.set;unfold BD;omega) (by unfold zFP;rw[HK.out.hx];simp only[H0.out,if_true,hj])
 have q1:(x'.op==1)=false:=zPl.2 h1
 by_cases h7:x'.op=7
 ·have q7:(x'.op==7)=true:=by rw[h7];rfl
  obtain⟨hg64,hel2,en2,hkid⟩:=HK.out.grp h7
  obtain⟨f',rfl⟩: ∃f',f=f'+1:=by
   cases f with
   |zero=>simp[zAi]at hkid
   |succ f'=>exact⟨f',rfl⟩
  obtain⟨y,hky⟩:=zD4 hkid hel2
  have HY:=zPf hky
  have HKID:=zPf hkid
  have H0:=zPf h7
  have HR:=zPf (show zFP E.ere E.re (zA2 E.ere E.re (65 - g)) i=if y.op=4∧y.kids=0 then some (zA7 E.ere 40++zA7 E.ere 41,i+2)else(zA2 E.ere E.re (66 - (g+1)) (i+1)).map fun p=>(zA7 E.ere 40++(p.1++zA7 E.ere 41),p.2)by
   unfold zFP
   rw[HK.out.hx,hky.hx,show 66 - (g+1)=65 - g by omega]
   simp only[h7,if_neg (show¬(7:Int)=1 by decide),if_true]
   split
   ·rfl
   ·cases zA2 E.ere E.re (65 - g) (i+1)<;>rfl)
  clear h7 hkid hky
  go_wp2_with fail
  refine(zDI H1.out 40 (by omega)).mono ?_
  rintro e w2 ⟨rfl,o2,a2,k2,v2,hs2,hb2,rfl,rfl,rfl⟩
  rw[show(40:UInt8).toNat=40 from rfl]at hs2
  have HB2:=zPf (HBB.out.trans hb2)
  have HS2:=zPf hs2
  obtain⟨nb,no,hoa,hnd,nbl,hi',hnx⟩:=hs2.node HY.out.hx
  obtain⟨n0,n1,n2,n3,n4,n5,n6,n7,n8⟩:=hnd.cells HY.out.hx
  have d0:=hs2.c0
  have d3:=hs2.c3
  have d6:=hs2.c6
  have hxl2:=hs2.xlt
  rw[hoa]at d0
  have hre2:(i:Int)+1<4294967296:=by omega
  have hi2:(i:Int)+1<(E.re.length:Int):=by omega
  clear hs2 hb2 hnd hi' hxl hBl c3 c6 m0 m1 m2 m3 m4 m5 m6 m7 m8
  go_wp2_with fail
  refine zAA (X:=none) 11 [([0,1,2,3,4,5,6,7,8,9],10)] [] (by kernel_rfl) (by kernel_rfl) rfl (fun _ _ _ _ _ h=>h) ?_
  simp only[zAI,zAC,zAF,zAD,zAB,List.getD_cons_zero,List.getD_cons_succ,List.drop_succ_cons,List.drop_zero]
  repeat (go_big_quiet_step (fail))
  refine wpQuiet_nil ?_
  go_wp2_with fail
  refine⟨zAa (zAR _ _),wpQuiet_nil ?_⟩
  go_upto_region 9 with fail
  have hb3:Below w2.heap.size w2 (w2.alloc (.cells (zAO y) 78)).drew:=((zPg _ _).alloc (zPh _) _).drew
  have HS3:=zPf (HS2.out.below hb3)
  have HB3:=zPf (HB2.out.below hb3)
  have HD3:=zPf (show zE9 (w2.alloc (.cells (zAO y) 78)).drew w2.heap.size y from zPs _ _)
  clear hb3
  revert HS3 HB3 HD3
  simp only[zAO]
  generalize (w2.alloc (.cells #[.int .i8 y.op,.int .u64 y.set.w0.toNat,.int .u64 y.set.w1.toNat,.int .u64 y.set.w2.toNat,.int .u64 y.set.w3.toNat,.int .i64 y.n,.int .i64 y.min,.int .i64 y.max,.int .i64 y.kids] 78)).drew=W3
  intro HS3 HB3 HD3
  generalize w2.heap.size=B3 at HD3 ⊢
  clear n0 n1 n2 n3 n4 n5 n6 n7 n8 d0 d3 d6 hxl2 HS2 HB2 nbl
  have hxl3:=HS3.out.xlt
  have d3:=HS3.out.c3
  have d6:=HS3.out.c6
  have fz3:=HS3.out.fz 3
  obtain⟨b0,b1,b2,b3,b4,b5,b6,b7,b8,zB⟩:=HD3.out.cells
  have Bl:=HD3.out.lt
  by_cases y4:y.op=4
  ·have p4:(y.op==4)=true:=by rw[y4];rfl
   by_cases yk:y.kids=0
   ·have pk:(y.kids==0)=true:=by rw[yk];rfl
    have HQ:=zPf (And.intro y4 yk)
    clear y4 yk
    have HS4:=HS3.out.setAt (a2+1)
    have HB4:=HB3.out.store 3 (.int .i64 ((a2+1:Nat)))
    rw[show(((a2+1:Nat)):Int)=(i:Int)+1+1 by omega]at HS4 HB4
    go_upto_region 12 with fail
    generalize W3.setCell ⟨E.bx,3,none⟩ (.int .i64 ((i:Int)+1+1))=W4 at HS4 HB4 ⊢
    have HS5:=zPf HS4
    have HB5:=zPf HB4
    have hxl4:=HS4.xlt
    have d6:=HS4.c6
    clear HS4 HB4 hxl3 d3 fz3 b0 b1 b2 b3 b4 b5 b6 b7 b8 zB Bl
    go_wp2_with fail
    refine(zDI HS5.out 41 (by have:=zBT E.ere 40;simp;omega)).mono ?_
    rintro e w6 ⟨rfl,o6,a6,k6,v6,hs6,hb6,rfl,rfl,rfl⟩
    rw[show(41:UInt8).toNat=41 from rfl]at hs6
    have HS6:=zPf hs6.col
    have HB6:=zPf (HB5.out.trans hb6)
    clear hs6 hb6
    go_wp2_with fail
    go_end0
    have hj:=(HY.out.kids (.inl HQ.out.1))
    rw[HQ.out.2]at hj
    obtain⟨e',hj⟩:=hj
    simp only[Int.toNat_zero,zAy,Option.some.injEq,Prod.mk.injEq]at hj
    have HF:=HS6.out
    rw[List.append_assoc]at HF
    refine⟨rfl,_,_,_,_,HF,HB6.out,?_⟩
    rw[show a2+1=j by omega]
    exact Hd.said true (by omega) (by have:=zBT E.ere 40;have:=zBT E.ere 41;unfold BD;simp;omega) (by rw[HR.out,if_pos HQ.out,if_pos rfl,show i+2=j by omega])
   ·have pk:(y.kids==0)=false:=zPl.2 yk
    have HQ:=zPf (show¬(y.op=4∧y.kids=0)from fun e=>yk e.2)
    clear y4 yk
    go_wp2_with fail
    refine(HWC.out (g+1) (i+1) _ j en2 W3 _ _ v2 (by omega) hel2 HKID.out (by rw[←hi1];exact HS3.out) (by have:=zBT E.ere 40;simp;omega) (fun e=>by simpa using e)).mono ?_
    rintro e w5 ⟨rfl,o5,a5,k5,v5,hs5,hb5,hr5⟩
    have HS5:=zPf hs5
    have HB5:=zPf (HB3.out.trans hb5)
    have HR5:=zPf hr5
    have hxl5:=hs5.xlt
    have d6:=hs5.c6
    clear hs5 hb5 hr5 hxl3 d3 fz3 b0 b1 b2 b3 b4 b5 b6 b7 b8 zB Bl
    go_wp2_with fail
    have hl5:o5.length≤90000 - 4000:=by
     cases k5 with
     |true=>
      obtain⟨_,s,_,_,h5,h6⟩:=HR5.out.1 rfl
      rw[h5];omega
     |false=>
      obtain⟨h5,h6⟩:=HR5.out.2 rfl
      by_cases hq:(out++zA7 E.ere 40).length≤4096
      ·have:=(h6 (by rw[Bool.true_and];exact zPq hq)).1
       unfold BD at this;omega
      ·rw[h5 (by rw[Bool.true_and];exact zPr hq)]
       have:=zBT E.ere 40;simp;omega
    refine(zDI HS5.out 41 (by omega)).mono ?_
    rintro e w6 ⟨rfl,o6,a6,k6,v6,hs6,hb6,rfl,rfl,rfl⟩
    rw[show(41:UInt8).toNat=41 from rfl]at hs6
    have HS6:=zPf hs6
    have HB6:=zPf (HB5.out.trans hb6)
    clear hs6 hb6
    go_wp2_with fail
    go_end0
    refine⟨rfl,_,_,_,_,HS6.out,HB6.out,?_⟩
    exact Hd.wrap hl (by rw[Bool.true_and]) HR5.out (by rw[HR.out,if_neg HQ.out]) (by have:=zBT E.ere 41;unfold BD;omega) (by have:=zBT E.ere 40;have:=zBT E.ere 41;unfold BD;omega)
  ·have p4:(y.op==4)=false:=zPl.2 y4
   have HQ:=zPf (show¬(y.op=4∧y.kids=0)from fun e=>y4 e.1)
   clear y4
   go_wp2_with fail
   refine(HWC.out (g+1) (i+1) _ j en2 W3 _ _ v2 (by omega) hel2 HKID.out (by rw[←hi1];exact HS3.out) (by have:=zBT E.ere 40;simp;omega) (fun e=>by simpa using e)).mono ?_
   rintro e w5 ⟨rfl,o5,a5,k5,v5,hs5,hb5,hr5⟩
   have HS5:=zPf hs5
   have HB5:=zPf (HB3.out.trans hb5)
   have HR5:=zPf hr5
   have hxl5:=hs5.xlt
   have d6:=hs5.c6
   clear hs5 hb5 hr5 hxl3 d3 fz3 b0 b1 b2 b3 b4 b5 b6 b7 b8 zB Bl
   go_wp2_with fail
   have hl5:o5.length≤90000 - 4000:=by
    cases k5 with
    |true=>
     obtain⟨_,s,_,_,h5,h6⟩:=HR5.out.1 rfl
     rw[h5];omega
    |false=>
     obtain⟨h5,h6⟩:=HR5.out.2 rfl
     by_cases hq:(out++zA7 E.ere 40).length≤4096
     ·have:=(h6 (by rw[Bool.true_and];exact zPq hq)).1
      unfold BD at this;omega
     ·rw[h5 (by rw[Bool.true_and];exact zPr hq)]
      have:=zBT E.ere 40;simp;omega
   refine(zDI HS5.out 41 (by omega)).mono ?_
   rintro e w6 ⟨rfl,o6,a6,k6,v6,hs6,hb6,rfl,rfl,rfl⟩
   rw[show(41:UInt8).toNat=41 from rfl]at hs6
   have HS6:=zPf hs6
   have HB6:=zPf (HB5.out.trans hb6)
   clear hs6 hb6
   go_wp2_with fail
   go_end0
   refine⟨rfl,_,_,_,_,HS6.out,HB6.out,?_⟩
   exact Hd.wrap hl (by rw[Bool.true_and]) HR5.out (by rw[HR.out,if_neg HQ.out]) (by have:=zBT E.ere 41;unfold BD;omega) (by have:=zBT E.ere 40;have:=zBT E.ere 41;unfold BD;omega)
 have q7:(x'.op==7)=false:=zPl.2 h7
 by_cases h8:x'.op=8
 ·have q8:(x'.op==8)=true:=by rw[h8];rfl
  have HN:=zPf (HK.out.ref h8)
  have H0:=zPf h8
  have c1:=H1.out.c1
  have c4:=H1.out.c4
  have fz4:=H1.out.fz 4
  clear h8
  cases hE:E.ere with
  |true=>
   rw[hE]at c1
   have HE:=zPf hE
   clear hE
   have HS2:=zPf (H1.out.setOk false)
   have HB2:=zPf (HBB.out.store 4 (.bool false))
   have HX2:=zPf (HXX.out.next ((SpB.refl W1 E ov).store 4 (.bool false)))
   go_upto_region 15 with fail
   generalize W1.setCell ⟨E.bx,4,none⟩ (.bool false)=W2 at HS2 HB2 HX2 ⊢
   clear hxl hBl c3 c6 c4 c1 fz4 m0 m1 m2 m3 m4 m5 m6 m7 m8
   have hxl:=HS2.out.xlt
   have hBl:=HX2.out.lt
   obtain⟨_,_,m5,_⟩:=HX2.out.cells
   have k5:=HS2.out.c5
   go_wp2_with fail
   refine zAA (X:=none) 8 [([0,1,2,3,4,5],6)] [7] (by kernel_rfl) (by kernel_rfl) rfl (fun _ _ _ _ _ h=>h) ?_
   simp only[zAI,zAC,zAF,zAD,zAB,List.getD_cons_zero,List.getD_cons_succ,List.drop_succ_cons,List.drop_zero]
   repeat (go_big_quiet_step (fail))
   refine wpQuiet_nil ?_
   go_wp2_with fail
   refine(zEy (n:=x'.n) (by have:=HN.out;omega) (by have:=HN.out;omega) (w:=W2.drew) HS2.out.drew.tabs.pw).mono ?_;rintro e w6 ⟨rfl,hb6⟩
   have HS6:=zPf (HS2.out.drew.below hb6)
   have HB6:=zPf ((HB2.out.below (zPg _ _).drew).below hb6)
   have HK6:=zPf (zAJ.of_below (X:=none) hb6)
   clear hb6 hxl hBl m5 k5
   have hs1:=zD6 x'.n
   generalize (⟨(Lib.itoa x'.n).toArray⟩:ByteArray)=s1 at hs1 ⊢
   have hlen:=zH9 (m:=x'.n) (by have:=HN.out;omega) (by have:=HN.out;omega)
   have hz:1+s1.size≤9223372036854775807:=by rw[←zAh,hs1];omega
   have HS1:=zPf hs1
   clear hs1
   go_wp2_with fail
   refine⟨HK6.out,?_⟩
   go_wp2_with fail
   repeat (go_big_quiet_step (fail))
   refine wpQuiet_nil ?_
   go_wp2_with fail
   refine(zBI HS6.out _ (92::zHZ x'.n) (by rw[zDE,HS1.out];rfl) (by omega) (by simp;omega)).mono ?_
   rintro e w7 ⟨rfl,o7,a7,kk7,v7,hs7,hb7,rfl,rfl,rfl⟩
   have HS7:=zPf hs7
   have HB7:=zPf (HB6.out.trans hb7)
   clear hs7 hb7
   go_wp2_with fail
   go_end0
   refine⟨rfl,_,_,_,_,HS7.out,HB7.out,?_⟩
   have hj:=HK.out.leaf (.inr H0.out)
   rw[show _=j from hi1.trans hj.symm]
   refine Hd.said _ (by omega) (by unfold BD;simp;omega) ?_
   unfold zFP
   rw[HK.out.hx]
   simp only[H0.out,if_neg (show¬(8:Int)=1 by decide),if_neg (show¬(8:Int)=7 by decide),if_true,hj]
   rw[if_pos (.inl HE.out)];simp
  |false=>
   rw[hE]at c1
   have HE:=zPf hE
   clear hE
   have HS2:=zPf (H1.out.setOk (decide (x'.n≤9)))
   have HB2:=zPf (HBB.out.store 4 (.bool (decide (x'.n≤9))))
   have HX2:=zPf (HXX.out.next ((SpB.refl W1 E ov).store 4 (.bool (decide (x'.n≤9)))))
   go_upto_region 15 with fail
   generalize W1.setCell ⟨E.bx,4,none⟩ (.bool (decide (x'.n≤9)))=W2 at HS2 HB2 HX2 ⊢
   clear hxl hBl c3 c6 c4 c1 fz4 m0 m1 m2 m3 m4 m5 m6 m7 m8
   have hxl:=HS2.out.xlt
   have hBl:=HX2.out.lt
   obtain⟨_,_,m5,_⟩:=HX2.out.cells
   have k5:=HS2.out.c5
   go_wp2_with fail
   refine zAA (X:=none) 8 [([0,1,2,3,4,5],6)] [7] (by kernel_rfl) (by kernel_rfl) rfl (fun _ _ _ _ _ h=>h) ?_
   simp only[zAI,zAC,zAF,zAD,zAB,List.getD_cons_zero,List.getD_cons_succ,List.drop_succ_cons,List.drop_zero]
   repeat (go_big_quiet_step (fail))
   refine wpQuiet_nil ?_
   go_wp2_with fail
   refine(zEy (n:=x'.n) (by have:=HN.out;omega) (by have:=HN.out;omega) (w:=W2.drew) HS2.out.drew.tabs.pw).mono ?_;rintro e w6 ⟨rfl,hb6⟩
   have HS6:=zPf (HS2.out.drew.below hb6)
   have HB6:=zPf ((HB2.out.below (zPg _ _).drew).below hb6)
   have HK6:=zPf (zAJ.of_below (X:=none) hb6)
   clear hb6 hxl hBl m5 k5
   have hs1:=zD6 x'.n
   generalize (⟨(Lib.itoa x'.n).toArray⟩:ByteArray)=s1 at hs1 ⊢
   have hlen:=zH9 (m:=x'.n) (by have:=HN.out;omega) (by have:=HN.out;omega)
   have hz:1+s1.size≤9223372036854775807:=by rw[←zAh,hs1];omega
   have HS1:=zPf hs1
   clear hs1
   go_wp2_with fail
   refine⟨HK6.out,?_⟩
   go_wp2_with fail
   repeat (go_big_quiet_step (fail))
   refine wpQuiet_nil ?_
   go_wp2_with fail
   refine(zBI HS6.out _ (92::zHZ x'.n) (by rw[zDE,HS1.out];rfl) (by omega) (by simp;omega)).mono ?_
   rintro e w7 ⟨rfl,o7,a7,kk7,v7,hs7,hb7,rfl,rfl,rfl⟩
   have HS7:=zPf hs7
   have HB7:=zPf (HB6.out.trans hb7)
   clear hs7 hb7
   go_wp2_with fail
   go_end0
   refine⟨rfl,_,_,_,_,HS7.out,HB7.out,?_⟩
   have hj:=HK.out.leaf (.inr H0.out)
   rw[show _=j from hi1.trans hj.symm]
   refine Hd.said _ (by omega) (by unfold BD;simp;omega) ?_
   unfold zFP
   rw[HK.out.hx]
   simp only[H0.out,if_neg (show¬(8:Int)=1 by decide),if_neg (show¬(8:Int)=7 by decide),if_true,hj]
   simp only[HE.out,Bool.false_eq_true,false_or,decide_eq_true_eq]
   by_cases hq:x'.n≤9
   ·rw[if_neg (by omega),if_pos hq]
   ·rw[if_pos (by omega),if_neg hq]
 have q8:(x'.op==8)=false:=zPl.2 h8
 have fz4:=H1.out.fz 4
 have c4:=H1.out.c4
 have HBF:=zPf (HBB.out.store 4 (.bool false))
 have HSF:=zPf (H1.out.setOk false)
 go_wp2_with fail
 go_end0
 refine⟨rfl,_,_,_,_,HSF.out,HBF.out,fun h=>(by cases h),fun _=>⟨fun h=>(by cases h),fun _=>⟨by unfold BD;omega,fun s k e=>?_⟩⟩⟩
 unfold zFP at e
 rw[HK.out.hx]at e
 simp only[if_neg h1,if_neg h7,if_neg h8]at e
 cases e
end
section
open Go.RowKit
theorem zJA {E:SpE} {f:Nat} (HO:Hid (zO4 E f)) (g i:Nat) (en:List Bool) (j:Nat) (en':List Bool) (w:World) (out:List Nat) (ov:Value) (x:Nd) (hg:g≤64) (hel:en.length≤255) (hn:zAi E.re f g i en=some (j,en')) (hx:E.re[i]?=some x) (h:SpS w E out i true ov) (hl:out.length≤4096):
  Calls Tryz.prog 115 #[.pointer (some ⟨E.bv,0,none⟩),.pointer (some ⟨E.br,0,none⟩)] w (SpP w E ov (Hd out true (BD f) j (zFP E.ere E.re (zA2 E.ere E.re (65 - g)) i))):=by
 have HCC:=zPf (HO.out g i en j en' w.drew out ov x hg hel hn hx h.drew hl)
 have HB:=zPf (SpB.of_below (w:=w) (E:=E) (ov:=ov) ((zPg _ w).drew))
 obtain⟨nb,no,hoa,hnd,nbl,hi',hnx⟩:=h.node hx
 obtain⟨n0,n1,n2,n3,n4,n5,n6,n7,n8⟩:=hnd.cells hx
 have d0:=h.xr
 have d1:=h.xv
 have d3:=h.c3
 have hvl:=h.lt
 have hxl:=h.xlt
 have hrl:E.br<w.heap.size:=by have:=h.ebr;omega
 rw[hoa]at d0
 clear h hnd hn hx
 go_enter Tryz.func115,Tryz.ntmps115
 refine zAA (X:=none) 8 [] [0,1,2,3,4,5,6,7] (by kernel_rfl) (by kernel_rfl) rfl (fun _ _ _ _ _ h=>h) ?_
 simp only[zAI,zAC,zAD,zAB,List.getD_cons_zero,List.getD_cons_succ,List.drop_succ_cons,List.drop_zero]
 repeat (go_big_quiet_step (fail))
 refine wpQuiet_nil ?_
 go_wp2_with fail
 refine HCC.out.mono ?_
 rintro e w2 ⟨rfl,o2,a2,k2,v2,hs2,hb2,hr2⟩
 have HS2:=zPf hs2
 have HB2:=zPf (HB.out.trans hb2)
 have HR2:=zPf hr2
 clear hs2 hb2 hr2
 go_wp2_with fail
 go_end0
 exact⟨rfl,_,_,_,_,HS2.out,HB2.out,HR2.out⟩
def zNi (E:SpE) (f:Nat):Prop:= ∀(g i:Nat) (en:List Bool) (j:Nat) (en':List Bool) (w:World) (out:List Nat) (ov:Value) (p q:Bool),g≤64→en.length≤255→zAi E.re f g i en=some (j,en')→SpS w E out i true ov→out.length≤4096→
 Calls Tryz.prog 172 #[.pointer (some ⟨E.bx,0,none⟩),.bool p,.bool q] w (SpP w E ov (Hd out true (BD f) j (zFG E.ere E.re (zA2 E.ere E.re (65 - g)) p q i)))
theorem zJ6 {ere:Bool} {n:Nd} (h1:0≤n.min∧n.min≤255) (h2: -1≤n.max∧n.max≤255):(zMY ere n).length≤50:=by
 unfold zMY
 split
 ·simp
 split
 ·simp
 split
 ·simp
 have a:=zDU (m:=n.min) (by omega) (by omega)
 have b:=zDU (m:=n.max) (by omega) (by omega)
 have c:=zBT ere 123
 have d:=zBT ere 125
 simp only[List.length_append]
 split
 ·simp;omega
 ·split
  ·simp;omega
  ·simp;omega
theorem zFx.news {w:World} {E:SpE} {v:Value} {out:List Nat} {a:Nat} {k:Bool} (h:SpS w E out a k v) (x:Nd) (W:World) (hW:W=(w.alloc (.cells (zAO x) 78)).drew):Hid (zFx W E w.heap.size x v)∧Hid (SpS W E out a k v)∧Hid (SpB w E v W v):=by
 subst hW
 obtain⟨h1,h2,h3⟩:=zFx.new h x _ rfl
 exact⟨h1.below (zPg _ _).drew,h2.drew,h3.below (zPg _ _).drew⟩
theorem zL5 {E:SpE} (f:Nat) (hf:f≤260) (HO:Hid (zO4 E (f+1))) (HOk:Hid (zO4 E f)):zNi E (f+1):=by
 intro g i en j en' w out ov p q hg hel hn h hl
 obtain⟨x,hk⟩:=zD4 hn hel
 have H:=zPf h
 have HK:=zPf hk
 have HN:=zPf hn
 have hi:=(zPm.1 hk.hx).1
 have hre:=h.nd.len
 obtain⟨nb,no,hoa,hnd,nbl,hi',hnx⟩:=h.node hk.hx
 obtain⟨n0,n1,n2,n3,n4,n5,n6,n7,n8⟩:=hnd.cells hk.hx
 have d0:=h.c0
 have d3:=h.c3
 have d4:=h.c4
 have hxl:=h.xlt
 rw[hoa]at d0
 have hi64:(i:Int)<4294967296:=by omega
 clear h hk hn hnd
 go_enter Tryz.func172,Tryz.ntmps172
 go_upto_region 1 with fail
 refine zAA (X:=none) 11 [([0,1,2,3,4,5,6,7,8,9],10)] [] (by kernel_rfl) (by kernel_rfl) rfl (fun _ _ _ _ _ h=>h) ?_
 simp only[zAI,zAC,zAF,zAD,zAB,List.getD_cons_zero,List.getD_cons_succ,List.drop_succ_cons,List.drop_zero]
 repeat (go_big_quiet_step (fail))
 refine wpQuiet_nil ?_
 go_wp2_with fail
 refine⟨zAa (zAR _ _),wpQuiet_nil ?_⟩
 go_upto_region 2 with fail
 obtain⟨HX3,HS3,HB3⟩:=zFx.news H.out x _ rfl
 revert HS3 HB3 HX3
 simp only[zAO]
 generalize (w.alloc (.cells #[.int .i8 x.op,.int .u64 x.set.w0.toNat,.int .u64 x.set.w1.toNat,.int .u64 x.set.w2.toNat,.int .u64 x.set.w3.toNat,.int .i64 x.n,.int .i64 x.min,.int .i64 x.max,.int .i64 x.kids] 78)).drew=W3
 intro HX3 HS3 HB3
 generalize w.heap.size=B3 at HX3 ⊢
 clear n0 n1 n2 n3 n4 n5 n6 n7 n8 d0 d3 d4 hxl H nbl
 have hxl:=HS3.out.xlt
 have d1:=HS3.out.c1
 have d3:=HS3.out.c3
 have d4:=HS3.out.c4
 have d5:=HS3.out.c5
 have d7:=HS3.out.c7
 have z3:=HS3.out.fz 3
 have z4:=HS3.out.fz 4
 obtain⟨b0,⟨b1,b2,b3,b4⟩,b5,b6,b7,b8⟩:=HX3.out.cells
 have Bl:=HX3.out.lt
 by_cases h2:x.op=2
 ·have q2:(x.op==2)=true:=by rw[h2];rfl
  have H0:=zPf h2
  clear h2
  cases hE:E.ere with
  |true=>
   rw[hE]at d1
   have HE:=zPf hE
   clear hE
   have HS4:=zPf (HS3.out.setOk true)
   have HB4:=zPf (HB3.out.store 4 (.bool true))
   go_upto_region 6 with fail
   generalize W3.setCell ⟨E.bx,4,none⟩ (.bool true)=W4 at HS4 HB4 ⊢
   clear hxl d1 d3 d4 d5 d7 z3 z4 b0 b1 b2 b3 b4 b5 b6 b7 b8 Bl HX3 HS3 HB3
   have hxl:=HS4.out.xlt
   have d5:=HS4.out.c5
   go_wp2_with fail
   refine(zBI HS4.out _ [94] rfl (by omega) (by simp)).mono ?_
   rintro e w5 ⟨rfl,o5,a5,k5,v5,hs5,hb5,rfl,rfl,rfl⟩
   have HS5:=zPf hs5
   have hxl5:=hs5.xlt
   have d3:=hs5.c3
   have z3:=hs5.fz 3
   have HB5:=zPf (HB4.out.trans hb5)
   have HS6:=zPf (hs5.setAt (a5+1))
   have HB6:=zPf (HB5.out.store 3 (.int .i64 ((a5+1:Nat))))
   clear hs5 hb5 hxl d5
   go_wp2_with fail
   go_end0
   refine⟨rfl,_,_,_,_,HS6.out,HB6.out,?_⟩
   have hj:=HK.out.leaf (.inl (by have:=H0.out;omega))
   rw[←hj]
   refine Hd.said _ (by omega) (by unfold BD;simp;omega) ?_
   unfold zFG
   rw[HK.out.hx]
   simp only[H0.out,if_true,hj,HE.out,Bool.true_or]
  |false=>
   rw[hE]at d1
   have HE:=zPf hE
   clear hE
   have HS4:=zPf (HS3.out.setOk p)
   have HB4:=zPf (HB3.out.store 4 (.bool p))
   go_upto_region 6 with fail
   generalize W3.setCell ⟨E.bx,4,none⟩ (.bool p)=W4 at HS4 HB4 ⊢
   clear hxl d1 d3 d4 d5 d7 z3 z4 b0 b1 b2 b3 b4 b5 b6 b7 b8 Bl HX3 HS3 HB3
   have hxl:=HS4.out.xlt
   have d5:=HS4.out.c5
   go_wp2_with fail
   refine(zBI HS4.out _ [94] rfl (by omega) (by simp)).mono ?_
   rintro e w5 ⟨rfl,o5,a5,k5,v5,hs5,hb5,rfl,rfl,rfl⟩
   have HS5:=zPf hs5
   have hxl5:=hs5.xlt
   have d3:=hs5.c3
   have z3:=hs5.fz 3
   have HB5:=zPf (HB4.out.trans hb5)
   have HS6:=zPf (hs5.setAt (a5+1))
   have HB6:=zPf (HB5.out.store 3 (.int .i64 ((a5+1:Nat))))
   clear hs5 hb5 hxl d5
   go_wp2_with fail
   go_end0
   refine⟨rfl,_,_,_,_,HS6.out,HB6.out,?_⟩
   have hj:=HK.out.leaf (.inl (by have:=H0.out;omega))
   rw[←hj]
   refine Hd.said _ (by omega) (by unfold BD;simp;omega) ?_
   unfold zFG
   rw[HK.out.hx]
   simp only[H0.out,if_true,hj,HE.out,Bool.false_or]
 have q2:(x.op==2)=false:=zPl.2 h2
 by_cases h3:x.op=3
 ·have q3:(x.op==3)=true:=by rw[h3];rfl
  have H0:=zPf h3
  clear h3
  cases hE:E.ere with
  |true=>
   rw[hE]at d1
   have HE:=zPf hE
   clear hE
   have HS4:=zPf (HS3.out.setOk true)
   have HB4:=zPf (HB3.out.store 4 (.bool true))
   go_upto_region 10 with fail
   generalize W3.setCell ⟨E.bx,4,none⟩ (.bool true)=W4 at HS4 HB4 ⊢
   clear hxl d1 d3 d4 d5 d7 z3 z4 b0 b1 b2 b3 b4 b5 b6 b7 b8 Bl HX3 HS3 HB3
   have hxl:=HS4.out.xlt
   have d5:=HS4.out.c5
   go_wp2_with fail
   refine(zBI HS4.out _ [36] rfl (by omega) (by simp)).mono ?_
   rintro e w5 ⟨rfl,o5,a5,k5,v5,hs5,hb5,rfl,rfl,rfl⟩
   have HS5:=zPf hs5
   have hxl5:=hs5.xlt
   have d3:=hs5.c3
   have z3:=hs5.fz 3
   have HB5:=zPf (HB4.out.trans hb5)
   have HS6:=zPf (hs5.setAt (a5+1))
   have HB6:=zPf (HB5.out.store 3 (.int .i64 ((a5+1:Nat))))
   clear hs5 hb5 hxl d5
   go_wp2_with fail
   go_end0
   refine⟨rfl,_,_,_,_,HS6.out,HB6.out,?_⟩
   have hj:=HK.out.leaf (.inl (by have:=H0.out;omega))
   rw[←hj]
   refine Hd.said _ (by omega) (by unfold BD;simp;omega) ?_
   unfold zFG
   rw[HK.out.hx]
   simp only[H0.out,if_neg (show¬(3:Int)=2 by decide),if_true,hj,HE.out,Bool.true_or]
  |false=>
   rw[hE]at d1
   have HE:=zPf hE
   clear hE
   have HS4:=zPf (HS3.out.setOk q)
   have HB4:=zPf (HB3.out.store 4 (.bool q))
   go_upto_region 10 with fail
   generalize W3.setCell ⟨E.bx,4,none⟩ (.bool q)=W4 at HS4 HB4 ⊢
   clear hxl d1 d3 d4 d5 d7 z3 z4 b0 b1 b2 b3 b4 b5 b6 b7 b8 Bl HX3 HS3 HB3
   have hxl:=HS4.out.xlt
   have d5:=HS4.out.c5
   go_wp2_with fail
   refine(zBI HS4.out _ [36] rfl (by omega) (by simp)).mono ?_
   rintro e w5 ⟨rfl,o5,a5,k5,v5,hs5,hb5,rfl,rfl,rfl⟩
   have HS5:=zPf hs5
   have hxl5:=hs5.xlt
   have d3:=hs5.c3
   have z3:=hs5.fz 3
   have HB5:=zPf (HB4.out.trans hb5)
   have HS6:=zPf (hs5.setAt (a5+1))
   have HB6:=zPf (HB5.out.store 3 (.int .i64 ((a5+1:Nat))))
   clear hs5 hb5 hxl d5
   go_wp2_with fail
   go_end0
   refine⟨rfl,_,_,_,_,HS6.out,HB6.out,?_⟩
   have hj:=HK.out.leaf (.inl (by have:=H0.out;omega))
   rw[←hj]
   refine Hd.said _ (by omega) (by unfold BD;simp;omega) ?_
   unfold zFG
   rw[HK.out.hx]
   simp only[H0.out,if_neg (show¬(3:Int)=2 by decide),if_true,hj,HE.out,Bool.false_or]
 have q3:(x.op==3)=false:=zPl.2 h3
 by_cases h6:x.op=6
 ·have q6:(x.op==6)=true:=by rw[h6];rfl
  have H0:=zPf h6
  clear h6
  obtain⟨r1,r2,en2,hkid⟩:=HK.out.rep H0.out
  have R1:=zPf r1
  have R2:=zPf r2
  have HKID:=zPf hkid
  clear r1 r2 hkid
  obtain⟨y,hy⟩: ∃y,E.re[i+1]?=some y:=by
   cases f with
   |zero=>have:=HKID.out;simp[zAi]at this
   |succ f'=>exact⟨_,(zD4 HKID.out hel).choose_spec.hx⟩
  have HY:=zPf hy
  clear hy
  have HS4:=zPf (HS3.out.setAt (i+1))
  have HB4:=zPf (HB3.out.store 3 (.int .i64 ((i+1:Nat))))
  have HX4:=zPf (HX3.out.next ((SpB.refl W3 E ov).store 3 (.int .i64 ((i+1:Nat)))))
  rw[show(((i+1:Nat)):Int)=(i:Int)+1 by omega]at HB4 HX4
  have hcast:SpS (W3.setCell ⟨E.bx,3,none⟩ (.int .i64 ((i:Int)+1))) E out (i+1) true ov:=HS4.out
  have HS4:=zPf hcast
  clear hcast
  go_upto_region 14 with fail
  generalize W3.setCell ⟨E.bx,3,none⟩ (.int .i64 ((i:Int)+1))=W4 at HS4 HB4 HX4 ⊢
  rename_i HS4old
  clear hxl d1 d3 d4 d5 d7 z3 z4 b0 b1 b2 b3 b4 b5 b6 b7 b8 Bl HX3 HS3 HB3
  have hxl:=HS4.out.xlt
  have d7:=HS4.out.c7
  go_wp2_with fail
  refine(zJA HOk g (i+1) en j en2 W4 out ov y hg hel HKID.out HY.out HS4.out hl).mono ?_
  rintro e w5 ⟨rfl,o5,a5,k5,v5,hs5,hb5,hr5⟩
  have HS5:=zPf hs5
  have HB5:=zPf (HB4.out.trans hb5)
  have HX5:=zPf (HX4.out.next hb5)
  have HR5:=zPf hr5
  clear hs5 hb5 hr5 hxl d7
  have hl5:o5.length≤80000:=by
   cases k5 with
   |true=>
    obtain⟨_,s,_,_,h5,h6⟩:=HR5.out.1 rfl
    rw[h5];omega
   |false=>
    have:=((HR5.out.2 rfl).2 rfl).1
    unfold BD at this;omega
  have hxl:=HS5.out.xlt
  obtain⟨b0,⟨b1,b2,b3,b4⟩,b5,b6,b7,b8⟩:=HX5.out.cells
  have Bl:=HX5.out.lt
  go_wp2_with fail
  refine(zKh HS5.out x R1.out R2.out hl5).mono ?_
  rintro e w6 ⟨rfl,o6,a6,k6,v6,hs6,hb6,rfl,rfl,rfl⟩
  have HS6:=zPf hs6
  have HB6:=zPf (HB5.out.trans hb6)
  clear hs6 hb6
  go_wp2_with fail
  go_end0
  refine⟨rfl,_,_,_,_,HS6.out,HB6.out,?_⟩
  have hdl:=zJ6 (ere:=E.ere) R1.out R2.out
  refine Hd.wrap (A:=[]) (B1:=BD f) (ok:=true) (r:=zFP E.ere E.re (zA2 E.ere E.re (65 - g)) (i+1)) hl (by simpa using hl) (by simpa using HR5.out) ?_ (by unfold BD;omega) (by unfold BD;simp;omega)
  unfold zFG
  rw[HK.out.hx]
  simp only[H0.out,if_neg (show¬(6:Int)=2 by decide),if_neg (show¬(6:Int)=3 by decide),if_true]
  cases zFP E.ere E.re (zA2 E.ere E.re (65 - g)) (i+1)<;>rfl
 have q6:(x.op==6)=false:=zPl.2 h6
 have H0:=zPf (And.intro h2 (And.intro h3 h6))
 go_wp2_with fail
 refine(zJA HO g i en j en' W3 out ov x hg hel HN.out HK.out.hx HS3.out hl).mono ?_
 rintro e w5 ⟨rfl,o5,a5,k5,v5,hs5,hb5,hr5⟩
 have HS5:=zPf hs5
 have HB5:=zPf (HB3.out.trans hb5)
 have HR5:=zPf hr5
 clear hs5 hb5 hr5
 go_wp2_with fail
 go_end0
 refine⟨rfl,_,_,_,_,HS5.out,HB5.out,?_⟩
 have:zFG E.ere E.re (zA2 E.ere E.re (65 - g)) p q i=zFP E.ere E.re (zA2 E.ere E.re (65 - g)) i:=by
  rw[zFG,HK.out.hx]
  simp only[if_neg H0.out.1,if_neg H0.out.2.1,if_neg H0.out.2.2]
 rw[this]
 exact HR5.out
end
section
open Go.RowKit
def zPA (E:SpE) (f:Nat):Prop:= ∀(g i:Nat) (en:List Bool) (j:Nat) (en':List Bool) (w:World) (out:List Nat) (ok:Bool) (ov:Value),g≤64→en.length≤255→zAi E.re f g i en=some (j,en')→SpS w E out i ok ov→out.length≤4200→(ok=true→out.length≤4096)→
 Calls Tryz.prog 147 #[.pointer (some ⟨E.bx,0,none⟩)] w (SpP w E ov (Hd out ok (BD f) j (zKu E.ere E.re (zA2 E.ere E.re (65 - g)) i)))
theorem zEU {G:Nat→List Bool→Option (Nat × List Bool)} {m a:Nat} {en:List Bool} {r:Nat × List Bool} (h:zAy G (m+1) a en=some r): ∃j1 en3,G a en=some (j1,en3):=by
 unfold zAy at h
 split at h
 ·cases h
 ·exact⟨_,_,by assumption⟩
theorem zHY (r:Option (List Nat × Nat)):r=r.map fun p=>(([]:List Nat)++p.1,p.2):=by cases r<;>rfl
theorem zNE {E:SpE} (f:Nat) (hf:f≤260) (HP:Hid (zNi E (f+1))) (HPk:Hid (zNi E f)):zPA E (f+1):=by
 intro g i en j en' w out ok ov hg hel hn h hl0 hl
 obtain⟨x,hk⟩:=zD4 hn hel
 have H:=zPf h
 have HK:=zPf hk
 have HN:=zPf hn
 have HL:=zPf hl
 have hi:=(zPm.1 hk.hx).1
 have hre:=h.nd.len
 obtain⟨nb,no,hoa,hnd,nbl,hi',hnx⟩:=h.node hk.hx
 obtain⟨n0,n1,n2,n3,n4,n5,n6,n7,n8⟩:=hnd.cells hk.hx
 have hkm:=hnd.k x (zP9 hk.hx)
 have d0:=h.c0
 have d3:=h.c3
 have hxl:=h.xlt
 rw[hoa]at d0
 have hi64:(i:Int)<4294967296:=by omega
 clear h hk hn hnd hl
 go_enter Tryz.func147,Tryz.ntmps147
 go_upto_region 0 with fail
 refine zAA (X:=none) 11 [([0,1,2,3,4,5,6,7,8,9],10)] [] (by kernel_rfl) (by kernel_rfl) rfl (fun _ _ _ _ _ h=>h) ?_
 simp only[zAI,zAC,zAF,zAD,zAB,List.getD_cons_zero,List.getD_cons_succ,List.drop_succ_cons,List.drop_zero]
 repeat (go_big_quiet_step (fail))
 refine wpQuiet_nil ?_
 go_wp2_with fail
 refine⟨zAa (zAR _ _),wpQuiet_nil ?_⟩
 go_upto_region 1 with fail
 obtain⟨HX3,HS3,HB3⟩:=zFx.news H.out x _ rfl
 revert HS3 HB3 HX3
 simp only[zAO]
 generalize (w.alloc (.cells #[.int .i8 x.op,.int .u64 x.set.w0.toNat,.int .u64 x.set.w1.toNat,.int .u64 x.set.w2.toNat,.int .u64 x.set.w3.toNat,.int .i64 x.n,.int .i64 x.min,.int .i64 x.max,.int .i64 x.kids] 78)).drew=W3
 intro HX3 HS3 HB3
 generalize w.heap.size=B3 at HX3 ⊢
 clear n0 n1 n2 n3 n4 n5 n6 n7 n8 d0 d3 hxl H nbl
 have hxl:=HS3.out.xlt
 have d3:=HS3.out.c3
 have d4:=HS3.out.c4
 have z3:=HS3.out.fz 3
 have z4:=HS3.out.fz 4
 obtain⟨b0,⟨b1,b2,b3,b4⟩,b5,b6,b7,b8⟩:=HX3.out.cells
 have Bl:=HX3.out.lt
 by_cases h4:x.op=4
 ·have q4:(x.op !=4)=false:=by rw[h4];rfl
  have H0:=zPf h4
  obtain⟨en2,hkid⟩:=HK.out.kids (.inl h4)
  have HKID:=zPf hkid
  obtain⟨K,hK⟩: ∃K:Nat,x.kids=(K:Int):=⟨x.kids.toNat,by have:=HK.out.cat h4;omega⟩
  rw[hK]at b8 hkm
  have HKK:=zPf hK
  have HRow:=zPf (show zKu E.ere E.re (zA2 E.ere E.re (65 - g)) i=if K=0 then none else zDi E.ere E.re (zA2 E.ere E.re (65 - g)) K true (i+1)by
   rw[zKu,HK.out.hx]
   simp only[H0.out,ne_eq,not_true_eq_false,if_false,HKK.out]
   by_cases hz:K=0
   ·rw[if_pos (by omega),if_pos hz]
   ·rw[if_neg (by omega),if_neg hz];simp)
  clear h4 hkid hK
  have HS4:=zPf (HS3.out.setAt (i+1))
  have HB4:=zPf (HB3.out.store 3 (.int .i64 ((i+1:Nat))))
  have HX4:=zPf (HX3.out.next ((SpB.refl W3 E ov).store 3 (.int .i64 ((i+1:Nat)))))
  have hcast:SpS (W3.setCell ⟨E.bx,3,none⟩ (.int .i64 ((i:Int)+1))) E out (i+1) ok ov:=HS4.out
  clear HS4
  have HS4:=zPf hcast
  rw[show(((i+1:Nat)):Int)=(i:Int)+1 by omega]at HB4 HX4
  clear hcast
  go_upto_region 4 with fail
  generalize W3.setCell ⟨E.bx,3,none⟩ (.int .i64 ((i:Int)+1))=W4 at HS4 HB4 HX4 ⊢
  clear hxl d3 d4 z3 z4 b0 b1 b2 b3 b4 b5 b6 b7 Bl HX3 HS3 HB3
  have hxl:=HS4.out.xlt
  have d4:=HS4.out.c4
  have z4:=HS4.out.fz 4
  clear b8
  obtain⟨_,_,_,_,_,b8⟩:=HX4.out.cells
  rw[HKK.out]at b8
  have Bl:=HX4.out.lt
  cases ok with
  |false=>
   have HS5:=zPf (HS4.out.setOk false)
   have HB5:=zPf (HB4.out.store 4 (.bool false))
   have HX5:=zPf (HX4.out.next ((SpB.refl W4 E ov).store 4 (.bool false)))
   go_upto_region 5 with fail
   generalize W4.setCell ⟨E.bx,4,none⟩ (.bool false)=W5 at HS5 HB5 HX5 ⊢
   clear hxl d4 z4 b8 Bl HX4 HS4 HB4
   have hxl:=HS5.out.xlt
   obtain⟨_,_,_,_,_,b8⟩:=HX5.out.cells
   rw[HKK.out]at b8
   have Bl:=HX5.out.lt
   go_wp2_with fail
   go_loopg [3,40] K (fun n _ iv wr=> ∃(d:Nat) (o':List Nat) (a':Nat) (k':Bool) (v':Value),iv= .int .i64 (d:Nat)∧n=K - d∧d≤K∧SpS wr E o' a' k' v'∧SpB w E ov wr v'∧zFx wr E B3 x v'∧LI out false (BD (f+1)) (zKu E.ere E.re (zA2 E.ere E.re (65 - g)) i) (zDi E.ere E.re (zA2 E.ere E.re (65 - g)) (K - d) (d==0)) (zAy (zAi E.re f g) (K - d)) j o' a' k')
   case atStart=>
    refine⟨0,_,_,_,_,rfl,rfl,Nat.zero_le _,HS5.out,HB5.out,HX5.out,?_⟩
    exact LI.off
   case round=>
    obtain⟨d,o',a',k',v',rfl,hg',hd,hS,hB,hX,hI⟩:=hrel
    have HG:=zPf hg'
    have HS:=zPf hS
    have HB:=zPf hB
    have HX:=zPf hX
    have HI:=zPf hI
    have hxlr:=hS.xlt
    clear b8 Bl hxl
    obtain⟨_,_,_,_,_,b8⟩:=hX.cells
    rw[HKK.out]at b8
    have Bl:=hX.lt
    clear hg' hS hB hX hI
    by_cases hlt:d<K
    ·have hlt':(d:Int)<(K:Int):=by omega
     obtain⟨m,hm⟩: ∃m,K - d=m+1:=⟨K - d - 1,by omega⟩
     have HM:=zPf hm
     clear hm
     have E1:=zPf (show((d:Int)==0)=(d==0)by rw[Bool.eq_iff_iff];simp)
     have E2:=zPf (show((d:Int)==(K:Int) - 1)=(m==0)by rw[Bool.eq_iff_iff];have:=HM.out;simp;omega)
     have hK1: -9223372036854775808≤(K:Int) - 1:=by omega
     have hK2:(K:Int) - 1≤9223372036854775807:=by omega
     have hd64:(d:Int)+1≤9223372036854775807:=by omega
     cases hk':k' with
     |true=>
      subst hk'
      exact absurd (HI.out.1 rfl).1 (by decide)
     |false=>
      subst hk'
      have HCC:=zPf (zF2 HS.out ((d:Int)==0) ((d:Int)==(K:Int) - 1))
      go_wp2_with fail
      refine HCC.out.mono ?_
      rintro e w6 ⟨rfl,o6,a6,k6,v6,hs6,hb6,rfl,rfl,rfl⟩
      have HS6:=zPf hs6
      have HB6:=zPf (HB.out.trans hb6)
      have HX6:=zPf (HX.out.next hb6)
      clear hs6 hb6
      go_wp2_with fail
      go_roundg (K - (d+1))
      case measure=>have:=HG.out;omega
      case rel=>
      exact⟨d+1,_,_,_,_,by go_num,rfl,by omega,HS6.out,HB6.out,HX6.out,HI.out.next_off⟩
    ·obtain rfl:d=K:=by omega
     go_wp2_with fail
     go_end0
     refine⟨rfl,_,_,_,_,HS.out,HB.out,HI.out.done (fun a=>?_) (fun a e=>?_)⟩
     ·rw[Nat.sub_self];rfl
     ·rw[Nat.sub_self];rfl
  |true=>
   by_cases hz:K=0
   ·have p0:decide (0<K)=false:=zPr (by omega)
    have HZ:=zPf hz
    clear hz
    have HS5:=zPf (HS4.out.setOk false)
    have HB5:=zPf (HB4.out.store 4 (.bool false))
    have HX5:=zPf (HX4.out.next ((SpB.refl W4 E ov).store 4 (.bool false)))
    go_upto_region 5 with fail
    clear p0
    generalize W4.setCell ⟨E.bx,4,none⟩ (.bool false)=W5 at HS5 HB5 HX5 ⊢
    clear hxl d4 z4 b8 Bl HX4 HS4 HB4
    have hxl:=HS5.out.xlt
    obtain⟨_,_,_,_,_,b8⟩:=HX5.out.cells
    rw[HKK.out]at b8
    have Bl:=HX5.out.lt
    go_wp2_with fail
    go_loopg [3,40] K (fun n _ iv wr=> ∃(d:Nat) (o':List Nat) (a':Nat) (k':Bool) (v':Value),iv= .int .i64 (d:Nat)∧n=K - d∧d≤K∧SpS wr E o' a' k' v'∧SpB w E ov wr v'∧zFx wr E B3 x v'∧LI out true (BD (f+1)) (zKu E.ere E.re (zA2 E.ere E.re (65 - g)) i) (zDi E.ere E.re (zA2 E.ere E.re (65 - g)) (K - d) (d==0)) (zAy (zAi E.re f g) (K - d)) j o' a' k')
    case atStart=>
     refine⟨0,_,_,_,_,rfl,rfl,Nat.zero_le _,HS5.out,HB5.out,HX5.out,?_⟩
     exact⟨fun e=>(by cases e),fun _=>⟨fun e=>(by cases e),fun _=>⟨by unfold BD;omega,fun s e h=>(by rw[HRow.out,if_pos HZ.out]at h;cases h)⟩⟩⟩
    case round=>
     obtain⟨d,o',a',k',v',rfl,hg',hd,hS,hB,hX,hI⟩:=hrel
     have HG:=zPf hg'
     have HS:=zPf hS
     have HB:=zPf hB
     have HX:=zPf hX
     have HI:=zPf hI
     have hxlr:=hS.xlt
     clear b8 Bl hxl
     obtain⟨_,_,_,_,_,b8⟩:=hX.cells
     rw[HKK.out]at b8
     have Bl:=hX.lt
     clear hg' hS hB hX hI
     by_cases hlt:d<K
     ·have hlt':(d:Int)<(K:Int):=by omega
      obtain⟨m,hm⟩: ∃m,K - d=m+1:=⟨K - d - 1,by omega⟩
      have HM:=zPf hm
      clear hm
      have E1:=zPf (show((d:Int)==0)=(d==0)by rw[Bool.eq_iff_iff];simp)
      have E2:=zPf (show((d:Int)==(K:Int) - 1)=(m==0)by rw[Bool.eq_iff_iff];have:=HM.out;simp;omega)
      have hK1: -9223372036854775808≤(K:Int) - 1:=by omega
      have hK2:(K:Int) - 1≤9223372036854775807:=by omega
      have hd64:(d:Int)+1≤9223372036854775807:=by omega
      cases hk':k' with
      |true=>
       subst hk'
       obtain⟨hok,s,en3,ho',hol,he3,⟨en4,hkn⟩,hr⟩:=HI.out.1 rfl
       clear hok
       rw[HM.out]at hkn hr
       obtain⟨j1,en5,hG⟩:=zEU hkn
       have HGG:=zPf hG
       have HKN:=zPf hkn
       have HR:=zPf hr
       subst ho'
       clear hG hkn hr
       have HCC:=zPf (HPk.out g a' en3 j1 en5 wr (out++s) v' ((d:Int)==0) ((d:Int)==(K:Int) - 1) hg he3 HGG.out HS.out hol)
       go_wp2_with fail
       refine HCC.out.mono ?_
       rintro e w6 ⟨rfl,o6,a6,k6,v6,hs6,hb6,hr6⟩
       have HS6:=zPf hs6
       have HB6:=zPf (HB.out.trans hb6)
       have HX6:=zPf (HX.out.next hb6)
       rw[E1.out,E2.out]at hr6
       have HR6:=zPf hr6
       clear hs6 hb6 hr6
       go_wp2_with fail
       go_roundg (K - (d+1))
       case measure=>have:=HG.out;omega
       case rel=>
       refine⟨d+1,_,_,_,_,by go_num,rfl,by omega,HS6.out,HB6.out,HX6.out,?_⟩
       have e3:K - (d+1)=m:=by have:=HM.out;omega
       rw[e3,show((d+1)==0)=false from rfl]
       exact LI.next HR.out HKN.out HGG.out (zD3 _ _ _ _ _ _ HGG.out he3) (zGS ..) HR6.out (by unfold BD;omega)
      |false=>
       subst hk'
       have HCC:=zPf (zF2 HS.out ((d:Int)==0) ((d:Int)==(K:Int) - 1))
       go_wp2_with fail
       refine HCC.out.mono ?_
       rintro e w6 ⟨rfl,o6,a6,k6,v6,hs6,hb6,rfl,rfl,rfl⟩
       have HS6:=zPf hs6
       have HB6:=zPf (HB.out.trans hb6)
       have HX6:=zPf (HX.out.next hb6)
       clear hs6 hb6
       go_wp2_with fail
       go_roundg (K - (d+1))
       case measure=>have:=HG.out;omega
       case rel=>
       exact⟨d+1,_,_,_,_,by go_num,rfl,by omega,HS6.out,HB6.out,HX6.out,HI.out.next_off⟩
     ·obtain rfl:d=K:=by omega
      go_wp2_with fail
      go_end0
      refine⟨rfl,_,_,_,_,HS.out,HB.out,HI.out.done (fun a=>?_) (fun a e=>?_)⟩
      ·rw[Nat.sub_self];rfl
      ·rw[Nat.sub_self];rfl
   ·have p0:decide (0<K)=true:=zPq (by omega)
    have HZ:=zPf hz
    clear hz
    have HS5:=zPf (HS4.out.setOk true)
    have HB5:=zPf (HB4.out.store 4 (.bool true))
    have HX5:=zPf (HX4.out.next ((SpB.refl W4 E ov).store 4 (.bool true)))
    go_upto_region 5 with fail
    clear p0
    generalize W4.setCell ⟨E.bx,4,none⟩ (.bool true)=W5 at HS5 HB5 HX5 ⊢
    clear hxl d4 z4 b8 Bl HX4 HS4 HB4
    have hxl:=HS5.out.xlt
    obtain⟨_,_,_,_,_,b8⟩:=HX5.out.cells
    rw[HKK.out]at b8
    have Bl:=HX5.out.lt
    go_wp2_with fail
    go_loopg [3,40] K (fun n _ iv wr=> ∃(d:Nat) (o':List Nat) (a':Nat) (k':Bool) (v':Value),iv= .int .i64 (d:Nat)∧n=K - d∧d≤K∧SpS wr E o' a' k' v'∧SpB w E ov wr v'∧zFx wr E B3 x v'∧LI out true (BD (f+1)) (zKu E.ere E.re (zA2 E.ere E.re (65 - g)) i) (zDi E.ere E.re (zA2 E.ere E.re (65 - g)) (K - d) (d==0)) (zAy (zAi E.re f g) (K - d)) j o' a' k')
    case atStart=>
     refine⟨0,_,_,_,_,rfl,rfl,Nat.zero_le _,HS5.out,HB5.out,HX5.out,?_⟩
     exact⟨fun _=>⟨rfl,[],en,by simp,by simpa using HL.out,hel,⟨en2,by have h:=HKID.out;rw[HKK.out]at h;simpa using h⟩,by rw[HRow.out,if_neg HZ.out];exact zHY _⟩,fun e=>(by cases e)⟩
    case round=>
     obtain⟨d,o',a',k',v',rfl,hg',hd,hS,hB,hX,hI⟩:=hrel
     have HG:=zPf hg'
     have HS:=zPf hS
     have HB:=zPf hB
     have HX:=zPf hX
     have HI:=zPf hI
     have hxlr:=hS.xlt
     clear b8 Bl hxl
     obtain⟨_,_,_,_,_,b8⟩:=hX.cells
     rw[HKK.out]at b8
     have Bl:=hX.lt
     clear hg' hS hB hX hI
     by_cases hlt:d<K
     ·have hlt':(d:Int)<(K:Int):=by omega
      obtain⟨m,hm⟩: ∃m,K - d=m+1:=⟨K - d - 1,by omega⟩
      have HM:=zPf hm
      clear hm
      have E1:=zPf (show((d:Int)==0)=(d==0)by rw[Bool.eq_iff_iff];simp)
      have E2:=zPf (show((d:Int)==(K:Int) - 1)=(m==0)by rw[Bool.eq_iff_iff];have:=HM.out;simp;omega)
      have hK1: -9223372036854775808≤(K:Int) - 1:=by omega
      have hK2:(K:Int) - 1≤9223372036854775807:=by omega
      have hd64:(d:Int)+1≤9223372036854775807:=by omega
      cases hk':k' with
      |true=>
       subst hk'
       obtain⟨hok,s,en3,ho',hol,he3,⟨en4,hkn⟩,hr⟩:=HI.out.1 rfl
       clear hok
       rw[HM.out]at hkn hr
       obtain⟨j1,en5,hG⟩:=zEU hkn
       have HGG:=zPf hG
       have HKN:=zPf hkn
       have HR:=zPf hr
       subst ho'
       clear hG hkn hr
       have HCC:=zPf (HPk.out g a' en3 j1 en5 wr (out++s) v' ((d:Int)==0) ((d:Int)==(K:Int) - 1) hg he3 HGG.out HS.out hol)
       go_wp2_with fail
       refine HCC.out.mono ?_
       rintro e w6 ⟨rfl,o6,a6,k6,v6,hs6,hb6,hr6⟩
       have HS6:=zPf hs6
       have HB6:=zPf (HB.out.trans hb6)
       have HX6:=zPf (HX.out.next hb6)
       rw[E1.out,E2.out]at hr6
       have HR6:=zPf hr6
       clear hs6 hb6 hr6
       go_wp2_with fail
       go_roundg (K - (d+1))
       case measure=>have:=HG.out;omega
       case rel=>
       refine⟨d+1,_,_,_,_,by go_num,rfl,by omega,HS6.out,HB6.out,HX6.out,?_⟩
       have e3:K - (d+1)=m:=by have:=HM.out;omega
       rw[e3,show((d+1)==0)=false from rfl]
       exact LI.next HR.out HKN.out HGG.out (zD3 _ _ _ _ _ _ HGG.out he3) (zGS ..) HR6.out (by unfold BD;omega)
      |false=>
       subst hk'
       have HCC:=zPf (zF2 HS.out ((d:Int)==0) ((d:Int)==(K:Int) - 1))
       go_wp2_with fail
       refine HCC.out.mono ?_
       rintro e w6 ⟨rfl,o6,a6,k6,v6,hs6,hb6,rfl,rfl,rfl⟩
       have HS6:=zPf hs6
       have HB6:=zPf (HB.out.trans hb6)
       have HX6:=zPf (HX.out.next hb6)
       clear hs6 hb6
       go_wp2_with fail
       go_roundg (K - (d+1))
       case measure=>have:=HG.out;omega
       case rel=>
       exact⟨d+1,_,_,_,_,by go_num,rfl,by omega,HS6.out,HB6.out,HX6.out,HI.out.next_off⟩
     ·obtain rfl:d=K:=by omega
      go_wp2_with fail
      go_end0
      refine⟨rfl,_,_,_,_,HS.out,HB.out,HI.out.done (fun a=>?_) (fun a e=>?_)⟩
      ·rw[Nat.sub_self];rfl
      ·rw[Nat.sub_self];rfl
 ·have q4:(x.op !=4)=true:=by simp[bne,h4]
  have H0:=zPf h4
  clear h4
  have HRow:=zPf (show zKu E.ere E.re (zA2 E.ere E.re (65 - g)) i=zFG E.ere E.re (zA2 E.ere E.re (65 - g)) true true i by
   rw[zKu,HK.out.hx]
   simp only[ne_eq,H0.out,not_false_eq_true,if_true])
  cases ok with
  |false=>
   go_wp2_with fail
   refine(zF2 HS3.out true true).mono ?_
   rintro e w5 ⟨rfl,o5,a5,k5,v5,hs5,hb5,rfl,rfl,rfl⟩
   have HS5:=zPf hs5
   have HB5:=zPf (HB3.out.trans hb5)
   clear hs5 hb5
   go_wp2_with fail
   go_end0
   exact⟨rfl,_,_,_,_,HS5.out,HB5.out,Hd.off⟩
  |true=>
   go_wp2_with fail
   refine(HP.out g i en j en' W3 out ov true true hg hel HN.out HS3.out (by simpa using HL.out)).mono ?_
   rintro e w5 ⟨rfl,o5,a5,k5,v5,hs5,hb5,hr5⟩
   have HS5:=zPf hs5
   have HB5:=zPf (HB3.out.trans hb5)
   have HR5:=zPf hr5
   clear hs5 hb5 hr5
   go_wp2_with fail
   go_end0
   exact⟨rfl,_,_,_,_,HS5.out,HB5.out,HRow.out▸HR5.out⟩
end
section
open Go.RowKit
theorem Hd.pre {out A:List Nat} {B1 B j:Nat} {r r':Option (List Nat × Nat)} {ok:Bool} {o2:List Nat} {a2:Nat} {k2:Bool} (hl:out.length≤4096) (hok:ok=decide ((out++A).length≤4096)) (h:Hd (out++A) ok B1 j r o2 a2 k2) (hr:r'=r.map fun p=>(A++p.1,p.2)) (hB:B1≤B) (hA:4096+A.length≤B):
  Hd out true B j r' o2 a2 k2:=by
 have h1:=Hd.wrap (C:=[]) (r':=r') (B:=B) hl hok h (by rw[hr];simp) (by simpa using hB) (by simpa using hA)
 have hk:(k2&&decide ((o2++[]).length≤4096))=k2:=by
  cases k2 with
  |false=>rfl
  |true=>
   obtain⟨_,s,_,_,h4,h5⟩:=h.1 rfl
   rw[List.append_nil,h4,zPq h5];rfl
 rwa[hk,List.append_nil]at h1
theorem zKg {E:SpE} (f:Nat) (hf:f≤260) (HP:Hid (zPA E (f+1))) (HPk:Hid (zPA E f)):zMl E (f+1):=by
 intro g i en j en' w out ok ov hg hel hn h hl0 hl
 obtain⟨x,hk⟩:=zD4 hn hel
 have H:=zPf h
 have HK:=zPf hk
 have HN:=zPf hn
 have HL:=zPf hl
 have hi:=(zPm.1 hk.hx).1
 have hre:=h.nd.len
 obtain⟨nb,no,hoa,hnd,nbl,hi',hnx⟩:=h.node hk.hx
 obtain⟨n0,n1,n2,n3,n4,n5,n6,n7,n8⟩:=hnd.cells hk.hx
 have hkm:=hnd.k x (zP9 hk.hx)
 have d0:=h.c0
 have d3:=h.c3
 have hxl:=h.xlt
 rw[hoa]at d0
 have hi64:(i:Int)<4294967296:=by omega
 clear h hk hn hnd hl
 go_enter Tryz.func117,Tryz.ntmps117
 go_upto_region 0 with fail
 refine zAA (X:=none) 11 [([0,1,2,3,4,5,6,7,8,9],10)] [] (by kernel_rfl) (by kernel_rfl) rfl (fun _ _ _ _ _ h=>h) ?_
 simp only[zAI,zAC,zAF,zAD,zAB,List.getD_cons_zero,List.getD_cons_succ,List.drop_succ_cons,List.drop_zero]
 repeat (go_big_quiet_step (fail))
 refine wpQuiet_nil ?_
 go_wp2_with fail
 refine⟨zAa (zAR _ _),wpQuiet_nil ?_⟩
 go_upto_region 1 with fail
 obtain⟨HX3,HS3,HB3⟩:=zFx.news H.out x _ rfl
 revert HS3 HB3 HX3
 simp only[zAO]
 generalize (w.alloc (.cells #[.int .i8 x.op,.int .u64 x.set.w0.toNat,.int .u64 x.set.w1.toNat,.int .u64 x.set.w2.toNat,.int .u64 x.set.w3.toNat,.int .i64 x.n,.int .i64 x.min,.int .i64 x.max,.int .i64 x.kids] 78)).drew=W3
 intro HX3 HS3 HB3
 generalize w.heap.size=B3 at HX3 ⊢
 clear n0 n1 n2 n3 n4 n5 n6 n7 n8 d0 d3 hxl H nbl
 have hxl:=HS3.out.xlt
 have d1:=HS3.out.c1
 have d3:=HS3.out.c3
 have d4:=HS3.out.c4
 have z3:=HS3.out.fz 3
 have z4:=HS3.out.fz 4
 obtain⟨b0,⟨b1,b2,b3,b4⟩,b5,b6,b7,b8⟩:=HX3.out.cells
 have Bl:=HX3.out.lt
 have hgs:66 - g=(65 - g)+1:=by omega
 by_cases h4:x.op=5
 ·have q4:(x.op !=5)=false:=by rw[h4];rfl
  have H0:=zPf h4
  obtain⟨en2,hkid⟩:=HK.out.kids (.inr h4)
  have HKID:=zPf hkid
  obtain⟨K,hK⟩: ∃K:Nat,x.kids=(K:Int):=⟨x.kids.toNat,by have:=HK.out.alt h4;omega⟩
  rw[hK]at b8 hkm
  have HKK:=zPf hK
  have HRow:=zPf (show zA2 E.ere E.re (66 - g) i=if E.ere then zGO E.ere E.re (zA2 E.ere E.re (65 - g)) K true (i+1)else none by
   rw[hgs,zA2,HK.out.hx]
   simp only[H0.out,ne_eq,not_true_eq_false,if_false,HKK.out,Int.toNat_natCast])
  clear h4 hkid hK hgs
  have HS4:=zPf (HS3.out.setOk (ok&&E.ere))
  have HB4:=zPf (HB3.out.store 4 (.bool (ok&&E.ere)))
  have HX4:=zPf (HX3.out.next ((SpB.refl W3 E ov).store 4 (.bool (ok&&E.ere))))
  cases ok with
  |false=>
   simp only[Bool.false_and]at HS4 HB4 HX4
   go_upto_region 4 with fail
   generalize W3.setCell ⟨E.bx,4,none⟩ (.bool false)=W4 at HS4 HB4 HX4 ⊢
   clear hxl d1 d3 d4 z3 z4 b0 b1 b2 b3 b4 b5 b6 b7 b8 Bl HX3 HS3 HB3
   have hxl:=HS4.out.xlt
   have d3:=HS4.out.c3
   have z3:=HS4.out.fz 3
   have HS5:=zPf (HS4.out.setAt (i+1))
   have HB5:=zPf (HB4.out.store 3 (.int .i64 ((i+1:Nat))))
   have HX5:=zPf (HX4.out.next ((SpB.refl W4 E ov).store 3 (.int .i64 ((i+1:Nat)))))
   have hcast:SpS (W4.setCell ⟨E.bx,3,none⟩ (.int .i64 ((i:Int)+1))) E out (i+1) false ov:=HS5.out
   clear HS5
   have HS5:=zPf hcast
   rw[show(((i+1:Nat)):Int)=(i:Int)+1 by omega]at HB5 HX5
   clear hcast
   go_upto_region 5 with fail
   generalize W4.setCell ⟨E.bx,3,none⟩ (.int .i64 ((i:Int)+1))=W5 at HS5 HB5 HX5 ⊢
   clear hxl d3 z3 HX4 HS4 HB4
   go_wp2_with fail
   go_loopg [3] K (fun n iv wr=> ∃(d:Nat) (o':List Nat) (a':Nat) (k':Bool) (v':Value),iv= .int .i64 (d:Nat)∧n=K - d∧d≤K∧SpS wr E o' a' k' v'∧SpB w E ov wr v'∧zFx wr E B3 x v'∧LI out false (BD (f+1)) (zA2 E.ere E.re (66 - g) i) (zGO E.ere E.re (zA2 E.ere E.re (65 - g)) (K - d) (d==0)) (zAy (zAi E.re f g) (K - d)) j o' a' k')
   case atStart=>
    refine⟨0,_,_,_,_,rfl,rfl,Nat.zero_le _,HS5.out,HB5.out,HX5.out,?_⟩
    exact LI.off
   case round=>
    obtain⟨d,o',a',k',v',rfl,hg',hd,hS,hB,hX,hI⟩:=hrel
    have HG:=zPf hg'
    have HS:=zPf hS
    have HB:=zPf hB
    have HX:=zPf hX
    have HI:=zPf hI
    have hxlr:=hS.xlt
    have d4:=hS.c4
    obtain⟨_,_,_,_,_,b8⟩:=hX.cells
    rw[HKK.out]at b8
    have Bl:=hX.lt
    clear hg' hS hB hX hI
    by_cases hlt:d<K
    ·have hlt':(d:Int)<(K:Int):=by omega
     obtain⟨m,hm⟩: ∃m,K - d=m+1:=⟨K - d - 1,by omega⟩
     have HM:=zPf hm
     clear hm
     have hd64:(d:Int)+1≤9223372036854775807:=by omega
     cases hk':k' with
     |true=>
      subst hk'
      exact absurd (HI.out.1 rfl).1 (by decide)
     |false=>
      subst hk'
      go_wp2_with fail
      go_end0
      exact⟨rfl,_,_,_,_,HS.out,HB.out,fun e=>(by cases e),HI.out.2⟩
    ·obtain rfl:d=K:=by omega
     go_wp2_with fail
     go_end0
     refine⟨rfl,_,_,_,_,HS.out,HB.out,HI.out.done (fun a=>?_) (fun a e=>?_)⟩
     ·rw[Nat.sub_self];rfl
     ·rw[Nat.sub_self];rfl
  |true=>
   simp only[Bool.true_and]at HS4 HB4 HX4
   go_upto_region 4 with fail
   generalize W3.setCell ⟨E.bx,4,none⟩ (.bool E.ere)=W4 at HS4 HB4 HX4 ⊢
   clear hxl d1 d3 d4 z3 z4 b0 b1 b2 b3 b4 b5 b6 b7 b8 Bl HX3 HS3 HB3
   have hxl:=HS4.out.xlt
   have d3:=HS4.out.c3
   have z3:=HS4.out.fz 3
   have HS5:=zPf (HS4.out.setAt (i+1))
   have HB5:=zPf (HB4.out.store 3 (.int .i64 ((i+1:Nat))))
   have HX5:=zPf (HX4.out.next ((SpB.refl W4 E ov).store 3 (.int .i64 ((i+1:Nat)))))
   have hcast:SpS (W4.setCell ⟨E.bx,3,none⟩ (.int .i64 ((i:Int)+1))) E out (i+1) E.ere ov:=HS5.out
   clear HS5
   have HS5:=zPf hcast
   rw[show(((i+1:Nat)):Int)=(i:Int)+1 by omega]at HB5 HX5
   clear hcast
   go_upto_region 5 with fail
   generalize W4.setCell ⟨E.bx,3,none⟩ (.int .i64 ((i:Int)+1))=W5 at HS5 HB5 HX5 ⊢
   clear hxl d3 z3 HX4 HS4 HB4
   go_wp2_with fail
   go_loopg [3] K (fun n iv wr=> ∃(d:Nat) (o':List Nat) (a':Nat) (k':Bool) (v':Value),iv= .int .i64 (d:Nat)∧n=K - d∧d≤K∧SpS wr E o' a' k' v'∧SpB w E ov wr v'∧zFx wr E B3 x v'∧LI out true (BD (f+1)) (zA2 E.ere E.re (66 - g) i) (zGO E.ere E.re (zA2 E.ere E.re (65 - g)) (K - d) (d==0)) (zAy (zAi E.re f g) (K - d)) j o' a' k')
   case atStart=>
    refine⟨0,_,_,_,_,rfl,rfl,Nat.zero_le _,HS5.out,HB5.out,HX5.out,?_⟩
    cases hE:E.ere with
    |false=>exact⟨fun e=>(by cases e),fun _=>⟨fun e=>(by cases e),fun _=>⟨by unfold BD;omega,fun s e h=>(by have hr:=HRow.out;rw[hE]at hr;rw[hr]at h;simp at h)⟩⟩⟩
    |true=>exact⟨fun _=>⟨rfl,[],en,by simp,by simpa using HL.out,hel,⟨en2,by have h:=HKID.out;rw[HKK.out]at h;simpa using h⟩,by have hr:=HRow.out;rw[hE]at hr;rw[hr,if_pos rfl];exact zHY _⟩,fun e=>(by cases e)⟩
   case round=>
    obtain⟨d,o',a',k',v',rfl,hg',hd,hS,hB,hX,hI⟩:=hrel
    have HG:=zPf hg'
    have HS:=zPf hS
    have HB:=zPf hB
    have HX:=zPf hX
    have HI:=zPf hI
    have hxlr:=hS.xlt
    have d4:=hS.c4
    obtain⟨_,_,_,_,_,b8⟩:=hX.cells
    rw[HKK.out]at b8
    have Bl:=hX.lt
    clear hg' hS hB hX hI
    by_cases hlt:d<K
    ·have hlt':(d:Int)<(K:Int):=by omega
     obtain⟨m,hm⟩: ∃m,K - d=m+1:=⟨K - d - 1,by omega⟩
     have HM:=zPf hm
     clear hm
     have hd64:(d:Int)+1≤9223372036854775807:=by omega
     cases hk':k' with
     |true=>
      subst hk'
      obtain⟨hok,s,en3,ho',hol,he3,⟨en4,hkn⟩,hr⟩:=HI.out.1 rfl
      clear hok
      rw[HM.out]at hkn hr
      obtain⟨j1,en5,hG⟩:=zEU hkn
      have HGG:=zPf hG
      have HKN:=zPf hkn
      have HR:=zPf hr
      subst ho'
      clear hG hkn hr
      by_cases hd1:0<d
      case neg=>
       have HD1:=zPf (show d=0 by omega)
       have HCC:=zPf (HPk.out g a' en3 j1 en5 wr (out++s) true v' hg he3 HGG.out HS.out (by omega) (fun _=>hol))
       go_wp2_with fail
       refine HCC.out.mono ?_
       rintro e w6 ⟨rfl,o6,a6,k6,v6,hs6,hb6,hr6⟩
       have HS6:=zPf hs6
       have HB6:=zPf (HB.out.trans hb6)
       have HX6:=zPf (HX.out.next hb6)
       have HR6:=zPf hr6
       clear hs6 hb6 hr6
       go_wp2_with fail
       go_roundg (K - (d+1))
       case measure=>have:=HG.out;omega
       case rel=>
       refine⟨d+1,_,_,_,_,by go_num,rfl,by omega,HS6.out,HB6.out,HX6.out,?_⟩
       have e3:K - (d+1)=m:=by have:=HM.out;omega
       rw[e3,show((d+1)==0)=false from rfl]
       refine LI.next (B1:=BD (f+1)) HR.out HKN.out HGG.out (zD3 _ _ _ _ _ _ HGG.out he3) (zHP ..) ?_ (zPh _)
       rw[show(d==0)=true from beq_iff_eq.2 HD1.out]
       exact Hd.pre (A:=[]) (ok:=true) hol (by simpa using hol) (by simpa using HR6.out) (by simp) (by unfold BD;omega) (by unfold BD;simp;omega)
      case pos=>
       have HD1:=zPf (show¬d=0 by omega)
       have d5:=HS.out.c5
       go_wp2_with fail
       refine(zBI HS.out _ [124] rfl (by omega) (by simp)).mono ?_
       rintro e w5 ⟨rfl,o5,a5,k5,v5,hs5,hb5,rfl,rfl,rfl⟩
       have HS5:=zPf hs5
       have HB5:=zPf (HB.out.trans hb5)
       have HX5:=zPf (HX.out.next hb5)
       have HCC:=zPf (HPk.out g a5 en3 j1 en5 w5 (out++s++[124]) _ v5 hg he3 HGG.out hs5 (by have:=hol;simp only[List.length_append,List.length_cons,List.length_nil]at this ⊢;omega) (fun e=>by simpa using e))
       have hxl5:=hs5.xlt
       clear hs5 hb5 hxlr b8 Bl d4 d5
       obtain⟨_,_,_,_,_,b8⟩:=HX5.out.cells
       rw[HKK.out]at b8
       have Bl:=HX5.out.lt
       go_wp2_with fail
       refine HCC.out.mono ?_
       rintro e w6 ⟨rfl,o6,a6,k6,v6,hs6,hb6,hr6⟩
       have HS6:=zPf hs6
       have HB6:=zPf (HB5.out.trans hb6)
       have HX6:=zPf (HX5.out.next hb6)
       have HR6:=zPf hr6
       clear hs6 hb6 hr6
       go_wp2_with fail
       go_roundg (K - (d+1))
       case measure=>have:=HG.out;omega
       case rel=>
       refine⟨d+1,_,_,_,_,by go_num,rfl,by omega,HS6.out,HB6.out,HX6.out,?_⟩
       have e3:K - (d+1)=m:=by have:=HM.out;omega
       rw[e3,show((d+1)==0)=false from rfl]
       refine LI.next (B1:=BD (f+1)) HR.out HKN.out HGG.out (zD3 _ _ _ _ _ _ HGG.out he3) (zHP ..) ?_ (zPh _)
       rw[show(d==0)=false from zPl.2 HD1.out]
       exact Hd.pre (A:=[124]) hol (by rw[Bool.true_and]) HR6.out rfl (by unfold BD;omega) (by unfold BD;simp;omega)
     |false=>
      subst hk'
      go_wp2_with fail
      go_end0
      exact⟨rfl,_,_,_,_,HS.out,HB.out,fun e=>(by cases e),HI.out.2⟩
    ·obtain rfl:d=K:=by omega
     go_wp2_with fail
     go_end0
     refine⟨rfl,_,_,_,_,HS.out,HB.out,HI.out.done (fun a=>?_) (fun a e=>?_)⟩
     ·rw[Nat.sub_self];rfl
     ·rw[Nat.sub_self];rfl
 ·have q4:(x.op !=5)=true:=by simp[bne,h4]
  have H0:=zPf h4
  clear h4
  have HRow:=zPf (show zA2 E.ere E.re (66 - g) i=zKu E.ere E.re (zA2 E.ere E.re (65 - g)) i by
   rw[hgs,zA2,HK.out.hx]
   simp only[ne_eq,H0.out,not_false_eq_true,if_true])
  clear hgs
  have HCC:=zPf (HP.out g i en j en' W3 out ok ov hg hel HN.out HS3.out hl0 HL.out)
  go_wp2_with fail
  refine HCC.out.mono ?_
  rintro e w5 ⟨rfl,o5,a5,k5,v5,hs5,hb5,hr5⟩
  have HS5:=zPf hs5
  have HB5:=zPf (HB3.out.trans hb5)
  have HR5:=zPf hr5
  clear hs5 hb5 hr5
  go_wp2_with fail
  go_end0
  exact⟨rfl,_,_,_,_,HS5.out,HB5.out,HRow.out▸HR5.out⟩
theorem zIj {E:SpE} : ∀f,f≤260→zO4 E f∧zNi E f∧zPA E f∧zMl E f
 |0,_=>⟨fun _ _ _ _ _ _ _ _ _ _ _ hn=>by simp[zAi]at hn,fun _ _ _ _ _ _ _ _ _ _ _ _ hn=>by simp[zAi]at hn,fun _ _ _ _ _ _ _ _ _ _ _ hn=>by simp[zAi]at hn,fun _ _ _ _ _ _ _ _ _ _ _ hn=>by simp[zAi]at hn⟩
 |f+1,hf=>by
  obtain⟨h1,h2,h3,h4⟩:=zIj f (by omega)
  have k1:=zNI f (by omega) (zPf h4)
  have k2:=zL5 f (by omega) (zPf k1) (zPf h1)
  have k3:=zNE f (by omega) (zPf k2) (zPf h2)
  exact⟨k1,k2,k3,zKg f (by omega) (zPf k3) (zPf h3)⟩
end
section
open Go.RowKit
def zOk (ere:Bool) (re:List Nd) (w:World) (e:Ending) (w':World):Prop:=
 Below w.heap.size w w'∧
 if shapedN re=false then e= .returned (.tuple #[.slice none 0 0,.int .i64 49])
 else match zGD ere re with
  |none=>e= .returned (.tuple #[.slice none 0 0,.int .i64 50])
  |some s=> ∃v,e= .returned (.tuple #[v,.int .i64 0])∧Mks w' w.heap.size v (bm s)
theorem zK3 {w:World} {re:List Nd} {oa:Option Addr} {cap:Nat} (h:NdV w oa re) (ht:zMw w) (ere:Bool):
  Calls Tryz.prog 81 #[.bool ere,.slice oa re.length cap] w (zOk ere re w):=by
 have hb0:Below w.heap.size w ((w.alloc (.cells #[.bool ere] 4)).alloc (.cells #[.slice oa re.length cap] 52)):=((zPg _ w).alloc (zPh _) _).alloc (by simp) _
 have HS:=zPf (fun W=>zGF (cap:=cap) (w:=W) (oa:=oa) (re:=re))
 have H:=zPf h
 have HT:=zPf ht
 have HB0:=zPf hb0
 clear h ht hb0
 go_enter Tryz.func81,Tryz.ntmps81
 go_wp2_with fail
 refine(HS.out _ (H.out.below HB0.out)).mono ?_
 rintro e w1 ⟨rfl,hb1⟩
 have HB1:=zPf (HB0.out.trans (hb1.mono HB0.out.size))
 have k0:=(hb1.cell (p:=⟨w.heap.size,0,none⟩) (by simp<;>omega)).trans (show((w.alloc (.cells #[.bool ere] 4)).alloc (.cells #[.slice oa re.length cap] 52)).cell? ⟨w.heap.size,0,none⟩=some (.bool ere)by simp[go_sem])
 have k1:=(hb1.cell (p:=⟨w.heap.size+1,0,none⟩) (by simp<;>omega)).trans (show((w.alloc (.cells #[.bool ere] 4)).alloc (.cells #[.slice oa re.length cap] 52)).cell? ⟨w.heap.size+1,0,none⟩=some (.slice oa re.length cap)by simp[go_sem])
 have l1:w.heap.size+1<w1.heap.size:=by have:=hb1.size;simp at this;omega
 have l0:w.heap.size<w1.heap.size:=by omega
 clear hb1
 cases hsh:shapedN re with
 |false=>
  have HSH:=zPf hsh
  clear hsh
  go_wp2_with fail
  go_ret2
  exact⟨HB1.out,by rw[if_pos HSH.out];rfl⟩
 |true=>
  have HSH:=zPf hsh
  clear hsh
  go_upto_region 7 with fail
  have hB:Below w.heap.size w ((w1.alloc (.cells #[.slice oa re.length cap,.bool ere,.slice none 0 0,.int .i64 0,.bool true,.func (.func 113) #[] #[.pointer (some ⟨w1.heap.size+1,0,none⟩)],.func (.func 114) #[] #[.pointer (some ⟨w.heap.size,0,none⟩),.pointer (some ⟨w1.heap.size+1,0,none⟩)],.func (.func 115) #[] #[.pointer (some ⟨w1.heap.size+1,0,none⟩),.pointer (some ⟨w.heap.size+1,0,none⟩)]] 193)).alloc (.cells #[.pointer (some ⟨w1.heap.size,0,none⟩)] 190)):=(HB1.out.alloc (by omega) _).alloc (by simp;omega) _
  have hS:SpS ((w1.alloc (.cells #[.slice oa re.length cap,.bool ere,.slice none 0 0,.int .i64 0,.bool true,.func (.func 113) #[] #[.pointer (some ⟨w1.heap.size+1,0,none⟩)],.func (.func 114) #[] #[.pointer (some ⟨w.heap.size,0,none⟩),.pointer (some ⟨w1.heap.size+1,0,none⟩)],.func (.func 115) #[] #[.pointer (some ⟨w1.heap.size+1,0,none⟩),.pointer (some ⟨w.heap.size+1,0,none⟩)]] 193)).alloc (.cells #[.pointer (some ⟨w1.heap.size,0,none⟩)] 190)) ⟨w.heap.size,w.heap.size+1,w1.heap.size,w1.heap.size+1,ere,oa,cap,re,w⟩ [] 0 true (.slice none 0 0):= {
   tb:=HT.out
   nd:=H.out
   b0:=hB
   lbe:=zPh _
   lbr:=Nat.le_succ _
   ebe:=l0
   ebr:=l1
   exv:=Nat.lt_succ_self _
   lt:=by simp
   xe:=by simp[go_sem,k0,l0]
   xr:=by simp[go_sem,k1,l1]
   xv:=by simp[go_sem]
   c0:=by simp[go_sem]
   c1:=by simp[go_sem]
   c2:=by simp[go_sem]
   c3:=by simp[go_sem]
   c4:=by simp[go_sem]
   c5:=by simp[go_sem]
   c6:=by simp[go_sem]
   c7:=by simp[go_sem]
   fz:=fun o=>by simp[go_sem]
   own:=Mks.nil _ _ }
  have hat:=zIj (E:=⟨w.heap.size,w.heap.size+1,w1.heap.size,w1.heap.size+1,ere,oa,cap,re,w⟩) 260 (zPh _)
  have hsh:=HSH.out
  unfold shapedN at hsh
  split at hsh
  ·cases hsh
  rename_i j en' hnode
  have HCC:=zPf (hat.2.2.2 0 0 [] j en' _ [] true _ (by omega) (by simp) hnode hS (by simp) (fun _=>by simp))
  have HB:=zPf hB
  clear hB hS hat hsh hnode
  go_wp2_with fail
  refine HCC.out.mono ?_
  rintro e w5 ⟨rfl,o5,a5,k5,v5,hs5,hb5,hr5⟩
  have HB5:=zPf hs5.b0
  have HM5:=zPf (show Mks w5 w.heap.size v5 (bm o5)from zA6 hs5.own (by show w.heap.size≤w1.heap.size+1+1;omega))
  have HR5:=zPf hr5
  have d2:=hs5.c2
  have d4:=hs5.c4
  have dv:=hs5.xv
  have dx:=hs5.xlt
  have dl:=hs5.lt
  dsimp only at d2 d4 dv dx dl
  clear hs5 hb5 hr5 k0 k1
  have HSP:=zPf (show zGD ere re=match zA2 ere re 66 0 with|none=>none|some (s,_)=>if s.length≤4096 then some s else none from rfl)
  cases k5 with
  |false=>
   go_wp2_with fail
   go_ret2
   refine⟨HB5.out,?_⟩
   rw[if_neg (by rw[HSH.out];decide)]
   have h:=((HR5.out.2 rfl).2 rfl).2
   rw[HSP.out]
   have h': ∀s k,zA2 ere re 66 0=some (s,k)→4096<([]++s).length:=h
   cases hw:zA2 ere re 66 0 with
   |none=>rfl
   |some p=>
    obtain⟨s,k⟩:=p
    have h2:=h' s k hw
    show match (if s.length≤4096 then some s else none)with|none=>_|some s=>_
    rw[if_neg (by simpa using h2)]
    rfl
  |true=>
   go_wp2_with fail
   go_ret2
   refine⟨HB5.out,?_⟩
   rw[if_neg (by rw[HSH.out];decide)]
   obtain⟨_,s,h1,_,ho,h4⟩:=HR5.out.1 rfl
   have ho':o5=s:=ho
   have h1':zA2 ere re 66 0=some (s,j):=h1
   rw[HSP.out,h1']
   show match (if s.length≤4096 then some s else none)with|none=>_|some s=>_
   rw[if_pos (by simpa using h4)]
   exact⟨_,rfl,ho'▸HM5.out⟩
end
section
open Go.RowKit
structure zNl (w:World) (oa:Option Addr) (L:List Mk):Prop where
 len:L.length≤1073741824
 at_:0<L.length→ ∃mb mo,oa=some ⟨mb,mo,none⟩∧mb<w.heap.size∧ ∀i m,L[i]?=some m→w.cell? ⟨mb,mo+i*2,none⟩=some (.int .u8 (m.b:Nat))∧w.cell? ⟨mb,mo+i*2+1,none⟩=some (.bool m.p)∧m.b<256
theorem zNl.below {w w':World} {oa:Option Addr} {L:List Mk} (h:zNl w oa L) (hb:Below w.heap.size w w'):zNl w' oa L:=
 ⟨h.len,fun hp=>by
  obtain⟨mb,mo,h1,h2,h3⟩:=h.at_ hp
  exact⟨mb,mo,h1,zPi h2 hb.size,fun i m hm=>⟨(hb.cell (p:=⟨mb,mo+i*2,none⟩) h2).trans (h3 i m hm).1,(hb.cell (p:=⟨mb,mo+i*2+1,none⟩) h2).trans (h3 i m hm).2.1,(h3 i m hm).2.2⟩⟩⟩
def zPF (d:Nat) (L:List Mk) (w:World) (e:Ending) (w':World):Prop:=
 Below w.heap.size w w'∧match zEI d L with
  |none=>e= .returned (.tuple #[.slice none 0 0,.bool false])
  |some s=> ∃v,e= .returned (.tuple #[v,.bool true])∧w'.ownsRow w.heap.size 5 1 v s.length (u8s s)
def TxI (d:Nat) (L:List Mk) (w:World) (k:Nat) (o:List Nat) (t:Bool) (v:Value) (W:World):Prop:=
 k≤L.length∧W.ownsRow w.heap.size 5 1 v o.length (u8s o)∧o.length≤2*k∧Below w.heap.size w W∧zEI d L=(zCh d t (L.drop k)).map (o++ ·)
theorem TxI.stop {d:Nat} {L:List Mk} {w W:World} {k:Nat} {o:List Nat} {t:Bool} {v:Value} (h:TxI d L w k o t v W) (hn:zCh d t (L.drop k)=none):zEI d L=none:=by
 rw[h.2.2.2.2,hn];rfl
theorem TxI.next {d:Nat} {L:List Mk} {w W W':World} {k:Nat} {o n:List Nat} {t t':Bool} {v v':Value} (h:TxI d L w k o t v W) (hk:k<L.length) (hn:zCh d t (L.drop k)=(zCh d t' (L.drop (k+1))).map (n++ ·)) (hl:n.length≤2)
  (ho:W'.ownsRow w.heap.size 5 1 v' (o.length+n.length) (u8s o++u8s n)) (hb:Below w.heap.size w W'):TxI d L w (k+1) (o++n) t' v' W':=by
 refine⟨hk,?_,?_,hb,?_⟩
 ·have:u8s (o++n)=u8s o++u8s n:=by simp[u8s]
  rw[this,zPz];exact ho
 ·have:=h.2.2.1;simp;omega
 ·rw[h.2.2.2.2,hn]
  cases zCh d t' (L.drop (k+1))<;>simp
theorem zLj {w:World} {L:List Mk} {oa:Option Addr} {cap:Nat} (h:zNl w oa L) (d:Nat) (hd:d<256):
  Calls Tryz.prog 82 #[.slice oa L.length cap,.int .u8 (d:Nat)] w (zPF d L w):=by
 have H:=zPf h
 have hlen:=h.len
 clear h
 by_cases h1:d=92
 ·have HN:=zPf (show zEI d L=none by unfold zEI;rw[if_pos (.inl h1)])
  subst h1
  go_enter Tryz.func82,Tryz.ntmps82
  go_wp2_with fail
  go_ret2
  exact⟨zPg _ _,by rw[HN.out];rfl⟩
 by_cases h2:d=10
 ·have HN:=zPf (show zEI d L=none by unfold zEI;rw[if_pos (.inr h2)])
  subst h2
  go_enter Tryz.func82,Tryz.ntmps82
  go_wp2_with fail
  go_ret2
  exact⟨zPg _ _,by rw[HN.out];rfl⟩
 have HTL:=zPf (show zEI d L=zCh d false L by unfold zEI;rw[if_neg (by omega)])
 have q1:((d:Int)==92)=false:=zPl.2 (by omega)
 have q2:((d:Int)==10)=false:=zPl.2 (by omega)
 go_enter Tryz.func82,Tryz.ntmps82
 go_upto_region 3 with fail
 clear q1 q2
 go_wp2_with fail
 go_loopg [6,7,18] L.length (fun n ov tk iv wr=> ∃(k:Nat) (o:List Nat) (t:Bool),iv= .int .i64 (k:Nat)∧tk= .bool t∧n=L.length - k∧TxI d L w k o t ov wr)
 case atStart=>exact⟨0,[],false,rfl,rfl,rfl,Nat.zero_le _,zPv _ _ _ _,by simp,zPg _ _,by rw[HTL.out,List.drop_zero];cases zCh d false L<;>rfl⟩
 case round=>
  obtain⟨k,o,t,rfl,rfl,hg,hI⟩:=hrel
  have HG:=zPf hg
  have HI:=zPf hI
  have hkL:=hI.1
  have hol:=hI.2.2.1
  clear hg hI
  by_cases hlt:k<L.length
  ·have hlt':(k:Int)<(L.length:Int):=by omega
   obtain⟨m,hm⟩: ∃m,L[k]?=some m:=⟨_,zPw hlt⟩
   obtain⟨mb,mo,hoa,hml,hmc⟩:=(H.out.below HI.out.2.2.2.1).at_ (by omega)
   obtain⟨z0,z1,hb256⟩:=hmc k m hm
   have HD:=zPf (show L.drop k=m::L.drop (k+1)by rw[List.drop_eq_getElem_cons hlt,(zPm.1 hm).2])
   have hk64:(k:Int)+1≤9223372036854775807:=by omega
   rw[hoa]
   clear hm hmc
   obtain⟨b,p⟩:=m
   simp only at z0 z1 hb256
   have HOwn:=zPf ((HI.out.2.1).alloc (.cells #[.int .u8 (b:Nat),.bool p] 131))
   have HBM:=zPf (HI.out.2.2.2.1.alloc (HI.out.2.2.2.1.size) (.cells #[.int .u8 (b:Nat),.bool p] 131))
   have y0:(wr.alloc (.cells #[.int .u8 (b:Nat),.bool p] 131)).cell? ⟨wr.heap.size,0,none⟩=some (.int .u8 (b:Nat)):=by simp[go_sem]
   have y1:(wr.alloc (.cells #[.int .u8 (b:Nat),.bool p] 131)).cell? ⟨wr.heap.size,1,none⟩=some (.bool p):=by simp[go_sem]
   have yl:wr.heap.size<(wr.alloc (.cells #[.int .u8 (b:Nat),.bool p] 131)).heap.size:=by simp
   have HNO:=zPf (show∀g,u6.ownBlock=some g→g≠wr.heap.size from fun g hg e=>by have:=(HI.out.2.1.lt g hg).2;omega)
   go_upto_block 2 with fail
   generalize wr.alloc (.cells #[.int .u8 (b:Nat),.bool p] 131)=W2 at HOwn HBM y0 y1 yl ⊢
   generalize wr.heap.size=B2 at y0 y1 yl HNO ⊢
   clear z0 z1 hml
   cases t with
   |true=>
    cases p with
    |true=>
     have HN:=zPf (HI.out.stop (by rw[HD.out];rfl))
     go_wp2_with fail
     go_ret2
     exact⟨HBM.out,by rw[HN.out];rfl⟩
    |false=>
     by_cases hbd:b=d
     ·have e1:((b:Int)==(d:Int))=true:=by rw[hbd];exact beq_self_eq_true _
      have HQ:=zPf hbd
      clear hbd
      have HN:=zPf (HI.out.stop (by rw[HD.out,HQ.out];simp[zCh]))
      go_wp2_with fail
      go_ret2
      exact⟨HBM.out,by rw[HN.out];rfl⟩
     ·have e1:((b:Int)==(d:Int))=false:=zPl.2 (by omega)
      have HQ:=zPf hbd
      clear hbd
      go_wp2_with (at_builtin;refine zAt (n:=o.length) (m:=1) (news:=[.int .u8 (b:Nat)]) zMs rfl _ _ rfl w.heap.size rfl (HOwn.out.alloc _) rfl (Src.new W2 [.int .u8 (b:Nat)] _ _ _) rfl (by simp[Value.oneCell']) (by unfold maxLen;omega) (by omega) (by have:=HBM.out.size;simp;omega) ?_)
      intro v1 w1 hown1 hgr _
      have hb1:Below w.heap.size w w1:=Below.grown (zP6 HBM.out HBM.out.size _) hgr (by have:=HBM.out.size;simp;omega) (fun k hk=>(HOwn.out.lt k hk).1)
      have HF:=zPf (HI.out.next (W':=w1) (v':=v1) (t':=false) (n:=[b]) hlt (by rw[HD.out];simp[zCh,HQ.out]) (by simp) (by simpa [u8s]using hown1) hb1)
      have k0:=((zPj (a:=⟨B2,0,none⟩) (hgr.block B2 (by simp;omega) (fun e=>HNO.out _ e.symm rfl))).trans (((zPg W2.heap.size W2).alloc (zPh _) _).cell (p:=⟨B2,0,none⟩) yl)).trans y0
      have kl:B2<w1.heap.size:=by have:=hgr.size;simp at this;omega
      clear hown1 hgr hb1 y0 y1 yl
      go_wp2_with fail
      rw[←hoa]
      go_roundg (L.length - (k+1))
      case measure=>have:=HG.out;omega
      case rel=>exact⟨k+1,_,_,by go_num,rfl,rfl,HF.out⟩
   |false=>
    cases p with
    |true=>
     by_cases hbd:b=d
     ·have e1:((b:Int) !=(d:Int))=false:=by rw[hbd];simp
      have HQ:=zPf hbd
      clear hbd
      go_wp2_with (at_builtin;refine zAt (n:=o.length) (m:=2) (news:=[.int .u8 92,.int .u8 (d:Nat)]) zMs rfl _ _ rfl w.heap.size rfl (HOwn.out.alloc _) rfl (Src.new W2 [.int .u8 92,.int .u8 (d:Nat)] _ _ _) rfl (by simp[Value.oneCell']) (by unfold maxLen;omega) (by omega) (by have:=HBM.out.size;simp;omega) ?_)
      intro v1 w1 hown1 hgr _
      have hb1:Below w.heap.size w w1:=Below.grown (zP6 HBM.out HBM.out.size _) hgr (by have:=HBM.out.size;simp;omega) (fun k hk=>(HOwn.out.lt k hk).1)
      have HF:=zPf (HI.out.next (W':=w1) (v':=v1) (t':=false) (n:=[92,d]) hlt (by rw[HD.out];simp[zCh,HQ.out]) (by simp) (by simpa [u8s]using hown1) hb1)
      have k0:=((zPj (a:=⟨B2,0,none⟩) (hgr.block B2 (by simp;omega) (fun e=>HNO.out _ e.symm rfl))).trans (((zPg W2.heap.size W2).alloc (zPh _) _).cell (p:=⟨B2,0,none⟩) yl)).trans y0
      have kl:B2<w1.heap.size:=by have:=hgr.size;simp at this;omega
      clear hown1 hgr hb1 y0 y1 yl
      go_wp2_with fail
      rw[←hoa]
      go_roundg (L.length - (k+1))
      case measure=>have:=HG.out;omega
      case rel=>exact⟨k+1,_,_,by go_num,rfl,rfl,HF.out⟩
     ·have e1:((b:Int) !=(d:Int))=true:=by simp[bne];omega
      have HQ:=zPf hbd
      clear hbd
      have HN:=zPf (HI.out.stop (by rw[HD.out];simp[zCh,HQ.out]))
      go_wp2_with fail
      go_ret2
      exact⟨HBM.out,by rw[HN.out];rfl⟩
    |false=>
     by_cases hbd:b=d
     ·have e1:((b:Int)==(d:Int))=true:=by rw[hbd];exact beq_self_eq_true _
      have HQ:=zPf hbd
      clear hbd
      have HN:=zPf (HI.out.stop (by rw[HD.out];simp[zCh,HQ.out]))
      go_wp2_with fail
      go_ret2
      exact⟨HBM.out,by rw[HN.out];rfl⟩
     ·have e1:((b:Int)==(d:Int))=false:=zPl.2 (by omega)
      have HQ:=zPf hbd
      clear hbd
      by_cases hb10:b=10
      ·have e2:((b:Int)==10)=true:=by rw[hb10];rfl
       have HQ2:=zPf hb10
       clear hb10
       have HN:=zPf (HI.out.stop (by rw[HD.out];simp[zCh,HQ2.out]))
       go_wp2_with fail
       go_ret2
       exact⟨HBM.out,by rw[HN.out];rfl⟩
      ·have e2:((b:Int)==10)=false:=zPl.2 (by omega)
       have HQ2:=zPf hb10
       clear hb10
       by_cases hb92:b=92
       ·have e3:((b:Int)==92)=true:=by rw[hb92];rfl
        have HQ3:=zPf hb92
        clear hb92
        go_wp2_with (at_builtin;refine zAt (n:=o.length) (m:=1) (news:=[.int .u8 (b:Nat)]) zMs rfl _ _ rfl w.heap.size rfl (HOwn.out.alloc _) rfl (Src.new W2 [.int .u8 (b:Nat)] _ _ _) rfl (by simp[Value.oneCell']) (by unfold maxLen;omega) (by omega) (by have:=HBM.out.size;simp;omega) ?_)
        intro v1 w1 hown1 hgr _
        have hb1:Below w.heap.size w w1:=Below.grown (zP6 HBM.out HBM.out.size _) hgr (by have:=HBM.out.size;simp;omega) (fun k hk=>(HOwn.out.lt k hk).1)
        have HF:=zPf (HI.out.next (W':=w1) (v':=v1) (t':=true) (n:=[b]) hlt (by rw[HD.out];simp only[zCh,Bool.false_eq_true,if_false];rw[if_neg (not_or.2 ⟨HQ.out,HQ2.out⟩),show(b==92)=true from beq_iff_eq.2 HQ3.out];rfl) (by simp) (by simpa [u8s]using hown1) hb1)
        have k0:=((zPj (a:=⟨B2,0,none⟩) (hgr.block B2 (by simp;omega) (fun e=>HNO.out _ e.symm rfl))).trans (((zPg W2.heap.size W2).alloc (zPh _) _).cell (p:=⟨B2,0,none⟩) yl)).trans y0
        have kl:B2<w1.heap.size:=by have:=hgr.size;simp at this;omega
        clear hown1 hgr hb1 y0 y1 yl
        go_wp2_with fail
        rw[←hoa]
        go_roundg (L.length - (k+1))
        case measure=>have:=HG.out;omega
        case rel=>exact⟨k+1,_,_,by go_num,rfl,rfl,HF.out⟩
       ·have e3:((b:Int)==92)=false:=zPl.2 (by omega)
        have HQ3:=zPf hb92
        clear hb92
        go_wp2_with (at_builtin;refine zAt (n:=o.length) (m:=1) (news:=[.int .u8 (b:Nat)]) zMs rfl _ _ rfl w.heap.size rfl (HOwn.out.alloc _) rfl (Src.new W2 [.int .u8 (b:Nat)] _ _ _) rfl (by simp[Value.oneCell']) (by unfold maxLen;omega) (by omega) (by have:=HBM.out.size;simp;omega) ?_)
        intro v1 w1 hown1 hgr _
        have hb1:Below w.heap.size w w1:=Below.grown (zP6 HBM.out HBM.out.size _) hgr (by have:=HBM.out.size;simp;omega) (fun k hk=>(HOwn.out.lt k hk).1)
        have HF:=zPf (HI.out.next (W':=w1) (v':=v1) (t':=false) (n:=[b]) hlt (by rw[HD.out];simp only[zCh,Bool.false_eq_true,if_false];rw[if_neg (not_or.2 ⟨HQ.out,HQ2.out⟩),show(b==92)=false from beq_eq_false_iff_ne.2 HQ3.out];rfl) (by simp) (by simpa [u8s]using hown1) hb1)
        have k0:=((zPj (a:=⟨B2,0,none⟩) (hgr.block B2 (by simp;omega) (fun e=>HNO.out _ e.symm rfl))).trans (((zPg W2.heap.size W2).alloc (zPh _) _).cell (p:=⟨B2,0,none⟩) yl)).trans y0
        have kl:B2<w1.heap.size:=by have:=hgr.size;simp at this;omega
        clear hown1 hgr hb1 y0 y1 yl
        go_wp2_with fail
        rw[←hoa]
        go_roundg (L.length - (k+1))
        case measure=>have:=HG.out;omega
        case rel=>exact⟨k+1,_,_,by go_num,rfl,rfl,HF.out⟩
  ·obtain rfl:k=L.length:=by omega
   have hdr:L.drop L.length=[]:=List.drop_length
   have HE:=zPf (show zEI d L=(if t then none else some o)by
    have h:=HI.out.2.2.2.2
    rw[hdr]at h
    rw[h]
    cases t<;>simp[zCh])
   clear hdr
   cases t with
   |true=>
    go_wp2_with fail
    go_ret2
    exact⟨HI.out.2.2.2.1,by rw[HE.out];rfl⟩
   |false=>
    go_wp2_with fail
    go_ret2
    exact⟨HI.out.2.2.2.1,by rw[HE.out];exact⟨_,rfl,HI.out.2.1⟩⟩
end
section
open Go.RowKit
theorem zNl.of_own {w:World} {base:Nat} {v:Value} {L:List Mk} (h:Mks w base v L) (hl:L.length≤1073741824) (hu: ∀m∈L,m.b<256): ∃oa cap,v= .slice oa L.length cap∧zNl w oa L:=by
 have h0:=h
 rcases h.2 with ⟨rfl,hn⟩|⟨g,cap,cur,rfl,hb,hg,_⟩
 ·exact⟨none,0,by rw[hn],hl,fun hp=>by omega⟩
 ·refine⟨_,cap,rfl,hl,fun _=>⟨g,0,rfl,(zPn.1 hg).1,fun i m hi=>?_⟩⟩
  have hi':=(zPm.1 hi)
  have hc:=zCY L i hi'.1
  have hm:zAH L i=m:=by unfold zAH;rw[List.getD_eq_getElem?_getD,hi];rfl
  rw[hm]at hc
  have hadd: ∀j,(⟨g,0,none⟩:Addr).add j=⟨g,0+j,none⟩:=fun j=>by unfold Addr.add;split<;>simp_all
  refine⟨?_,?_,hu m (zP9 hi)⟩
  ·rw[←hadd]
   exact World.ownsRow.cells h0 (g:=g) rfl (i*2) _ hc.1
  ·rw[Nat.add_assoc,←hadd]
   exact World.ownsRow.cells h0 (g:=g) rfl (i*2+1) _ hc.2
end
section
open Go.RowKit
section
variable {w:World} {oa:Option Addr} {cap:Nat} {re:List Nd}
def zPe (base:Nat) (r:Except Nat (List Nat)) (e:Ending) (w':World):Prop:=
 match r with
 | .error er=>e= .returned (.tuple #[.slice none 0 0,.int .i64 (er:Nat)])
 | .ok s=> ∃v,e= .returned (.tuple #[v,.int .i64 0])∧w'.ownsRow base 5 1 v s.length (u8s s)
def zPd:Option (List Nat)→Except Nat (List Nat)
 |none=> .error 50
 |some t=> .ok (47::t++[47])
theorem zOO (w:World) (l:List Nat) (hl:l.length≤4096) {base:Nat} (hb:base≤w.heap.size):(w.alloc (.cells (u8s l).toArray 5)).ownsRow base 5 1 (.slice (some ⟨w.heap.size,0,none⟩) l.length l.length) l.length (u8s l):=by
 have h:=World.ownsRow_lit (base:=base) (e:=5) (size:=1) w (u8s l).toArray l.length hb (by unfold maxLen;omega) (by simp[u8s])
 simpa using h
def zCc (s:List Nat) (d:Nat):List Mk:=(zBh s).take d++(bm s).drop d
theorem zCB (s:List Nat) (d:Nat) (h:d≤s.length):(zCc s d).length=s.length:=by simp[zCc,zBh,bm];omega
theorem zIV {s:List Nat} {d:Nat} (h:d<s.length):zAH (zCc s d) d=⟨s.getD d 0,false⟩:=by
 have hl:((zBh s).take d).length=d:=by simp[zBh];omega
 unfold zCc zAH
 rw[zPo,zP1 (by omega),hl,Nat.sub_self,List.getElem?_drop]
 simp[bm,mk,h,List.getD_eq_getElem?_getD]
theorem zKn {s:List Nat} {d:Nat} (h:d<s.length):(zCc s d).set d ⟨s.getD d 0,s.getD d 0==47⟩=zCc s (d+1):=by
 have hl:((zBh s).take d).length=d:=by simp[zBh];omega
 unfold zCc
 rw[List.set_append_right _ _ (by omega),hl,Nat.sub_self,List.take_add_one]
 have h1:(zBh s)[d]?=some ⟨s.getD d 0,s.getD d 0==47⟩:=by simp[zBh,h,List.getD_eq_getElem?_getD]
 have h2:(bm s).drop d=(bm s)[d]'(by simpa [bm]using h)::(bm s).drop (d+1):=List.drop_eq_getElem_cons _
 rw[h1,h2,List.set_cons_zero]
 simp
theorem zJR (s:List Nat):zCc s 0=bm s:=by simp[zCc]
theorem zJS (s:List Nat):zCc s s.length=zBh s:=by
 unfold zCc
 rw[List.take_of_length_le (by simp[zBh]),List.drop_eq_nil_of_le (by simp[bm]),List.append_nil]
theorem zMU (b:Nat) (w:World):(binOp .eql 131 (.agg #[.int .u8 (b:Nat),.bool false]) (.agg #[.int .u8 47,.bool false])).run Tryz.prog w= .ok (.bool (b==47)) w:=by
 rw[run_eql_struct]
 have e:((b:Int)==47)=(b==47):=by
  rw[Bool.eq_iff_iff,beq_iff_eq,beq_iff_eq];omega
 simp[go_sem,e]
 split
 ·rename_i h;rw[h];rfl
 ·rename_i h;rw[zPl.2 h]
structure zPC (w:World) (b:Nat) (k n:Value):Prop where
 lt:b<w.heap.size
 c0:w.cell? ⟨b,0,none⟩=some k
 c1:w.cell? ⟨b,1,none⟩=some n
theorem zPC.new (w:World) (k n:Value):zPC (w.alloc (.cells #[k,n] 131)) w.heap.size k n:=
 have hB:(w.alloc (.cells #[k,n] 131)).heap[w.heap.size]?=some (.cells #[k,n] 131 (0,0)):=zPs w _
 ⟨by simp,(zPu _ _ 0 _ _ (0,0) hB).trans rfl,(zPu _ _ 1 _ _ (0,0) hB).trans rfl⟩
theorem zJB (h:NdV w oa re) (hl: ¬re.length=0) (hs:shapedN re=true) (ht:zMw w) (ere:Bool) (hok: ∀s,zGD ere re=some s→ ∀b∈s,b<256):
  Calls Tryz.prog 26 #[.agg #[.int .i8 3,.int .i64 0,.slice oa re.length cap],.bool ere] w fun e w'=>zPe w.heap.size (zD7 ere re) e w'∧Below w.heap.size w w':=by
 have hb0:=(zPg w.heap.size w).alloc (zPh _) (.cells #[.int .i8 3,.int .i64 0,.slice oa re.length cap] 54)
 have hr:zBk ⟨3,0,re⟩=true:=by simp[zBk,hs]
 have HS:=zPf (zKw (cap:=cap) 3 0 (h.below hb0))
 rw[hr]at HS
 have HA:=zPf (AdB.new w (.int .i8 3) (.int .i64 0) (.slice oa re.length cap))
 have HB:=zPf hb0
 have HT:=zPf (ht.below hb0)
 have HV:=zPf (h.below hb0)
 have HOK:=zPf hok
 have HSH:=zPf hs
 have ql:((re.length:Int)==0)=false:=zPl.2 (by omega)
 have HRE:Hid (re≠[]):=zPf (by intro e;rw[e]at hl;simp at hl)
 clear h hb0 hr ht hok hs hl
 go_enter Tryz.func26,Tryz.ntmps26
 go_wp2_with fail
 refine HS.out.mono ?_;rintro e w1 ⟨rfl,hb1⟩
 have HB1:=zPf (HB.out.trans (hb1.mono (by simp)))
 have HA1:=zPf (HA.out.below hb1)
 have HT1:=zPf (HT.out.below hb1)
 have HV1:=zPf (HV.out.below hb1)
 have k0:=HA1.out.c0
 have k1:=HA1.out.c1
 have k2:=HA1.out.c2
 clear hb1 HS HB HA HT HV
 go_wp2_with fail
 refine(zK3 (cap:=cap) HV1.out HT1.out ere).mono ?_;rintro e w2 ⟨hb2,hr2⟩
 have HB2:=zPf (HB1.out.trans (hb2.mono HB1.out.size))
 have hs1:w.heap.size<w1.heap.size:=HA1.out.lt
 have hs2:=hb2.size
 rw[if_neg (by rw[HSH.out];decide)]at hr2
 clear hb2 k0 k1 k2
 cases hq:zGD ere re with
 |none=>
  rw[hq]at hr2
  simp only at hr2
  subst hr2
  have HE:Hid (zD7 ere re= .error 50):=zPf (by unfold zD7;rw[if_neg HRE.out,hq])
  clear hq
  go_wp2_with fail
  go_ret2
  exact⟨by rw[HE.out];rfl,HB2.out⟩
 |some s=>
  rw[hq]at hr2
  obtain⟨v,rfl,hm⟩:=hr2
  have HE:Hid (zD7 ere re=zPd (zEI 47 (zBh s))):=zPf (by unfold zD7;rw[if_neg HRE.out,hq];simp only;cases zEI 47 (zBh s)<;>rfl)
  have HU:=zPf (HOK.out s hq)
  have hsl:s.length≤4096:=by
   unfold zGD at hq
   split at hq
   ·cases hq
   ·split at hq
    ·cases hq;assumption
    ·cases hq
  obtain⟨o,c,rfl⟩:=hm.form
  have hbl:(bm s).length=s.length:=by simp[bm]
  rw[hbl]
  rw[Mks,hbl]at hm
  have HM:=zPf hm
  clear hq hm
  go_upto_region 16 with fail
  have hSl:=zPC.new w2 (.int .u8 47) (.bool false)
  have HM3:=zPf (HM.out.alloc (.cells #[.int .u8 47,.bool false] 131))
  have HB3:=zPf (HB2.out.alloc HB2.out.size (.cells #[.int .u8 47,.bool false] 131))
  have hs3:(w2.alloc (.cells #[.int .u8 47,.bool false] 131)).heap.size=w2.heap.size+1:=by simp
  have hg: ∀g,(Value.slice o s.length c).ownBlock=some g→g<w2.heap.size:=fun g hg=>(HM.out.lt g hg).2
  have HG:=zPf hg
  obtain⟨W3,hW3⟩: ∃W,w2.alloc (.cells #[.int .u8 47,.bool false] 131)=W:=⟨_,rfl⟩
  rw[hW3]
  rw[hW3]at hSl HM3 HB3 hs3
  have HSL:=zPf hSl
  clear hW3 hSl hg HM
  go_wp2_with fail
  go_loopg [47] s.length (fun n iv wr=> ∃d:Nat,iv= .int .i64 (d:Nat)∧n=s.length - d∧d≤s.length∧Hid (wr.ownsRow w1.heap.size 131 2 (.slice o s.length c) s.length (zDW (zCc s d)))∧zPC wr w2.heap.size (.int .u8 47) (.bool false)∧Below w.heap.size w wr∧W3.heap.size≤wr.heap.size)
  case atStart=>exact⟨0,rfl,by omega,Nat.zero_le _,by rw[zJR];exact HM3,HSL.out,HB3.out,zPh _⟩
  case round=>
   obtain⟨d,rfl,hgk,hd,hm,hsl2,hb,hsw⟩:=hrel
   have HGK:=zPf hgk
   have HMR:=zPf hm.out
   have HSR:=zPf hsl2
   have HBR:=zPf hb
   have hb47:HBR.out.size=HBR.out.size:=rfl
   clear hgk hm hsl2 hb hb47
   by_cases hlt:d<s.length
   ·have hlt':(d:Int)<(s.length:Int):=by omega
    obtain⟨g,hog⟩: ∃g,o=some ⟨g,0,none⟩:=by
     rcases HMR.out.2 with ⟨_,h0⟩|⟨g,cap',cur,h1,_⟩
     ·omega
     ·injection h1 with h1;exact⟨g,h1⟩
    subst hog
    have hg2:g<w2.heap.size:=HG.out g rfl
    have hg1:w1.heap.size≤g:=(HMR.out.lt g rfl).1
    obtain⟨r0,r1,rf⟩:=Mks.two (w:=wr) (base:=w1.heap.size) (L:=zCc s d) (show Mks wr w1.heap.size (.slice (some ⟨g,0,none⟩) s.length c) (zCc s d)by unfold Mks;rw[zCB s d hd];exact HMR.out) (zCB s d hd) hlt (zIV hlt)
    obtain⟨b,hbe⟩: ∃b,s.getD d 0=b:=⟨_,rfl⟩
    have HBE:=zPf hbe
    simp only[hbe]at r0 r1
    clear hbe
    have s0:=HSR.out.c0
    have s1:=HSR.out.c1
    have ne1: ¬g=w2.heap.size:=by omega
    have hwl:w2.heap.size<wr.heap.size:=HSR.out.lt
    have hgl:g<wr.heap.size:=by omega
    have hql:=zMU b
    go_upto_region 19 with fail
    refine zAA (X:=none) 10 [] [0,1,2,3,4,5,6,7,8,9] (by kernel_rfl) (by kernel_rfl) rfl (fun _ _ _ _ _ h=>h) ?_
    simp only[zAI,zAC,zAD,zAB,List.getD_cons_zero,List.getD_cons_succ,List.drop_succ_cons,List.drop_zero]
    repeat (go_big_quiet_step (fail))
    refine wpQuiet_nil ?_
    go_wp2_with fail
    have HP:=zPf (Mks.putP (w:=wr) (base:=w1.heap.size) (L:=zCc s d) (show Mks wr w1.heap.size (.slice (some ⟨g,0,none⟩) s.length c) (zCc s d)by unfold Mks;rw[zCB s d hd];exact HMR.out) (zCB s d hd) hlt (b==47))
    go_roundg (s.length - (d+1))
    case measure=>have:=HGK.out;omega
    case rel=>
     refine⟨d+1,by go_num,rfl,by omega,?_,?_,(HBR.out.setCell (by show w.heap.size≤g;omega) _).drew,by simpa [World.setCell,World.drew]using hsw⟩
     ·have h:=HP.out
      rw[zIV hlt,←HBE.out]at h
      rw[←HBE.out]
      rw[zKn hlt]at h
      rw[Mks,zCB s (d+1) (by omega)]at h
      exact zAU h fun _ _=>rfl
     ·have hh:((wr.setCell ⟨g,d*2+1,none⟩ (.bool (b==47))).drew).heap[w2.heap.size]?=wr.heap[w2.heap.size]?:=zPp _ _ _ _ (by show w2.heap.size≠g;omega)
      exact⟨by simpa [World.setCell,World.drew]using hwl,(zPj (w:=wr) (a:=⟨w2.heap.size,0,none⟩) hh).trans s0,(zPj (w:=wr) (a:=⟨w2.heap.size,1,none⟩) hh).trans s1⟩
   ·obtain rfl:d=s.length:=by omega
    have hmf:=HMR.out
    rw[zJS]at hmf
    have hsl':(zBh s).length=s.length:=by simp[zBh]
    obtain⟨o2,c2,ho2,hin⟩:=zNl.of_own (show Mks wr w1.heap.size (.slice o s.length c) (zBh s)by unfold Mks;rw[hsl'];exact hmf) (by omega) (fun m hm=>by
     simp only[zBh,List.mem_map]at hm
     obtain⟨b,hb,rfl⟩:=hm
     exact HU.out b hb)
    injection ho2 with e1 e2 e3
    subst e1
    subst e3
    clear e2
    have HTX:=zPf (zLj (cap:=c) hin 47 (by decide))
    rw[hsl']at HTX
    have hwr:w.heap.size≤wr.heap.size:=HBR.out.size
    have HSL':=zPf hsl'
    clear hmf hin HMR hlt hd hsl' hbl
    go_wp2_with fail
    refine HTX.out.mono ?_;rintro e w4 ⟨hb4,hr4⟩
    have HB4:=zPf (HBR.out.trans (hb4.mono hwr))
    have hs4:=hb4.size
    clear hb4 HTX
    cases hq:zEI 47 (zBh s)with
    |none=>
     rw[hq]at hr4 HE
     simp only at hr4
     subst hr4
     clear hq
     go_wp2_with fail
     go_ret2
     exact⟨by rw[HE.out];rfl,HB4.out⟩
    |some t=>
     have htl:=zC6 47 (zBh s) false t (by unfold zEI at hq;rw[if_neg (by decide)]at hq;exact hq)
     rw[HSL'.out]at htl
     rw[hq]at hr4 HE
     obtain⟨v4,rfl,hv4⟩:=hr4
     have HV4:=zPf hv4
     have HL4:=zPf (zOO w4 [47] (by decide) (base:=w.heap.size) (by omega))
     clear hq hv4
     go_wp2_with (at_builtin;refine zAt zMs rfl _ _ rfl w.heap.size (n:=1) (m:=t.length) (news:=u8s t) rfl HL4.out rfl (Src.own (HV4.out.alloc _)) (by simp[u8s]) (zLi t) (by unfold maxLen;omega) (by omega) (by simp;omega) ?_)
     intro v5 w5 hown5 hgr5 _
     have hb5:Below w.heap.size w w5:=Below.grown (zP6 HB4.out HB4.out.size _) hgr5 (by simp;omega) (fun k hk=>(HL4.out.lt k hk).1)
     have HB5:=zPf hb5
     have HO5:=zPf hown5
     have hs5:=hb5.size
     clear hown5 hgr5 hb5
     go_wp2_with (at_builtin;refine zAt zMs rfl _ _ rfl w.heap.size (n:=1+t.length) (m:=1) (news:=[.int .u8 47]) rfl (HO5.out.alloc _) rfl (Src.new w5 [.int .u8 47] _ _ _) rfl (by simp[Value.oneCell']) (by unfold maxLen;omega) (by omega) (by simp;omega) ?_)
     intro v6 w6 hown6 hgr6 _
     have hb6:Below w.heap.size w w6:=Below.grown (zP6 HB5.out HB5.out.size _) hgr6 (by simp;omega) (fun k hk=>(HO5.out.lt k hk).1)
     have HB6:=zPf hb6
     have HO6:=zPf hown6
     clear hown6 hgr6 hb6
     go_wp2_with fail
     go_ret2
     refine⟨?_,HB6.out⟩
     rw[HE.out]
     refine⟨v6,rfl,?_⟩
     have h:=HO6.out
     simpa [u8s,Nat.add_comm,Nat.add_left_comm]using h
end
end
section
open Go.RowKit
structure zMq (w:World) (oa:Option Addr) (L:List Nat):Prop where
 len:L.length≤4294967296
 at_:0<L.length→ ∃g o,oa=some ⟨g,o,none⟩∧g<w.heap.size∧ ∀i b,L[i]?=some b→w.cell? ⟨g,o+i,none⟩=some (.int .u8 (b:Nat))
theorem zMq.below {w w':World} {oa:Option Addr} {L:List Nat} (h:zMq w oa L) (hb:Below w.heap.size w w'):zMq w' oa L:=
 ⟨h.len,fun hp=>by
  obtain⟨g,o,h1,h2,h3⟩:=h.at_ hp
  exact⟨g,o,h1,zPi h2 hb.size,fun i b hi=>(hb.cell (p:=⟨g,o+i,none⟩) h2).trans (h3 i b hi)⟩⟩
theorem zMq.of_own {w:World} {base:Nat} {v:Value} {L:List Nat} (h:w.ownsRow base 5 1 v L.length (u8s L)) (hl:L.length≤4294967296): ∃oa cap,v= .slice oa L.length cap∧zMq w oa L:=by
 have h0:=h
 rcases h.2 with ⟨rfl,hn⟩|⟨g,cap,cur,rfl,hb,hg,_⟩
 ·exact⟨none,0,by rw[hn],hl,fun hp=>by omega⟩
 ·refine⟨_,cap,rfl,hl,fun _=>⟨g,0,rfl,(zPn.1 hg).1,fun i b hi=>?_⟩⟩
  have hadd:(⟨g,0,none⟩:Addr).add i=⟨g,0+i,none⟩:=by unfold Addr.add;split<;>simp_all
  rw[←hadd]
  refine h0.cells (g:=g) rfl i _ ?_
  simp[u8s,hi]
theorem zM5 {a b:List Nat} {d:Nat} {x y:Nat} (hx:a[d]?=some x) (hy:b[d]?=some y) (h: ¬x=y): ¬a=b:=fun e=>by subst e;rw[hx]at hy;cases hy;exact h rfl
theorem zI4 {a b:List Nat} {oa ob:Option Addr} {ca cb:Nat} {w:World} (ha:zMq w oa a) (hb:zMq w ob b):
  Calls Tryz.prog 28 #[.slice oa a.length ca,.slice ob b.length cb] w fun e w'=>e= .returned (.bool (decide (a=b)))∧Below w.heap.size w w':=by
 have hla:=ha.len
 have hlb:=hb.len
 have HA:=zPf ha
 have HB:=zPf hb
 clear ha hb
 by_cases hl:a.length=b.length
 ·have hl':((a.length:Int) !=(b.length:Int))=false:=by simp[hl]
  rw[←hl]
  rw[←hl]at hlb
  have HL:=zPf hl
  clear hl hl'
  go_enter Tryz.func28,Tryz.ntmps28
  go_wp2_with fail
  go_loopg [5] a.length (fun n iv wr=> ∃d:Nat,iv= .int .i64 (d:Nat)∧n=a.length - d∧d≤a.length∧Hid (a.take d=b.take d)∧Below w.heap.size w wr)
  case atStart=>exact⟨0,rfl,by omega,by omega,rfl,zPg _ _⟩
  case round=>
   obtain⟨d,rfl,hg,hd,HT,hbe⟩:=hrel
   have HG:=zPf hg
   have HBE:=zPf hbe
   clear hg
   by_cases hlt:d<a.length
   ·have hlt':(d:Int)<(a.length:Int):=by omega
    obtain⟨na,oo,rfl,nal,hna⟩:=(HA.out.below hbe).at_ (by omega)
    obtain⟨nb,ob',rfl,nbl,hnb⟩:=(HB.out.below hbe).at_ (by have:=HL.out;omega)
    obtain⟨x,hx⟩: ∃x,a[d]?=some x:=⟨_,zPw hlt⟩
    obtain⟨y,hy⟩: ∃y,b[d]?=some y:=⟨_,zPw (by have:=HL.out;omega)⟩
    have n0:=hna d x hx
    have m0:=hnb d y hy
    have HX:=zPf hx
    have HY:=zPf hy
    clear hna hnb hbe hx hy
    by_cases hxy:x=y
    ·subst hxy
     have HT1:Hid (a.take (d+1)=b.take (d+1)):=by rw[Hid,List.take_add_one,List.take_add_one,HT.out,HX.out,HY.out]
     have e1:((x:Int) !=(x:Int))=false:=by simp
     go_wp2_with fail
     refine zAA (X:=none) 9 [] [0,1,2,3,4,5,6,7,8] (by kernel_rfl) (by kernel_rfl) rfl (fun _ _ _ _ _ h=>h) ?_
     simp only[zAI,zAC,zAD,zAB,List.getD_cons_zero,List.getD_cons_succ,List.drop_succ_cons,List.drop_nil]
     repeat (go_big_quiet_step (fail))
     refine wpQuiet_nil ?_
     go_wp2_with fail
     go_roundg (a.length - (d+1))
     case measure=>have:=HG.out;omega
     case rel=>exact⟨d+1,by go_num,rfl,by omega,HT1,HBE.out.drew⟩
    ·have HF:Hid (decide (a=b)=false):=by rw[Hid,zPr (zM5 HX.out HY.out hxy)]
     have e1:((x:Int) !=(y:Int))=true:=by simp[bne];omega
     clear hxy
     go_wp2_with fail
     refine zAA (X:=none) 9 [] [0,1,2,3,4,5,6,7,8] (by kernel_rfl) (by kernel_rfl) rfl (fun _ _ _ _ _ h=>h) ?_
     simp only[zAI,zAC,zAD,zAB,List.getD_cons_zero,List.getD_cons_succ,List.drop_succ_cons,List.drop_nil]
     repeat (go_big_quiet_step (fail))
     refine wpQuiet_nil ?_
     go_wp2_with fail
     go_ret
     exact⟨by rw[HF.out];rfl,HBE.out.drew⟩
   ·have hlt': ¬(d:Int)<(a.length:Int):=by omega
    have hde:d=a.length:=by omega
    subst hde
    have HF:Hid (decide (a=b)=true):=by
     have h:=HT.out
     rw[List.take_length,HL.out,List.take_length]at h
     rw[Hid,zPq h]
    go_wp2_with fail
    go_ret
    exact⟨by rw[HF.out];rfl,HBE.out⟩
 ·have hl':((a.length:Int) !=(b.length:Int))=true:=by simp[bne];omega
  have HF:Hid (decide (a=b)=false):=by rw[Hid,zPr (fun e=>hl (by rw[e]))]
  clear hl
  go_enter Tryz.func28,Tryz.ntmps28
  go_wp2_with fail
  go_ret
  exact⟨by rw[HF.out];rfl,zPg _ _⟩
end
section
open Go.RowKit
theorem zNl.made {W:World} {g:Nat} {L:List Mk} (h:W.heap[g]?=some (.cells (zDW L).toArray 131 (0,0))) (hl:L.length≤1073741824) (hu: ∀m∈L,m.b<256):zNl W (some ⟨g,0,none⟩) L:=
 ⟨hl,fun _=>⟨g,0,rfl,(zPn.1 h).1,fun i m hi=>by
  have hc:=zCY L i (zPm.1 hi).1
  have hm:zAH L i=m:=by unfold zAH;rw[List.getD_eq_getElem?_getD,hi];rfl
  rw[hm]at hc
  have hcell: ∀j u,(zDW L)[j]?=some u→W.cell? ⟨g,j,none⟩=some u:=fun j u hj=>by
   simp[World.cell?,h,hj]
  refine⟨?_,?_,hu m (zP9 hi)⟩
  ·rw[Nat.zero_add];exact hcell _ _ hc.1
  ·rw[Nat.zero_add];exact hcell _ _ hc.2⟩⟩
theorem zMq.made {W:World} {g:Nat} {L:List Nat} {fz:Nat × Nat} (h:W.heap[g]?=some (.cells (u8s L).toArray 5 fz)) (hl:L.length≤4294967296):zMq W (some ⟨g,0,none⟩) L:=
 ⟨hl,fun _=>⟨g,0,rfl,(zPn.1 h).1,fun i b hi=>by
  rw[Nat.zero_add]
  simp[World.cell?,h,u8s,hi]⟩⟩
end
end Go.Proofs.YtfjbnpdffillbaaGreatDoor
