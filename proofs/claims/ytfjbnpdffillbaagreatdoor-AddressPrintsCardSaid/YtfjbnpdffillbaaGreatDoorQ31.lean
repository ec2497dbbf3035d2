/- Parts: Ki Kj Kk Kl Kn Ko Kq Kr Ks Kxa Fn Kv. -/
import Derived.Test.YtfjbnpdffillbaaGreatDoorQ29
import Derived.Test.YtfjbnpdffillbaaGreatDoorQ30
import Derived.Test.YtfjbnpdffillbaaGreatDoorQ18
import Derived.Test.YtfjbnpdffillbaaGreatDoorQ19
import Derived.Test.YtfjbnpdffillbaaGreatDoorQ27
import Derived.Test.YtfjbnpdffillbaaGreatDoorQ9
import Derived.Sort.CutIn
import Derived.Lib.IndexLaws
namespace Go.Proofs.YtfjbnpdffillbaaGreatDoor
open Go.RowKit Go.Shelf
attribute [local go_sem] Oper.semAt_some
theorem index_in (l:List UInt8) (c:UInt8):(0≤Lib.indexByte l c)↔c∈l:=by
 constructor
 ·intro h
  obtain⟨o,ho⟩: ∃o:Nat,Lib.indexByte l c=o:=⟨(Lib.indexByte l c).toNat,by omega⟩
  exact List.mem_of_getElem? (Lib.indexByte_some ho).1
 ·intro h
  rcases Int.lt_or_le (Lib.indexByte l c) 0 with h1|h1
  ·have h2:=Lib.indexByte_ge l c
   obtain⟨k,hk⟩:=List.getElem?_of_mem h
   exact absurd hk (Lib.indexByte_none (by omega) k)
  ·exact h1
theorem index_call (s:ByteArray) (b:Nat) (hb:b<256) {w:World} :
  Calls Tryz.prog 126 #[.string s,.int .u8 (b:Nat)] w fun e w'=>(∃k:Int,e= .returned (.int .i64 k)∧(0≤k↔b∈bytesOf s))∧w'=w:=
 (shl.strings_IndexByte s b w).mono fun e w' ⟨he,hw⟩=>⟨⟨_,he,by
  rw[index_in,show(b:Int).toNat=b from Int.toNat_natCast b]
  unfold bytesOf
  rw[List.mem_map]
  constructor
  ·intro h
   exact⟨_,h,by rw[UInt8.toNat_ofNat'];omega⟩
  ·rintro⟨x,hx,rfl⟩
   rwa[show x.toNat.toUInt8=x from UInt8.ofNat_toNat]⟩,hw⟩
theorem spB_str (ere:Bool) (S:ByteArray) (h:S=if ere then⟨#[46,91,42,94,36,92]⟩++⟨#[40,41,43,63,123,124]⟩else⟨#[46,91,42,94,36,92]⟩):bytesOf S=spB ere:=by
 subst h
 cases ere<;>rfl
section
variable {w W W':World} {E:SpE} {out:List Nat} {at_:Nat} {ok:Bool} {ov v v':Value}
theorem SpB.low (h:SpB w E ov W v) (k:Below w.heap.size W W'):SpB w E ov W' v:=
 ⟨⟨k.os.trans h.but.os,k.tape.trans h.but.tape,k.output.trans h.but.output,Nat.le_trans h.but.size k.size,fun i hi h1 h2=>(k.block i hi).trans (h.but.block i hi h1 h2)⟩,h.new⟩
theorem cells_at {b o:Nat} {u:Value} (h:W.cell? ⟨b,o,none⟩=some u): ∃x:Obj,W.heap[b]?=some x∧x.isCells=true:=cells_of_cell (a:=⟨b,o,none⟩) h
theorem SpS.own_cells (h:SpS W E out at_ ok v) {g:Nat} (hg:v.ownBlock=some g): ∃x:Obj,W.heap[g]?=some x∧x.isCells=true:=by
 rcases h.own.2 with ⟨rfl,_⟩|⟨g',cap,cur,rfl,_,hgb,_⟩
 ·cases hg
 ·cases hg;exact⟨_,hgb,rfl⟩
theorem SpB.others (h:SpS W E out at_ ok v) (hb:SpB W E v W' v'):KeepsOthers W W':=
 ⟨hb.but.size,fun k o hk ho=>by
  refine(hb.but.block k (Array.getElem?_eq_some_iff.1 hk).1 ?_ ?_).trans hk
  ·intro e;subst e
   obtain⟨x,hx,hc⟩:=cells_at h.c0
   rw[hk]at hx;cases hx;rw[ho]at hc;cases hc
  ·intro e
   obtain⟨x,hx,hc⟩:=h.own_cells e.symm
   rw[hk]at hx;cases hx;rw[ho]at hc;cases hc⟩
theorem SpB.kp (h:SpS W E out at_ ok v) (hb:SpB W E v W' v') {Bn:Nat} (hB:Bn<W.heap.size) (h1:Bn≠E.bx) (h2:v.ownBlock≠some Bn):Kp E.w0.heap.size Bn W W':=by
 have q:=h.w0lt
 refine⟨⟨hb.but.os,hb.but.tape,hb.but.output,hb.but.size,fun k hk=>hb.but.block k (by have:=h.xlt;omega) (by omega) (fun e=>by have:=h.ovlt k e.symm;have:=h.exv;omega)⟩,fun o ho _=>(hb.but.block Bn hB h1 (fun e=>h2 e.symm)).trans ho⟩
def SpI (w:World) (E:SpE) (ov:Value) (S:ByteArray) (Bn:Nat) (o:List Nat) (at_:Nat) (k:Bool) (W:World):Prop:=
 ∃v,SpS W E o at_ k v∧SpB w E ov W v∧W.cell? ⟨w.heap.size,0,none⟩=some (.pointer (some ⟨E.bx,0,none⟩))∧W.cell? ⟨w.heap.size+2,0,none⟩=some (.string S)∧Bn<W.heap.size∧ ∀g,v.ownBlock=some g→g≠w.heap.size∧g≠w.heap.size+2∧g≠Bn
theorem SpI.grown {S:ByteArray} {Bn:Nat} {row:Option Nat} (h:SpI w E ov S Bn out at_ ok W) (hg:W.grownBy W' row) (hr: ∀r,row=some r→Bn<r∧ ∃o:Obj,W.heap[r]?=some o∧o.isCells=false) (hw:w.heap.size+2<Bn) (hx:E.bv<w.heap.size):SpI w E ov S Bn out at_ ok W':=by
 obtain⟨v,h1,h2,h3,h4,h5,h6⟩:=h
 have q1:=h1.ebe;have q2:=h1.ebr;have q3:=h1.exv;have q4:=h1.lt
 have hlow: ∀k,k≤Bn→k<W.heap.size→W'.heap[k]?=W.heap[k]?:=fun k hk hs=>hg.block k hs (fun e=>by have:=(hr k e.symm).1;omega)
 refine⟨v,h1.block (fun g hgo=>hg.block g (h1.ovlt g hgo).2 (fun e=>?_)) ⟨hg.os,hg.tape,hg.output,hg.size,fun k hk=>hlow k (by have:=h1.w0lt;omega) (by have:=h1.w0lt;omega)⟩ (hlow _ (by omega) (by omega)) (hlow _ (by omega) (by omega)) (hlow _ (by omega) (by omega)) (hlow _ (by omega) (by omega)),h2.low ⟨hg.os,hg.tape,hg.output,hg.size,fun k hk=>hlow k (by omega) (by omega)⟩,(World.cell?_of_block (a:=⟨w.heap.size,0,none⟩) (hlow w.heap.size (by omega) (by omega))).trans h3,(World.cell?_of_block (a:=⟨w.heap.size+2,0,none⟩) (hlow (w.heap.size+2) (by omega) (by omega))).trans h4,Nat.lt_of_lt_of_le h5 hg.size,h6⟩
 obtain⟨_,o,ho,hc⟩:=hr g e.symm
 obtain⟨x,hx2,hcx⟩:=h1.own_cells hgo
 rw[ho]at hx2;cases hx2;rw[hc]at hcx;cases hcx
theorem SpI.said {S:ByteArray} {Bn:Nat} {o':List Nat} {k':Bool} (h1:SpS W E out at_ ok v) (h2:SpB w E ov W v) (h3:W.cell? ⟨w.heap.size,0,none⟩=some (.pointer (some ⟨E.bx,0,none⟩))) (h4:W.cell? ⟨w.heap.size+2,0,none⟩=some (.string S)) (h5:Bn<W.heap.size) (h6: ∀g,v.ownBlock=some g→g≠w.heap.size∧g≠w.heap.size+2∧g≠Bn)
  (hw:w.heap.size+2<Bn) (hx:E.bv<w.heap.size) (hs:SpS W' E o' at_ k' v') (hb:SpB W E v W' v'):KeepsOthers W W'∧Kp E.w0.heap.size Bn W W'∧SpI w E ov S Bn o' at_ k' W':=by
 have q3:=h1.exv
 refine⟨hb.others h1,hb.kp h1 h5 (by omega) (fun e=>(h6 Bn e).2.2 rfl),v',hs,h2.trans hb,(hb.cell (by omega) (by omega) (fun e=>(h6 _ e.symm).1 rfl)).trans h3,(hb.cell (by omega) (by omega) (fun e=>(h6 _ e.symm).2.1 rfl)).trans h4,Nat.lt_of_lt_of_le h5 hb.but.size,fun g hg=>?_⟩
 rcases hb.new with e|e
 ·exact h6 g (e▸hg)
 ·have:=e g hg;omega
end
theorem conv_one (w:World) (b:Nat) (hb:b<256): ∃s:ByteArray,bytesOf s=[b]∧s.size=1∧
  (convert 22 9 (.slice (some ⟨w.heap.size,0,none⟩) 1 1)).run Tryz.prog (w.alloc (.cells #[.int .u8 (b:Nat)] 5)).drew= .ok (.string s) (w.alloc (.cells #[.int .u8 (b:Nat)] 5)).drew:=by
 have h1:bytesOf (strOfNums ([b].map fun b:Nat=>(b:Int)))=[b]:=bytesOf_nums [b] (by simpa using hb)
 refine⟨_,h1,by rw[←bytesOf_length,h1];rfl,?_⟩
 refine run_convert_bytes_arg _ _ _ Tryz.underlying22 Tryz.underlying5 w.heap.size 0 1 1 _ rfl (fun i hi=>?_) _ Tryz.underlying9
 obtain rfl:i=0:=by omega
 simp[go_sem]
def stP (ere:Bool) (out:List Nat) (ok:Bool):List (Fin 256)→List Nat × Bool
 |[]=>(out,ok)
 |x::_=>(out++byteB ere x.val,ok&&decide ((out++byteB ere x.val).length≤4096))
set_option maxRecDepth 100000 in
set_option maxHeartbeats 3200000 in
theorem set_one {w:World} {E:SpE} {out:List Nat} {at_:Nat} {ok:Bool} {ov:Value} (h:SpS w E out at_ ok ov) (c:Cls) (b:Nat) (hc:c.els=[b]) (hl:out.length≤90000):
  Calls Tryz.prog 146 #[.pointer (some ⟨E.bx,0,none⟩),clsV c] w (SpP w E ov fun out' at' ok'=>out'=out++setB E.ere c∧at'=at_∧ok'=(ok&&decide ((out++setB E.ere c).length≤4096))):=by
 have H:=Lib.hid h
 have c1:=h.c1
 have hxl:=h.xlt
 have hvl:=h.lt
 have hb256:b<256:=els_lt (c:=c) (by rw[hc];exact List.mem_singleton_self b)
 have HSB:=Lib.hid (show setB E.ere c=byteB E.ere b by unfold setB;rw[hc];rfl)
 have HCE:=Lib.hid hc
 have hx1:E.bx<w.heap.size+1:=by omega
 have hx2:E.bx<w.heap.size+1+1:=by omega
 have HQ:=Lib.hid (fun S=>set_boxes w E.bx c S _ rfl)
 clear h hc
 refine(callsIn_wide (n:=8)).1 ?_
 refine callsIn_of_wp_marks Tryz.func146 rfl trivial ?_ rfl
 simp only[Tryz.ntmps146,List.size_toArray,List.length_cons,List.length_nil,Nat.reduceAdd,Nat.reduceSub,Array.replicate_succ,Array.replicate_zero,List.push_toArray,List.append_toArray,List.nil_append,List.cons_append]
 gi_upto_if 9 with fail
 gi_cut []from 5 (fun wd=>Below w.heap.size w wd∧wd.cell? ⟨w.heap.size,0,none⟩=some (.pointer (some ⟨E.bx,0,none⟩))∧ClsBox wd (w.heap.size+1) c∧(∃S,wd.cell? ⟨w.heap.size+2,0,none⟩=some (.string S)∧bytesOf S=spB E.ere)∧w.heap.size+3=wd.heap.size)
 case first=>
  cases hE:E.ere with
  |true=>
   have HE:=Lib.hid hE
   clear hE c1
   gi_wp2_with fail
   gi_meet
   have h:=HQ.out (⟨#[46,91,42,94,36,92]⟩++⟨#[40,41,43,63,123,124]⟩)
   exact⟨h.1,h.2.1,h.2.2.1,⟨_,h.2.2.2.1,spB_str E.ere _ (by rw[HE.out,if_pos rfl])⟩,h.2.2.2.2.symm⟩
  |false=>
   have HE:=Lib.hid hE
   clear hE c1
   gi_wp2_with fail
   gi_meet
   have h:=HQ.out ⟨#[46,91,42,94,36,92]⟩
   exact⟨h.1,h.2.1,h.2.2.1,⟨_,h.2.2.2.1,spB_str E.ere _ (by rw[HE.out,if_neg Bool.false_ne_true])⟩,h.2.2.2.2.symm⟩
 case rest=>
 obtain⟨hb,hx,hcb,⟨S,hS,hSB⟩,hsz⟩:=hcut
 have HSS:=Lib.hid hSB
 have HB:=Lib.hid hb
 have HS:=Lib.hid (H.out.below hb)
 have HC:=Lib.hid hcb
 have hxs:=hcb.lt
 have hxs0:w.heap.size<wc.heap.size:=by omega
 have hxs2:w.heap.size+2<wc.heap.size:=by omega
 obtain⟨z0,z1,z2,z3,_⟩:=hcb.cells
 clear hb hcb hx1 hx2 c1 hSB HQ hsz
 gi_wp2_with fail
 refine⟨trivial,?_⟩
 refine(callsIn_wide.2 (size_call c)).mono ?_;rintro e w1 ⟨rfl,hb1⟩
 have HB1:=Lib.hid (HB.out.trans (hb1.mono HB.out.size))
 have HS1:=Lib.hid (HS.out.below hb1)
 have HC1:=Lib.hid (HC.out.below hb1)
 have hx1:=(hb1.cell (p:=⟨w.heap.size,0,none⟩) hxs0).trans hx
 have hS1:=(hb1.cell (p:=⟨w.heap.size+2,0,none⟩) hxs2).trans hS
 have hls2:=Nat.lt_of_lt_of_le hxs2 hb1.size
 have hls:=Nat.lt_of_lt_of_le hxs0 hb1.size
 obtain⟨z0,z1,z2,z3,_⟩:=HC1.out.cells
 have hlc:=HC1.out.lt
 have hn1:((c.els.length:Int)==1)=true:=by rw[HCE.out];rfl
 have hn2:((c.els.length:Int)==256)=false:=by rw[HCE.out];rfl
 clear hb1 hx hS hxs hxs0 hxs2
 gi_wp2_with fail
 refine⟨trivial,?_⟩
 refine(callsIn_wide.2 (all_call c)).mono ?_;rintro e w2 ⟨rfl,rfl⟩
 gi_wp2_with fail
 obtain⟨W0,hW0⟩: ∃W0,w1.alloc (.cells (clsCells c) 76)=W0:=⟨_,rfl⟩
 have hsz:W0.heap.size=w1.heap.size+1:=by rw[←hW0];simp
 have hbx:W0.heap[w1.heap.size]?=some (.cells (clsCells c) 76 (0,0)):=by rw[←hW0];exact heap_alloc_new _ _
 have hb0:Below w1.heap.size w1 W0:=by rw[←hW0];exact(Below.refl _ _).alloc (Nat.le_refl _) _
 rw[hW0]
 clear hW0
 have HW0:=Lib.hid (HS1.out.below hb0)
 have hI0:SpI w E ov S w1.heap.size out at_ ok W0:=
  ⟨ov,HW0.out,SpB.of_below (E:=E) (ov:=ov) (HB1.out.trans (hb0.mono HB1.out.size)),(hb0.cell (p:=⟨w.heap.size,0,none⟩) hls).trans hx1,(hb0.cell (p:=⟨w.heap.size+2,0,none⟩) hls2).trans hS1,by omega,fun g hg=>by have:=H.out.ovlt g hg;omega⟩
 have hg0:2<E.w0.heap.size:=by
  have h1:=H.out.tb.tz 0 (by decide)
  by_cases hlt:2<E.w0.heap.size
  ·exact hlt
  ·rw[World.cell?,Array.getElem?_eq_none (show E.w0.heap.size≤(⟨2,0,none⟩:Addr).block by show E.w0.heap.size≤2;omega)]at h1;cases h1
 clear z0 z1 z2 z3 hx1 hS1
 have HLN1:=Lib.hid (show c.els.length=1 by rw[HCE.out];rfl)
 have hown:OwnFrom W0.heap.size (fun(pre:List (Fin 256)) W=>SpI w E ov S w1.heap.size (stP E.ere out ok pre).1 at_ (stP E.ere out ok pre).2 W):=
  fun s A B row hs hg hr=>SpI.grown hs hg (fun r e=>by have:=(hr r e).1;exact⟨by omega,(hr r e).2⟩) hls2 hvl
 refine wpIn_rangeFunc_ownF (w0:=W0) rfl (by omega) (gf:=199) (lb:= #[.pointer (some ⟨w1.heap.size,0,none⟩)]) rfl trivial (enters_of Tryz.func199 (by kernel_rfl) rfl)
  (all_stops 7 w1.heap.size E.w0.heap.size (by omega) c W0 (by omega) HW0.out.b0.size hbx HW0.out.tabs.tz hg0) (fun h k=>h.trans' k) (fun W l o o' hl ho hc=>Kp.put (w:=W0) HW0.out.b0.size W l o o' hl ho hc) (Below.refl _ _) (fun _=>rfl)
  (fun pre W=>SpI w E ov S w1.heap.size (stP E.ere out ok pre).1 at_ (stP E.ere out ok pre).2 W)
  (fun _ _ _=>False)
  hown
  (fun _ _ _ _ _ hs _ _=>hs)
  hI0
  (fun x=> { tmps:= #[.pointer (some ⟨E.bx,0,none⟩),clsV c,.pointer (some ⟨w.heap.size,0,none⟩),.pointer (some ⟨w.heap.size+1,0,none⟩),.pointer (some ⟨w.heap.size+1+1,0,none⟩),.int .u8 (x.val:Nat),u6,u7,u8,u9,u10,u11,clsV c,.int .i64 (c.els.length:Nat),.bool false,.bool false,u16,u17,u18,u19,u20,.bool true,.bool true,clsV c,.func (.func 199) #[] #[.pointer (some ⟨w1.heap.size,0,none⟩)],.int .u8 (x.val:Nat),u26,u27,u28,u29,u30,u31,u32,u33,u34,u35,u36,u37,u38,u39,u40,u41,u42,u43,u44,u45,u46,u47,u48,u49,u50,u51,u52,u53,u54,u55,u56,u57,u58,u59,u60,u61,u62,u63,u64,u65,u66,u67,u68,u69,u70,u71,u72,u73,u74,u75,u76,u77,u78,u79,u80],defers:=[] }) ?assign ?body ?done ?stop
 case assign=>
  intro l x W K hK
  gi_wp2
  exact hK
 case body=>
  rintro l pre x W hI hlt
  obtain rfl:pre=[]:=List.eq_nil_of_length_eq_zero (by have:=HLN1.out;omega)
  obtain⟨v,h1,h2,h3,h4,h5,h6⟩:=hI
  dsimp only[stP]at h1
  dsimp only
  have HI:=Lib.hid (fun(o':List Nat) (k':Bool) (W':World) (v':Value) (hs:SpS W' E o' at_ k' v') (hb:SpB W E v W' v')=>SpI.said h1 h2 h3 h4 h5 h6 hls2 hvl hs hb)
  have HS9:=Lib.hid h1
  have hc5:=h1.c5
  have hxl9:=h1.xlt
  have hws:w.heap.size<W.heap.size:=by omega
  have hws2:w.heap.size+2<W.heap.size:=by omega
  have hx256:=x.isLt
  have hvw: ∀g,v.ownBlock=some g→g<W.heap.size:=fun g hg=>(h1.ovlt g hg).2
  clear h1 h2 h5 h6 hI0 hown hb0 hbx hg0 hsz
  by_cases h10:x.val=10
  ·have HBB:=Lib.hid (show byteB E.ere x.val=[92,110]from if_pos h10)
   have h10':(((x.val:Nat):Int)==10)=true:=beq_iff_eq.2 (by omega)
   clear h10
   gi_wp2_with fail
   refine⟨trivial,?_⟩
   refine(CallsIn.inRound l (callsIn_wide.2 (says_lit HS9.out _ (byteB E.ere x.val) (by rw[HBB.out];rfl) (by omega) (by rw[HBB.out];simp)))).mono ?_
   rintro e W2 ⟨rfl,o2,a2,k2,v2,hs2,hb2,rfl,rfl,rfl⟩
   have HF:=Lib.hid (HI.out _ _ _ _ hs2 hb2)
   clear hs2 hb2
   gi_wp2_with fail
   exact HF.out
  ·have h10':(((x.val:Nat):Int)==10)=false:=beq_eq_false_iff_ne.2 (by omega)
   have H10:=Lib.hid h10
   clear h10
   gi_wp2_with fail
   refine⟨trivial,?_⟩
   refine(CallsIn.inRound l (callsIn_wide.2 (index_call S x.val hx256))).mono ?_
   rintro e W2 ⟨⟨k,rfl,hk⟩,rfl⟩
   rw[HSS.out]at hk
   by_cases hin:x.val∈spB E.ere
   ·have hk0:0≤k:=hk.2 hin
    have HBB:=Lib.hid (show byteB E.ere x.val=[92,x.val]by unfold byteB;rw[if_neg H10.out,if_pos (List.contains_iff_mem.2 hin)])
    obtain⟨s1,hs1,hsz1,hcv⟩:=conv_one W2 x.val hx256
    have HS1':=Lib.hid hs1
    have hsz2: ¬9223372036854775807<1+s1.size:=by omega
    have hbA:Below W2.heap.size W2 (W2.alloc (.cells #[.int .u8 (x.val:Nat)] 5)).drew:=((Below.refl _ W2).alloc (Nat.le_refl _) _).drew
    have HSA:=Lib.hid (HS9.out.below hbA)
    have HBA:=Lib.hid (SpB.of_below (E:=E) (ov:=v) hbA)
    clear hk hin hs1 hbA hsz1
    gi_wp2_with fail
    refine wpIn_region_segs (X:=(none)) (fwide_round l) rfl (fun _ _ h=>h) 8 [([0,1,2,3,4],5),([],6)] [7] (by kernel_rfl) (by kernel_rfl) rfl (fun _ _ _ _ _ h=>h) ?_
    simp only[wpSegs,pickSegs_nil,pickSegs_cons,pickOps_nil,pickOps_cons,List.getD_cons_zero,List.getD_cons_succ,List.drop_succ_cons,List.drop_zero]
    repeat (go_big_quiet_step (fail))
    refine wpQuiet_nil ?_
    go_wp2_with fail
    refine⟨keeps_drew (keeps_alloc _ _),?_⟩
    repeat (go_big_quiet_step (fail))
    refine wpQuiet_nil ?_
    go_wp2_with fail
    refine⟨Keeps.refl _,?_⟩
    repeat (go_big_quiet_step (fail))
    refine wpQuiet_nil ?_
    go_wp2_with fail
    have HCC:=Lib.hid (says_lit HSA.out (⟨#[92]⟩++s1) (byteB E.ere x.val) (by rw[HBB.out,bytesOf_append,HS1'.out];rfl) (by omega) (by rw[HBB.out];simp))
    refine HCC.out.mono ?_
    rintro e W3 ⟨rfl,o2,a2,k2,v2,hs2,hb2,rfl,rfl,rfl⟩
    have HF:=Lib.hid (HI.out _ _ _ _ hs2 (HBA.out.trans hb2))
    clear hs2 hb2
    go_wp2_with fail
    gi_wp2_with fail
    exact HF.out
   ·have hk0: ¬0≤k:=fun h=>hin (hk.1 h)
    have HBB:=Lib.hid (show byteB E.ere x.val=[x.val]by unfold byteB;rw[if_neg H10.out,if_neg (fun h=>hin (List.contains_iff_mem.1 h))])
    obtain⟨s1,hs1,hsz1,hcv⟩:=conv_one W2 x.val hx256
    have HS1':=Lib.hid hs1
    have hsz2: ¬9223372036854775807<1+s1.size:=by omega
    have hbA:Below W2.heap.size W2 (W2.alloc (.cells #[.int .u8 (x.val:Nat)] 5)).drew:=((Below.refl _ W2).alloc (Nat.le_refl _) _).drew
    have HSA:=Lib.hid (HS9.out.below hbA)
    have HBA:=Lib.hid (SpB.of_below (E:=E) (ov:=v) hbA)
    clear hk hin hs1 hbA hsz1
    gi_wp2_with fail
    refine wpIn_region_segs (X:=(none)) (fwide_round l) rfl (fun _ _ h=>h) 7 [([0,1,2,3,4],5),([],6)] [] (by kernel_rfl) (by kernel_rfl) rfl (fun _ _ _ _ _ h=>h) ?_
    simp only[wpSegs,pickSegs_nil,pickSegs_cons,pickOps_nil,pickOps_cons,List.getD_cons_zero,List.getD_cons_succ,List.drop_succ_cons,List.drop_zero]
    repeat (go_big_quiet_step (fail))
    refine wpQuiet_nil ?_
    go_wp2_with fail
    refine⟨keeps_drew (keeps_alloc _ _),?_⟩
    repeat (go_big_quiet_step (fail))
    refine wpQuiet_nil ?_
    go_wp2_with fail
    refine⟨Keeps.refl _,?_⟩
    repeat (go_big_quiet_step (fail))
    refine wpQuiet_nil ?_
    go_wp2_with fail
    have HCC:=Lib.hid (says_lit HSA.out s1 (byteB E.ere x.val) (by rw[HBB.out,HS1'.out]) (by omega) (by rw[HBB.out];simp))
    refine HCC.out.mono ?_
    rintro e W3 ⟨rfl,o2,a2,k2,v2,hs2,hb2,rfl,rfl,rfl⟩
    have HF:=Lib.hid (HI.out _ _ _ _ hs2 (HBA.out.trans hb2))
    clear hs2 hb2
    go_wp2_with fail
    gi_wp2_with fail
    exact HF.out
 case done=>
  rintro D ys W hD hS hI hK
  gi_wp2
  refine⟨by simp,.inl ⟨_,_,rfl,run_takeDeferred hK,?_⟩⟩
  refine⟨_,results_none rfl _ _ _,?_⟩
  rw[HCE.out]at hS
  obtain⟨y,rfl,hy⟩: ∃y:Fin 256,ys=[y]∧y.val=b:=by
   match ys,hS with
   |[y],h=>exact⟨y,rfl,by simpa [nums]using h⟩
  obtain⟨v,h1,h2,_⟩:=SpI.grown hI (grownBy_putObj' W D (.deferred none)) (fun r e=>by cases e;exact⟨by omega,_,hK,rfl⟩) hls2 hvl
  dsimp only[stP]at h1
  rw[hy]at h1
  exact⟨rfl,_,_,_,v,h1,h2,by rw[HSB.out],rfl,by rw[HSB.out]⟩
 case stop=>
  rintro D c pre W _ _ h _
  exact h.elim
theorem set_call {w:World} {E:SpE} {out:List Nat} {at_:Nat} {ok:Bool} {ov:Value} (h:SpS w E out at_ ok ov) (c:Cls) (hl:out.length≤90000):
  Calls Tryz.prog 146 #[.pointer (some ⟨E.bx,0,none⟩),clsV c] w (SpP w E ov fun out' at' ok'=>out'=out++setB E.ere c∧at'=at_∧ok'=(ok&&decide ((out++setB E.ere c).length≤4096))):=by
 by_cases hc:c.els.length=1
 ·obtain⟨b,hb⟩:=List.length_eq_one_iff.1 hc
  exact set_one h c b hb hl
 ·exact set_other h c hc hl
end Go.Proofs.YtfjbnpdffillbaaGreatDoor
namespace Go.Proofs.YtfjbnpdffillbaaGreatDoor
open Go.RowKit
structure BoxN (W:World) (E:SpE) (B:Nat) (x:Nd) (v:Value):Prop where
 at_:ndAt W B x
 nx:B≠E.bx
 no:v.ownBlock≠some B
section
variable {w W W':World} {E:SpE} {B:Nat} {x:Nd} {v v':Value}
theorem BoxN.lt (h:BoxN W E B x v):B<W.heap.size:=(Array.getElem?_eq_some_iff.1 h.at_).1
theorem BoxN.next (h:BoxN W E B x v) (hb:SpB W E v W' v'):BoxN W' E B x v':=
 ⟨(hb.but.block B h.lt h.nx (fun e=>h.no e.symm)).trans h.at_,h.nx,by
  rcases hb.new with e|e
  ·rw[e];exact h.no
  ·exact fun e2=>by have:=e B e2;have:=h.lt;omega⟩
theorem BoxN.below (h:BoxN W E B x v) (hb:Below W.heap.size W W'):BoxN W' E B x v:=⟨(hb.block B h.lt).trans h.at_,h.nx,h.no⟩
theorem BoxN.cells (h:BoxN W E B x v):W.cell? ⟨B,0,none⟩=some (.int .i8 x.op)∧(W.cell? ⟨B,1,none⟩=some (.int .u64 x.set.w0.toNat)∧W.cell? ⟨B,2,none⟩=some (.int .u64 x.set.w1.toNat)∧W.cell? ⟨B,3,none⟩=some (.int .u64 x.set.w2.toNat)∧W.cell? ⟨B,4,none⟩=some (.int .u64 x.set.w3.toNat))∧W.cell? ⟨B,5,none⟩=some (.int .i64 x.n)∧W.cell? ⟨B,6,none⟩=some (.int .i64 x.min)∧W.cell? ⟨B,7,none⟩=some (.int .i64 x.max)∧W.cell? ⟨B,8,none⟩=some (.int .i64 x.kids):=by
 have c:=fun j=>cell_of_row W B j _ _ (0,0) h.at_
 exact⟨c 0,⟨c 1,c 2,c 3,c 4⟩,c 5,c 6,c 7,c 8⟩
theorem BoxN.new {out:List Nat} {a:Nat} {k:Bool} (h:SpS w E out a k v) (x:Nd) (W:World) (hW:W=w.alloc (.cells (ndCells x) 78)):BoxN W E w.heap.size x v∧SpS W E out a k v∧SpB w E v W v:=by
 subst hW
 have hb:Below w.heap.size w (w.alloc (.cells (ndCells x) 78)):=(Below.refl _ _).alloc (Nat.le_refl _) _
 exact⟨⟨heap_alloc_new _ _,by have:=h.xlt;omega,fun e=>by have:=h.ovlt _ e;omega⟩,h.below hb,SpB.of_below hb⟩
end
def Said (w:World) (E:SpE) (ov:Value) (out:List Nat) (a:Nat) (ok:Bool) (n:List Nat):Ending→World→Prop:=
 SpP w E ov fun out' at' ok'=>out'=out++n∧at'=a∧ok'=(ok&&decide ((out++n).length≤4096))
theorem ok_join (ok:Bool) (a b:List Nat) (hab:a.length≤b.length):(ok&&decide (a.length≤4096)&&decide (b.length≤4096))=(ok&&decide (b.length≤4096)):=by
 cases ok with
 |false=>rfl
 |true=>
  by_cases h:b.length≤4096
  ·rw[decide_eq_true h,decide_eq_true (show a.length≤4096 by omega)];rfl
  ·rw[decide_eq_false h];simp
theorem Said.join {w W:World} {E:SpE} {ov v:Value} {out n m:List Nat} {a:Nat} {ok:Bool} {e:Ending} {w':World} (hb:SpB w E ov W v) (h:Said W E v (out++n) a (ok&&decide ((out++n).length≤4096)) m e w'):Said w E ov out a ok (n++m) e w':=by
 obtain⟨he,o,a',k,v',hs,hb',rfl,rfl,rfl⟩:=h
 exact⟨he,_,_,_,_,hs,hb.trans hb',by rw[List.append_assoc],rfl,by rw[ok_join _ _ _ (by simp),List.append_assoc]⟩
theorem SpS.col {w:World} {E:SpE} {o m:List Nat} {a:Nat} {ok:Bool} {v:Value} (h:SpS w E (o++m) a (ok&&decide (o.length≤4096)&&decide ((o++m).length≤4096)) v):SpS w E (o++m) a (ok&&decide ((o++m).length≤4096)) v:=by
 rwa[ok_join _ _ _ (by simp)]at h
theorem itoa_said {m:Int} (h0: -1≤m) (h1:m≤255):(itoB m).length≤20:=itoB_len (by omega) (by omega)
theorem signB_le (ere:Bool) (b:Nat):(signB ere b).length≤2:=by unfold signB;split<;>simp
set_option maxRecDepth 100000 in
set_option maxHeartbeats 6400000 in
theorem times_call {w:World} {E:SpE} {out:List Nat} {a:Nat} {ok:Bool} {ov:Value} (h:SpS w E out a ok ov) (n:Nd) (h1:0≤n.min∧n.min≤255) (h2: -1≤n.max∧n.max≤255) (hl:out.length≤80000):
  Calls Tryz.prog 205 #[.pointer (some ⟨E.bx,0,none⟩),ndV n] w (Said w E ov out a ok (dupB E.ere n)):=by
 obtain⟨hbox,hs,hb⟩:=BoxN.new h n _ rfl
 have H:=Lib.hid hs
 have HB:=Lib.hid hb
 have HX:=Lib.hid hbox
 have H1:=Lib.hid h1
 have H2:=Lib.hid h2
 have hxl:=h.xlt
 clear h hbox hs hb h1 h2
 have e1: ∀k:Int,(n.min==k)=decide (n.min=k):=fun k=>by rw[Bool.eq_iff_iff];simp
 go_enter Tryz.func205,Tryz.ntmps205
 go_upto_region 1 with fail
 rw[show(w.alloc (.cells #[.int .i8 n.op,.int .u64 n.set.w0.toNat,.int .u64 n.set.w1.toNat,.int .u64 n.set.w2.toNat,.int .u64 n.set.w3.toNat,.int .i64 n.n,.int .i64 n.min,.int .i64 n.max,.int .i64 n.kids] 78))=w.alloc (.cells (ndCells n) 78)from rfl]
 generalize w.alloc (.cells (ndCells n) 78)=W at H HB HX ⊢
 generalize hBB:w.heap.size=B at HX ⊢
 clear hBB hxl e1
 have hxl:=H.out.xlt
 have hBl:=HX.out.lt
 obtain⟨_,_,_,m6,m7,_⟩:=HX.out.cells
 have k1:=H.out.c1
 have k5:=H.out.c5
 have k6:=H.out.c6
 go_cut [4] (fun v wd=>v= .bool (decide (n.min=0)&&decide (n.max<0))∧W=wd)
 case first=>
  by_cases q1:n.min=0
  ·have q1':(n.min==0)=true:=by rw[q1];rfl
   have Q1:=Lib.hid q1
   clear q1
   go_wp2_with fail
   go_meet
   exact⟨by rw[decide_eq_true Q1.out,Bool.true_and],rfl⟩
  ·have q1':(n.min==0)=false:=beq_eq_false_iff_ne.2 q1
   have Q1:=Lib.hid q1
   clear q1
   go_wp2_with fail
   go_meet
   exact⟨by rw[decide_eq_false Q1.out,Bool.false_and],rfl⟩
 case rest=>
 obtain⟨rfl,rfl⟩:=hcut
 generalize hE:E.ere=er at k1
 have HE:=Lib.hid hE
 clear hE
 by_cases qa:n.min=0∧n.max<0
 ·have HD:=Lib.hid (show dupB E.ere n=[42]from if_pos qa)
  rw[decide_eq_true qa.1,decide_eq_true qa.2,Bool.true_and]
  clear qa
  go_wp2_with fail
  refine(says_lit H.out _ [42] rfl (by omega) (by simp)).mono ?_
  rintro e w2 ⟨rfl,o2,a2,k2,v2,hs2,hb2,hr2⟩
  have HS2:=Lib.hid hs2
  have HB2:=Lib.hid (HB.out.trans hb2)
  have HR2:=Lib.hid hr2
  clear hs2 hb2 hr2
  go_wp2_with fail
  go_end0
  exact⟨rfl,_,_,_,_,HS2.out,HB2.out,by rw[HD.out];exact HR2.out⟩
 ·have QA:=Lib.hid qa
  rw[show(decide (n.min=0)&&decide (n.max<0))=false by rw[Bool.and_eq_false_iff,decide_eq_false_iff_not,decide_eq_false_iff_not];by_cases h:n.min=0;exact .inr (fun h2=>qa ⟨h,h2⟩);exact .inl h]
  clear qa
  go_upto_region 3 with fail
  go_cut [18] (fun v wd=>v= .bool (er&&decide (n.min=1)&&decide (n.max<0))∧W=wd)
  case first=>
   cases er with
   |false=>
    go_wp2_with fail
    go_meet
    exact⟨rfl,rfl⟩
   |true=>
    by_cases q1:n.min=1
    ·have q1':(n.min==1)=true:=by rw[q1];rfl
     have Q1:=Lib.hid q1
     clear q1
     go_wp2_with fail
     go_meet
     exact⟨by rw[decide_eq_true Q1.out,Bool.true_and,Bool.true_and],rfl⟩
    ·have q1':(n.min==1)=false:=beq_eq_false_iff_ne.2 q1
     have Q1:=Lib.hid q1
     clear q1
     go_wp2_with fail
     go_meet
     exact⟨by rw[decide_eq_false Q1.out];rfl,rfl⟩
  case rest=>
  obtain⟨rfl,rfl⟩:=hcut
  by_cases qb:er=true∧n.min=1∧n.max<0
  ·have HD:=Lib.hid (show dupB E.ere n=[43]by unfold dupB;rw[if_neg QA.out,if_pos (by rw[HE.out];exact qb)])
   rw[decide_eq_true qb.2.1,decide_eq_true qb.2.2,qb.1,Bool.true_and,Bool.true_and]
   clear qb
   go_wp2_with fail
   refine(says_lit H.out _ [43] rfl (by omega) (by simp)).mono ?_
   rintro e w2 ⟨rfl,o2,a2,k2,v2,hs2,hb2,hr2⟩
   have HS2:=Lib.hid hs2
   have HB2:=Lib.hid (HB.out.trans hb2)
   have HR2:=Lib.hid hr2
   clear hs2 hb2 hr2
   go_wp2_with fail
   go_end0
   exact⟨rfl,_,_,_,_,HS2.out,HB2.out,by rw[HD.out];exact HR2.out⟩
  ·have QB:=Lib.hid qb
   rw[show(er&&decide (n.min=1)&&decide (n.max<0))=false by
    cases er with
    |false=>rfl
    |true=>rw[Bool.true_and,Bool.and_eq_false_iff,decide_eq_false_iff_not,decide_eq_false_iff_not];by_cases h:n.min=1;exact .inr (fun h2=>qb ⟨rfl,h,h2⟩);exact .inl h]
   clear qb
   go_upto_region 5 with fail
   go_cut [38] (fun v wd=>v= .bool (er&&decide (n.min=0)&&decide (n.max=1))∧W=wd)
   case first=>
    cases er with
    |false=>
     go_wp2_with fail
     go_meet
     exact⟨rfl,rfl⟩
    |true=>
     by_cases q1:n.min=0
     ·have q1':(n.min==0)=true:=by rw[q1];rfl
      have Q1:=Lib.hid q1
      have e1:(n.max==1)=decide (n.max=1):=by rw[Bool.eq_iff_iff];simp
      clear q1
      go_wp2_with fail
      go_meet
      exact⟨by rw[decide_eq_true Q1.out,Bool.true_and,Bool.true_and],rfl⟩
     ·have q1':(n.min==0)=false:=beq_eq_false_iff_ne.2 q1
      have Q1:=Lib.hid q1
      clear q1
      go_wp2_with fail
      go_meet
      exact⟨by rw[decide_eq_false Q1.out];rfl,rfl⟩
   case rest=>
   obtain⟨rfl,rfl⟩:=hcut
   by_cases qc:er=true∧n.min=0∧n.max=1
   ·have HD:=Lib.hid (show dupB E.ere n=[63]by unfold dupB;rw[if_neg QA.out,if_neg (by rw[HE.out];exact QB.out),if_pos (by rw[HE.out];exact qc)])
    rw[decide_eq_true qc.2.1,decide_eq_true qc.2.2,qc.1,Bool.true_and,Bool.true_and]
    clear qc
    go_wp2_with fail
    refine(says_lit H.out _ [63] rfl (by omega) (by simp)).mono ?_
    rintro e w2 ⟨rfl,o2,a2,k2,v2,hs2,hb2,hr2⟩
    have HS2:=Lib.hid hs2
    have HB2:=Lib.hid (HB.out.trans hb2)
    have HR2:=Lib.hid hr2
    clear hs2 hb2 hr2
    go_wp2_with fail
    go_end0
    exact⟨rfl,_,_,_,_,HS2.out,HB2.out,by rw[HD.out];exact HR2.out⟩
   ·have HD:=Lib.hid (show dupB E.ere n=signB E.ere 123++(itoB n.min++((if n.max=n.min then []else 44::(if 0≤n.max then itoB n.max else []))++signB E.ere 125))by
     unfold dupB;rw[if_neg QA.out,if_neg (by rw[HE.out];exact QB.out),if_neg (by rw[HE.out];exact qc)])
    rw[show(er&&decide (n.min=0)&&decide (n.max=1))=false by
     cases er with
     |false=>rfl
     |true=>rw[Bool.true_and,Bool.and_eq_false_iff,decide_eq_false_iff_not,decide_eq_false_iff_not];by_cases h:n.min=0;exact .inr (fun h2=>qc ⟨rfl,h,h2⟩);exact .inl h]
    clear qc
    go_wp2_with fail
    refine(sign_call H.out 123 (by omega)).mono ?_
    rintro e w2 ⟨rfl,o2,a2,kk2,v2,hs2,hb2,rfl,rfl,rfl⟩
    rw[show(123:UInt8).toNat=123 from rfl]at hs2
    have HB2:=Lib.hid (HB.out.trans hb2)
    have HX2:=Lib.hid (HX.out.next hb2)
    have hlo:(out++signB E.ere 123).length≤80002:=by have:=signB_le E.ere 123;rw[List.length_append];omega
    generalize ho:out++signB E.ere 123=o2 at hs2 hlo
    have HO2:=Lib.hid ho
    have HS2:=Lib.hid hs2
    clear hs2 hb2 hxl hBl m6 m7 k1 k5 k6 HX HB ho
    have hxl:=HS2.out.xlt
    have hBl:=HX2.out.lt
    obtain⟨_,_,_,m6,m7,_⟩:=HX2.out.cells
    have k5:=HS2.out.c5
    go_wp2_with fail
    refine wp_region_segs (X:=none) 7 [([0,1,2,3,4,5],6)] [] (by kernel_rfl) (by kernel_rfl) rfl (fun _ _ _ _ _ h=>h) ?_
    simp only[wpSegs,pickSegs_nil,pickSegs_cons,pickOps_nil,pickOps_cons,List.getD_cons_zero,List.getD_cons_succ,List.drop_succ_cons,List.drop_zero]
    repeat (go_big_quiet_step (fail))
    refine wpQuiet_nil ?_
    go_wp2_with fail
    refine(itoa_call (n:=n.min) (by have:=H1.out;omega) (by have:=H1.out;omega) (w:=w2.drew) HS2.out.drew.tabs.pw).mono ?_;rintro e w3 ⟨rfl,hb3⟩
    have HS3:=Lib.hid (HS2.out.drew.below hb3)
    have HB3:=Lib.hid ((HB2.out.below (Below.refl _ _).drew).below hb3)
    have HX3:=Lib.hid ((HX2.out.below (Below.refl _ _).drew).below hb3)
    have HK3:=Lib.hid (Keeps.of_below (X:=none) hb3)
    clear hb3 hxl hBl m6 m7 k5 HB2 HX2
    go_wp2_with fail
    refine⟨HK3.out,?_⟩
    repeat (go_big_quiet_step (fail))
    refine wpQuiet_nil ?_
    go_wp2_with fail
    refine(says_lit HS3.out _ (itoB n.min) (itoa_bytes n.min) (by omega) (by have:=itoa_said (m:=n.min) (by have:=H1.out;omega) (by have:=H1.out;omega);omega)).mono ?_
    rintro e w4 ⟨rfl,o4,a4,kk4,v4,hs4,hb4,rfl,rfl,rfl⟩
    have HB4:=Lib.hid (HB3.out.trans hb4)
    have HX4:=Lib.hid (HX3.out.next hb4)
    rw[←HO2.out]at hs4
    replace hs4:=hs4.col
    have hlo4:(out++signB E.ere 123++itoB n.min).length≤80022:=by have:=signB_le E.ere 123;have:=itoa_said (m:=n.min) (by have:=H1.out;omega) (by have:=H1.out;omega);rw[List.length_append,List.length_append];omega
    generalize ho4:out++signB E.ere 123++itoB n.min=o4 at hs4 hlo4
    have HO4:=Lib.hid ho4
    have HS4:=Lib.hid hs4
    clear hs4 hb4 ho4 HS3 HB3 HX3 HK3 HS2
    have hxl:=HS4.out.xlt
    have hBl:=HX4.out.lt
    obtain⟨_,_,_,m6,m7,_⟩:=HX4.out.cells
    go_upto_if 75 with fail
    go_cut [] (fun wd=> ∃v,SpS wd E (o4++(if n.max=n.min then []else 44::(if 0≤n.max then itoB n.max else []))) a4 (ok&&decide ((o4++(if n.max=n.min then []else 44::(if 0≤n.max then itoB n.max else []))).length≤4096)) v∧SpB w E ov wd v)
    case first=>
     by_cases q1:n.max=n.min
     ·have q1':(n.max !=n.min)=false:=by rw[q1];simp
      have Q1:=Lib.hid q1
      clear q1
      go_wp2_with fail
      go_meet
      exact⟨_,by rw[if_pos Q1.out,List.append_nil];exact HS4.out,HB4.out⟩
     ·have q1':(n.max !=n.min)=true:=by rw[bne_iff_ne];exact q1
      have Q1:=Lib.hid q1
      have k5:=HS4.out.c5
      clear q1
      go_wp2_with fail
      refine(says_lit HS4.out _ [44] rfl (by omega) (by simp)).mono ?_
      rintro e w5 ⟨rfl,o5,a5,kk5,v5,hs5,hb5,rfl,rfl,rfl⟩
      have HB5:=Lib.hid (HB4.out.trans hb5)
      have HX5:=Lib.hid (HX4.out.next hb5)
      have HS5:=Lib.hid hs5.col
      clear hs5 hb5 hxl hBl m6 m7 k5 q1'
      have hxl:=HS5.out.xlt
      have hBl:=HX5.out.lt
      obtain⟨_,_,_,m6,m7,_⟩:=HX5.out.cells
      by_cases q2:0≤n.max
      ·have Q2:=Lib.hid q2
       have k5:=HS5.out.c5
       go_wp2_with fail
       refine wp_region_segs (X:=none) 7 [([0,1,2,3,4,5],6)] [] (by kernel_rfl) (by kernel_rfl) rfl (fun _ _ _ _ _ h=>h) ?_
       simp only[wpSegs,pickSegs_nil,pickSegs_cons,pickOps_nil,pickOps_cons,List.getD_cons_zero,List.getD_cons_succ,List.drop_succ_cons,List.drop_zero]
       repeat (go_big_quiet_step (fail))
       refine wpQuiet_nil ?_
       go_wp2_with fail
       refine(itoa_call (n:=n.max) (by have:=H2.out;omega) (by have:=H2.out;omega) (w:=w5.drew) HS5.out.drew.tabs.pw).mono ?_;rintro e w6 ⟨rfl,hb6⟩
       have HS6:=Lib.hid (HS5.out.drew.below hb6)
       have HB6:=Lib.hid ((HB5.out.below (Below.refl _ _).drew).below hb6)
       have HK6:=Lib.hid (Keeps.of_below (X:=none) hb6)
       clear hb6 hxl hBl m6 m7 k5
       go_wp2_with fail
       refine⟨HK6.out,?_⟩
       repeat (go_big_quiet_step (fail))
       refine wpQuiet_nil ?_
       go_wp2_with fail
       refine(says_lit HS6.out _ (itoB n.max) (itoa_bytes n.max) (by rw[List.length_append];simp;omega) (by have:=itoa_said (m:=n.max) (by have:=H2.out;omega) (by have:=H2.out;omega);omega)).mono ?_
       rintro e w7 ⟨rfl,o7,a7,kk7,v7,hs7,hb7,rfl,rfl,rfl⟩
       have HB7:=Lib.hid (HB6.out.trans hb7)
       have HS7:=Lib.hid hs7.col
       clear hs7 hb7
       go_wp2_with fail
       go_meet
       exact⟨_,by rw[if_neg Q1.out,if_pos Q2.out];have h:=HS7.out;rw[List.append_assoc]at h;exact h,HB7.out⟩
      ·have Q2:=Lib.hid q2
       go_wp2_with fail
       go_meet
       exact⟨_,by rw[if_neg Q1.out,if_neg (by have:=Q2.out;omega)];exact HS5.out,HB5.out⟩
    case rest=>
    obtain⟨v8,hs8,hb8⟩:=hcut
    have hlm:(if n.max=n.min then []else 44::(if 0≤n.max then itoB n.max else [])).length≤21:=by
     have:=itoa_said (m:=n.max) (by have:=H2.out;omega) (by have:=H2.out;omega)
     split
     ·simp
     ·split<;>simp<;>omega
    generalize hmm:(if n.max=n.min then []else 44::(if 0≤n.max then itoB n.max else []))=mid at hs8 hlm
    have HMM:=Lib.hid hmm
    have HS8:=Lib.hid hs8
    have HB8:=Lib.hid hb8
    clear hs8 hb8 hmm hxl hBl m6 m7
    have hxl:=HS8.out.xlt
    have k6:=HS8.out.c6
    go_wp2_with fail
    refine(sign_call HS8.out 125 (by rw[List.length_append];omega)).mono ?_
    rintro e w9 ⟨rfl,o9,a9,kk9,v9,hs9,hb9,rfl,rfl,rfl⟩
    rw[show(125:UInt8).toNat=125 from rfl]at hs9
    have HB9:=Lib.hid (HB8.out.trans hb9)
    have HS9:=Lib.hid hs9.col
    clear hs9 hb9
    go_wp2_with fail
    go_end0
    have HFin:=HS9.out
    rw[←HO4.out,←HMM.out,List.append_assoc,List.append_assoc,List.append_assoc,←HD.out]at HFin
    exact⟨rfl,_,_,_,_,HFin,HB9.out,rfl,rfl,rfl⟩
end Go.Proofs.YtfjbnpdffillbaaGreatDoor
namespace Go.Proofs.YtfjbnpdffillbaaGreatDoor
open Go.RowKit
theorem kidsN_el {G:Nat→List Bool→Option (Nat × List Bool)} (hG: ∀i en r,G i en=some r→en.length≤255→r.2.length≤255): ∀(k i:Nat) (en:List Bool) (r:Nat × List Bool),kidsN G k i en=some r→en.length≤255→r.2.length≤255
 |0,_,_,_,he,hl=>by simp only[kidsN,Option.some.injEq]at he;subst he;exact hl
 |k+1,i,en,r,he,hl=>by
  unfold kidsN at he
  split at he
  ·cases he
  ·rename_i j en1 h1
   exact kidsN_el hG k _ _ _ he (hG _ _ _ h1 hl)
theorem nodeN_el (re:List Nd): ∀(f g i:Nat) (en:List Bool) (r:Nat × List Bool),nodeN re f g i en=some r→en.length≤255→r.2.length≤255
 |0,_,_,_,_,h,_=>by simp[nodeN]at h
 |f+1,g,i,en,r,h,hl=>by
  rw[nodeN]at h
  split at h
  ·cases h
  ·split at h
   ·cases h
   ·split at h
    ·cases h
    ·split at h
     ·split at h
      ·cases h
      ·rename_i hn
       split at h
       ·cases h
       ·rename_i j en1 hk
        cases h
        have:=kidsN_el (fun i en r=>nodeN_el re f (g+1) i en r) _ _ _ _ hk (by simp;omega)
        simpa using this
     ·exact kidsN_el (fun i en r=>nodeN_el re f g i en r) _ _ _ _ h hl
structure NdK (re:List Nd) (f g i:Nat) (en:List Bool) (j:Nat) (x:Nd):Prop where
 hx:re[i]?=some x
 op:1≤x.op∧x.op≤8
 leaf:x.op≤3∨x.op=8→j=i+1
 ref:x.op=8→1≤x.n∧x.n≤255
 rep:x.op=6→(0≤x.min∧x.min≤255)∧(-1≤x.max∧x.max≤255)∧ ∃en',nodeN re f g (i+1) en=some (j,en')
 grp:x.op=7→g<64∧(en++[false]).length≤255∧ ∃en',nodeN re f (g+1) (i+1) (en++[false])=some (j,en')
 kids:x.op=4∨x.op=5→ ∃en',kidsN (nodeN re f g) x.kids.toNat (i+1) en=some (j,en')
 cat:x.op=4→x.kids=0∨2≤x.kids
 alt:x.op=5→2≤x.kids
theorem kidsN_one {G:Nat→List Bool→Option (Nat × List Bool)} {i:Nat} {en:List Bool} {r:Nat × List Bool} (h:kidsN G 1 i en=some r):G i en=some r:=by
 unfold kidsN at h
 split at h
 ·cases h
 ·rename_i j e1 h1
  simp only[kidsN,Option.some.injEq]at h
  rw[h1,h]
theorem nodeN_at {re:List Nd} {f g i:Nat} {en:List Bool} {j:Nat} {en':List Bool} (h:nodeN re (f+1) g i en=some (j,en')) (hl:en.length≤255): ∃x,NdK re f g i en j x:=by
 rw[nodeN]at h
 split at h
 ·cases h
 rename_i x hx
 split at h
 ·cases h
 rename_i hg
 have hg':goodN x=true:=by simpa using hg
 split at h
 ·cases h
 rename_i h8
 unfold goodN at hg'
 simp only[Bool.and_eq_true,decide_eq_true_eq,Bool.or_eq_true,beq_iff_eq]at hg'
 obtain⟨⟨⟨⟨⟨o1,o2⟩,_⟩,_⟩,hm⟩,hk⟩:=hg'
 refine⟨x,hx,⟨o1,o2⟩,?_,?_,?_,?_,?_,?_,?_⟩
 ·intro ho
  rw[if_neg (by omega),if_neg (by omega),if_neg (by omega)]at hk
  rw[if_neg (by omega)]at h
  have:x.kids=0:=by simpa using hk
  rw[this]at h
  simp only[Int.toNat_zero,kidsN,Option.some.injEq,Prod.mk.injEq]at h
  exact h.1.symm
 ·intro ho
  simp only[ho,Bool.and_eq_true,Bool.or_eq_true,decide_eq_true_eq,beq_self_eq_true,true_and,not_or,Bool.not_eq_true,Bool.not_eq_false']at h8
  omega
 ·intro ho
  rw[if_pos ho]at hm
  rw[if_pos (.inl ho)]at hk
  rw[if_neg (by omega)]at h
  have hk1:x.kids=1:=by simpa using hk
  rw[hk1]at h
  simp only[Bool.and_eq_true,decide_eq_true_eq,Bool.or_eq_true,beq_iff_eq]at hm
  exact⟨by omega,by omega,en',kidsN_one h⟩
 ·intro ho
  rw[if_pos (.inr ho)]at hk
  rw[if_pos ho]at h
  have hk1:x.kids=1:=by simpa using hk
  rw[hk1]at h
  split at h
  ·cases h
  rename_i hn
  split at h
  ·cases h
  rename_i j1 e1 h1
  cases h
  exact⟨by omega,by simp;omega,e1,kidsN_one h1⟩
 ·intro ho
  rw[if_neg (by omega)]at h
  exact⟨en',h⟩
 ·intro ho
  rw[if_neg (by omega),if_neg (by omega),if_pos ho]at hk
  simpa using hk
 ·intro ho
  rw[if_neg (by omega),if_pos ho]at hk
  simpa using hk
def Hd (out:List Nat) (ok:Bool) (B j:Nat) (r:Option (List Nat × Nat)) (out':List Nat) (at':Nat) (ok':Bool):Prop:=
 (ok'=true→ok=true∧ ∃s,r=some (s,j)∧at'=j∧out'=out++s∧(out++s).length≤4096)∧
 (ok'=false→(ok=false→out'=out)∧(ok=true→out'.length≤B∧ ∀s k,r=some (s,k)→4096<(out++s).length))
def LI (out:List Nat) (ok:Bool) (B:Nat) (r:Option (List Nat × Nat)) (rest:Nat→Option (List Nat × Nat)) (kn:Nat→List Bool→Option (Nat × List Bool)) (j:Nat) (o':List Nat) (a':Nat) (k':Bool):Prop:=
 (k'=true→ok=true∧ ∃s en2,o'=out++s∧(out++s).length≤4096∧en2.length≤255∧(∃en',kn a' en2=some (j,en'))∧r=(rest a').map fun p=>(s++p.1,p.2))∧
 (k'=false→(ok=false→o'=out)∧(ok=true→o'.length≤B∧ ∀s e,r=some (s,e)→4096<(out++s).length))
theorem LI.off {out:List Nat} {B:Nat} {r:Option (List Nat × Nat)} {rest:Nat→Option (List Nat × Nat)} {kn:Nat→List Bool→Option (Nat × List Bool)} {j a:Nat} :LI out false B r rest kn j out a false:=
 ⟨fun h=>(by cases h),fun _=>⟨fun _=>rfl,fun h=>(by cases h)⟩⟩
theorem Hd.off {out:List Nat} {B:Nat} {r:Option (List Nat × Nat)} {j a:Nat} :Hd out false B j r out a false:=
 ⟨fun h=>(by cases h),fun _=>⟨fun _=>rfl,fun h=>(by cases h)⟩⟩
theorem LI.next_off {out:List Nat} {ok:Bool} {B:Nat} {r:Option (List Nat × Nat)} {rest rest':Nat→Option (List Nat × Nat)} {kn kn':Nat→List Bool→Option (Nat × List Bool)} {j:Nat} {o':List Nat} {a' a2:Nat} (h:LI out ok B r rest kn j o' a' false):LI out ok B r rest' kn' j o' a2 false:=
 ⟨fun h=>(by cases h),h.2⟩
theorem LI.done {out:List Nat} {ok:Bool} {B:Nat} {r:Option (List Nat × Nat)} {rest:Nat→Option (List Nat × Nat)} {kn:Nat→List Bool→Option (Nat × List Bool)} {j:Nat} {o':List Nat} {a':Nat} {k':Bool} (h:LI out ok B r rest kn j o' a' k') (hr: ∀a,rest a=some ([],a)) (hk: ∀a e,kn a e=some (a,e)):Hd out ok B j r o' a' k':=by
 refine⟨fun e=>?_,h.2⟩
 obtain⟨h1,s,en2,h2,h3,h4,⟨en',h5⟩,h6⟩:=h.1 e
 rw[hk]at h5
 simp only[Option.some.injEq,Prod.mk.injEq]at h5
 obtain⟨rfl,_⟩:=h5
 rw[hr]at h6
 exact⟨h1,s,by rw[h6];simp,rfl,h2,h3⟩
theorem LI.next {out:List Nat} {B B1:Nat} {r:Option (List Nat × Nat)} {one:Option (List Nat × Nat)} {rest rest':Nat→Option (List Nat × Nat)} {G:Nat→List Bool→Option (Nat × List Bool)} {m j a' j1:Nat} {s:List Nat} {en2 en3 en':List Bool} {o2:List Nat} {a2:Nat} {k2:Bool}
  (hr:r=(rest a').map fun p=>(s++p.1,p.2)) (hk:kidsN G (m+1) a' en2=some (j,en')) (hG:G a' en2=some (j1,en3)) (he:en3.length≤255)
  (hrest:rest a'=match (generalizing:=false) one with|none=>none|some (t,jj)=>(rest' jj).map fun p=>(t++p.1,p.2))
  (hd:Hd (out++s) true B1 j1 one o2 a2 k2) (hB:B1≤B):LI out true B r rest' (kidsN G m) j o2 a2 k2:=by
 refine⟨fun e=>?_,fun e=>?_⟩
 ·obtain⟨_,t,h1,rfl,rfl,h4⟩:=hd.1 e
  rw[h1]at hrest
  rw[hrest]at hr
  refine⟨rfl,s++t,en3,by rw[List.append_assoc],by rwa[←List.append_assoc],he,⟨en',?_⟩,?_⟩
  ·rw[kidsN,hG]at hk
   exact hk
  ·rw[hr]
   show((rest' a2).map fun p=>(t++p.1,p.2)).map _=_
   cases rest' a2 with
   |none=>rfl
   |some p=>simp
 ·obtain⟨h1,h2⟩:=(hd.2 e).2 rfl
  refine⟨fun h=>(by cases h),fun _=>⟨by omega,fun u e2 hu=>?_⟩⟩
  rw[hr]at hu
  obtain⟨p,hp,hpe⟩:=Option.map_eq_some_iff.1 hu
  rw[hrest]at hp
  cases ho:one with
  |none=>rw[ho]at hp;cases hp
  |some q=>
   obtain⟨t,jj⟩:=q
   rw[ho]at hp
   obtain⟨p2,hp2,rfl⟩:=Option.map_eq_some_iff.1 hp
   have h3:=h2 t jj ho
   cases hpe
   simp only[List.length_append]at h3 ⊢
   omega
theorem partsP_next (ere:Bool) (re:List Nd) (wh:Nat→Option (List Nat × Nat)) (k:Nat) (first:Bool) (i:Nat):partsP ere re wh (k+1) first i=match (generalizing:=false) partP ere re wh first (k==0) i with|none=>none|some (t,jj)=>(partsP ere re wh k false jj).map fun p=>(t++p.1,p.2):=by
 rw[partsP]
 cases partP ere re wh first (k==0) i with
 |none=>rfl
 |some q=>
  obtain⟨t,jj⟩:=q
  show(match partsP ere re wh k false jj with|none=>none|some (t',e)=>some (t++t',e))=(partsP ere re wh k false jj).map fun p=>(t++p.1,p.2)
  cases partsP ere re wh k false jj<;>rfl
theorem rowsP_next (ere:Bool) (re:List Nd) (wh:Nat→Option (List Nat × Nat)) (k:Nat) (first:Bool) (i:Nat):rowsP ere re wh (k+1) first i=match (generalizing:=false) (rowP ere re wh i).map (fun p=>((if first then []else [124])++p.1,p.2))with|none=>none|some (t,jj)=>(rowsP ere re wh k false jj).map fun p=>(t++p.1,p.2):=by
 rw[rowsP]
 cases rowP ere re wh i with
 |none=>rfl
 |some q=>
  obtain⟨t,jj⟩:=q
  show(match rowsP ere re wh k false jj with|none=>none|some (t',e)=>some ((if first then []else [124])++(t++t'),e))=(rowsP ere re wh k false jj).map fun p=>(((if first then []else [124])++t)++p.1,p.2)
  cases rowsP ere re wh k false jj<;>simp
theorem SpS.node {w:World} {E:SpE} {out:List Nat} {a:Nat} {ok:Bool} {ov:Value} (h:SpS w E out a ok ov) {i:Nat} {x:Nd} (hx:E.re[i]?=some x): ∃nb no,E.oa=some ⟨nb,no,none⟩∧NdAt w nb no E.re∧nb<w.heap.size∧(i:Int)<(E.re.length:Int)∧nb≠E.bx:=by
 have hi:i<E.re.length:=(List.getElem?_eq_some_iff.1 hx).1
 obtain⟨nb,no,h1,h2⟩:=h.nd.at_ (by omega)
 exact⟨nb,no,h1,h2.below h.b0,(h2.below h.b0).lt,by omega,fun e=>by have:=h2.lt;have:=h.w0lt;omega⟩
set_option maxRecDepth 100000 in
set_option maxHeartbeats 1600000 in
theorem part_off {w:World} {E:SpE} {out:List Nat} {a:Nat} {ov:Value} (h:SpS w E out a false ov) (p q:Bool):
  Calls Tryz.prog 172 #[.pointer (some ⟨E.bx,0,none⟩),.bool p,.bool q] w (SpP w E ov fun o' a' k'=>o'=out∧a'=a∧k'=false):=by
 have H:=Lib.hid h
 have c4:=h.c4
 have hxl:=h.xlt
 clear h
 go_enter Tryz.func172,Tryz.ntmps172
 go_wp2_with fail
 go_end0
 exact⟨rfl,_,_,_,_,H.out,SpB.refl _ _ _,rfl,rfl,rfl⟩
end Go.Proofs.YtfjbnpdffillbaaGreatDoor
namespace Go.Proofs.YtfjbnpdffillbaaGreatDoor
open Go.RowKit
theorem Hd.said {out n:List Nat} {B j:Nat} {r:Option (List Nat × Nat)} (ok:Bool) (hl:out.length≤4096) (hB:4096+n.length≤B) (hr:r=if ok then some (n,j)else none):Hd out true B j r (out++n) j (ok&&decide ((out++n).length≤4096)):=by
 subst hr
 cases ok with
 |false=>exact⟨fun h=>(by cases h),fun _=>⟨fun h=>(by cases h),fun _=>⟨by simp;omega,fun _ _ h=>(by simp at h)⟩⟩⟩
 |true=>
  refine⟨fun h=>⟨rfl,n,rfl,rfl,rfl,by simpa using h⟩,fun h=>⟨fun h=>(by cases h),fun _=>⟨by simp;omega,fun s k e=>?_⟩⟩⟩
  simp only[if_true,Option.some.injEq,Prod.mk.injEq]at e
  obtain⟨rfl,_⟩:=e
  simp at h
  simp;omega
theorem Hd.wrap {out A C:List Nat} {B1 B j:Nat} {r r':Option (List Nat × Nat)} {ok:Bool} {o2:List Nat} {a2:Nat} {k2:Bool} (hl:out.length≤4096) (hok:ok=decide ((out++A).length≤4096)) (h:Hd (out++A) ok B1 j r o2 a2 k2) (hr:r'=r.map fun p=>(A++(p.1++C),p.2)) (hB:B1+C.length≤B) (hA:4096+A.length+C.length≤B):
  Hd out true B j r' (o2++C) a2 (k2&&decide ((o2++C).length≤4096)):=by
 subst hr
 have hm: ∀s k,(r.map fun p=>(A++(p.1++C),p.2))=some (s,k)→ ∃t,r=some (t,k)∧s=A++(t++C):=fun s k e=>by
  obtain⟨p,hp,hpe⟩:=Option.map_eq_some_iff.1 e
  cases hpe
  exact⟨p.1,hp,rfl⟩
 cases k2 with
 |true=>
  obtain⟨_,s,rfl,rfl,rfl,h4⟩:=h.1 rfl
  refine⟨fun e=>⟨rfl,_,rfl,rfl,by simp,by simp at e ⊢;omega⟩,fun e=>⟨fun h=>(by cases h),fun _=>⟨by simp at h4 ⊢;omega,fun t k e2=>?_⟩⟩⟩
  obtain⟨u,hu,rfl⟩:=hm t k e2
  simp only[Option.some.injEq,Prod.mk.injEq]at hu
  obtain⟨rfl,_⟩:=hu
  simp at e ⊢;omega
 |false=>
  refine⟨fun e=>(by simp at e),fun _=>⟨fun h=>(by cases h),fun _=>?_⟩⟩
  by_cases hq:(out++A).length≤4096
  ·obtain⟨h1,h2⟩:=(h.2 rfl).2 (by rw[hok];exact decide_eq_true hq)
   refine⟨by simp;omega,fun s k e=>?_⟩
   obtain⟨u,hu,rfl⟩:=hm s k e
   have:=h2 u k hu
   simp at this ⊢;omega
  ·have h1:=(h.2 rfl).1 (by rw[hok];exact decide_eq_false hq)
   subst h1
   refine⟨by simp;omega,fun s k e=>?_⟩
   obtain⟨u,hu,rfl⟩:=hm s k e
   simp at hq ⊢;omega
def BD (f:Nat):Nat:=10000+100*f
def OneC (E:SpE) (f:Nat):Prop:= ∀(g i:Nat) (en:List Bool) (j:Nat) (en':List Bool) (w:World) (out:List Nat) (ov:Value) (x:Nd),g≤64→en.length≤255→nodeN E.re f g i en=some (j,en')→E.re[i]?=some x→SpS w E out i true ov→out.length≤4096→
 Calls Tryz.prog 116 #[.pointer (some ⟨E.bx,0,none⟩),ndV x] w (SpP w E ov (Hd out true (BD f) j (atomP E.ere E.re (wholeP E.ere E.re (65 - g)) i)))
def WholeC (E:SpE) (f:Nat):Prop:= ∀(g i:Nat) (en:List Bool) (j:Nat) (en':List Bool) (w:World) (out:List Nat) (ok:Bool) (ov:Value),g≤64→en.length≤255→nodeN E.re f g i en=some (j,en')→SpS w E out i ok ov→out.length≤4200→(ok=true→out.length≤4096)→
 Calls Tryz.prog 117 #[.pointer (some ⟨E.bx,0,none⟩)] w (SpP w E ov (Hd out ok (BD f) j (wholeP E.ere E.re (66 - g) i)))
theorem setB_length (ere:Bool) (c:Cls):(setB ere c).length≤2819:=by
 unfold setB
 split
 ·simp
 ·split
  ·unfold byteB;split
   ·simp
   ·split<;>simp
  ·exact brackB_length c
set_option maxRecDepth 100000 in
set_option maxHeartbeats 6400000 in
theorem one_call {E:SpE} (f:Nat) (hf:f≤260) (HWC:Hid (WholeC E f)):OneC E (f+1):=by
 intro g i en j en' w out ov x hg hel hn hx h hl
 obtain⟨x',hk⟩:=nodeN_at hn hel
 obtain rfl:x'=x:=Option.some.inj (hk.hx.symm.trans hx)
 obtain⟨hbox,hs,hb⟩:=BoxN.new h x' _ rfl
 have H:=Lib.hid hs
 have HB:=Lib.hid hb
 have HX:=Lib.hid hbox
 have HK:=Lib.hid hk
 have hi:=(List.getElem?_eq_some_iff.1 hk.hx).1
 have hre:=h.nd.len
 have hxl:=h.xlt
 clear h hbox hs hb hk hn hx
 go_enter Tryz.func116,Tryz.ntmps116
 go_upto_region 1 with fail
 rw[show(w.alloc (.cells #[.int .i8 x'.op,.int .u64 x'.set.w0.toNat,.int .u64 x'.set.w1.toNat,.int .u64 x'.set.w2.toNat,.int .u64 x'.set.w3.toNat,.int .i64 x'.n,.int .i64 x'.min,.int .i64 x'.max,.int .i64 x'.kids] 78))=w.alloc (.cells (ndCells x') 78)from rfl]
 generalize w.alloc (.cells (ndCells x') 78)=W at H HB HX ⊢
 generalize hBB:w.heap.size=B at HX ⊢
 clear hBB hxl
 have hxl:=H.out.xlt
 have c3:=H.out.c3
 have fz3:=H.out.fz 3
 have hi64:(i:Int)<4294967296:=by omega
 obtain⟨i1,hi1⟩: ∃i1,i1=i+1:=⟨_,rfl⟩
 have HS1:=H.out.setAt i1
 have HB1:=HB.out.store 3 (.int .i64 (i1:Nat))
 have HX1:=HX.out.next ((SpB.refl W E ov).store 3 (.int .i64 (i1:Nat)))
 have hic:((i1:Nat):Int)=(i:Int)+1:=by omega
 rw[hic]at HS1 HB1 HX1
 go_upto_region 2 with fail
 generalize W.setCell ⟨E.bx,3,none⟩ (.int .i64 ((i:Int)+1))=W1 at HS1 HB1 HX1 ⊢
 have H1:=Lib.hid HS1
 have HBB:=Lib.hid HB1
 have HXX:=Lib.hid HX1
 clear HS1 HB1 HX1 hxl c3 fz3 H HB HX hi64
 have hxl:=H1.out.xlt
 have hBl:=HXX.out.lt
 have c3:=H1.out.c3
 have c6:=H1.out.c6
 obtain⟨m0,⟨m1,m2,m3,m4⟩,m5,m6,m7,m8⟩:=HXX.out.cells
 by_cases h1:x'.op=1
 ·have q1:(x'.op==1)=true:=by rw[h1];rfl
  have H0:=Lib.hid h1
  clear h1
  go_wp2_with fail
  refine(set_call H1.out x'.set (by omega)).mono ?_
  rintro e w2 ⟨rfl,o2,a2,k2,v2,hs2,hb2,rfl,rfl,rfl⟩
  have HS2:=Lib.hid hs2
  have HB2:=Lib.hid (HBB.out.trans hb2)
  clear hs2 hb2
  go_wp2_with fail
  go_end0
  refine⟨rfl,_,_,_,_,HS2.out,HB2.out,?_⟩
  have hj:=HK.out.leaf (by have:=H0.out;omega)
  rw[hi1,←hj]
  exact Hd.said true (by omega) (by have:=setB_length E.ere x'.set;unfold BD;omega) (by unfold atomP;rw[HK.out.hx];simp only[H0.out,if_true,hj])
 have q1:(x'.op==1)=false:=beq_eq_false_iff_ne.2 h1
 by_cases h7:x'.op=7
 ·have q7:(x'.op==7)=true:=by rw[h7];rfl
  obtain⟨hg64,hel2,en2,hkid⟩:=HK.out.grp h7
  obtain⟨f',rfl⟩: ∃f',f=f'+1:=by
   cases f with
   |zero=>simp[nodeN]at hkid
   |succ f'=>exact⟨f',rfl⟩
  obtain⟨y,hky⟩:=nodeN_at hkid hel2
  have HY:=Lib.hid hky
  have HKID:=Lib.hid hkid
  have H0:=Lib.hid h7
  have HR:=Lib.hid (show atomP E.ere E.re (wholeP E.ere E.re (65 - g)) i=if y.op=4∧y.kids=0 then some (signB E.ere 40++signB E.ere 41,i+2)else(wholeP E.ere E.re (66 - (g+1)) (i+1)).map fun p=>(signB E.ere 40++(p.1++signB E.ere 41),p.2)by
   unfold atomP
   rw[HK.out.hx,hky.hx,show 66 - (g+1)=65 - g by omega]
   simp only[h7,if_neg (show¬(7:Int)=1 by decide),if_true]
   split
   ·rfl
   ·cases wholeP E.ere E.re (65 - g) (i+1)<;>rfl)
  clear h7 hkid hky
  go_wp2_with fail
  refine(sign_call H1.out 40 (by omega)).mono ?_
  rintro e w2 ⟨rfl,o2,a2,k2,v2,hs2,hb2,rfl,rfl,rfl⟩
  rw[show(40:UInt8).toNat=40 from rfl]at hs2
  have HB2:=Lib.hid (HBB.out.trans hb2)
  have HS2:=Lib.hid hs2
  obtain⟨nb,no,hoa,hnd,nbl,hi',hnx⟩:=hs2.node HY.out.hx
  obtain⟨n0,n1,n2,n3,n4,n5,n6,n7,n8⟩:=hnd.cells HY.out.hx
  have d0:=hs2.c0
  have d3:=hs2.c3
  have d6:=hs2.c6
  have hxl2:=hs2.xlt
  rw[hoa]at d0
  have hre2:(i:Int)+1<4294967296:=by omega
  have hi2:(i:Int)+1<(E.re.length:Int):=by omega
  clear hs2 hb2 hnd hi' hxl hBl c3 c6 m0 m1 m2 m3 m4 m5 m6 m7 m8
  go_wp2_with fail
  refine wp_region_segs (X:=none) 11 [([0,1,2,3,4,5,6,7,8,9],10)] [] (by kernel_rfl) (by kernel_rfl) rfl (fun _ _ _ _ _ h=>h) ?_
  simp only[wpSegs,pickSegs_nil,pickSegs_cons,pickOps_nil,pickOps_cons,List.getD_cons_zero,List.getD_cons_succ,List.drop_succ_cons,List.drop_zero]
  repeat (go_big_quiet_step (fail))
  refine wpQuiet_nil ?_
  go_wp2_with fail
  refine⟨keeps_drew (keeps_alloc _ _),wpQuiet_nil ?_⟩
  go_upto_region 9 with fail
  have hb3:Below w2.heap.size w2 (w2.alloc (.cells (ndCells y) 78)).drew:=((Below.refl _ _).alloc (Nat.le_refl _) _).drew
  have HS3:=Lib.hid (HS2.out.below hb3)
  have HB3:=Lib.hid (HB2.out.below hb3)
  have HD3:=Lib.hid (show ndAt (w2.alloc (.cells (ndCells y) 78)).drew w2.heap.size y from heap_alloc_new _ _)
  clear hb3
  revert HS3 HB3 HD3
  simp only[ndCells]
  generalize (w2.alloc (.cells #[.int .i8 y.op,.int .u64 y.set.w0.toNat,.int .u64 y.set.w1.toNat,.int .u64 y.set.w2.toNat,.int .u64 y.set.w3.toNat,.int .i64 y.n,.int .i64 y.min,.int .i64 y.max,.int .i64 y.kids] 78)).drew=W3
  intro HS3 HB3 HD3
  generalize w2.heap.size=B3 at HD3 ⊢
  clear n0 n1 n2 n3 n4 n5 n6 n7 n8 d0 d3 d6 hxl2 HS2 HB2 nbl
  have hxl3:=HS3.out.xlt
  have d3:=HS3.out.c3
  have d6:=HS3.out.c6
  have fz3:=HS3.out.fz 3
  obtain⟨b0,b1,b2,b3,b4,b5,b6,b7,b8,zB⟩:=HD3.out.cells
  have Bl:=HD3.out.lt
  by_cases y4:y.op=4
  ·have p4:(y.op==4)=true:=by rw[y4];rfl
   by_cases yk:y.kids=0
   ·have pk:(y.kids==0)=true:=by rw[yk];rfl
    have HQ:=Lib.hid (And.intro y4 yk)
    clear y4 yk
    have HS4:=HS3.out.setAt (a2+1)
    have HB4:=HB3.out.store 3 (.int .i64 ((a2+1:Nat)))
    rw[show(((a2+1:Nat)):Int)=(i:Int)+1+1 by omega]at HS4 HB4
    go_upto_region 12 with fail
    generalize W3.setCell ⟨E.bx,3,none⟩ (.int .i64 ((i:Int)+1+1))=W4 at HS4 HB4 ⊢
    have HS5:=Lib.hid HS4
    have HB5:=Lib.hid HB4
    have hxl4:=HS4.xlt
    have d6:=HS4.c6
    clear HS4 HB4 hxl3 d3 fz3 b0 b1 b2 b3 b4 b5 b6 b7 b8 zB Bl
    go_wp2_with fail
    refine(sign_call HS5.out 41 (by have:=signB_le E.ere 40;simp;omega)).mono ?_
    rintro e w6 ⟨rfl,o6,a6,k6,v6,hs6,hb6,rfl,rfl,rfl⟩
    rw[show(41:UInt8).toNat=41 from rfl]at hs6
    have HS6:=Lib.hid hs6.col
    have HB6:=Lib.hid (HB5.out.trans hb6)
    clear hs6 hb6
    go_wp2_with fail
    go_end0
    have hj:=(HY.out.kids (.inl HQ.out.1))
    rw[HQ.out.2]at hj
    obtain⟨e',hj⟩:=hj
    simp only[Int.toNat_zero,kidsN,Option.some.injEq,Prod.mk.injEq]at hj
    have HF:=HS6.out
    rw[List.append_assoc]at HF
    refine⟨rfl,_,_,_,_,HF,HB6.out,?_⟩
    rw[show a2+1=j by omega]
    exact Hd.said true (by omega) (by have:=signB_le E.ere 40;have:=signB_le E.ere 41;unfold BD;simp;omega) (by rw[HR.out,if_pos HQ.out,if_pos rfl,show i+2=j by omega])
   ·have pk:(y.kids==0)=false:=beq_eq_false_iff_ne.2 yk
    have HQ:=Lib.hid (show¬(y.op=4∧y.kids=0)from fun e=>yk e.2)
    clear y4 yk
    go_wp2_with fail
    refine(HWC.out (g+1) (i+1) _ j en2 W3 _ _ v2 (by omega) hel2 HKID.out (by rw[←hi1];exact HS3.out) (by have:=signB_le E.ere 40;simp;omega) (fun e=>by simpa using e)).mono ?_
    rintro e w5 ⟨rfl,o5,a5,k5,v5,hs5,hb5,hr5⟩
    have HS5:=Lib.hid hs5
    have HB5:=Lib.hid (HB3.out.trans hb5)
    have HR5:=Lib.hid hr5
    have hxl5:=hs5.xlt
    have d6:=hs5.c6
    clear hs5 hb5 hr5 hxl3 d3 fz3 b0 b1 b2 b3 b4 b5 b6 b7 b8 zB Bl
    go_wp2_with fail
    have hl5:o5.length≤90000 - 4000:=by
     cases k5 with
     |true=>
      obtain⟨_,s,_,_,h5,h6⟩:=HR5.out.1 rfl
      rw[h5];omega
     |false=>
      obtain⟨h5,h6⟩:=HR5.out.2 rfl
      by_cases hq:(out++signB E.ere 40).length≤4096
      ·have:=(h6 (by rw[Bool.true_and];exact decide_eq_true hq)).1
       unfold BD at this;omega
      ·rw[h5 (by rw[Bool.true_and];exact decide_eq_false hq)]
       have:=signB_le E.ere 40;simp;omega
    refine(sign_call HS5.out 41 (by omega)).mono ?_
    rintro e w6 ⟨rfl,o6,a6,k6,v6,hs6,hb6,rfl,rfl,rfl⟩
    rw[show(41:UInt8).toNat=41 from rfl]at hs6
    have HS6:=Lib.hid hs6
    have HB6:=Lib.hid (HB5.out.trans hb6)
    clear hs6 hb6
    go_wp2_with fail
    go_end0
    refine⟨rfl,_,_,_,_,HS6.out,HB6.out,?_⟩
    exact Hd.wrap hl (by rw[Bool.true_and]) HR5.out (by rw[HR.out,if_neg HQ.out]) (by have:=signB_le E.ere 41;unfold BD;omega) (by have:=signB_le E.ere 40;have:=signB_le E.ere 41;unfold BD;omega)
  ·have p4:(y.op==4)=false:=beq_eq_false_iff_ne.2 y4
   have HQ:=Lib.hid (show¬(y.op=4∧y.kids=0)from fun e=>y4 e.1)
   clear y4
   go_wp2_with fail
   refine(HWC.out (g+1) (i+1) _ j en2 W3 _ _ v2 (by omega) hel2 HKID.out (by rw[←hi1];exact HS3.out) (by have:=signB_le E.ere 40;simp;omega) (fun e=>by simpa using e)).mono ?_
   rintro e w5 ⟨rfl,o5,a5,k5,v5,hs5,hb5,hr5⟩
   have HS5:=Lib.hid hs5
   have HB5:=Lib.hid (HB3.out.trans hb5)
   have HR5:=Lib.hid hr5
   have hxl5:=hs5.xlt
   have d6:=hs5.c6
   clear hs5 hb5 hr5 hxl3 d3 fz3 b0 b1 b2 b3 b4 b5 b6 b7 b8 zB Bl
   go_wp2_with fail
   have hl5:o5.length≤90000 - 4000:=by
    cases k5 with
    |true=>
     obtain⟨_,s,_,_,h5,h6⟩:=HR5.out.1 rfl
     rw[h5];omega
    |false=>
     obtain⟨h5,h6⟩:=HR5.out.2 rfl
     by_cases hq:(out++signB E.ere 40).length≤4096
     ·have:=(h6 (by rw[Bool.true_and];exact decide_eq_true hq)).1
      unfold BD at this;omega
     ·rw[h5 (by rw[Bool.true_and];exact decide_eq_false hq)]
      have:=signB_le E.ere 40;simp;omega
   refine(sign_call HS5.out 41 (by omega)).mono ?_
   rintro e w6 ⟨rfl,o6,a6,k6,v6,hs6,hb6,rfl,rfl,rfl⟩
   rw[show(41:UInt8).toNat=41 from rfl]at hs6
   have HS6:=Lib.hid hs6
   have HB6:=Lib.hid (HB5.out.trans hb6)
   clear hs6 hb6
   go_wp2_with fail
   go_end0
   refine⟨rfl,_,_,_,_,HS6.out,HB6.out,?_⟩
   exact Hd.wrap hl (by rw[Bool.true_and]) HR5.out (by rw[HR.out,if_neg HQ.out]) (by have:=signB_le E.ere 41;unfold BD;omega) (by have:=signB_le E.ere 40;have:=signB_le E.ere 41;unfold BD;omega)
 have q7:(x'.op==7)=false:=beq_eq_false_iff_ne.2 h7
 by_cases h8:x'.op=8
 ·have q8:(x'.op==8)=true:=by rw[h8];rfl
  have HN:=Lib.hid (HK.out.ref h8)
  have H0:=Lib.hid h8
  have c1:=H1.out.c1
  have c4:=H1.out.c4
  have fz4:=H1.out.fz 4
  clear h8
  cases hE:E.ere with
  |true=>
   rw[hE]at c1
   have HE:=Lib.hid hE
   clear hE
   have HS2:=Lib.hid (H1.out.setOk false)
   have HB2:=Lib.hid (HBB.out.store 4 (.bool false))
   have HX2:=Lib.hid (HXX.out.next ((SpB.refl W1 E ov).store 4 (.bool false)))
   go_upto_region 15 with fail
   generalize W1.setCell ⟨E.bx,4,none⟩ (.bool false)=W2 at HS2 HB2 HX2 ⊢
   clear hxl hBl c3 c6 c4 c1 fz4 m0 m1 m2 m3 m4 m5 m6 m7 m8
   have hxl:=HS2.out.xlt
   have hBl:=HX2.out.lt
   obtain⟨_,_,m5,_⟩:=HX2.out.cells
   have k5:=HS2.out.c5
   go_wp2_with fail
   refine wp_region_segs (X:=none) 8 [([0,1,2,3,4,5],6)] [7] (by kernel_rfl) (by kernel_rfl) rfl (fun _ _ _ _ _ h=>h) ?_
   simp only[wpSegs,pickSegs_nil,pickSegs_cons,pickOps_nil,pickOps_cons,List.getD_cons_zero,List.getD_cons_succ,List.drop_succ_cons,List.drop_zero]
   repeat (go_big_quiet_step (fail))
   refine wpQuiet_nil ?_
   go_wp2_with fail
   refine(itoa_call (n:=x'.n) (by have:=HN.out;omega) (by have:=HN.out;omega) (w:=W2.drew) HS2.out.drew.tabs.pw).mono ?_;rintro e w6 ⟨rfl,hb6⟩
   have HS6:=Lib.hid (HS2.out.drew.below hb6)
   have HB6:=Lib.hid ((HB2.out.below (Below.refl _ _).drew).below hb6)
   have HK6:=Lib.hid (Keeps.of_below (X:=none) hb6)
   clear hb6 hxl hBl m5 k5
   have hs1:=itoa_bytes x'.n
   generalize (⟨(Lib.itoa x'.n).toArray⟩:ByteArray)=s1 at hs1 ⊢
   have hlen:=itoB_len (m:=x'.n) (by have:=HN.out;omega) (by have:=HN.out;omega)
   have hz:1+s1.size≤9223372036854775807:=by rw[←bytesOf_length,hs1];omega
   have HS1:=Lib.hid hs1
   clear hs1
   go_wp2_with fail
   refine⟨HK6.out,?_⟩
   go_wp2_with fail
   repeat (go_big_quiet_step (fail))
   refine wpQuiet_nil ?_
   go_wp2_with fail
   refine(says_lit HS6.out _ (92::itoB x'.n) (by rw[bytesOf_append,HS1.out];rfl) (by omega) (by simp;omega)).mono ?_
   rintro e w7 ⟨rfl,o7,a7,kk7,v7,hs7,hb7,rfl,rfl,rfl⟩
   have HS7:=Lib.hid hs7
   have HB7:=Lib.hid (HB6.out.trans hb7)
   clear hs7 hb7
   go_wp2_with fail
   go_end0
   refine⟨rfl,_,_,_,_,HS7.out,HB7.out,?_⟩
   have hj:=HK.out.leaf (.inr H0.out)
   rw[show _=j from hi1.trans hj.symm]
   refine Hd.said _ (by omega) (by unfold BD;simp;omega) ?_
   unfold atomP
   rw[HK.out.hx]
   simp only[H0.out,if_neg (show¬(8:Int)=1 by decide),if_neg (show¬(8:Int)=7 by decide),if_true,hj]
   rw[if_pos (.inl HE.out)];simp
  |false=>
   rw[hE]at c1
   have HE:=Lib.hid hE
   clear hE
   have HS2:=Lib.hid (H1.out.setOk (decide (x'.n≤9)))
   have HB2:=Lib.hid (HBB.out.store 4 (.bool (decide (x'.n≤9))))
   have HX2:=Lib.hid (HXX.out.next ((SpB.refl W1 E ov).store 4 (.bool (decide (x'.n≤9)))))
   go_upto_region 15 with fail
   generalize W1.setCell ⟨E.bx,4,none⟩ (.bool (decide (x'.n≤9)))=W2 at HS2 HB2 HX2 ⊢
   clear hxl hBl c3 c6 c4 c1 fz4 m0 m1 m2 m3 m4 m5 m6 m7 m8
   have hxl:=HS2.out.xlt
   have hBl:=HX2.out.lt
   obtain⟨_,_,m5,_⟩:=HX2.out.cells
   have k5:=HS2.out.c5
   go_wp2_with fail
   refine wp_region_segs (X:=none) 8 [([0,1,2,3,4,5],6)] [7] (by kernel_rfl) (by kernel_rfl) rfl (fun _ _ _ _ _ h=>h) ?_
   simp only[wpSegs,pickSegs_nil,pickSegs_cons,pickOps_nil,pickOps_cons,List.getD_cons_zero,List.getD_cons_succ,List.drop_succ_cons,List.drop_zero]
   repeat (go_big_quiet_step (fail))
   refine wpQuiet_nil ?_
   go_wp2_with fail
   refine(itoa_call (n:=x'.n) (by have:=HN.out;omega) (by have:=HN.out;omega) (w:=W2.drew) HS2.out.drew.tabs.pw).mono ?_;rintro e w6 ⟨rfl,hb6⟩
   have HS6:=Lib.hid (HS2.out.drew.below hb6)
   have HB6:=Lib.hid ((HB2.out.below (Below.refl _ _).drew).below hb6)
   have HK6:=Lib.hid (Keeps.of_below (X:=none) hb6)
   clear hb6 hxl hBl m5 k5
   have hs1:=itoa_bytes x'.n
   generalize (⟨(Lib.itoa x'.n).toArray⟩:ByteArray)=s1 at hs1 ⊢
   have hlen:=itoB_len (m:=x'.n) (by have:=HN.out;omega) (by have:=HN.out;omega)
   have hz:1+s1.size≤9223372036854775807:=by rw[←bytesOf_length,hs1];omega
   have HS1:=Lib.hid hs1
   clear hs1
   go_wp2_with fail
   refine⟨HK6.out,?_⟩
   go_wp2_with fail
   repeat (go_big_quiet_step (fail))
   refine wpQuiet_nil ?_
   go_wp2_with fail
   refine(says_lit HS6.out _ (92::itoB x'.n) (by rw[bytesOf_append,HS1.out];rfl) (by omega) (by simp;omega)).mono ?_
   rintro e w7 ⟨rfl,o7,a7,kk7,v7,hs7,hb7,rfl,rfl,rfl⟩
   have HS7:=Lib.hid hs7
   have HB7:=Lib.hid (HB6.out.trans hb7)
   clear hs7 hb7
   go_wp2_with fail
   go_end0
   refine⟨rfl,_,_,_,_,HS7.out,HB7.out,?_⟩
   have hj:=HK.out.leaf (.inr H0.out)
   rw[show _=j from hi1.trans hj.symm]
   refine Hd.said _ (by omega) (by unfold BD;simp;omega) ?_
   unfold atomP
   rw[HK.out.hx]
   simp only[H0.out,if_neg (show¬(8:Int)=1 by decide),if_neg (show¬(8:Int)=7 by decide),if_true,hj]
   simp only[HE.out,Bool.false_eq_true,false_or,decide_eq_true_eq]
   by_cases hq:x'.n≤9
   ·rw[if_neg (by omega),if_pos hq]
   ·rw[if_pos (by omega),if_neg hq]
 have q8:(x'.op==8)=false:=beq_eq_false_iff_ne.2 h8
 have fz4:=H1.out.fz 4
 have c4:=H1.out.c4
 have HBF:=Lib.hid (HBB.out.store 4 (.bool false))
 have HSF:=Lib.hid (H1.out.setOk false)
 go_wp2_with fail
 go_end0
 refine⟨rfl,_,_,_,_,HSF.out,HBF.out,fun h=>(by cases h),fun _=>⟨fun h=>(by cases h),fun _=>⟨by unfold BD;omega,fun s k e=>?_⟩⟩⟩
 unfold atomP at e
 rw[HK.out.hx]at e
 simp only[if_neg h1,if_neg h7,if_neg h8]at e
 cases e
end Go.Proofs.YtfjbnpdffillbaaGreatDoor
namespace Go.Proofs.YtfjbnpdffillbaaGreatDoor
open Go.RowKit
set_option maxRecDepth 100000 in
set_option maxHeartbeats 3200000 in
theorem atom_call {E:SpE} {f:Nat} (HO:Hid (OneC E f)) (g i:Nat) (en:List Bool) (j:Nat) (en':List Bool) (w:World) (out:List Nat) (ov:Value) (x:Nd) (hg:g≤64) (hel:en.length≤255) (hn:nodeN E.re f g i en=some (j,en')) (hx:E.re[i]?=some x) (h:SpS w E out i true ov) (hl:out.length≤4096):
  Calls Tryz.prog 115 #[.pointer (some ⟨E.bv,0,none⟩),.pointer (some ⟨E.br,0,none⟩)] w (SpP w E ov (Hd out true (BD f) j (atomP E.ere E.re (wholeP E.ere E.re (65 - g)) i))):=by
 have HCC:=Lib.hid (HO.out g i en j en' w.drew out ov x hg hel hn hx h.drew hl)
 have HB:=Lib.hid (SpB.of_below (w:=w) (E:=E) (ov:=ov) ((Below.refl _ w).drew))
 obtain⟨nb,no,hoa,hnd,nbl,hi',hnx⟩:=h.node hx
 obtain⟨n0,n1,n2,n3,n4,n5,n6,n7,n8⟩:=hnd.cells hx
 have d0:=h.xr
 have d1:=h.xv
 have d3:=h.c3
 have hvl:=h.lt
 have hxl:=h.xlt
 have hrl:E.br<w.heap.size:=by have:=h.ebr;omega
 rw[hoa]at d0
 clear h hnd hn hx
 go_enter Tryz.func115,Tryz.ntmps115
 refine wp_region_segs (X:=none) 8 [] [0,1,2,3,4,5,6,7] (by kernel_rfl) (by kernel_rfl) rfl (fun _ _ _ _ _ h=>h) ?_
 simp only[wpSegs,pickSegs_nil,pickOps_nil,pickOps_cons,List.getD_cons_zero,List.getD_cons_succ,List.drop_succ_cons,List.drop_zero]
 repeat (go_big_quiet_step (fail))
 refine wpQuiet_nil ?_
 go_wp2_with fail
 refine HCC.out.mono ?_
 rintro e w2 ⟨rfl,o2,a2,k2,v2,hs2,hb2,hr2⟩
 have HS2:=Lib.hid hs2
 have HB2:=Lib.hid (HB.out.trans hb2)
 have HR2:=Lib.hid hr2
 clear hs2 hb2 hr2
 go_wp2_with fail
 go_end0
 exact⟨rfl,_,_,_,_,HS2.out,HB2.out,HR2.out⟩
def PartC (E:SpE) (f:Nat):Prop:= ∀(g i:Nat) (en:List Bool) (j:Nat) (en':List Bool) (w:World) (out:List Nat) (ov:Value) (p q:Bool),g≤64→en.length≤255→nodeN E.re f g i en=some (j,en')→SpS w E out i true ov→out.length≤4096→
 Calls Tryz.prog 172 #[.pointer (some ⟨E.bx,0,none⟩),.bool p,.bool q] w (SpP w E ov (Hd out true (BD f) j (partP E.ere E.re (wholeP E.ere E.re (65 - g)) p q i)))
theorem dupB_length {ere:Bool} {n:Nd} (h1:0≤n.min∧n.min≤255) (h2: -1≤n.max∧n.max≤255):(dupB ere n).length≤50:=by
 unfold dupB
 split
 ·simp
 split
 ·simp
 split
 ·simp
 have a:=itoa_said (m:=n.min) (by omega) (by omega)
 have b:=itoa_said (m:=n.max) (by omega) (by omega)
 have c:=signB_le ere 123
 have d:=signB_le ere 125
 simp only[List.length_append]
 split
 ·simp;omega
 ·split
  ·simp;omega
  ·simp;omega
theorem BoxN.news {w:World} {E:SpE} {v:Value} {out:List Nat} {a:Nat} {k:Bool} (h:SpS w E out a k v) (x:Nd) (W:World) (hW:W=(w.alloc (.cells (ndCells x) 78)).drew):Hid (BoxN W E w.heap.size x v)∧Hid (SpS W E out a k v)∧Hid (SpB w E v W v):=by
 subst hW
 obtain⟨h1,h2,h3⟩:=BoxN.new h x _ rfl
 exact⟨h1.below (Below.refl _ _).drew,h2.drew,h3.below (Below.refl _ _).drew⟩
set_option maxRecDepth 100000 in
set_option maxHeartbeats 6400000 in
theorem part_call {E:SpE} (f:Nat) (hf:f≤260) (HO:Hid (OneC E (f+1))) (HOk:Hid (OneC E f)):PartC E (f+1):=by
 intro g i en j en' w out ov p q hg hel hn h hl
 obtain⟨x,hk⟩:=nodeN_at hn hel
 have H:=Lib.hid h
 have HK:=Lib.hid hk
 have HN:=Lib.hid hn
 have hi:=(List.getElem?_eq_some_iff.1 hk.hx).1
 have hre:=h.nd.len
 obtain⟨nb,no,hoa,hnd,nbl,hi',hnx⟩:=h.node hk.hx
 obtain⟨n0,n1,n2,n3,n4,n5,n6,n7,n8⟩:=hnd.cells hk.hx
 have d0:=h.c0
 have d3:=h.c3
 have d4:=h.c4
 have hxl:=h.xlt
 rw[hoa]at d0
 have hi64:(i:Int)<4294967296:=by omega
 clear h hk hn hnd
 go_enter Tryz.func172,Tryz.ntmps172
 go_upto_region 1 with fail
 refine wp_region_segs (X:=none) 11 [([0,1,2,3,4,5,6,7,8,9],10)] [] (by kernel_rfl) (by kernel_rfl) rfl (fun _ _ _ _ _ h=>h) ?_
 simp only[wpSegs,pickSegs_nil,pickSegs_cons,pickOps_nil,pickOps_cons,List.getD_cons_zero,List.getD_cons_succ,List.drop_succ_cons,List.drop_zero]
 repeat (go_big_quiet_step (fail))
 refine wpQuiet_nil ?_
 go_wp2_with fail
 refine⟨keeps_drew (keeps_alloc _ _),wpQuiet_nil ?_⟩
 go_upto_region 2 with fail
 obtain⟨HX3,HS3,HB3⟩:=BoxN.news H.out x _ rfl
 revert HS3 HB3 HX3
 simp only[ndCells]
 generalize (w.alloc (.cells #[.int .i8 x.op,.int .u64 x.set.w0.toNat,.int .u64 x.set.w1.toNat,.int .u64 x.set.w2.toNat,.int .u64 x.set.w3.toNat,.int .i64 x.n,.int .i64 x.min,.int .i64 x.max,.int .i64 x.kids] 78)).drew=W3
 intro HX3 HS3 HB3
 generalize w.heap.size=B3 at HX3 ⊢
 clear n0 n1 n2 n3 n4 n5 n6 n7 n8 d0 d3 d4 hxl H nbl
 have hxl:=HS3.out.xlt
 have d1:=HS3.out.c1
 have d3:=HS3.out.c3
 have d4:=HS3.out.c4
 have d5:=HS3.out.c5
 have d7:=HS3.out.c7
 have z3:=HS3.out.fz 3
 have z4:=HS3.out.fz 4
 obtain⟨b0,⟨b1,b2,b3,b4⟩,b5,b6,b7,b8⟩:=HX3.out.cells
 have Bl:=HX3.out.lt
 by_cases h2:x.op=2
 ·have q2:(x.op==2)=true:=by rw[h2];rfl
  have H0:=Lib.hid h2
  clear h2
  cases hE:E.ere with
  |true=>
   rw[hE]at d1
   have HE:=Lib.hid hE
   clear hE
   have HS4:=Lib.hid (HS3.out.setOk true)
   have HB4:=Lib.hid (HB3.out.store 4 (.bool true))
   go_upto_region 6 with fail
   generalize W3.setCell ⟨E.bx,4,none⟩ (.bool true)=W4 at HS4 HB4 ⊢
   clear hxl d1 d3 d4 d5 d7 z3 z4 b0 b1 b2 b3 b4 b5 b6 b7 b8 Bl HX3 HS3 HB3
   have hxl:=HS4.out.xlt
   have d5:=HS4.out.c5
   go_wp2_with fail
   refine(says_lit HS4.out _ [94] rfl (by omega) (by simp)).mono ?_
   rintro e w5 ⟨rfl,o5,a5,k5,v5,hs5,hb5,rfl,rfl,rfl⟩
   have HS5:=Lib.hid hs5
   have hxl5:=hs5.xlt
   have d3:=hs5.c3
   have z3:=hs5.fz 3
   have HB5:=Lib.hid (HB4.out.trans hb5)
   have HS6:=Lib.hid (hs5.setAt (a5+1))
   have HB6:=Lib.hid (HB5.out.store 3 (.int .i64 ((a5+1:Nat))))
   clear hs5 hb5 hxl d5
   go_wp2_with fail
   go_end0
   refine⟨rfl,_,_,_,_,HS6.out,HB6.out,?_⟩
   have hj:=HK.out.leaf (.inl (by have:=H0.out;omega))
   rw[←hj]
   refine Hd.said _ (by omega) (by unfold BD;simp;omega) ?_
   unfold partP
   rw[HK.out.hx]
   simp only[H0.out,if_true,hj,HE.out,Bool.true_or]
  |false=>
   rw[hE]at d1
   have HE:=Lib.hid hE
   clear hE
   have HS4:=Lib.hid (HS3.out.setOk p)
   have HB4:=Lib.hid (HB3.out.store 4 (.bool p))
   go_upto_region 6 with fail
   generalize W3.setCell ⟨E.bx,4,none⟩ (.bool p)=W4 at HS4 HB4 ⊢
   clear hxl d1 d3 d4 d5 d7 z3 z4 b0 b1 b2 b3 b4 b5 b6 b7 b8 Bl HX3 HS3 HB3
   have hxl:=HS4.out.xlt
   have d5:=HS4.out.c5
   go_wp2_with fail
   refine(says_lit HS4.out _ [94] rfl (by omega) (by simp)).mono ?_
   rintro e w5 ⟨rfl,o5,a5,k5,v5,hs5,hb5,rfl,rfl,rfl⟩
   have HS5:=Lib.hid hs5
   have hxl5:=hs5.xlt
   have d3:=hs5.c3
   have z3:=hs5.fz 3
   have HB5:=Lib.hid (HB4.out.trans hb5)
   have HS6:=Lib.hid (hs5.setAt (a5+1))
   have HB6:=Lib.hid (HB5.out.store 3 (.int .i64 ((a5+1:Nat))))
   clear hs5 hb5 hxl d5
   go_wp2_with fail
   go_end0
   refine⟨rfl,_,_,_,_,HS6.out,HB6.out,?_⟩
   have hj:=HK.out.leaf (.inl (by have:=H0.out;omega))
   rw[←hj]
   refine Hd.said _ (by omega) (by unfold BD;simp;omega) ?_
   unfold partP
   rw[HK.out.hx]
   simp only[H0.out,if_true,hj,HE.out,Bool.false_or]
 have q2:(x.op==2)=false:=beq_eq_false_iff_ne.2 h2
 by_cases h3:x.op=3
 ·have q3:(x.op==3)=true:=by rw[h3];rfl
  have H0:=Lib.hid h3
  clear h3
  cases hE:E.ere with
  |true=>
   rw[hE]at d1
   have HE:=Lib.hid hE
   clear hE
   have HS4:=Lib.hid (HS3.out.setOk true)
   have HB4:=Lib.hid (HB3.out.store 4 (.bool true))
   go_upto_region 10 with fail
   generalize W3.setCell ⟨E.bx,4,none⟩ (.bool true)=W4 at HS4 HB4 ⊢
   clear hxl d1 d3 d4 d5 d7 z3 z4 b0 b1 b2 b3 b4 b5 b6 b7 b8 Bl HX3 HS3 HB3
   have hxl:=HS4.out.xlt
   have d5:=HS4.out.c5
   go_wp2_with fail
   refine(says_lit HS4.out _ [36] rfl (by omega) (by simp)).mono ?_
   rintro e w5 ⟨rfl,o5,a5,k5,v5,hs5,hb5,rfl,rfl,rfl⟩
   have HS5:=Lib.hid hs5
   have hxl5:=hs5.xlt
   have d3:=hs5.c3
   have z3:=hs5.fz 3
   have HB5:=Lib.hid (HB4.out.trans hb5)
   have HS6:=Lib.hid (hs5.setAt (a5+1))
   have HB6:=Lib.hid (HB5.out.store 3 (.int .i64 ((a5+1:Nat))))
   clear hs5 hb5 hxl d5
   go_wp2_with fail
   go_end0
   refine⟨rfl,_,_,_,_,HS6.out,HB6.out,?_⟩
   have hj:=HK.out.leaf (.inl (by have:=H0.out;omega))
   rw[←hj]
   refine Hd.said _ (by omega) (by unfold BD;simp;omega) ?_
   unfold partP
   rw[HK.out.hx]
   simp only[H0.out,if_neg (show¬(3:Int)=2 by decide),if_true,hj,HE.out,Bool.true_or]
  |false=>
   rw[hE]at d1
   have HE:=Lib.hid hE
   clear hE
   have HS4:=Lib.hid (HS3.out.setOk q)
   have HB4:=Lib.hid (HB3.out.store 4 (.bool q))
   go_upto_region 10 with fail
   generalize W3.setCell ⟨E.bx,4,none⟩ (.bool q)=W4 at HS4 HB4 ⊢
   clear hxl d1 d3 d4 d5 d7 z3 z4 b0 b1 b2 b3 b4 b5 b6 b7 b8 Bl HX3 HS3 HB3
   have hxl:=HS4.out.xlt
   have d5:=HS4.out.c5
   go_wp2_with fail
   refine(says_lit HS4.out _ [36] rfl (by omega) (by simp)).mono ?_
   rintro e w5 ⟨rfl,o5,a5,k5,v5,hs5,hb5,rfl,rfl,rfl⟩
   have HS5:=Lib.hid hs5
   have hxl5:=hs5.xlt
   have d3:=hs5.c3
   have z3:=hs5.fz 3
   have HB5:=Lib.hid (HB4.out.trans hb5)
   have HS6:=Lib.hid (hs5.setAt (a5+1))
   have HB6:=Lib.hid (HB5.out.store 3 (.int .i64 ((a5+1:Nat))))
   clear hs5 hb5 hxl d5
   go_wp2_with fail
   go_end0
   refine⟨rfl,_,_,_,_,HS6.out,HB6.out,?_⟩
   have hj:=HK.out.leaf (.inl (by have:=H0.out;omega))
   rw[←hj]
   refine Hd.said _ (by omega) (by unfold BD;simp;omega) ?_
   unfold partP
   rw[HK.out.hx]
   simp only[H0.out,if_neg (show¬(3:Int)=2 by decide),if_true,hj,HE.out,Bool.false_or]
 have q3:(x.op==3)=false:=beq_eq_false_iff_ne.2 h3
 by_cases h6:x.op=6
 ·have q6:(x.op==6)=true:=by rw[h6];rfl
  have H0:=Lib.hid h6
  clear h6
  obtain⟨r1,r2,en2,hkid⟩:=HK.out.rep H0.out
  have R1:=Lib.hid r1
  have R2:=Lib.hid r2
  have HKID:=Lib.hid hkid
  clear r1 r2 hkid
  obtain⟨y,hy⟩: ∃y,E.re[i+1]?=some y:=by
   cases f with
   |zero=>have:=HKID.out;simp[nodeN]at this
   |succ f'=>exact⟨_,(nodeN_at HKID.out hel).choose_spec.hx⟩
  have HY:=Lib.hid hy
  clear hy
  have HS4:=Lib.hid (HS3.out.setAt (i+1))
  have HB4:=Lib.hid (HB3.out.store 3 (.int .i64 ((i+1:Nat))))
  have HX4:=Lib.hid (HX3.out.next ((SpB.refl W3 E ov).store 3 (.int .i64 ((i+1:Nat)))))
  rw[show(((i+1:Nat)):Int)=(i:Int)+1 by omega]at HB4 HX4
  have hcast:SpS (W3.setCell ⟨E.bx,3,none⟩ (.int .i64 ((i:Int)+1))) E out (i+1) true ov:=HS4.out
  have HS4:=Lib.hid hcast
  clear hcast
  go_upto_region 14 with fail
  generalize W3.setCell ⟨E.bx,3,none⟩ (.int .i64 ((i:Int)+1))=W4 at HS4 HB4 HX4 ⊢
  rename_i HS4old
  clear hxl d1 d3 d4 d5 d7 z3 z4 b0 b1 b2 b3 b4 b5 b6 b7 b8 Bl HX3 HS3 HB3
  have hxl:=HS4.out.xlt
  have d7:=HS4.out.c7
  go_wp2_with fail
  refine(atom_call HOk g (i+1) en j en2 W4 out ov y hg hel HKID.out HY.out HS4.out hl).mono ?_
  rintro e w5 ⟨rfl,o5,a5,k5,v5,hs5,hb5,hr5⟩
  have HS5:=Lib.hid hs5
  have HB5:=Lib.hid (HB4.out.trans hb5)
  have HX5:=Lib.hid (HX4.out.next hb5)
  have HR5:=Lib.hid hr5
  clear hs5 hb5 hr5 hxl d7
  have hl5:o5.length≤80000:=by
   cases k5 with
   |true=>
    obtain⟨_,s,_,_,h5,h6⟩:=HR5.out.1 rfl
    rw[h5];omega
   |false=>
    have:=((HR5.out.2 rfl).2 rfl).1
    unfold BD at this;omega
  have hxl:=HS5.out.xlt
  obtain⟨b0,⟨b1,b2,b3,b4⟩,b5,b6,b7,b8⟩:=HX5.out.cells
  have Bl:=HX5.out.lt
  go_wp2_with fail
  refine(times_call HS5.out x R1.out R2.out hl5).mono ?_
  rintro e w6 ⟨rfl,o6,a6,k6,v6,hs6,hb6,rfl,rfl,rfl⟩
  have HS6:=Lib.hid hs6
  have HB6:=Lib.hid (HB5.out.trans hb6)
  clear hs6 hb6
  go_wp2_with fail
  go_end0
  refine⟨rfl,_,_,_,_,HS6.out,HB6.out,?_⟩
  have hdl:=dupB_length (ere:=E.ere) R1.out R2.out
  refine Hd.wrap (A:=[]) (B1:=BD f) (ok:=true) (r:=atomP E.ere E.re (wholeP E.ere E.re (65 - g)) (i+1)) hl (by simpa using hl) (by simpa using HR5.out) ?_ (by unfold BD;omega) (by unfold BD;simp;omega)
  unfold partP
  rw[HK.out.hx]
  simp only[H0.out,if_neg (show¬(6:Int)=2 by decide),if_neg (show¬(6:Int)=3 by decide),if_true]
  cases atomP E.ere E.re (wholeP E.ere E.re (65 - g)) (i+1)<;>rfl
 have q6:(x.op==6)=false:=beq_eq_false_iff_ne.2 h6
 have H0:=Lib.hid (And.intro h2 (And.intro h3 h6))
 go_wp2_with fail
 refine(atom_call HO g i en j en' W3 out ov x hg hel HN.out HK.out.hx HS3.out hl).mono ?_
 rintro e w5 ⟨rfl,o5,a5,k5,v5,hs5,hb5,hr5⟩
 have HS5:=Lib.hid hs5
 have HB5:=Lib.hid (HB3.out.trans hb5)
 have HR5:=Lib.hid hr5
 clear hs5 hb5 hr5
 go_wp2_with fail
 go_end0
 refine⟨rfl,_,_,_,_,HS5.out,HB5.out,?_⟩
 have:partP E.ere E.re (wholeP E.ere E.re (65 - g)) p q i=atomP E.ere E.re (wholeP E.ere E.re (65 - g)) i:=by
  rw[partP,HK.out.hx]
  simp only[if_neg H0.out.1,if_neg H0.out.2.1,if_neg H0.out.2.2]
 rw[this]
 exact HR5.out
end Go.Proofs.YtfjbnpdffillbaaGreatDoor
namespace Go.Proofs.YtfjbnpdffillbaaGreatDoor
open Go.RowKit
def RowC (E:SpE) (f:Nat):Prop:= ∀(g i:Nat) (en:List Bool) (j:Nat) (en':List Bool) (w:World) (out:List Nat) (ok:Bool) (ov:Value),g≤64→en.length≤255→nodeN E.re f g i en=some (j,en')→SpS w E out i ok ov→out.length≤4200→(ok=true→out.length≤4096)→
 Calls Tryz.prog 147 #[.pointer (some ⟨E.bx,0,none⟩)] w (SpP w E ov (Hd out ok (BD f) j (rowP E.ere E.re (wholeP E.ere E.re (65 - g)) i)))
theorem kidsN_first {G:Nat→List Bool→Option (Nat × List Bool)} {m a:Nat} {en:List Bool} {r:Nat × List Bool} (h:kidsN G (m+1) a en=some r): ∃j1 en3,G a en=some (j1,en3):=by
 unfold kidsN at h
 split at h
 ·cases h
 ·exact⟨_,_,by assumption⟩
theorem map_nil_id (r:Option (List Nat × Nat)):r=r.map fun p=>(([]:List Nat)++p.1,p.2):=by cases r<;>rfl
set_option maxRecDepth 100000 in
set_option maxHeartbeats 6400000 in
theorem row_call {E:SpE} (f:Nat) (hf:f≤260) (HP:Hid (PartC E (f+1))) (HPk:Hid (PartC E f)):RowC E (f+1):=by
 intro g i en j en' w out ok ov hg hel hn h hl0 hl
 obtain⟨x,hk⟩:=nodeN_at hn hel
 have H:=Lib.hid h
 have HK:=Lib.hid hk
 have HN:=Lib.hid hn
 have HL:=Lib.hid hl
 have hi:=(List.getElem?_eq_some_iff.1 hk.hx).1
 have hre:=h.nd.len
 obtain⟨nb,no,hoa,hnd,nbl,hi',hnx⟩:=h.node hk.hx
 obtain⟨n0,n1,n2,n3,n4,n5,n6,n7,n8⟩:=hnd.cells hk.hx
 have hkm:=hnd.k x (List.mem_of_getElem? hk.hx)
 have d0:=h.c0
 have d3:=h.c3
 have hxl:=h.xlt
 rw[hoa]at d0
 have hi64:(i:Int)<4294967296:=by omega
 clear h hk hn hnd hl
 go_enter Tryz.func147,Tryz.ntmps147
 go_upto_region 0 with fail
 refine wp_region_segs (X:=none) 11 [([0,1,2,3,4,5,6,7,8,9],10)] [] (by kernel_rfl) (by kernel_rfl) rfl (fun _ _ _ _ _ h=>h) ?_
 simp only[wpSegs,pickSegs_nil,pickSegs_cons,pickOps_nil,pickOps_cons,List.getD_cons_zero,List.getD_cons_succ,List.drop_succ_cons,List.drop_zero]
 repeat (go_big_quiet_step (fail))
 refine wpQuiet_nil ?_
 go_wp2_with fail
 refine⟨keeps_drew (keeps_alloc _ _),wpQuiet_nil ?_⟩
 go_upto_region 1 with fail
 obtain⟨HX3,HS3,HB3⟩:=BoxN.news H.out x _ rfl
 revert HS3 HB3 HX3
 simp only[ndCells]
 generalize (w.alloc (.cells #[.int .i8 x.op,.int .u64 x.set.w0.toNat,.int .u64 x.set.w1.toNat,.int .u64 x.set.w2.toNat,.int .u64 x.set.w3.toNat,.int .i64 x.n,.int .i64 x.min,.int .i64 x.max,.int .i64 x.kids] 78)).drew=W3
 intro HX3 HS3 HB3
 generalize w.heap.size=B3 at HX3 ⊢
 clear n0 n1 n2 n3 n4 n5 n6 n7 n8 d0 d3 hxl H nbl
 have hxl:=HS3.out.xlt
 have d3:=HS3.out.c3
 have d4:=HS3.out.c4
 have z3:=HS3.out.fz 3
 have z4:=HS3.out.fz 4
 obtain⟨b0,⟨b1,b2,b3,b4⟩,b5,b6,b7,b8⟩:=HX3.out.cells
 have Bl:=HX3.out.lt
 by_cases h4:x.op=4
 ·have q4:(x.op !=4)=false:=by rw[h4];rfl
  have H0:=Lib.hid h4
  obtain⟨en2,hkid⟩:=HK.out.kids (.inl h4)
  have HKID:=Lib.hid hkid
  obtain⟨K,hK⟩: ∃K:Nat,x.kids=(K:Int):=⟨x.kids.toNat,by have:=HK.out.cat h4;omega⟩
  rw[hK]at b8 hkm
  have HKK:=Lib.hid hK
  have HRow:=Lib.hid (show rowP E.ere E.re (wholeP E.ere E.re (65 - g)) i=if K=0 then none else partsP E.ere E.re (wholeP E.ere E.re (65 - g)) K true (i+1)by
   rw[rowP,HK.out.hx]
   simp only[H0.out,ne_eq,not_true_eq_false,if_false,HKK.out]
   by_cases hz:K=0
   ·rw[if_pos (by omega),if_pos hz]
   ·rw[if_neg (by omega),if_neg hz];simp)
  clear h4 hkid hK
  have HS4:=Lib.hid (HS3.out.setAt (i+1))
  have HB4:=Lib.hid (HB3.out.store 3 (.int .i64 ((i+1:Nat))))
  have HX4:=Lib.hid (HX3.out.next ((SpB.refl W3 E ov).store 3 (.int .i64 ((i+1:Nat)))))
  have hcast:SpS (W3.setCell ⟨E.bx,3,none⟩ (.int .i64 ((i:Int)+1))) E out (i+1) ok ov:=HS4.out
  clear HS4
  have HS4:=Lib.hid hcast
  rw[show(((i+1:Nat)):Int)=(i:Int)+1 by omega]at HB4 HX4
  clear hcast
  go_upto_region 4 with fail
  generalize W3.setCell ⟨E.bx,3,none⟩ (.int .i64 ((i:Int)+1))=W4 at HS4 HB4 HX4 ⊢
  clear hxl d3 d4 z3 z4 b0 b1 b2 b3 b4 b5 b6 b7 Bl HX3 HS3 HB3
  have hxl:=HS4.out.xlt
  have d4:=HS4.out.c4
  have z4:=HS4.out.fz 4
  clear b8
  obtain⟨_,_,_,_,_,b8⟩:=HX4.out.cells
  rw[HKK.out]at b8
  have Bl:=HX4.out.lt
  cases ok with
  |false=>
   have HS5:=Lib.hid (HS4.out.setOk false)
   have HB5:=Lib.hid (HB4.out.store 4 (.bool false))
   have HX5:=Lib.hid (HX4.out.next ((SpB.refl W4 E ov).store 4 (.bool false)))
   go_upto_region 5 with fail
   generalize W4.setCell ⟨E.bx,4,none⟩ (.bool false)=W5 at HS5 HB5 HX5 ⊢
   clear hxl d4 z4 b8 Bl HX4 HS4 HB4
   have hxl:=HS5.out.xlt
   obtain⟨_,_,_,_,_,b8⟩:=HX5.out.cells
   rw[HKK.out]at b8
   have Bl:=HX5.out.lt
   go_wp2_with fail
   go_loopg [3,40] K (fun n _ iv wr=> ∃(d:Nat) (o':List Nat) (a':Nat) (k':Bool) (v':Value),iv= .int .i64 (d:Nat)∧n=K - d∧d≤K∧SpS wr E o' a' k' v'∧SpB w E ov wr v'∧BoxN wr E B3 x v'∧LI out false (BD (f+1)) (rowP E.ere E.re (wholeP E.ere E.re (65 - g)) i) (partsP E.ere E.re (wholeP E.ere E.re (65 - g)) (K - d) (d==0)) (kidsN (nodeN E.re f g) (K - d)) j o' a' k')
   case atStart=>
    refine⟨0,_,_,_,_,rfl,rfl,Nat.zero_le _,HS5.out,HB5.out,HX5.out,?_⟩
    exact LI.off
   case round=>
    obtain⟨d,o',a',k',v',rfl,hg',hd,hS,hB,hX,hI⟩:=hrel
    have HG:=Lib.hid hg'
    have HS:=Lib.hid hS
    have HB:=Lib.hid hB
    have HX:=Lib.hid hX
    have HI:=Lib.hid hI
    have hxlr:=hS.xlt
    clear b8 Bl hxl
    obtain⟨_,_,_,_,_,b8⟩:=hX.cells
    rw[HKK.out]at b8
    have Bl:=hX.lt
    clear hg' hS hB hX hI
    by_cases hlt:d<K
    ·have hlt':(d:Int)<(K:Int):=by omega
     obtain⟨m,hm⟩: ∃m,K - d=m+1:=⟨K - d - 1,by omega⟩
     have HM:=Lib.hid hm
     clear hm
     have E1:=Lib.hid (show((d:Int)==0)=(d==0)by rw[Bool.eq_iff_iff];simp)
     have E2:=Lib.hid (show((d:Int)==(K:Int) - 1)=(m==0)by rw[Bool.eq_iff_iff];have:=HM.out;simp;omega)
     have hK1: -9223372036854775808≤(K:Int) - 1:=by omega
     have hK2:(K:Int) - 1≤9223372036854775807:=by omega
     have hd64:(d:Int)+1≤9223372036854775807:=by omega
     cases hk':k' with
     |true=>
      subst hk'
      exact absurd (HI.out.1 rfl).1 (by decide)
     |false=>
      subst hk'
      have HCC:=Lib.hid (part_off HS.out ((d:Int)==0) ((d:Int)==(K:Int) - 1))
      go_wp2_with fail
      refine HCC.out.mono ?_
      rintro e w6 ⟨rfl,o6,a6,k6,v6,hs6,hb6,rfl,rfl,rfl⟩
      have HS6:=Lib.hid hs6
      have HB6:=Lib.hid (HB.out.trans hb6)
      have HX6:=Lib.hid (HX.out.next hb6)
      clear hs6 hb6
      go_wp2_with fail
      go_roundg (K - (d+1))
      case measure=>have:=HG.out;omega
      case rel=>
      exact⟨d+1,_,_,_,_,by go_num,rfl,by omega,HS6.out,HB6.out,HX6.out,HI.out.next_off⟩
    ·obtain rfl:d=K:=by omega
     go_wp2_with fail
     go_end0
     refine⟨rfl,_,_,_,_,HS.out,HB.out,HI.out.done (fun a=>?_) (fun a e=>?_)⟩
     ·rw[Nat.sub_self];rfl
     ·rw[Nat.sub_self];rfl
  |true=>
   by_cases hz:K=0
   ·have p0:decide (0<K)=false:=decide_eq_false (by omega)
    have HZ:=Lib.hid hz
    clear hz
    have HS5:=Lib.hid (HS4.out.setOk false)
    have HB5:=Lib.hid (HB4.out.store 4 (.bool false))
    have HX5:=Lib.hid (HX4.out.next ((SpB.refl W4 E ov).store 4 (.bool false)))
    go_upto_region 5 with fail
    clear p0
    generalize W4.setCell ⟨E.bx,4,none⟩ (.bool false)=W5 at HS5 HB5 HX5 ⊢
    clear hxl d4 z4 b8 Bl HX4 HS4 HB4
    have hxl:=HS5.out.xlt
    obtain⟨_,_,_,_,_,b8⟩:=HX5.out.cells
    rw[HKK.out]at b8
    have Bl:=HX5.out.lt
    go_wp2_with fail
    go_loopg [3,40] K (fun n _ iv wr=> ∃(d:Nat) (o':List Nat) (a':Nat) (k':Bool) (v':Value),iv= .int .i64 (d:Nat)∧n=K - d∧d≤K∧SpS wr E o' a' k' v'∧SpB w E ov wr v'∧BoxN wr E B3 x v'∧LI out true (BD (f+1)) (rowP E.ere E.re (wholeP E.ere E.re (65 - g)) i) (partsP E.ere E.re (wholeP E.ere E.re (65 - g)) (K - d) (d==0)) (kidsN (nodeN E.re f g) (K - d)) j o' a' k')
    case atStart=>
     refine⟨0,_,_,_,_,rfl,rfl,Nat.zero_le _,HS5.out,HB5.out,HX5.out,?_⟩
     exact⟨fun e=>(by cases e),fun _=>⟨fun e=>(by cases e),fun _=>⟨by unfold BD;omega,fun s e h=>(by rw[HRow.out,if_pos HZ.out]at h;cases h)⟩⟩⟩
    case round=>
     obtain⟨d,o',a',k',v',rfl,hg',hd,hS,hB,hX,hI⟩:=hrel
     have HG:=Lib.hid hg'
     have HS:=Lib.hid hS
     have HB:=Lib.hid hB
     have HX:=Lib.hid hX
     have HI:=Lib.hid hI
     have hxlr:=hS.xlt
     clear b8 Bl hxl
     obtain⟨_,_,_,_,_,b8⟩:=hX.cells
     rw[HKK.out]at b8
     have Bl:=hX.lt
     clear hg' hS hB hX hI
     by_cases hlt:d<K
     ·have hlt':(d:Int)<(K:Int):=by omega
      obtain⟨m,hm⟩: ∃m,K - d=m+1:=⟨K - d - 1,by omega⟩
      have HM:=Lib.hid hm
      clear hm
      have E1:=Lib.hid (show((d:Int)==0)=(d==0)by rw[Bool.eq_iff_iff];simp)
      have E2:=Lib.hid (show((d:Int)==(K:Int) - 1)=(m==0)by rw[Bool.eq_iff_iff];have:=HM.out;simp;omega)
      have hK1: -9223372036854775808≤(K:Int) - 1:=by omega
      have hK2:(K:Int) - 1≤9223372036854775807:=by omega
      have hd64:(d:Int)+1≤9223372036854775807:=by omega
      cases hk':k' with
      |true=>
       subst hk'
       obtain⟨hok,s,en3,ho',hol,he3,⟨en4,hkn⟩,hr⟩:=HI.out.1 rfl
       clear hok
       rw[HM.out]at hkn hr
       obtain⟨j1,en5,hG⟩:=kidsN_first hkn
       have HGG:=Lib.hid hG
       have HKN:=Lib.hid hkn
       have HR:=Lib.hid hr
       subst ho'
       clear hG hkn hr
       have HCC:=Lib.hid (HPk.out g a' en3 j1 en5 wr (out++s) v' ((d:Int)==0) ((d:Int)==(K:Int) - 1) hg he3 HGG.out HS.out hol)
       go_wp2_with fail
       refine HCC.out.mono ?_
       rintro e w6 ⟨rfl,o6,a6,k6,v6,hs6,hb6,hr6⟩
       have HS6:=Lib.hid hs6
       have HB6:=Lib.hid (HB.out.trans hb6)
       have HX6:=Lib.hid (HX.out.next hb6)
       rw[E1.out,E2.out]at hr6
       have HR6:=Lib.hid hr6
       clear hs6 hb6 hr6
       go_wp2_with fail
       go_roundg (K - (d+1))
       case measure=>have:=HG.out;omega
       case rel=>
       refine⟨d+1,_,_,_,_,by go_num,rfl,by omega,HS6.out,HB6.out,HX6.out,?_⟩
       have e3:K - (d+1)=m:=by have:=HM.out;omega
       rw[e3,show((d+1)==0)=false from rfl]
       exact LI.next HR.out HKN.out HGG.out (nodeN_el _ _ _ _ _ _ HGG.out he3) (partsP_next ..) HR6.out (by unfold BD;omega)
      |false=>
       subst hk'
       have HCC:=Lib.hid (part_off HS.out ((d:Int)==0) ((d:Int)==(K:Int) - 1))
       go_wp2_with fail
       refine HCC.out.mono ?_
       rintro e w6 ⟨rfl,o6,a6,k6,v6,hs6,hb6,rfl,rfl,rfl⟩
       have HS6:=Lib.hid hs6
       have HB6:=Lib.hid (HB.out.trans hb6)
       have HX6:=Lib.hid (HX.out.next hb6)
       clear hs6 hb6
       go_wp2_with fail
       go_roundg (K - (d+1))
       case measure=>have:=HG.out;omega
       case rel=>
       exact⟨d+1,_,_,_,_,by go_num,rfl,by omega,HS6.out,HB6.out,HX6.out,HI.out.next_off⟩
     ·obtain rfl:d=K:=by omega
      go_wp2_with fail
      go_end0
      refine⟨rfl,_,_,_,_,HS.out,HB.out,HI.out.done (fun a=>?_) (fun a e=>?_)⟩
      ·rw[Nat.sub_self];rfl
      ·rw[Nat.sub_self];rfl
   ·have p0:decide (0<K)=true:=decide_eq_true (by omega)
    have HZ:=Lib.hid hz
    clear hz
    have HS5:=Lib.hid (HS4.out.setOk true)
    have HB5:=Lib.hid (HB4.out.store 4 (.bool true))
    have HX5:=Lib.hid (HX4.out.next ((SpB.refl W4 E ov).store 4 (.bool true)))
    go_upto_region 5 with fail
    clear p0
    generalize W4.setCell ⟨E.bx,4,none⟩ (.bool true)=W5 at HS5 HB5 HX5 ⊢
    clear hxl d4 z4 b8 Bl HX4 HS4 HB4
    have hxl:=HS5.out.xlt
    obtain⟨_,_,_,_,_,b8⟩:=HX5.out.cells
    rw[HKK.out]at b8
    have Bl:=HX5.out.lt
    go_wp2_with fail
    go_loopg [3,40] K (fun n _ iv wr=> ∃(d:Nat) (o':List Nat) (a':Nat) (k':Bool) (v':Value),iv= .int .i64 (d:Nat)∧n=K - d∧d≤K∧SpS wr E o' a' k' v'∧SpB w E ov wr v'∧BoxN wr E B3 x v'∧LI out true (BD (f+1)) (rowP E.ere E.re (wholeP E.ere E.re (65 - g)) i) (partsP E.ere E.re (wholeP E.ere E.re (65 - g)) (K - d) (d==0)) (kidsN (nodeN E.re f g) (K - d)) j o' a' k')
    case atStart=>
     refine⟨0,_,_,_,_,rfl,rfl,Nat.zero_le _,HS5.out,HB5.out,HX5.out,?_⟩
     exact⟨fun _=>⟨rfl,[],en,by simp,by simpa using HL.out,hel,⟨en2,by have h:=HKID.out;rw[HKK.out]at h;simpa using h⟩,by rw[HRow.out,if_neg HZ.out];exact map_nil_id _⟩,fun e=>(by cases e)⟩
    case round=>
     obtain⟨d,o',a',k',v',rfl,hg',hd,hS,hB,hX,hI⟩:=hrel
     have HG:=Lib.hid hg'
     have HS:=Lib.hid hS
     have HB:=Lib.hid hB
     have HX:=Lib.hid hX
     have HI:=Lib.hid hI
     have hxlr:=hS.xlt
     clear b8 Bl hxl
     obtain⟨_,_,_,_,_,b8⟩:=hX.cells
     rw[HKK.out]at b8
     have Bl:=hX.lt
     clear hg' hS hB hX hI
     by_cases hlt:d<K
     ·have hlt':(d:Int)<(K:Int):=by omega
      obtain⟨m,hm⟩: ∃m,K - d=m+1:=⟨K - d - 1,by omega⟩
      have HM:=Lib.hid hm
      clear hm
      have E1:=Lib.hid (show((d:Int)==0)=(d==0)by rw[Bool.eq_iff_iff];simp)
      have E2:=Lib.hid (show((d:Int)==(K:Int) - 1)=(m==0)by rw[Bool.eq_iff_iff];have:=HM.out;simp;omega)
      have hK1: -9223372036854775808≤(K:Int) - 1:=by omega
      have hK2:(K:Int) - 1≤9223372036854775807:=by omega
      have hd64:(d:Int)+1≤9223372036854775807:=by omega
      cases hk':k' with
      |true=>
       subst hk'
       obtain⟨hok,s,en3,ho',hol,he3,⟨en4,hkn⟩,hr⟩:=HI.out.1 rfl
       clear hok
       rw[HM.out]at hkn hr
       obtain⟨j1,en5,hG⟩:=kidsN_first hkn
       have HGG:=Lib.hid hG
       have HKN:=Lib.hid hkn
       have HR:=Lib.hid hr
       subst ho'
       clear hG hkn hr
       have HCC:=Lib.hid (HPk.out g a' en3 j1 en5 wr (out++s) v' ((d:Int)==0) ((d:Int)==(K:Int) - 1) hg he3 HGG.out HS.out hol)
       go_wp2_with fail
       refine HCC.out.mono ?_
       rintro e w6 ⟨rfl,o6,a6,k6,v6,hs6,hb6,hr6⟩
       have HS6:=Lib.hid hs6
       have HB6:=Lib.hid (HB.out.trans hb6)
       have HX6:=Lib.hid (HX.out.next hb6)
       rw[E1.out,E2.out]at hr6
       have HR6:=Lib.hid hr6
       clear hs6 hb6 hr6
       go_wp2_with fail
       go_roundg (K - (d+1))
       case measure=>have:=HG.out;omega
       case rel=>
       refine⟨d+1,_,_,_,_,by go_num,rfl,by omega,HS6.out,HB6.out,HX6.out,?_⟩
       have e3:K - (d+1)=m:=by have:=HM.out;omega
       rw[e3,show((d+1)==0)=false from rfl]
       exact LI.next HR.out HKN.out HGG.out (nodeN_el _ _ _ _ _ _ HGG.out he3) (partsP_next ..) HR6.out (by unfold BD;omega)
      |false=>
       subst hk'
       have HCC:=Lib.hid (part_off HS.out ((d:Int)==0) ((d:Int)==(K:Int) - 1))
       go_wp2_with fail
       refine HCC.out.mono ?_
       rintro e w6 ⟨rfl,o6,a6,k6,v6,hs6,hb6,rfl,rfl,rfl⟩
       have HS6:=Lib.hid hs6
       have HB6:=Lib.hid (HB.out.trans hb6)
       have HX6:=Lib.hid (HX.out.next hb6)
       clear hs6 hb6
       go_wp2_with fail
       go_roundg (K - (d+1))
       case measure=>have:=HG.out;omega
       case rel=>
       exact⟨d+1,_,_,_,_,by go_num,rfl,by omega,HS6.out,HB6.out,HX6.out,HI.out.next_off⟩
     ·obtain rfl:d=K:=by omega
      go_wp2_with fail
      go_end0
      refine⟨rfl,_,_,_,_,HS.out,HB.out,HI.out.done (fun a=>?_) (fun a e=>?_)⟩
      ·rw[Nat.sub_self];rfl
      ·rw[Nat.sub_self];rfl
 ·have q4:(x.op !=4)=true:=by simp[bne,h4]
  have H0:=Lib.hid h4
  clear h4
  have HRow:=Lib.hid (show rowP E.ere E.re (wholeP E.ere E.re (65 - g)) i=partP E.ere E.re (wholeP E.ere E.re (65 - g)) true true i by
   rw[rowP,HK.out.hx]
   simp only[ne_eq,H0.out,not_false_eq_true,if_true])
  cases ok with
  |false=>
   go_wp2_with fail
   refine(part_off HS3.out true true).mono ?_
   rintro e w5 ⟨rfl,o5,a5,k5,v5,hs5,hb5,rfl,rfl,rfl⟩
   have HS5:=Lib.hid hs5
   have HB5:=Lib.hid (HB3.out.trans hb5)
   clear hs5 hb5
   go_wp2_with fail
   go_end0
   exact⟨rfl,_,_,_,_,HS5.out,HB5.out,Hd.off⟩
  |true=>
   go_wp2_with fail
   refine(HP.out g i en j en' W3 out ov true true hg hel HN.out HS3.out (by simpa using HL.out)).mono ?_
   rintro e w5 ⟨rfl,o5,a5,k5,v5,hs5,hb5,hr5⟩
   have HS5:=Lib.hid hs5
   have HB5:=Lib.hid (HB3.out.trans hb5)
   have HR5:=Lib.hid hr5
   clear hs5 hb5 hr5
   go_wp2_with fail
   go_end0
   exact⟨rfl,_,_,_,_,HS5.out,HB5.out,HRow.out▸HR5.out⟩
end Go.Proofs.YtfjbnpdffillbaaGreatDoor
namespace Go.Proofs.YtfjbnpdffillbaaGreatDoor
open Go.RowKit
theorem Hd.pre {out A:List Nat} {B1 B j:Nat} {r r':Option (List Nat × Nat)} {ok:Bool} {o2:List Nat} {a2:Nat} {k2:Bool} (hl:out.length≤4096) (hok:ok=decide ((out++A).length≤4096)) (h:Hd (out++A) ok B1 j r o2 a2 k2) (hr:r'=r.map fun p=>(A++p.1,p.2)) (hB:B1≤B) (hA:4096+A.length≤B):
  Hd out true B j r' o2 a2 k2:=by
 have h1:=Hd.wrap (C:=[]) (r':=r') (B:=B) hl hok h (by rw[hr];simp) (by simpa using hB) (by simpa using hA)
 have hk:(k2&&decide ((o2++[]).length≤4096))=k2:=by
  cases k2 with
  |false=>rfl
  |true=>
   obtain⟨_,s,_,_,h4,h5⟩:=h.1 rfl
   rw[List.append_nil,h4,decide_eq_true h5];rfl
 rwa[hk,List.append_nil]at h1
set_option maxRecDepth 100000 in
set_option maxHeartbeats 6400000 in
theorem whole_call {E:SpE} (f:Nat) (hf:f≤260) (HP:Hid (RowC E (f+1))) (HPk:Hid (RowC E f)):WholeC E (f+1):=by
 intro g i en j en' w out ok ov hg hel hn h hl0 hl
 obtain⟨x,hk⟩:=nodeN_at hn hel
 have H:=Lib.hid h
 have HK:=Lib.hid hk
 have HN:=Lib.hid hn
 have HL:=Lib.hid hl
 have hi:=(List.getElem?_eq_some_iff.1 hk.hx).1
 have hre:=h.nd.len
 obtain⟨nb,no,hoa,hnd,nbl,hi',hnx⟩:=h.node hk.hx
 obtain⟨n0,n1,n2,n3,n4,n5,n6,n7,n8⟩:=hnd.cells hk.hx
 have hkm:=hnd.k x (List.mem_of_getElem? hk.hx)
 have d0:=h.c0
 have d3:=h.c3
 have hxl:=h.xlt
 rw[hoa]at d0
 have hi64:(i:Int)<4294967296:=by omega
 clear h hk hn hnd hl
 go_enter Tryz.func117,Tryz.ntmps117
 go_upto_region 0 with fail
 refine wp_region_segs (X:=none) 11 [([0,1,2,3,4,5,6,7,8,9],10)] [] (by kernel_rfl) (by kernel_rfl) rfl (fun _ _ _ _ _ h=>h) ?_
 simp only[wpSegs,pickSegs_nil,pickSegs_cons,pickOps_nil,pickOps_cons,List.getD_cons_zero,List.getD_cons_succ,List.drop_succ_cons,List.drop_zero]
 repeat (go_big_quiet_step (fail))
 refine wpQuiet_nil ?_
 go_wp2_with fail
 refine⟨keeps_drew (keeps_alloc _ _),wpQuiet_nil ?_⟩
 go_upto_region 1 with fail
 obtain⟨HX3,HS3,HB3⟩:=BoxN.news H.out x _ rfl
 revert HS3 HB3 HX3
 simp only[ndCells]
 generalize (w.alloc (.cells #[.int .i8 x.op,.int .u64 x.set.w0.toNat,.int .u64 x.set.w1.toNat,.int .u64 x.set.w2.toNat,.int .u64 x.set.w3.toNat,.int .i64 x.n,.int .i64 x.min,.int .i64 x.max,.int .i64 x.kids] 78)).drew=W3
 intro HX3 HS3 HB3
 generalize w.heap.size=B3 at HX3 ⊢
 clear n0 n1 n2 n3 n4 n5 n6 n7 n8 d0 d3 hxl H nbl
 have hxl:=HS3.out.xlt
 have d1:=HS3.out.c1
 have d3:=HS3.out.c3
 have d4:=HS3.out.c4
 have z3:=HS3.out.fz 3
 have z4:=HS3.out.fz 4
 obtain⟨b0,⟨b1,b2,b3,b4⟩,b5,b6,b7,b8⟩:=HX3.out.cells
 have Bl:=HX3.out.lt
 have hgs:66 - g=(65 - g)+1:=by omega
 by_cases h4:x.op=5
 ·have q4:(x.op !=5)=false:=by rw[h4];rfl
  have H0:=Lib.hid h4
  obtain⟨en2,hkid⟩:=HK.out.kids (.inr h4)
  have HKID:=Lib.hid hkid
  obtain⟨K,hK⟩: ∃K:Nat,x.kids=(K:Int):=⟨x.kids.toNat,by have:=HK.out.alt h4;omega⟩
  rw[hK]at b8 hkm
  have HKK:=Lib.hid hK
  have HRow:=Lib.hid (show wholeP E.ere E.re (66 - g) i=if E.ere then rowsP E.ere E.re (wholeP E.ere E.re (65 - g)) K true (i+1)else none by
   rw[hgs,wholeP,HK.out.hx]
   simp only[H0.out,ne_eq,not_true_eq_false,if_false,HKK.out,Int.toNat_natCast])
  clear h4 hkid hK hgs
  have HS4:=Lib.hid (HS3.out.setOk (ok&&E.ere))
  have HB4:=Lib.hid (HB3.out.store 4 (.bool (ok&&E.ere)))
  have HX4:=Lib.hid (HX3.out.next ((SpB.refl W3 E ov).store 4 (.bool (ok&&E.ere))))
  cases ok with
  |false=>
   simp only[Bool.false_and]at HS4 HB4 HX4
   go_upto_region 4 with fail
   generalize W3.setCell ⟨E.bx,4,none⟩ (.bool false)=W4 at HS4 HB4 HX4 ⊢
   clear hxl d1 d3 d4 z3 z4 b0 b1 b2 b3 b4 b5 b6 b7 b8 Bl HX3 HS3 HB3
   have hxl:=HS4.out.xlt
   have d3:=HS4.out.c3
   have z3:=HS4.out.fz 3
   have HS5:=Lib.hid (HS4.out.setAt (i+1))
   have HB5:=Lib.hid (HB4.out.store 3 (.int .i64 ((i+1:Nat))))
   have HX5:=Lib.hid (HX4.out.next ((SpB.refl W4 E ov).store 3 (.int .i64 ((i+1:Nat)))))
   have hcast:SpS (W4.setCell ⟨E.bx,3,none⟩ (.int .i64 ((i:Int)+1))) E out (i+1) false ov:=HS5.out
   clear HS5
   have HS5:=Lib.hid hcast
   rw[show(((i+1:Nat)):Int)=(i:Int)+1 by omega]at HB5 HX5
   clear hcast
   go_upto_region 5 with fail
   generalize W4.setCell ⟨E.bx,3,none⟩ (.int .i64 ((i:Int)+1))=W5 at HS5 HB5 HX5 ⊢
   clear hxl d3 z3 HX4 HS4 HB4
   go_wp2_with fail
   go_loopg [3] K (fun n iv wr=> ∃(d:Nat) (o':List Nat) (a':Nat) (k':Bool) (v':Value),iv= .int .i64 (d:Nat)∧n=K - d∧d≤K∧SpS wr E o' a' k' v'∧SpB w E ov wr v'∧BoxN wr E B3 x v'∧LI out false (BD (f+1)) (wholeP E.ere E.re (66 - g) i) (rowsP E.ere E.re (wholeP E.ere E.re (65 - g)) (K - d) (d==0)) (kidsN (nodeN E.re f g) (K - d)) j o' a' k')
   case atStart=>
    refine⟨0,_,_,_,_,rfl,rfl,Nat.zero_le _,HS5.out,HB5.out,HX5.out,?_⟩
    exact LI.off
   case round=>
    obtain⟨d,o',a',k',v',rfl,hg',hd,hS,hB,hX,hI⟩:=hrel
    have HG:=Lib.hid hg'
    have HS:=Lib.hid hS
    have HB:=Lib.hid hB
    have HX:=Lib.hid hX
    have HI:=Lib.hid hI
    have hxlr:=hS.xlt
    have d4:=hS.c4
    obtain⟨_,_,_,_,_,b8⟩:=hX.cells
    rw[HKK.out]at b8
    have Bl:=hX.lt
    clear hg' hS hB hX hI
    by_cases hlt:d<K
    ·have hlt':(d:Int)<(K:Int):=by omega
     obtain⟨m,hm⟩: ∃m,K - d=m+1:=⟨K - d - 1,by omega⟩
     have HM:=Lib.hid hm
     clear hm
     have hd64:(d:Int)+1≤9223372036854775807:=by omega
     cases hk':k' with
     |true=>
      subst hk'
      exact absurd (HI.out.1 rfl).1 (by decide)
     |false=>
      subst hk'
      go_wp2_with fail
      go_end0
      exact⟨rfl,_,_,_,_,HS.out,HB.out,fun e=>(by cases e),HI.out.2⟩
    ·obtain rfl:d=K:=by omega
     go_wp2_with fail
     go_end0
     refine⟨rfl,_,_,_,_,HS.out,HB.out,HI.out.done (fun a=>?_) (fun a e=>?_)⟩
     ·rw[Nat.sub_self];rfl
     ·rw[Nat.sub_self];rfl
  |true=>
   simp only[Bool.true_and]at HS4 HB4 HX4
   go_upto_region 4 with fail
   generalize W3.setCell ⟨E.bx,4,none⟩ (.bool E.ere)=W4 at HS4 HB4 HX4 ⊢
   clear hxl d1 d3 d4 z3 z4 b0 b1 b2 b3 b4 b5 b6 b7 b8 Bl HX3 HS3 HB3
   have hxl:=HS4.out.xlt
   have d3:=HS4.out.c3
   have z3:=HS4.out.fz 3
   have HS5:=Lib.hid (HS4.out.setAt (i+1))
   have HB5:=Lib.hid (HB4.out.store 3 (.int .i64 ((i+1:Nat))))
   have HX5:=Lib.hid (HX4.out.next ((SpB.refl W4 E ov).store 3 (.int .i64 ((i+1:Nat)))))
   have hcast:SpS (W4.setCell ⟨E.bx,3,none⟩ (.int .i64 ((i:Int)+1))) E out (i+1) E.ere ov:=HS5.out
   clear HS5
   have HS5:=Lib.hid hcast
   rw[show(((i+1:Nat)):Int)=(i:Int)+1 by omega]at HB5 HX5
   clear hcast
   go_upto_region 5 with fail
   generalize W4.setCell ⟨E.bx,3,none⟩ (.int .i64 ((i:Int)+1))=W5 at HS5 HB5 HX5 ⊢
   clear hxl d3 z3 HX4 HS4 HB4
   go_wp2_with fail
   go_loopg [3] K (fun n iv wr=> ∃(d:Nat) (o':List Nat) (a':Nat) (k':Bool) (v':Value),iv= .int .i64 (d:Nat)∧n=K - d∧d≤K∧SpS wr E o' a' k' v'∧SpB w E ov wr v'∧BoxN wr E B3 x v'∧LI out true (BD (f+1)) (wholeP E.ere E.re (66 - g) i) (rowsP E.ere E.re (wholeP E.ere E.re (65 - g)) (K - d) (d==0)) (kidsN (nodeN E.re f g) (K - d)) j o' a' k')
   case atStart=>
    refine⟨0,_,_,_,_,rfl,rfl,Nat.zero_le _,HS5.out,HB5.out,HX5.out,?_⟩
    cases hE:E.ere with
    |false=>exact⟨fun e=>(by cases e),fun _=>⟨fun e=>(by cases e),fun _=>⟨by unfold BD;omega,fun s e h=>(by have hr:=HRow.out;rw[hE]at hr;rw[hr]at h;simp at h)⟩⟩⟩
    |true=>exact⟨fun _=>⟨rfl,[],en,by simp,by simpa using HL.out,hel,⟨en2,by have h:=HKID.out;rw[HKK.out]at h;simpa using h⟩,by have hr:=HRow.out;rw[hE]at hr;rw[hr,if_pos rfl];exact map_nil_id _⟩,fun e=>(by cases e)⟩
   case round=>
    obtain⟨d,o',a',k',v',rfl,hg',hd,hS,hB,hX,hI⟩:=hrel
    have HG:=Lib.hid hg'
    have HS:=Lib.hid hS
    have HB:=Lib.hid hB
    have HX:=Lib.hid hX
    have HI:=Lib.hid hI
    have hxlr:=hS.xlt
    have d4:=hS.c4
    obtain⟨_,_,_,_,_,b8⟩:=hX.cells
    rw[HKK.out]at b8
    have Bl:=hX.lt
    clear hg' hS hB hX hI
    by_cases hlt:d<K
    ·have hlt':(d:Int)<(K:Int):=by omega
     obtain⟨m,hm⟩: ∃m,K - d=m+1:=⟨K - d - 1,by omega⟩
     have HM:=Lib.hid hm
     clear hm
     have hd64:(d:Int)+1≤9223372036854775807:=by omega
     cases hk':k' with
     |true=>
      subst hk'
      obtain⟨hok,s,en3,ho',hol,he3,⟨en4,hkn⟩,hr⟩:=HI.out.1 rfl
      clear hok
      rw[HM.out]at hkn hr
      obtain⟨j1,en5,hG⟩:=kidsN_first hkn
      have HGG:=Lib.hid hG
      have HKN:=Lib.hid hkn
      have HR:=Lib.hid hr
      subst ho'
      clear hG hkn hr
      by_cases hd1:0<d
      case neg=>
       have HD1:=Lib.hid (show d=0 by omega)
       have HCC:=Lib.hid (HPk.out g a' en3 j1 en5 wr (out++s) true v' hg he3 HGG.out HS.out (by omega) (fun _=>hol))
       go_wp2_with fail
       refine HCC.out.mono ?_
       rintro e w6 ⟨rfl,o6,a6,k6,v6,hs6,hb6,hr6⟩
       have HS6:=Lib.hid hs6
       have HB6:=Lib.hid (HB.out.trans hb6)
       have HX6:=Lib.hid (HX.out.next hb6)
       have HR6:=Lib.hid hr6
       clear hs6 hb6 hr6
       go_wp2_with fail
       go_roundg (K - (d+1))
       case measure=>have:=HG.out;omega
       case rel=>
       refine⟨d+1,_,_,_,_,by go_num,rfl,by omega,HS6.out,HB6.out,HX6.out,?_⟩
       have e3:K - (d+1)=m:=by have:=HM.out;omega
       rw[e3,show((d+1)==0)=false from rfl]
       refine LI.next (B1:=BD (f+1)) HR.out HKN.out HGG.out (nodeN_el _ _ _ _ _ _ HGG.out he3) (rowsP_next ..) ?_ (Nat.le_refl _)
       rw[show(d==0)=true from beq_iff_eq.2 HD1.out]
       exact Hd.pre (A:=[]) (ok:=true) hol (by simpa using hol) (by simpa using HR6.out) (by simp) (by unfold BD;omega) (by unfold BD;simp;omega)
      case pos=>
       have HD1:=Lib.hid (show¬d=0 by omega)
       have d5:=HS.out.c5
       go_wp2_with fail
       refine(says_lit HS.out _ [124] rfl (by omega) (by simp)).mono ?_
       rintro e w5 ⟨rfl,o5,a5,k5,v5,hs5,hb5,rfl,rfl,rfl⟩
       have HS5:=Lib.hid hs5
       have HB5:=Lib.hid (HB.out.trans hb5)
       have HX5:=Lib.hid (HX.out.next hb5)
       have HCC:=Lib.hid (HPk.out g a5 en3 j1 en5 w5 (out++s++[124]) _ v5 hg he3 HGG.out hs5 (by have:=hol;simp only[List.length_append,List.length_cons,List.length_nil]at this ⊢;omega) (fun e=>by simpa using e))
       have hxl5:=hs5.xlt
       clear hs5 hb5 hxlr b8 Bl d4 d5
       obtain⟨_,_,_,_,_,b8⟩:=HX5.out.cells
       rw[HKK.out]at b8
       have Bl:=HX5.out.lt
       go_wp2_with fail
       refine HCC.out.mono ?_
       rintro e w6 ⟨rfl,o6,a6,k6,v6,hs6,hb6,hr6⟩
       have HS6:=Lib.hid hs6
       have HB6:=Lib.hid (HB5.out.trans hb6)
       have HX6:=Lib.hid (HX5.out.next hb6)
       have HR6:=Lib.hid hr6
       clear hs6 hb6 hr6
       go_wp2_with fail
       go_roundg (K - (d+1))
       case measure=>have:=HG.out;omega
       case rel=>
       refine⟨d+1,_,_,_,_,by go_num,rfl,by omega,HS6.out,HB6.out,HX6.out,?_⟩
       have e3:K - (d+1)=m:=by have:=HM.out;omega
       rw[e3,show((d+1)==0)=false from rfl]
       refine LI.next (B1:=BD (f+1)) HR.out HKN.out HGG.out (nodeN_el _ _ _ _ _ _ HGG.out he3) (rowsP_next ..) ?_ (Nat.le_refl _)
       rw[show(d==0)=false from beq_eq_false_iff_ne.2 HD1.out]
       exact Hd.pre (A:=[124]) hol (by rw[Bool.true_and]) HR6.out rfl (by unfold BD;omega) (by unfold BD;simp;omega)
     |false=>
      subst hk'
      go_wp2_with fail
      go_end0
      exact⟨rfl,_,_,_,_,HS.out,HB.out,fun e=>(by cases e),HI.out.2⟩
    ·obtain rfl:d=K:=by omega
     go_wp2_with fail
     go_end0
     refine⟨rfl,_,_,_,_,HS.out,HB.out,HI.out.done (fun a=>?_) (fun a e=>?_)⟩
     ·rw[Nat.sub_self];rfl
     ·rw[Nat.sub_self];rfl
 ·have q4:(x.op !=5)=true:=by simp[bne,h4]
  have H0:=Lib.hid h4
  clear h4
  have HRow:=Lib.hid (show wholeP E.ere E.re (66 - g) i=rowP E.ere E.re (wholeP E.ere E.re (65 - g)) i by
   rw[hgs,wholeP,HK.out.hx]
   simp only[ne_eq,H0.out,not_false_eq_true,if_true])
  clear hgs
  have HCC:=Lib.hid (HP.out g i en j en' W3 out ok ov hg hel HN.out HS3.out hl0 HL.out)
  go_wp2_with fail
  refine HCC.out.mono ?_
  rintro e w5 ⟨rfl,o5,a5,k5,v5,hs5,hb5,hr5⟩
  have HS5:=Lib.hid hs5
  have HB5:=Lib.hid (HB3.out.trans hb5)
  have HR5:=Lib.hid hr5
  clear hs5 hb5 hr5
  go_wp2_with fail
  go_end0
  exact⟨rfl,_,_,_,_,HS5.out,HB5.out,HRow.out▸HR5.out⟩
theorem parts_all {E:SpE} : ∀f,f≤260→OneC E f∧PartC E f∧RowC E f∧WholeC E f
 |0,_=>⟨fun _ _ _ _ _ _ _ _ _ _ _ hn=>by simp[nodeN]at hn,fun _ _ _ _ _ _ _ _ _ _ _ _ hn=>by simp[nodeN]at hn,fun _ _ _ _ _ _ _ _ _ _ _ hn=>by simp[nodeN]at hn,fun _ _ _ _ _ _ _ _ _ _ _ hn=>by simp[nodeN]at hn⟩
 |f+1,hf=>by
  obtain⟨h1,h2,h3,h4⟩:=parts_all f (by omega)
  have k1:=one_call f (by omega) (Lib.hid h4)
  have k2:=part_call f (by omega) (Lib.hid k1) (Lib.hid h1)
  have k3:=row_call f (by omega) (Lib.hid k2) (Lib.hid h2)
  exact⟨k1,k2,k3,whole_call f (by omega) (Lib.hid k3) (Lib.hid h3)⟩
end Go.Proofs.YtfjbnpdffillbaaGreatDoor
namespace Go.Proofs.YtfjbnpdffillbaaGreatDoor
open Go.RowKit
def printR (ere:Bool) (re:List Nd) (w:World) (e:Ending) (w':World):Prop:=
 Below w.heap.size w w'∧
 if shapedN re=false then e= .returned (.tuple #[.slice none 0 0,.int .i64 49])
 else match spellN ere re with
  |none=>e= .returned (.tuple #[.slice none 0 0,.int .i64 50])
  |some s=> ∃v,e= .returned (.tuple #[v,.int .i64 0])∧Mks w' w.heap.size v (bm s)
set_option maxRecDepth 100000 in
set_option maxHeartbeats 6400000 in
theorem print_call {w:World} {re:List Nd} {oa:Option Addr} {cap:Nat} (h:NdV w oa re) (ht:Tabs w) (ere:Bool):
  Calls Tryz.prog 81 #[.bool ere,.slice oa re.length cap] w (printR ere re w):=by
 have hb0:Below w.heap.size w ((w.alloc (.cells #[.bool ere] 4)).alloc (.cells #[.slice oa re.length cap] 52)):=((Below.refl _ w).alloc (Nat.le_refl _) _).alloc (by simp) _
 have HS:=Lib.hid (fun W=>shaped_call (cap:=cap) (w:=W) (oa:=oa) (re:=re))
 have H:=Lib.hid h
 have HT:=Lib.hid ht
 have HB0:=Lib.hid hb0
 clear h ht hb0
 go_enter Tryz.func81,Tryz.ntmps81
 go_wp2_with fail
 refine(HS.out _ (H.out.below HB0.out)).mono ?_
 rintro e w1 ⟨rfl,hb1⟩
 have HB1:=Lib.hid (HB0.out.trans (hb1.mono HB0.out.size))
 have k0:=(hb1.cell (p:=⟨w.heap.size,0,none⟩) (by simp<;>omega)).trans (show((w.alloc (.cells #[.bool ere] 4)).alloc (.cells #[.slice oa re.length cap] 52)).cell? ⟨w.heap.size,0,none⟩=some (.bool ere)by simp[go_sem])
 have k1:=(hb1.cell (p:=⟨w.heap.size+1,0,none⟩) (by simp<;>omega)).trans (show((w.alloc (.cells #[.bool ere] 4)).alloc (.cells #[.slice oa re.length cap] 52)).cell? ⟨w.heap.size+1,0,none⟩=some (.slice oa re.length cap)by simp[go_sem])
 have l1:w.heap.size+1<w1.heap.size:=by have:=hb1.size;simp at this;omega
 have l0:w.heap.size<w1.heap.size:=by omega
 clear hb1
 cases hsh:shapedN re with
 |false=>
  have HSH:=Lib.hid hsh
  clear hsh
  go_wp2_with fail
  go_ret2
  exact⟨HB1.out,by rw[if_pos HSH.out];rfl⟩
 |true=>
  have HSH:=Lib.hid hsh
  clear hsh
  go_upto_region 7 with fail
  have hB:Below w.heap.size w ((w1.alloc (.cells #[.slice oa re.length cap,.bool ere,.slice none 0 0,.int .i64 0,.bool true,.func (.func 113) #[] #[.pointer (some ⟨w1.heap.size+1,0,none⟩)],.func (.func 114) #[] #[.pointer (some ⟨w.heap.size,0,none⟩),.pointer (some ⟨w1.heap.size+1,0,none⟩)],.func (.func 115) #[] #[.pointer (some ⟨w1.heap.size+1,0,none⟩),.pointer (some ⟨w.heap.size+1,0,none⟩)]] 193)).alloc (.cells #[.pointer (some ⟨w1.heap.size,0,none⟩)] 190)):=(HB1.out.alloc (by omega) _).alloc (by simp;omega) _
  have hS:SpS ((w1.alloc (.cells #[.slice oa re.length cap,.bool ere,.slice none 0 0,.int .i64 0,.bool true,.func (.func 113) #[] #[.pointer (some ⟨w1.heap.size+1,0,none⟩)],.func (.func 114) #[] #[.pointer (some ⟨w.heap.size,0,none⟩),.pointer (some ⟨w1.heap.size+1,0,none⟩)],.func (.func 115) #[] #[.pointer (some ⟨w1.heap.size+1,0,none⟩),.pointer (some ⟨w.heap.size+1,0,none⟩)]] 193)).alloc (.cells #[.pointer (some ⟨w1.heap.size,0,none⟩)] 190)) ⟨w.heap.size,w.heap.size+1,w1.heap.size,w1.heap.size+1,ere,oa,cap,re,w⟩ [] 0 true (.slice none 0 0):= {
   tb:=HT.out
   nd:=H.out
   b0:=hB
   lbe:=Nat.le_refl _
   lbr:=Nat.le_succ _
   ebe:=l0
   ebr:=l1
   exv:=Nat.lt_succ_self _
   lt:=by simp
   xe:=by simp[go_sem,k0,l0]
   xr:=by simp[go_sem,k1,l1]
   xv:=by simp[go_sem]
   c0:=by simp[go_sem]
   c1:=by simp[go_sem]
   c2:=by simp[go_sem]
   c3:=by simp[go_sem]
   c4:=by simp[go_sem]
   c5:=by simp[go_sem]
   c6:=by simp[go_sem]
   c7:=by simp[go_sem]
   fz:=fun o=>by simp[go_sem]
   own:=Mks.nil _ _ }
  have hat:=parts_all (E:=⟨w.heap.size,w.heap.size+1,w1.heap.size,w1.heap.size+1,ere,oa,cap,re,w⟩) 260 (Nat.le_refl _)
  have hsh:=HSH.out
  unfold shapedN at hsh
  split at hsh
  ·cases hsh
  rename_i j en' hnode
  have HCC:=Lib.hid (hat.2.2.2 0 0 [] j en' _ [] true _ (by omega) (by simp) hnode hS (by simp) (fun _=>by simp))
  have HB:=Lib.hid hB
  clear hB hS hat hsh hnode
  go_wp2_with fail
  refine HCC.out.mono ?_
  rintro e w5 ⟨rfl,o5,a5,k5,v5,hs5,hb5,hr5⟩
  have HB5:=Lib.hid hs5.b0
  have HM5:=Lib.hid (show Mks w5 w.heap.size v5 (bm o5)from ownsRow_mono hs5.own (by show w.heap.size≤w1.heap.size+1+1;omega))
  have HR5:=Lib.hid hr5
  have d2:=hs5.c2
  have d4:=hs5.c4
  have dv:=hs5.xv
  have dx:=hs5.xlt
  have dl:=hs5.lt
  dsimp only at d2 d4 dv dx dl
  clear hs5 hb5 hr5 k0 k1
  have HSP:=Lib.hid (show spellN ere re=match wholeP ere re 66 0 with|none=>none|some (s,_)=>if s.length≤4096 then some s else none from rfl)
  cases k5 with
  |false=>
   go_wp2_with fail
   go_ret2
   refine⟨HB5.out,?_⟩
   rw[if_neg (by rw[HSH.out];decide)]
   have h:=((HR5.out.2 rfl).2 rfl).2
   rw[HSP.out]
   have h': ∀s k,wholeP ere re 66 0=some (s,k)→4096<([]++s).length:=h
   cases hw:wholeP ere re 66 0 with
   |none=>rfl
   |some p=>
    obtain⟨s,k⟩:=p
    have h2:=h' s k hw
    show match (if s.length≤4096 then some s else none)with|none=>_|some s=>_
    rw[if_neg (by simpa using h2)]
    rfl
  |true=>
   go_wp2_with fail
   go_ret2
   refine⟨HB5.out,?_⟩
   rw[if_neg (by rw[HSH.out];decide)]
   obtain⟨_,s,h1,_,ho,h4⟩:=HR5.out.1 rfl
   have ho':o5=s:=ho
   have h1':wholeP ere re 66 0=some (s,j):=h1
   rw[HSP.out,h1']
   show match (if s.length≤4096 then some s else none)with|none=>_|some s=>_
   rw[if_pos (by simpa using h4)]
   exact⟨_,rfl,ho'▸HM5.out⟩
end Go.Proofs.YtfjbnpdffillbaaGreatDoor
namespace Go.Proofs.YtfjbnpdffillbaaGreatDoor
open Go.RowKit
structure MkIn (w:World) (oa:Option Addr) (L:List Mk):Prop where
 len:L.length≤1073741824
 at_:0<L.length→ ∃mb mo,oa=some ⟨mb,mo,none⟩∧mb<w.heap.size∧ ∀i m,L[i]?=some m→w.cell? ⟨mb,mo+i*2,none⟩=some (.int .u8 (m.b:Nat))∧w.cell? ⟨mb,mo+i*2+1,none⟩=some (.bool m.p)∧m.b<256
theorem MkIn.below {w w':World} {oa:Option Addr} {L:List Mk} (h:MkIn w oa L) (hb:Below w.heap.size w w'):MkIn w' oa L:=
 ⟨h.len,fun hp=>by
  obtain⟨mb,mo,h1,h2,h3⟩:=h.at_ hp
  exact⟨mb,mo,h1,Nat.lt_of_lt_of_le h2 hb.size,fun i m hm=>⟨(hb.cell (p:=⟨mb,mo+i*2,none⟩) h2).trans (h3 i m hm).1,(hb.cell (p:=⟨mb,mo+i*2+1,none⟩) h2).trans (h3 i m hm).2.1,(h3 i m hm).2.2⟩⟩⟩
def textR (d:Nat) (L:List Mk) (w:World) (e:Ending) (w':World):Prop:=
 Below w.heap.size w w'∧match textL d L with
  |none=>e= .returned (.tuple #[.slice none 0 0,.bool false])
  |some s=> ∃v,e= .returned (.tuple #[v,.bool true])∧w'.ownsRow w.heap.size 5 1 v s.length (u8s s)
def TxI (d:Nat) (L:List Mk) (w:World) (k:Nat) (o:List Nat) (t:Bool) (v:Value) (W:World):Prop:=
 k≤L.length∧W.ownsRow w.heap.size 5 1 v o.length (u8s o)∧o.length≤2*k∧Below w.heap.size w W∧textL d L=(textT d t (L.drop k)).map (o++ ·)
theorem TxI.stop {d:Nat} {L:List Mk} {w W:World} {k:Nat} {o:List Nat} {t:Bool} {v:Value} (h:TxI d L w k o t v W) (hn:textT d t (L.drop k)=none):textL d L=none:=by
 rw[h.2.2.2.2,hn];rfl
theorem TxI.next {d:Nat} {L:List Mk} {w W W':World} {k:Nat} {o n:List Nat} {t t':Bool} {v v':Value} (h:TxI d L w k o t v W) (hk:k<L.length) (hn:textT d t (L.drop k)=(textT d t' (L.drop (k+1))).map (n++ ·)) (hl:n.length≤2)
  (ho:W'.ownsRow w.heap.size 5 1 v' (o.length+n.length) (u8s o++u8s n)) (hb:Below w.heap.size w W'):TxI d L w (k+1) (o++n) t' v' W':=by
 refine⟨hk,?_,?_,hb,?_⟩
 ·have:u8s (o++n)=u8s o++u8s n:=by simp[u8s]
  rw[this,List.length_append];exact ho
 ·have:=h.2.2.1;simp;omega
 ·rw[h.2.2.2.2,hn]
  cases textT d t' (L.drop (k+1))<;>simp
set_option maxRecDepth 100000 in
set_option maxHeartbeats 6400000 in
theorem text_call {w:World} {L:List Mk} {oa:Option Addr} {cap:Nat} (h:MkIn w oa L) (d:Nat) (hd:d<256):
  Calls Tryz.prog 82 #[.slice oa L.length cap,.int .u8 (d:Nat)] w (textR d L w):=by
 have H:=Lib.hid h
 have hlen:=h.len
 clear h
 by_cases h1:d=92
 ·have HN:=Lib.hid (show textL d L=none by unfold textL;rw[if_pos (.inl h1)])
  subst h1
  go_enter Tryz.func82,Tryz.ntmps82
  go_wp2_with fail
  go_ret2
  exact⟨Below.refl _ _,by rw[HN.out];rfl⟩
 by_cases h2:d=10
 ·have HN:=Lib.hid (show textL d L=none by unfold textL;rw[if_pos (.inr h2)])
  subst h2
  go_enter Tryz.func82,Tryz.ntmps82
  go_wp2_with fail
  go_ret2
  exact⟨Below.refl _ _,by rw[HN.out];rfl⟩
 have HTL:=Lib.hid (show textL d L=textT d false L by unfold textL;rw[if_neg (by omega)])
 have q1:((d:Int)==92)=false:=beq_eq_false_iff_ne.2 (by omega)
 have q2:((d:Int)==10)=false:=beq_eq_false_iff_ne.2 (by omega)
 go_enter Tryz.func82,Tryz.ntmps82
 go_upto_region 3 with fail
 clear q1 q2
 go_wp2_with fail
 go_loopg [6,7,18] L.length (fun n ov tk iv wr=> ∃(k:Nat) (o:List Nat) (t:Bool),iv= .int .i64 (k:Nat)∧tk= .bool t∧n=L.length - k∧TxI d L w k o t ov wr)
 case atStart=>exact⟨0,[],false,rfl,rfl,rfl,Nat.zero_le _,World.ownsRow_nil _ _ _ _,by simp,Below.refl _ _,by rw[HTL.out,List.drop_zero];cases textT d false L<;>rfl⟩
 case round=>
  obtain⟨k,o,t,rfl,rfl,hg,hI⟩:=hrel
  have HG:=Lib.hid hg
  have HI:=Lib.hid hI
  have hkL:=hI.1
  have hol:=hI.2.2.1
  clear hg hI
  by_cases hlt:k<L.length
  ·have hlt':(k:Int)<(L.length:Int):=by omega
   obtain⟨m,hm⟩: ∃m,L[k]?=some m:=⟨_,List.getElem?_eq_getElem hlt⟩
   obtain⟨mb,mo,hoa,hml,hmc⟩:=(H.out.below HI.out.2.2.2.1).at_ (by omega)
   obtain⟨z0,z1,hb256⟩:=hmc k m hm
   have HD:=Lib.hid (show L.drop k=m::L.drop (k+1)by rw[List.drop_eq_getElem_cons hlt,(List.getElem?_eq_some_iff.1 hm).2])
   have hk64:(k:Int)+1≤9223372036854775807:=by omega
   rw[hoa]
   clear hm hmc
   obtain⟨b,p⟩:=m
   simp only at z0 z1 hb256
   have HOwn:=Lib.hid ((HI.out.2.1).alloc (.cells #[.int .u8 (b:Nat),.bool p] 131))
   have HBM:=Lib.hid (HI.out.2.2.2.1.alloc (HI.out.2.2.2.1.size) (.cells #[.int .u8 (b:Nat),.bool p] 131))
   have y0:(wr.alloc (.cells #[.int .u8 (b:Nat),.bool p] 131)).cell? ⟨wr.heap.size,0,none⟩=some (.int .u8 (b:Nat)):=by simp[go_sem]
   have y1:(wr.alloc (.cells #[.int .u8 (b:Nat),.bool p] 131)).cell? ⟨wr.heap.size,1,none⟩=some (.bool p):=by simp[go_sem]
   have yl:wr.heap.size<(wr.alloc (.cells #[.int .u8 (b:Nat),.bool p] 131)).heap.size:=by simp
   have HNO:=Lib.hid (show∀g,u6.ownBlock=some g→g≠wr.heap.size from fun g hg e=>by have:=(HI.out.2.1.lt g hg).2;omega)
   go_upto_block 2 with fail
   generalize wr.alloc (.cells #[.int .u8 (b:Nat),.bool p] 131)=W2 at HOwn HBM y0 y1 yl ⊢
   generalize wr.heap.size=B2 at y0 y1 yl HNO ⊢
   clear z0 z1 hml
   cases t with
   |true=>
    cases p with
    |true=>
     have HN:=Lib.hid (HI.out.stop (by rw[HD.out];rfl))
     go_wp2_with fail
     go_ret2
     exact⟨HBM.out,by rw[HN.out];rfl⟩
    |false=>
     by_cases hbd:b=d
     ·have e1:((b:Int)==(d:Int))=true:=by rw[hbd];exact beq_self_eq_true _
      have HQ:=Lib.hid hbd
      clear hbd
      have HN:=Lib.hid (HI.out.stop (by rw[HD.out,HQ.out];simp[textT]))
      go_wp2_with fail
      go_ret2
      exact⟨HBM.out,by rw[HN.out];rfl⟩
     ·have e1:((b:Int)==(d:Int))=false:=beq_eq_false_iff_ne.2 (by omega)
      have HQ:=Lib.hid hbd
      clear hbd
      go_wp2_with (at_builtin;refine wpList_app (n:=o.length) (m:=1) (news:=[.int .u8 (b:Nat)]) elU8 rfl _ _ rfl w.heap.size rfl (HOwn.out.alloc _) rfl (Src.new W2 [.int .u8 (b:Nat)] _ _ _) rfl (by simp[Value.oneCell']) (by unfold maxLen;omega) (by omega) (by have:=HBM.out.size;simp;omega) ?_)
      intro v1 w1 hown1 hgr _
      have hb1:Below w.heap.size w w1:=Below.grown (Below.alloc HBM.out HBM.out.size _) hgr (by have:=HBM.out.size;simp;omega) (fun k hk=>(HOwn.out.lt k hk).1)
      have HF:=Lib.hid (HI.out.next (W':=w1) (v':=v1) (t':=false) (n:=[b]) hlt (by rw[HD.out];simp[textT,HQ.out]) (by simp) (by simpa [u8s]using hown1) hb1)
      have k0:=((World.cell?_of_block (a:=⟨B2,0,none⟩) (hgr.block B2 (by simp;omega) (fun e=>HNO.out _ e.symm rfl))).trans (((Below.refl W2.heap.size W2).alloc (Nat.le_refl _) _).cell (p:=⟨B2,0,none⟩) yl)).trans y0
      have kl:B2<w1.heap.size:=by have:=hgr.size;simp at this;omega
      clear hown1 hgr hb1 y0 y1 yl
      go_wp2_with fail
      rw[←hoa]
      go_roundg (L.length - (k+1))
      case measure=>have:=HG.out;omega
      case rel=>exact⟨k+1,_,_,by go_num,rfl,rfl,HF.out⟩
   |false=>
    cases p with
    |true=>
     by_cases hbd:b=d
     ·have e1:((b:Int) !=(d:Int))=false:=by rw[hbd];simp
      have HQ:=Lib.hid hbd
      clear hbd
      go_wp2_with (at_builtin;refine wpList_app (n:=o.length) (m:=2) (news:=[.int .u8 92,.int .u8 (d:Nat)]) elU8 rfl _ _ rfl w.heap.size rfl (HOwn.out.alloc _) rfl (Src.new W2 [.int .u8 92,.int .u8 (d:Nat)] _ _ _) rfl (by simp[Value.oneCell']) (by unfold maxLen;omega) (by omega) (by have:=HBM.out.size;simp;omega) ?_)
      intro v1 w1 hown1 hgr _
      have hb1:Below w.heap.size w w1:=Below.grown (Below.alloc HBM.out HBM.out.size _) hgr (by have:=HBM.out.size;simp;omega) (fun k hk=>(HOwn.out.lt k hk).1)
      have HF:=Lib.hid (HI.out.next (W':=w1) (v':=v1) (t':=false) (n:=[92,d]) hlt (by rw[HD.out];simp[textT,HQ.out]) (by simp) (by simpa [u8s]using hown1) hb1)
      have k0:=((World.cell?_of_block (a:=⟨B2,0,none⟩) (hgr.block B2 (by simp;omega) (fun e=>HNO.out _ e.symm rfl))).trans (((Below.refl W2.heap.size W2).alloc (Nat.le_refl _) _).cell (p:=⟨B2,0,none⟩) yl)).trans y0
      have kl:B2<w1.heap.size:=by have:=hgr.size;simp at this;omega
      clear hown1 hgr hb1 y0 y1 yl
      go_wp2_with fail
      rw[←hoa]
      go_roundg (L.length - (k+1))
      case measure=>have:=HG.out;omega
      case rel=>exact⟨k+1,_,_,by go_num,rfl,rfl,HF.out⟩
     ·have e1:((b:Int) !=(d:Int))=true:=by simp[bne];omega
      have HQ:=Lib.hid hbd
      clear hbd
      have HN:=Lib.hid (HI.out.stop (by rw[HD.out];simp[textT,HQ.out]))
      go_wp2_with fail
      go_ret2
      exact⟨HBM.out,by rw[HN.out];rfl⟩
    |false=>
     by_cases hbd:b=d
     ·have e1:((b:Int)==(d:Int))=true:=by rw[hbd];exact beq_self_eq_true _
      have HQ:=Lib.hid hbd
      clear hbd
      have HN:=Lib.hid (HI.out.stop (by rw[HD.out];simp[textT,HQ.out]))
      go_wp2_with fail
      go_ret2
      exact⟨HBM.out,by rw[HN.out];rfl⟩
     ·have e1:((b:Int)==(d:Int))=false:=beq_eq_false_iff_ne.2 (by omega)
      have HQ:=Lib.hid hbd
      clear hbd
      by_cases hb10:b=10
      ·have e2:((b:Int)==10)=true:=by rw[hb10];rfl
       have HQ2:=Lib.hid hb10
       clear hb10
       have HN:=Lib.hid (HI.out.stop (by rw[HD.out];simp[textT,HQ2.out]))
       go_wp2_with fail
       go_ret2
       exact⟨HBM.out,by rw[HN.out];rfl⟩
      ·have e2:((b:Int)==10)=false:=beq_eq_false_iff_ne.2 (by omega)
       have HQ2:=Lib.hid hb10
       clear hb10
       by_cases hb92:b=92
       ·have e3:((b:Int)==92)=true:=by rw[hb92];rfl
        have HQ3:=Lib.hid hb92
        clear hb92
        go_wp2_with (at_builtin;refine wpList_app (n:=o.length) (m:=1) (news:=[.int .u8 (b:Nat)]) elU8 rfl _ _ rfl w.heap.size rfl (HOwn.out.alloc _) rfl (Src.new W2 [.int .u8 (b:Nat)] _ _ _) rfl (by simp[Value.oneCell']) (by unfold maxLen;omega) (by omega) (by have:=HBM.out.size;simp;omega) ?_)
        intro v1 w1 hown1 hgr _
        have hb1:Below w.heap.size w w1:=Below.grown (Below.alloc HBM.out HBM.out.size _) hgr (by have:=HBM.out.size;simp;omega) (fun k hk=>(HOwn.out.lt k hk).1)
        have HF:=Lib.hid (HI.out.next (W':=w1) (v':=v1) (t':=true) (n:=[b]) hlt (by rw[HD.out];simp only[textT,Bool.false_eq_true,if_false];rw[if_neg (not_or.2 ⟨HQ.out,HQ2.out⟩),show(b==92)=true from beq_iff_eq.2 HQ3.out];rfl) (by simp) (by simpa [u8s]using hown1) hb1)
        have k0:=((World.cell?_of_block (a:=⟨B2,0,none⟩) (hgr.block B2 (by simp;omega) (fun e=>HNO.out _ e.symm rfl))).trans (((Below.refl W2.heap.size W2).alloc (Nat.le_refl _) _).cell (p:=⟨B2,0,none⟩) yl)).trans y0
        have kl:B2<w1.heap.size:=by have:=hgr.size;simp at this;omega
        clear hown1 hgr hb1 y0 y1 yl
        go_wp2_with fail
        rw[←hoa]
        go_roundg (L.length - (k+1))
        case measure=>have:=HG.out;omega
        case rel=>exact⟨k+1,_,_,by go_num,rfl,rfl,HF.out⟩
       ·have e3:((b:Int)==92)=false:=beq_eq_false_iff_ne.2 (by omega)
        have HQ3:=Lib.hid hb92
        clear hb92
        go_wp2_with (at_builtin;refine wpList_app (n:=o.length) (m:=1) (news:=[.int .u8 (b:Nat)]) elU8 rfl _ _ rfl w.heap.size rfl (HOwn.out.alloc _) rfl (Src.new W2 [.int .u8 (b:Nat)] _ _ _) rfl (by simp[Value.oneCell']) (by unfold maxLen;omega) (by omega) (by have:=HBM.out.size;simp;omega) ?_)
        intro v1 w1 hown1 hgr _
        have hb1:Below w.heap.size w w1:=Below.grown (Below.alloc HBM.out HBM.out.size _) hgr (by have:=HBM.out.size;simp;omega) (fun k hk=>(HOwn.out.lt k hk).1)
        have HF:=Lib.hid (HI.out.next (W':=w1) (v':=v1) (t':=false) (n:=[b]) hlt (by rw[HD.out];simp only[textT,Bool.false_eq_true,if_false];rw[if_neg (not_or.2 ⟨HQ.out,HQ2.out⟩),show(b==92)=false from beq_eq_false_iff_ne.2 HQ3.out];rfl) (by simp) (by simpa [u8s]using hown1) hb1)
        have k0:=((World.cell?_of_block (a:=⟨B2,0,none⟩) (hgr.block B2 (by simp;omega) (fun e=>HNO.out _ e.symm rfl))).trans (((Below.refl W2.heap.size W2).alloc (Nat.le_refl _) _).cell (p:=⟨B2,0,none⟩) yl)).trans y0
        have kl:B2<w1.heap.size:=by have:=hgr.size;simp at this;omega
        clear hown1 hgr hb1 y0 y1 yl
        go_wp2_with fail
        rw[←hoa]
        go_roundg (L.length - (k+1))
        case measure=>have:=HG.out;omega
        case rel=>exact⟨k+1,_,_,by go_num,rfl,rfl,HF.out⟩
  ·obtain rfl:k=L.length:=by omega
   have hdr:L.drop L.length=[]:=List.drop_length
   have HE:=Lib.hid (show textL d L=(if t then none else some o)by
    have h:=HI.out.2.2.2.2
    rw[hdr]at h
    rw[h]
    cases t<;>simp[textT])
   clear hdr
   cases t with
   |true=>
    go_wp2_with fail
    go_ret2
    exact⟨HI.out.2.2.2.1,by rw[HE.out];rfl⟩
   |false=>
    go_wp2_with fail
    go_ret2
    exact⟨HI.out.2.2.2.1,by rw[HE.out];exact⟨_,rfl,HI.out.2.1⟩⟩
end Go.Proofs.YtfjbnpdffillbaaGreatDoor
namespace Go.Proofs.YtfjbnpdffillbaaGreatDoor
open Go.RowKit
theorem MkIn.of_own {w:World} {base:Nat} {v:Value} {L:List Mk} (h:Mks w base v L) (hl:L.length≤1073741824) (hu: ∀m∈L,m.b<256): ∃oa cap,v= .slice oa L.length cap∧MkIn w oa L:=by
 have h0:=h
 rcases h.2 with ⟨rfl,hn⟩|⟨g,cap,cur,rfl,hb,hg,_⟩
 ·exact⟨none,0,by rw[hn],hl,fun hp=>by omega⟩
 ·refine⟨_,cap,rfl,hl,fun _=>⟨g,0,rfl,(Array.getElem?_eq_some_iff.1 hg).1,fun i m hi=>?_⟩⟩
  have hi':=(List.getElem?_eq_some_iff.1 hi)
  have hc:=mksC_at L i hi'.1
  have hm:markAt L i=m:=by unfold markAt;rw[List.getD_eq_getElem?_getD,hi];rfl
  rw[hm]at hc
  have hadd: ∀j,(⟨g,0,none⟩:Addr).add j=⟨g,0+j,none⟩:=fun j=>by unfold Addr.add;split<;>simp_all
  refine⟨?_,?_,hu m (List.mem_of_getElem? hi)⟩
  ·rw[←hadd]
   exact World.ownsRow.cells h0 (g:=g) rfl (i*2) _ hc.1
  ·rw[Nat.add_assoc,←hadd]
   exact World.ownsRow.cells h0 (g:=g) rfl (i*2+1) _ hc.2
end Go.Proofs.YtfjbnpdffillbaaGreatDoor
namespace Go.Proofs.YtfjbnpdffillbaaGreatDoor
open Go.RowKit
section
variable {w:World} {oa:Option Addr} {cap:Nat} {re:List Nd}
def AprR (base:Nat) (r:Except Nat (List Nat)) (e:Ending) (w':World):Prop:=
 match r with
 | .error er=>e= .returned (.tuple #[.slice none 0 0,.int .i64 (er:Nat)])
 | .ok s=> ∃v,e= .returned (.tuple #[v,.int .i64 0])∧w'.ownsRow base 5 1 v s.length (u8s s)
theorem printA_wrong {ere:Bool} {a:Ad} (h:rightA a=false):printA ere a= .error 71:=by unfold printA;rw[if_pos h]
def betB:Option (List Nat)→Except Nat (List Nat)
 |none=> .error 50
 |some t=> .ok (47::t++[47])
theorem lit_row (w:World) (l:List Nat) (hl:l.length≤4096) {base:Nat} (hb:base≤w.heap.size):(w.alloc (.cells (u8s l).toArray 5)).ownsRow base 5 1 (.slice (some ⟨w.heap.size,0,none⟩) l.length l.length) l.length (u8s l):=by
 have h:=World.ownsRow_lit (base:=base) (e:=5) (size:=1) w (u8s l).toArray l.length hb (by unfold maxLen;omega) (by simp[u8s])
 simpa using h
def slashT (s:List Nat) (d:Nat):List Mk:=(slashed s).take d++(bm s).drop d
theorem slashT_length (s:List Nat) (d:Nat) (h:d≤s.length):(slashT s d).length=s.length:=by simp[slashT,slashed,bm];omega
theorem slashT_at {s:List Nat} {d:Nat} (h:d<s.length):markAt (slashT s d) d=⟨s.getD d 0,false⟩:=by
 have hl:((slashed s).take d).length=d:=by simp[slashed];omega
 unfold slashT markAt
 rw[List.getD_eq_getElem?_getD,List.getElem?_append_right (by omega),hl,Nat.sub_self,List.getElem?_drop]
 simp[bm,mk,h,List.getD_eq_getElem?_getD]
theorem slashT_set {s:List Nat} {d:Nat} (h:d<s.length):(slashT s d).set d ⟨s.getD d 0,s.getD d 0==47⟩=slashT s (d+1):=by
 have hl:((slashed s).take d).length=d:=by simp[slashed];omega
 unfold slashT
 rw[List.set_append_right _ _ (by omega),hl,Nat.sub_self,List.take_add_one]
 have h1:(slashed s)[d]?=some ⟨s.getD d 0,s.getD d 0==47⟩:=by simp[slashed,h,List.getD_eq_getElem?_getD]
 have h2:(bm s).drop d=(bm s)[d]'(by simpa [bm]using h)::(bm s).drop (d+1):=List.drop_eq_getElem_cons _
 rw[h1,h2,List.set_cons_zero]
 simp
theorem slashT_zero (s:List Nat):slashT s 0=bm s:=by simp[slashT]
theorem slashT_full (s:List Nat):slashT s s.length=slashed s:=by
 unfold slashT
 rw[List.take_of_length_le (by simp[slashed]),List.drop_eq_nil_of_le (by simp[bm]),List.append_nil]
theorem eql_slash (b:Nat) (w:World):(binOp .eql 131 (.agg #[.int .u8 (b:Nat),.bool false]) (.agg #[.int .u8 47,.bool false])).run Tryz.prog w= .ok (.bool (b==47)) w:=by
 rw[run_eql_struct]
 have e:((b:Int)==47)=(b==47):=by
  rw[Bool.eq_iff_iff,beq_iff_eq,beq_iff_eq];omega
 simp[go_sem,e]
 split
 ·rename_i h;rw[h];rfl
 ·rename_i h;rw[beq_eq_false_iff_ne.2 h]
structure AdB2 (w:World) (b:Nat) (k n:Value):Prop where
 lt:b<w.heap.size
 c0:w.cell? ⟨b,0,none⟩=some k
 c1:w.cell? ⟨b,1,none⟩=some n
theorem AdB2.new (w:World) (k n:Value):AdB2 (w.alloc (.cells #[k,n] 131)) w.heap.size k n:=
 have hB:(w.alloc (.cells #[k,n] 131)).heap[w.heap.size]?=some (.cells #[k,n] 131 (0,0)):=heap_alloc_new w _
 ⟨by simp,(cell_of_row _ _ 0 _ _ (0,0) hB).trans rfl,(cell_of_row _ _ 1 _ _ (0,0) hB).trans rfl⟩
set_option maxRecDepth 100000 in
set_option maxHeartbeats 1600000 in
theorem aprint_wrong {k n:Int} (h:NdV w oa re) (hr:rightA ⟨k,n,re⟩=false) (ere:Bool):
  Calls Tryz.prog 26 #[.agg #[.int .i8 k,.int .i64 n,.slice oa re.length cap],.bool ere] w fun e w'=>e= .returned (.tuple #[.slice none 0 0,.int .i64 71])∧Below w.heap.size w w':=by
 have hb0:=(Below.refl w.heap.size w).alloc (Nat.le_refl _) (.cells #[.int .i8 k,.int .i64 n,.slice oa re.length cap] 54)
 have HS:=Lib.hid (right_call (cap:=cap) k n (h.below hb0))
 rw[hr]at HS
 have HB:=Lib.hid hb0
 clear h hb0 hr
 go_enter Tryz.func26,Tryz.ntmps26
 go_wp2_with fail
 refine HS.out.mono ?_;rintro e w1 ⟨rfl,hb1⟩
 have HB1:=Lib.hid (HB.out.trans (hb1.mono (by simp)))
 clear hb1
 go_wp2_with fail
 go_ret2
 exact⟨rfl,HB1.out⟩
set_option maxRecDepth 100000 in
set_option maxHeartbeats 6400000 in
theorem aprint_three (h:NdV w oa re) (hl: ¬re.length=0) (hs:shapedN re=true) (ht:Tabs w) (ere:Bool) (hok: ∀s,spellN ere re=some s→ ∀b∈s,b<256):
  Calls Tryz.prog 26 #[.agg #[.int .i8 3,.int .i64 0,.slice oa re.length cap],.bool ere] w fun e w'=>AprR w.heap.size (betweenA ere re) e w'∧Below w.heap.size w w':=by
 have hb0:=(Below.refl w.heap.size w).alloc (Nat.le_refl _) (.cells #[.int .i8 3,.int .i64 0,.slice oa re.length cap] 54)
 have hr:rightA ⟨3,0,re⟩=true:=by simp[rightA,hs]
 have HS:=Lib.hid (right_call (cap:=cap) 3 0 (h.below hb0))
 rw[hr]at HS
 have HA:=Lib.hid (AdB.new w (.int .i8 3) (.int .i64 0) (.slice oa re.length cap))
 have HB:=Lib.hid hb0
 have HT:=Lib.hid (ht.below hb0)
 have HV:=Lib.hid (h.below hb0)
 have HOK:=Lib.hid hok
 have HSH:=Lib.hid hs
 have ql:((re.length:Int)==0)=false:=beq_eq_false_iff_ne.2 (by omega)
 have HRE:Hid (re≠[]):=Lib.hid (by intro e;rw[e]at hl;simp at hl)
 clear h hb0 hr ht hok hs hl
 go_enter Tryz.func26,Tryz.ntmps26
 go_wp2_with fail
 refine HS.out.mono ?_;rintro e w1 ⟨rfl,hb1⟩
 have HB1:=Lib.hid (HB.out.trans (hb1.mono (by simp)))
 have HA1:=Lib.hid (HA.out.below hb1)
 have HT1:=Lib.hid (HT.out.below hb1)
 have HV1:=Lib.hid (HV.out.below hb1)
 have k0:=HA1.out.c0
 have k1:=HA1.out.c1
 have k2:=HA1.out.c2
 clear hb1 HS HB HA HT HV
 go_wp2_with fail
 refine(print_call (cap:=cap) HV1.out HT1.out ere).mono ?_;rintro e w2 ⟨hb2,hr2⟩
 have HB2:=Lib.hid (HB1.out.trans (hb2.mono HB1.out.size))
 have hs1:w.heap.size<w1.heap.size:=HA1.out.lt
 have hs2:=hb2.size
 rw[if_neg (by rw[HSH.out];decide)]at hr2
 clear hb2 k0 k1 k2
 cases hq:spellN ere re with
 |none=>
  rw[hq]at hr2
  simp only at hr2
  subst hr2
  have HE:Hid (betweenA ere re= .error 50):=Lib.hid (by unfold betweenA;rw[if_neg HRE.out,hq])
  clear hq
  go_wp2_with fail
  go_ret2
  exact⟨by rw[HE.out];rfl,HB2.out⟩
 |some s=>
  rw[hq]at hr2
  obtain⟨v,rfl,hm⟩:=hr2
  have HE:Hid (betweenA ere re=betB (textL 47 (slashed s))):=Lib.hid (by unfold betweenA;rw[if_neg HRE.out,hq];simp only;cases textL 47 (slashed s)<;>rfl)
  have HU:=Lib.hid (HOK.out s hq)
  have hsl:s.length≤4096:=by
   unfold spellN at hq
   split at hq
   ·cases hq
   ·split at hq
    ·cases hq;assumption
    ·cases hq
  obtain⟨o,c,rfl⟩:=hm.form
  have hbl:(bm s).length=s.length:=by simp[bm]
  rw[hbl]
  rw[Mks,hbl]at hm
  have HM:=Lib.hid hm
  clear hq hm
  go_upto_region 16 with fail
  have hSl:=AdB2.new w2 (.int .u8 47) (.bool false)
  have HM3:=Lib.hid (HM.out.alloc (.cells #[.int .u8 47,.bool false] 131))
  have HB3:=Lib.hid (HB2.out.alloc HB2.out.size (.cells #[.int .u8 47,.bool false] 131))
  have hs3:(w2.alloc (.cells #[.int .u8 47,.bool false] 131)).heap.size=w2.heap.size+1:=by simp
  have hg: ∀g,(Value.slice o s.length c).ownBlock=some g→g<w2.heap.size:=fun g hg=>(HM.out.lt g hg).2
  have HG:=Lib.hid hg
  obtain⟨W3,hW3⟩: ∃W,w2.alloc (.cells #[.int .u8 47,.bool false] 131)=W:=⟨_,rfl⟩
  rw[hW3]
  rw[hW3]at hSl HM3 HB3 hs3
  have HSL:=Lib.hid hSl
  clear hW3 hSl hg HM
  go_wp2_with fail
  go_loopg [47] s.length (fun n iv wr=> ∃d:Nat,iv= .int .i64 (d:Nat)∧n=s.length - d∧d≤s.length∧Hid (wr.ownsRow w1.heap.size 131 2 (.slice o s.length c) s.length (mksC (slashT s d)))∧AdB2 wr w2.heap.size (.int .u8 47) (.bool false)∧Below w.heap.size w wr∧W3.heap.size≤wr.heap.size)
  case atStart=>exact⟨0,rfl,by omega,Nat.zero_le _,by rw[slashT_zero];exact HM3,HSL.out,HB3.out,Nat.le_refl _⟩
  case round=>
   obtain⟨d,rfl,hgk,hd,hm,hsl2,hb,hsw⟩:=hrel
   have HGK:=Lib.hid hgk
   have HMR:=Lib.hid hm.out
   have HSR:=Lib.hid hsl2
   have HBR:=Lib.hid hb
   have hb47:HBR.out.size=HBR.out.size:=rfl
   clear hgk hm hsl2 hb hb47
   by_cases hlt:d<s.length
   ·have hlt':(d:Int)<(s.length:Int):=by omega
    obtain⟨g,hog⟩: ∃g,o=some ⟨g,0,none⟩:=by
     rcases HMR.out.2 with ⟨_,h0⟩|⟨g,cap',cur,h1,_⟩
     ·omega
     ·injection h1 with h1;exact⟨g,h1⟩
    subst hog
    have hg2:g<w2.heap.size:=HG.out g rfl
    have hg1:w1.heap.size≤g:=(HMR.out.lt g rfl).1
    obtain⟨r0,r1,rf⟩:=Mks.two (w:=wr) (base:=w1.heap.size) (L:=slashT s d) (show Mks wr w1.heap.size (.slice (some ⟨g,0,none⟩) s.length c) (slashT s d)by unfold Mks;rw[slashT_length s d hd];exact HMR.out) (slashT_length s d hd) hlt (slashT_at hlt)
    obtain⟨b,hbe⟩: ∃b,s.getD d 0=b:=⟨_,rfl⟩
    have HBE:=Lib.hid hbe
    simp only[hbe]at r0 r1
    clear hbe
    have s0:=HSR.out.c0
    have s1:=HSR.out.c1
    have ne1: ¬g=w2.heap.size:=by omega
    have hwl:w2.heap.size<wr.heap.size:=HSR.out.lt
    have hgl:g<wr.heap.size:=by omega
    have hql:=eql_slash b
    go_upto_region 19 with fail
    refine wp_region_segs (X:=none) 10 [] [0,1,2,3,4,5,6,7,8,9] (by kernel_rfl) (by kernel_rfl) rfl (fun _ _ _ _ _ h=>h) ?_
    simp only[wpSegs,pickSegs_nil,pickOps_nil,pickOps_cons,List.getD_cons_zero,List.getD_cons_succ,List.drop_succ_cons,List.drop_zero]
    repeat (go_big_quiet_step (fail))
    refine wpQuiet_nil ?_
    go_wp2_with fail
    have HP:=Lib.hid (Mks.putP (w:=wr) (base:=w1.heap.size) (L:=slashT s d) (show Mks wr w1.heap.size (.slice (some ⟨g,0,none⟩) s.length c) (slashT s d)by unfold Mks;rw[slashT_length s d hd];exact HMR.out) (slashT_length s d hd) hlt (b==47))
    go_roundg (s.length - (d+1))
    case measure=>have:=HGK.out;omega
    case rel=>
     refine⟨d+1,by go_num,rfl,by omega,?_,?_,(HBR.out.setCell (by show w.heap.size≤g;omega) _).drew,by simpa [World.setCell,World.drew]using hsw⟩
     ·have h:=HP.out
      rw[slashT_at hlt,←HBE.out]at h
      rw[←HBE.out]
      rw[slashT_set hlt]at h
      rw[Mks,slashT_length s (d+1) (by omega)]at h
      exact ownsRow_of_block h fun _ _=>rfl
     ·have hh:((wr.setCell ⟨g,d*2+1,none⟩ (.bool (b==47))).drew).heap[w2.heap.size]?=wr.heap[w2.heap.size]?:=Below.heap_setCell _ _ _ _ (by show w2.heap.size≠g;omega)
      exact⟨by simpa [World.setCell,World.drew]using hwl,(World.cell?_of_block (w:=wr) (a:=⟨w2.heap.size,0,none⟩) hh).trans s0,(World.cell?_of_block (w:=wr) (a:=⟨w2.heap.size,1,none⟩) hh).trans s1⟩
   ·obtain rfl:d=s.length:=by omega
    have hmf:=HMR.out
    rw[slashT_full]at hmf
    have hsl':(slashed s).length=s.length:=by simp[slashed]
    obtain⟨o2,c2,ho2,hin⟩:=MkIn.of_own (show Mks wr w1.heap.size (.slice o s.length c) (slashed s)by unfold Mks;rw[hsl'];exact hmf) (by omega) (fun m hm=>by
     simp only[slashed,List.mem_map]at hm
     obtain⟨b,hb,rfl⟩:=hm
     exact HU.out b hb)
    injection ho2 with e1 e2 e3
    subst e1
    subst e3
    clear e2
    have HTX:=Lib.hid (text_call (cap:=c) hin 47 (by decide))
    rw[hsl']at HTX
    have hwr:w.heap.size≤wr.heap.size:=HBR.out.size
    have HSL':=Lib.hid hsl'
    clear hmf hin HMR hlt hd hsl' hbl
    go_wp2_with fail
    refine HTX.out.mono ?_;rintro e w4 ⟨hb4,hr4⟩
    have HB4:=Lib.hid (HBR.out.trans (hb4.mono hwr))
    have hs4:=hb4.size
    clear hb4 HTX
    cases hq:textL 47 (slashed s)with
    |none=>
     rw[hq]at hr4 HE
     simp only at hr4
     subst hr4
     clear hq
     go_wp2_with fail
     go_ret2
     exact⟨by rw[HE.out];rfl,HB4.out⟩
    |some t=>
     have htl:=textT_length 47 (slashed s) false t (by unfold textL at hq;rw[if_neg (by decide)]at hq;exact hq)
     rw[HSL'.out]at htl
     rw[hq]at hr4 HE
     obtain⟨v4,rfl,hv4⟩:=hr4
     have HV4:=Lib.hid hv4
     have HL4:=Lib.hid (lit_row w4 [47] (by decide) (base:=w.heap.size) (by omega))
     clear hq hv4
     go_wp2_with (at_builtin;refine wpList_app elU8 rfl _ _ rfl w.heap.size (n:=1) (m:=t.length) (news:=u8s t) rfl HL4.out rfl (Src.own (HV4.out.alloc _)) (by simp[u8s]) (u8s_one t) (by unfold maxLen;omega) (by omega) (by simp;omega) ?_)
     intro v5 w5 hown5 hgr5 _
     have hb5:Below w.heap.size w w5:=Below.grown (Below.alloc HB4.out HB4.out.size _) hgr5 (by simp;omega) (fun k hk=>(HL4.out.lt k hk).1)
     have HB5:=Lib.hid hb5
     have HO5:=Lib.hid hown5
     have hs5:=hb5.size
     clear hown5 hgr5 hb5
     go_wp2_with (at_builtin;refine wpList_app elU8 rfl _ _ rfl w.heap.size (n:=1+t.length) (m:=1) (news:=[.int .u8 47]) rfl (HO5.out.alloc _) rfl (Src.new w5 [.int .u8 47] _ _ _) rfl (by simp[Value.oneCell']) (by unfold maxLen;omega) (by omega) (by simp;omega) ?_)
     intro v6 w6 hown6 hgr6 _
     have hb6:Below w.heap.size w w6:=Below.grown (Below.alloc HB5.out HB5.out.size _) hgr6 (by simp;omega) (fun k hk=>(HO5.out.lt k hk).1)
     have HB6:=Lib.hid hb6
     have HO6:=Lib.hid hown6
     clear hown6 hgr6 hb6
     go_wp2_with fail
     go_ret2
     refine⟨?_,HB6.out⟩
     rw[HE.out]
     refine⟨v6,rfl,?_⟩
     have h:=HO6.out
     simpa [u8s,Nat.add_comm,Nat.add_left_comm]using h
end
end Go.Proofs.YtfjbnpdffillbaaGreatDoor
namespace Go.Proofs.YtfjbnpdffillbaaGreatDoor
open Go.RowKit
structure BtIn (w:World) (oa:Option Addr) (L:List Nat):Prop where
 len:L.length≤4294967296
 at_:0<L.length→ ∃g o,oa=some ⟨g,o,none⟩∧g<w.heap.size∧ ∀i b,L[i]?=some b→w.cell? ⟨g,o+i,none⟩=some (.int .u8 (b:Nat))
theorem BtIn.below {w w':World} {oa:Option Addr} {L:List Nat} (h:BtIn w oa L) (hb:Below w.heap.size w w'):BtIn w' oa L:=
 ⟨h.len,fun hp=>by
  obtain⟨g,o,h1,h2,h3⟩:=h.at_ hp
  exact⟨g,o,h1,Nat.lt_of_lt_of_le h2 hb.size,fun i b hi=>(hb.cell (p:=⟨g,o+i,none⟩) h2).trans (h3 i b hi)⟩⟩
theorem BtIn.of_own {w:World} {base:Nat} {v:Value} {L:List Nat} (h:w.ownsRow base 5 1 v L.length (u8s L)) (hl:L.length≤4294967296): ∃oa cap,v= .slice oa L.length cap∧BtIn w oa L:=by
 have h0:=h
 rcases h.2 with ⟨rfl,hn⟩|⟨g,cap,cur,rfl,hb,hg,_⟩
 ·exact⟨none,0,by rw[hn],hl,fun hp=>by omega⟩
 ·refine⟨_,cap,rfl,hl,fun _=>⟨g,0,rfl,(Array.getElem?_eq_some_iff.1 hg).1,fun i b hi=>?_⟩⟩
  have hadd:(⟨g,0,none⟩:Addr).add i=⟨g,0+i,none⟩:=by unfold Addr.add;split<;>simp_all
  rw[←hadd]
  refine h0.cells (g:=g) rfl i _ ?_
  simp[u8s,hi]
theorem take_neB {a b:List Nat} {d:Nat} {x y:Nat} (hx:a[d]?=some x) (hy:b[d]?=some y) (h: ¬x=y): ¬a=b:=fun e=>by subst e;rw[hx]at hy;cases hy;exact h rfl
set_option maxRecDepth 100000 in
set_option maxHeartbeats 1600000 in
theorem eqBytes_call {a b:List Nat} {oa ob:Option Addr} {ca cb:Nat} {w:World} (ha:BtIn w oa a) (hb:BtIn w ob b):
  Calls Tryz.prog 28 #[.slice oa a.length ca,.slice ob b.length cb] w fun e w'=>e= .returned (.bool (decide (a=b)))∧Below w.heap.size w w':=by
 have hla:=ha.len
 have hlb:=hb.len
 have HA:=Lib.hid ha
 have HB:=Lib.hid hb
 clear ha hb
 by_cases hl:a.length=b.length
 ·have hl':((a.length:Int) !=(b.length:Int))=false:=by simp[hl]
  rw[←hl]
  rw[←hl]at hlb
  have HL:=Lib.hid hl
  clear hl hl'
  go_enter Tryz.func28,Tryz.ntmps28
  go_wp2_with fail
  go_loopg [5] a.length (fun n iv wr=> ∃d:Nat,iv= .int .i64 (d:Nat)∧n=a.length - d∧d≤a.length∧Hid (a.take d=b.take d)∧Below w.heap.size w wr)
  case atStart=>exact⟨0,rfl,by omega,by omega,rfl,Below.refl _ _⟩
  case round=>
   obtain⟨d,rfl,hg,hd,HT,hbe⟩:=hrel
   have HG:=Lib.hid hg
   have HBE:=Lib.hid hbe
   clear hg
   by_cases hlt:d<a.length
   ·have hlt':(d:Int)<(a.length:Int):=by omega
    obtain⟨na,oo,rfl,nal,hna⟩:=(HA.out.below hbe).at_ (by omega)
    obtain⟨nb,ob',rfl,nbl,hnb⟩:=(HB.out.below hbe).at_ (by have:=HL.out;omega)
    obtain⟨x,hx⟩: ∃x,a[d]?=some x:=⟨_,List.getElem?_eq_getElem hlt⟩
    obtain⟨y,hy⟩: ∃y,b[d]?=some y:=⟨_,List.getElem?_eq_getElem (by have:=HL.out;omega)⟩
    have n0:=hna d x hx
    have m0:=hnb d y hy
    have HX:=Lib.hid hx
    have HY:=Lib.hid hy
    clear hna hnb hbe hx hy
    by_cases hxy:x=y
    ·subst hxy
     have HT1:Hid (a.take (d+1)=b.take (d+1)):=by rw[Hid,List.take_add_one,List.take_add_one,HT.out,HX.out,HY.out]
     have e1:((x:Int) !=(x:Int))=false:=by simp
     go_wp2_with fail
     refine wp_region_segs (X:=none) 9 [] [0,1,2,3,4,5,6,7,8] (by kernel_rfl) (by kernel_rfl) rfl (fun _ _ _ _ _ h=>h) ?_
     simp only[wpSegs,pickSegs_nil,pickOps_nil,pickOps_cons,List.getD_cons_zero,List.getD_cons_succ,List.drop_succ_cons,List.drop_nil]
     repeat (go_big_quiet_step (fail))
     refine wpQuiet_nil ?_
     go_wp2_with fail
     go_roundg (a.length - (d+1))
     case measure=>have:=HG.out;omega
     case rel=>exact⟨d+1,by go_num,rfl,by omega,HT1,HBE.out.drew⟩
    ·have HF:Hid (decide (a=b)=false):=by rw[Hid,decide_eq_false (take_neB HX.out HY.out hxy)]
     have e1:((x:Int) !=(y:Int))=true:=by simp[bne];omega
     clear hxy
     go_wp2_with fail
     refine wp_region_segs (X:=none) 9 [] [0,1,2,3,4,5,6,7,8] (by kernel_rfl) (by kernel_rfl) rfl (fun _ _ _ _ _ h=>h) ?_
     simp only[wpSegs,pickSegs_nil,pickOps_nil,pickOps_cons,List.getD_cons_zero,List.getD_cons_succ,List.drop_succ_cons,List.drop_nil]
     repeat (go_big_quiet_step (fail))
     refine wpQuiet_nil ?_
     go_wp2_with fail
     go_ret
     exact⟨by rw[HF.out];rfl,HBE.out.drew⟩
   ·have hlt': ¬(d:Int)<(a.length:Int):=by omega
    have hde:d=a.length:=by omega
    subst hde
    have HF:Hid (decide (a=b)=true):=by
     have h:=HT.out
     rw[List.take_length,HL.out,List.take_length]at h
     rw[Hid,decide_eq_true h]
    go_wp2_with fail
    go_ret
    exact⟨by rw[HF.out];rfl,HBE.out⟩
 ·have hl':((a.length:Int) !=(b.length:Int))=true:=by simp[bne];omega
  have HF:Hid (decide (a=b)=false):=by rw[Hid,decide_eq_false (fun e=>hl (by rw[e]))]
  clear hl
  go_enter Tryz.func28,Tryz.ntmps28
  go_wp2_with fail
  go_ret
  exact⟨by rw[HF.out];rfl,Below.refl _ _⟩
end Go.Proofs.YtfjbnpdffillbaaGreatDoor
