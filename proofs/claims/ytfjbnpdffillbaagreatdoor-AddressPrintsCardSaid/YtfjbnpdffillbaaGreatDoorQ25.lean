/- Parts: Kd. -/
import Derived.Test.YtfjbnpdffillbaaGreatDoorQ24
import Derived.RangeFuncNested
import Derived.RangeFuncBound
import Derived.RangeFuncCalls
import Derived.RangeFuncLeaves
import Derived.Shelf.Abstract
import Derived.Shelf.RegionOpen
import Derived.OwnWalkIn
import Derived.TacticsInMore
import Derived.LoopNIn
import Derived.LoopIn
namespace Go.Proofs.YtfjbnpdffillbaaGreatDoor
open Go.RowKit Go.Shelf
attribute [local go_sem] Oper.semAt_some
def nums (l:List (Fin 256)):List Nat:=l.map (·.val)
theorem nums_append (a b:List (Fin 256)):nums (a++b)=nums a++nums b:=List.map_append ..
def upTo (c:Cls) (i:Nat):List Nat:=(List.range i).flatMap (wordEls c)
theorem upTo_succ (c:Cls) (i:Nat):upTo c (i+1)=upTo c i++wordEls c i:=by
 unfold upTo
 rw[List.range_succ,List.flatMap_append]
 simp
theorem upTo_four (c:Cls):upTo c 4=c.els:=by
 rw[els_words]
 show(List.range 4).flatMap _=_
 rw[show List.range 4=[0,1,2,3]from rfl]
 simp
theorem upTo_pre (c:Cls) {i:Nat} (hi:i<4):upTo c i++wordEls c i <+: c.els:=by
 rw[←upTo_four,←upTo_succ]
 unfold upTo
 have:List.range 4=List.range (i+1)++(List.range (3 - i)).map (i+1+ ·):=by rw[←List.range_add];congr 1;omega
 rw[this,List.flatMap_append]
 exact List.prefix_append _ _
def Kp (n₀ Bn:Nat) (W W':World):Prop:=Below n₀ W W'∧ ∀o,W.heap[Bn]?=some o→o.isCells=true→W'.heap[Bn]?=some o
theorem Kp.trans' {n₀ Bn:Nat} {A B C:World} (h:Kp n₀ Bn A B) (k:Kp n₀ Bn B C):Kp n₀ Bn A C:=⟨h.1.trans k.1,fun o ho hc=>k.2 o (h.2 o ho hc) hc⟩
theorem Kp.put {n₀ Bn:Nat} {w:World} (hn:n₀≤w.heap.size) (W:World) (l:Nat) (o o':Obj) (hl:w.heap.size≤l) (ho:W.heap[l]?=some o) (hc:o.isCells=false) (hk:o.isWalk=false):Kp n₀ Bn W (W.putObj l o'):=
 ⟨belowK_b hn W l o o' hl ho hc hk,fun o2 h2 hc2=>by
  by_cases e:Bn=l
  ·subst e;rw[ho]at h2;cases h2;rw[hc]at hc2;cases hc2
  ·exact(World.putObj_heap_other e).trans h2⟩
theorem Kp.drew {n₀ Bn:Nat} (W:World):Kp n₀ Bn W W.drew:=⟨(Below.refl n₀ W).drew,fun _ h _=>h⟩
theorem TzTab.under {n₀:Nat} {w w':World} (h:TzTab w) (hb:Below n₀ w w') (hg:2<n₀):TzTab w':=fun j hj=>
 (hb.cell (p:=⟨2,j,none⟩) hg).trans (h j hj)
theorem grownBy_drew (w:World):w.grownBy w.drew none:=⟨rfl,rfl,rfl,Nat.le_refl _,fun _ _ _=>rfl⟩
set_option maxRecDepth 100000 in
set_option maxHeartbeats 1600000 in
theorem all1_in (n l Bn n₀:Nat) (c:Cls) (J Jx:List (Fin 256)→World→Prop) (hn:2≤n) (W:World) (hA:AbidesFrom W.heap.size J)
  (hY: ∀pre x W,J pre W→pre.length<c.els.length→YieldAt Fence.wide (n - 1) Tryz.prog l #[.int .u8 (x.val:Nat)] W fun e W'=>
   (e= .returned (.bool true)∧J (pre++[x]) W'∧Kp n₀ Bn W W')∨(e= .returned (.bool false)∧Jx (pre++[x]) W'))
  (hc:W.heap[Bn]?=some (.cells (clsCells c) 76 (0,0))) (hT:TzTab W) (hg:2<n₀) (h0:J [] W):
  CallsIn Fence.wide n Tryz.prog 199 #[.func (.yield l) #[] #[],.pointer (some ⟨Bn,0,none⟩)] W fun e W'=>(∃v,e= .returned v)∧
   ((∃ys,nums ys=c.els∧J ys W')∨(∃pre,nums pre <+: c.els∧Jx pre W')):=by
 refine callsIn_of_wp Tryz.func199 rfl trivial ?_ rfl
 simp only[Tryz.ntmps199,List.size_toArray,List.length_cons,List.length_nil,Nat.reduceAdd,Nat.reduceSub,Array.replicate_succ,Array.replicate_zero,List.push_toArray,List.append_toArray,List.nil_append,List.cons_append]
 gi_wp2
 gi_loopw [3,4,5] (fun _ _ p wr=> ∃(i:Nat) (pre:List (Fin 256)),p= .int .i64 i∧i≤4∧J pre wr∧nums pre=upTo c i∧Kp n₀ Bn W wr)
  (fun _ _ p _=>4 - (intOf p).toNat)
 case atStart=>
  exact⟨0,[],rfl,by omega,h0,rfl,Below.refl _ _,fun _ h _=>h⟩
 case round=>
  obtain⟨i,pre,rfl,hi,hJ,hpre,hK⟩:=hrel
  have HK0:=Lib.hid hK
  have hrow:=hK.2 _ hc rfl
  clear hK
  have hMix:Tryz.prog.follows .mixedOrders=true:=by kernel_rfl
  by_cases hlt:i<4
  ·have hci:wr.cell? ⟨Bn,i,none⟩=some (.int .u64 (c.word i).toNat):=cell_cls hrow i hlt
   clear hrow
   have hlt':(i:Int)<4:=by omega
   gi_wp2_with fail
   gi_region
   gi_wp2_with fail
   gi_loopw [4] (fun p wq=> ∃(x:Nat) (pr:List (Fin 256)),p= .int .u64 x∧x<18446744073709551616∧J pr wq∧nums pr++(bitsN x).map (fun b=>64*i+b)=upTo c i++wordEls c i∧Kp n₀ Bn W wq)
    (fun p _=>(intOf p).toNat)
   case atStart=>exact⟨_,pre,rfl,(c.word i).isLt,hA _ _ _ none hJ (grownBy_drew wr) (fun _ h=>by cases h),by rw[hpre];rfl,HK0.out.trans' (Kp.drew _)⟩
   case round=>
    obtain⟨x,pr,rfl,hx,hJ2,hpr,hB2⟩:=hrel
    have HPR:=Lib.hid hpr
    clear hpr
    by_cases h0:x=0
    ·subst h0
     gi_wp2
     have h1:=HPR.out
     rw[bitsN_zero,List.map_nil,List.append_nil,←upTo_succ]at h1
     exact⟨⟨i+1,pr,by simp,by omega,hJ2,h1,hB2⟩,by simp[intOf];omega⟩
    ·have hx0:((x:Int) !=0)=true:=by rw[bne_iff_ne];omega
     obtain⟨hs,hlow,hk⟩:=bitsN_step h0 hx
     have hT2:=Lib.hid (hT.under hB2.1 hg)
     generalize hkk:Lib.ctz 64 x=k at hs hk
     have HK:=Lib.hid hkk
     have HS:=Lib.hid hs
     have HLOW:=Lib.hid hlow
     have hpf:=Lib.hid (upTo_pre c hlt)
     have hb:64*i+k<256:=by omega
     have hlen:pr.length<c.els.length:=by
      have h1:=HPR.out
      have h2:=hpf.out.length_le
      rw[←h1,HS.out]at h2
      simp[nums]at h2
      omega
     obtain⟨fn,tm,asg,bdy,hy,hR⟩:=hY pr ⟨64*i+k,hb⟩ wr hJ2 hlen
     dsimp only at hy
     have HY:=Lib.hid hy
     clear hy hkk hs hlow
     gi_wp2_with fail
     refine⟨trivial,fun _=>by omega,?_⟩
     refine(callsIn_wide.2 (tz_call hx hT2.out)).mono ?_;rintro e w1 ⟨rfl,rfl⟩
     rw[HK.out]
     have hy':(Instr.yield l #[Value.int .u8 ((i:Int)*64+(k:Int))]).run Tryz.prog w1= .ok (.round l fn tm asg bdy) w1:=by
      rw[show(i:Int)*64+(k:Int)=((64*i+k:Nat):Int)by omega];exact HY.out
     clear hY
     gi_wp2_with fail
     refine⟨fun _=>by omega,hR.mono ?_⟩
     clear hR hy'
     have hand:bits .and .u64 (x:Int) ((x:Int) - 1)=((x &&& (x - 1):Nat):Int):=by
      rw[show(x:Int) - 1=((x - 1:Nat):Int)by omega]
      exact and_u64 hx (by omega)
     rintro e W' (⟨rfl,hJ3,hk3⟩|⟨rfl,hJx3⟩)
     ·gi_wp2
      have hl:=HLOW.out
      refine⟨⟨_,_,rfl,by omega,hJ3,?_,hB2.trans' hk3⟩,by simp only[intOf,Int.toNat_natCast];exact hl⟩
      rw[←HPR.out,HS.out,nums_append]
      simp[nums]
     ·gi_wp2
      refine bodyPost_ret (results_none rfl _ _ _) rfl ?_
      refine⟨⟨_,rfl⟩,.inr ⟨_,?_,hJx3⟩⟩
      refine List.IsPrefix.trans ?_ hpf.out
      rw[←HPR.out,HS.out,nums_append]
      exact⟨(bitsN (x &&& (x - 1))).map fun b=>64*i+b,by simp[nums]⟩
  ·obtain rfl:i=4:=by omega
   gi_wp2
   go_end0
   exact⟨⟨_,rfl⟩,.inl ⟨pre,by rw[hpre,upTo_four],hJ⟩⟩
theorem all_stops (n Bn n₀:Nat) (hn:2≤n) (c:Cls) (w:World) (hBn:Bn<w.heap.size) (hn₀:n₀≤w.heap.size) (hc:w.heap[Bn]?=some (.cells (clsCells c) 76 (0,0))) (hT:TzTab w) (hg:2<n₀):
  SeqStopsK Fence.wide n Tryz.prog 199 #[.pointer (some ⟨Bn,0,none⟩)] (fun x:Fin 256=> #[Value.int .u8 (x.val:Nat)]) (Kp n₀ Bn) (fun ys=>nums ys=c.els) (fun pre=>nums pre <+: c.els) c.els.length w:=
 fun l J Jx W hW hJ _ hY h0=>all1_in n l Bn n₀ c J Jx hn W hJ hY ((hW.block Bn hBn).trans hc) (hT.under hW (Nat.lt_of_lt_of_le hg hn₀)) hg h0
end Go.Proofs.YtfjbnpdffillbaaGreatDoor
