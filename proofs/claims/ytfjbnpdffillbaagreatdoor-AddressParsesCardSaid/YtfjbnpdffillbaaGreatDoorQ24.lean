/- Parts: Kd. -/
import Derived.Test.YtfjbnpdffillbaaGreatDoorQ23
import Derived.RangeFuncNested
import Derived.RangeFuncBound
import Derived.RangeFuncCalls
import Derived.RangeFuncLeaves
import Derived.Shelf.Abstract
import Derived.Shelf.RegionOpen
import Derived.OwnWalkIn
import Derived.TacticsInMore
import Derived.LoopNIn
import Derived.LoopIn
set_option maxHeartbeats 1600000
set_option maxRecDepth 100000
namespace Go.Proofs.YtfjbnpdffillbaaGreatDoor
open Go.RowKit Go.Shelf
attribute [local go_sem] Oper.semAt_some
def zIn (l:List (Fin 256)):List Nat:=l.map (·.val)
theorem zER (a b:List (Fin 256)):zIn (a++b)=zIn a++zIn b:=List.map_append ..
def zNn (c:Cls) (i:Nat):List Nat:=(List.range i).flatMap (zCt c)
theorem zIP (c:Cls) (i:Nat):zNn c (i+1)=zNn c i++zCt c i:=by
 unfold zNn
 rw[List.range_succ,List.flatMap_append]
 simp
theorem zIQ (c:Cls):zNn c 4=c.els:=by
 rw[zI5]
 show(List.range 4).flatMap _=_
 rw[show List.range 4=[0,1,2,3]from rfl]
 simp
theorem zM1 (c:Cls) {i:Nat} (hi:i<4):zNn c i++zCt c i <+: c.els:=by
 rw[←zIQ,←zIP]
 unfold zNn
 have:List.range 4=List.range (i+1)++(List.range (3 - i)).map (i+1+ ·):=by rw[←List.range_add];congr 1;omega
 rw[this,List.flatMap_append]
 exact List.prefix_append _ _
def Kp (n₀ Bn:Nat) (W W':World):Prop:=Below n₀ W W'∧ ∀o,W.heap[Bn]?=some o→o.isCells=true→W'.heap[Bn]?=some o
theorem Kp.trans' {n₀ Bn:Nat} {A B C:World} (h:Kp n₀ Bn A B) (k:Kp n₀ Bn B C):Kp n₀ Bn A C:=⟨h.1.trans k.1,fun o ho hc=>k.2 o (h.2 o ho hc) hc⟩
theorem Kp.put {n₀ Bn:Nat} {w:World} (hn:n₀≤w.heap.size) (W:World) (l:Nat) (o o':Obj) (hl:w.heap.size≤l) (ho:W.heap[l]?=some o) (hc:o.isCells=false) (hk:o.isWalk=false):Kp n₀ Bn W (W.putObj l o'):=
 ⟨belowK_b hn W l o o' hl ho hc hk,fun o2 h2 hc2=>by
  by_cases e:Bn=l
  ·subst e;rw[ho]at h2;cases h2;rw[hc]at hc2;cases hc2
  ·exact(World.putObj_heap_other e).trans h2⟩
theorem Kp.drew {n₀ Bn:Nat} (W:World):Kp n₀ Bn W W.drew:=⟨(zPg n₀ W).drew,fun _ h _=>h⟩
theorem zFw.under {n₀:Nat} {w w':World} (h:zFw w) (hb:Below n₀ w w') (hg:2<n₀):zFw w':=fun j hj=>
 (hb.cell (p:=⟨2,j,none⟩) hg).trans (h j hj)
theorem zI0 (w:World):w.grownBy w.drew none:=⟨rfl,rfl,rfl,zPh _,fun _ _ _=>rfl⟩
theorem zOY (n l Bn n₀:Nat) (c:Cls) (J Jx:List (Fin 256)→World→Prop) (hn:2≤n) (W:World) (hA:AbidesFrom W.heap.size J)
  (hY: ∀pre x W,J pre W→pre.length<c.els.length→YieldAt Fence.wide (n - 1) Tryz.prog l #[.int .u8 (x.val:Nat)] W fun e W'=>
   (e= .returned (.bool true)∧J (pre++[x]) W'∧Kp n₀ Bn W W')∨(e= .returned (.bool false)∧Jx (pre++[x]) W'))
  (hc:W.heap[Bn]?=some (.cells (zAS c) 76 (0,0))) (hT:zFw W) (hg:2<n₀) (h0:J [] W):
  CallsIn Fence.wide n Tryz.prog 199 #[.func (.yield l) #[] #[],.pointer (some ⟨Bn,0,none⟩)] W fun e W'=>(∃v,e= .returned v)∧
   ((∃ys,zIn ys=c.els∧J ys W')∨(∃pre,zIn pre <+: c.els∧Jx pre W')):=by
 refine callsIn_of_wp Tryz.func199 rfl trivial ?_ rfl
 simp only[Tryz.ntmps199,List.size_toArray,List.length_cons,List.length_nil,Nat.reduceAdd,Nat.reduceSub,Array.replicate_succ,Array.replicate_zero,List.push_toArray,List.append_toArray,List.nil_append,List.cons_append]
 gi_wp2
 gi_loopw [3,4,5] (fun _ _ p wr=> ∃(i:Nat) (pre:List (Fin 256)),p= .int .i64 i∧i≤4∧J pre wr∧zIn pre=zNn c i∧Kp n₀ Bn W wr)
  (fun _ _ p _=>4 - (intOf p).toNat)
 case atStart=>
  exact⟨0,[],rfl,by omega,h0,rfl,zPg _ _,fun _ h _=>h⟩
 case round=>
  obtain⟨i,pre,rfl,hi,hJ,hpre,hK⟩:=hrel
  have HK0:=zPf hK
  have hrow:=hK.2 _ hc rfl
  clear hK
  have hMix:Tryz.prog.follows .mixedOrders=true:=by kernel_rfl
  by_cases hlt:i<4
  ·have hci:wr.cell? ⟨Bn,i,none⟩=some (.int .u64 (c.word i).toNat):=zAX hrow i hlt
   clear hrow
   have hlt':(i:Int)<4:=by omega
   gi_wp2_with fail
   gi_region
   gi_wp2_with fail
   gi_loopw [4] (fun p wq=> ∃(x:Nat) (pr:List (Fin 256)),p= .int .u64 x∧x<18446744073709551616∧J pr wq∧zIn pr++(zHA x).map (fun b=>64*i+b)=zNn c i++zCt c i∧Kp n₀ Bn W wq)
    (fun p _=>(intOf p).toNat)
   case atStart=>exact⟨_,pre,rfl,(c.word i).isLt,hA _ _ _ none hJ (zI0 wr) (fun _ h=>by cases h),by rw[hpre];rfl,HK0.out.trans' (Kp.drew _)⟩
   case round=>
    obtain⟨x,pr,rfl,hx,hJ2,hpr,hB2⟩:=hrel
    have HPR:=zPf hpr
    clear hpr
    by_cases h0:x=0
    ·subst h0
     gi_wp2
     have h1:=HPR.out
     rw[zLU,List.map_nil,List.append_nil,←zIP]at h1
     exact⟨⟨i+1,pr,by simp,by omega,hJ2,h1,hB2⟩,by simp[intOf];omega⟩
    ·have hx0:((x:Int) !=0)=true:=by rw[bne_iff_ne];omega
     obtain⟨hs,hlow,hk⟩:=zLV h0 hx
     have hT2:=zPf (hT.under hB2.1 hg)
     generalize hkk:Lib.ctz 64 x=k at hs hk
     have HK:=zPf hkk
     have HS:=zPf hs
     have HLOW:=zPf hlow
     have hpf:=zPf (zM1 c hlt)
     have hb:64*i+k<256:=by omega
     have hlen:pr.length<c.els.length:=by
      have h1:=HPR.out
      have h2:=hpf.out.length_le
      rw[←h1,HS.out]at h2
      simp[zIn]at h2
      omega
     obtain⟨fn,tm,asg,bdy,hy,hR⟩:=hY pr ⟨64*i+k,hb⟩ wr hJ2 hlen
     dsimp only at hy
     have HY:=zPf hy
     clear hy hkk hs hlow
     gi_wp2_with fail
     refine⟨trivial,fun _=>by omega,?_⟩
     refine(callsIn_wide.2 (zN4 hx hT2.out)).mono ?_;rintro e w1 ⟨rfl,rfl⟩
     rw[HK.out]
     have hy':(Instr.yield l #[Value.int .u8 ((i:Int)*64+(k:Int))]).run Tryz.prog w1= .ok (.round l fn tm asg bdy) w1:=by
      rw[show(i:Int)*64+(k:Int)=((64*i+k:Nat):Int)by omega];exact HY.out
     clear hY
     gi_wp2_with fail
     refine⟨fun _=>by omega,hR.mono ?_⟩
     clear hR hy'
     have hand:bits .and .u64 (x:Int) ((x:Int) - 1)=((x &&& (x - 1):Nat):Int):=by
      rw[show(x:Int) - 1=((x - 1:Nat):Int)by omega]
      exact zEb hx (by omega)
     rintro e W' (⟨rfl,hJ3,hk3⟩|⟨rfl,hJx3⟩)
     ·gi_wp2
      have hl:=HLOW.out
      refine⟨⟨_,_,rfl,by omega,hJ3,?_,hB2.trans' hk3⟩,by simp only[intOf,Int.toNat_natCast];exact hl⟩
      rw[←HPR.out,HS.out,zER]
      simp[zIn]
     ·gi_wp2
      refine zQG (results_none rfl _ _ _) rfl ?_
      refine⟨⟨_,rfl⟩,.inr ⟨_,?_,hJx3⟩⟩
      refine List.IsPrefix.trans ?_ hpf.out
      rw[←HPR.out,HS.out,zER]
      exact⟨(zHA (x &&& (x - 1))).map fun b=>64*i+b,by simp[zIn]⟩
  ·obtain rfl:i=4:=by omega
   gi_wp2
   go_end0
   exact⟨⟨_,rfl⟩,.inl ⟨pre,by rw[hpre,zIQ],hJ⟩⟩
theorem zJF (n Bn n₀:Nat) (hn:2≤n) (c:Cls) (w:World) (hBn:Bn<w.heap.size) (hn₀:n₀≤w.heap.size) (hc:w.heap[Bn]?=some (.cells (zAS c) 76 (0,0))) (hT:zFw w) (hg:2<n₀):
  SeqStopsK Fence.wide n Tryz.prog 199 #[.pointer (some ⟨Bn,0,none⟩)] (fun x:Fin 256=> #[Value.int .u8 (x.val:Nat)]) (Kp n₀ Bn) (fun ys=>zIn ys=c.els) (fun pre=>zIn pre <+: c.els) c.els.length w:=
 fun l J Jx W hW hJ _ hY h0=>zOY n l Bn n₀ c J Jx hn W hJ hY ((hW.block Bn hBn).trans hc) (hT.under hW (zPi hg hn₀)) hg h0
end Go.Proofs.YtfjbnpdffillbaaGreatDoor
