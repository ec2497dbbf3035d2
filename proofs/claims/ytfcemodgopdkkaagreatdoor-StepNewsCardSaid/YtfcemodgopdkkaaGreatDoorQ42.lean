/- Parts: Xv Xw Xx Xy Xz Xmo. -/
import Derived.Test.YtfcemodgopdkkaaGreatDoorQ40
import Derived.Test.YtfcemodgopdkkaaGreatDoorQ41
import Derived.Test.YtfcemodgopdkkaaGreatDoorQ15
import Derived.Test.YtfcemodgopdkkaaGreatDoorQ23
import Derived.Test.YtfcemodgopdkkaaGreatDoorQ37
import Derived.Test.YtfcemodgopdkkaaGreatDoorQ39
import Derived.Test.YtfcemodgopdkkaaGreatDoorQ25
import Derived.Test.YtfcemodgopdkkaaGreatDoorQ26
import Derived.Test.YtfcemodgopdkkaaGreatDoorQ35
set_option maxHeartbeats 6400000
set_option maxRecDepth 100000
namespace Go.Proofs.YtfcemodgopdkkaaGreatDoor
section
open Go.RowKit
structure WdL (w:World) (b:Nat) (cs:List Cx) (d:Nat) (xs:List Value):Prop where
 hp:w.heap[b]?=some (.cells xs.toArray 71 (0,0))
 ln:xs.length=(cs.length+64)*272
 one: ∀v∈xs,v.oneCell'=true
 at_: ∀i c,i<d→cs[i]?=some c→ ∃L ga gb gt gr gp,Sub xs (i*272) L∧zBa w (b+1) c L ga gb gt gr gp
 sp: ∀i,i<d→cs.length≤i→xs[i*272+8]?=some (.int .i64 (9437184+(i:Int)+1))∧xs[i*272+9]?=some (.slice none 0 0)
def WdX (w:World) (b:Nat) (cs:List Cx):Prop:= ∃xs,WdL w b cs (cs.length+64) xs
section
variable {w w':World} {b d:Nat} {cs:List Cx} {xs L:List Value} {c:Cx}
theorem zBa.kb {base ga gb gt gr gp:Nat} (h:zBa w base c L ga gb gt gr gp) (k:Kb base w w'):zBa w' base c L ga gb gt gr gp:=h.block (zMA _) (fun i hi hl=>k.2 i hi hl) k.1
theorem zBa.mono {base base' ga gb gt gr gp:Nat} (h:zBa w base c L ga gb gt gr gp) (hb:base'≤base):zBa w base' c L ga gb gt gr gp:=⟨h.cl,h.e2,h.e5,h.e9,h.e10,h.e11,h.same,h.a.mono hb,h.b.mono hb,h.t.mono hb,h.r.mono hb,h.p.mono hb⟩
theorem WdL.lt (h:WdL w b cs d xs):b<w.heap.size:=(zMG.1 h.hp).1
theorem WdL.kb (h:WdL w b cs d xs) (k:Kb b w w'):WdL w' b cs d xs:=
 ⟨(k.2 b (zMA _) h.lt).trans h.hp,h.ln,h.one,fun i c hi hc=>by
  obtain⟨L,ga,gb,gt,gr,gp,e1,e2⟩:=h.at_ i c hi hc
  exact⟨L,ga,gb,gt,gr,gp,e1,e2.kb (k.mono (Nat.le_succ _))⟩,h.sp⟩
theorem WdL.cell (h:WdL w b cs d xs) (j:Nat):w.cell? ⟨b,j,none⟩=xs[j]?:=(zMN _ _ j _ _ (0,0) h.hp).trans (by simp)
theorem WdL.row (h:WdL w b cs d xs) {o:Nat} (hL:Sub xs o L):w.rangeAt b o L:=fun j v hv=>by
 rw[h.cell]
 exact hL j v hv
theorem WdL.put (h:WdL w b cs d xs) (hd:d<cs.length+64) (hl:L.length=272) (h1: ∀v∈L,v.oneCell'=true)
  (ha: ∀c,cs[d]?=some c→ ∃ga gb gt gr gp,zBa w (b+1) c L ga gb gt gr gp)
  (hs:cs.length≤d→L[8]?=some (.int .i64 (9437184+(d:Int)+1))∧L[9]?=some (.slice none 0 0)):
  WdL (w.setRow b (xs.take (d*272)++L++xs.drop (d*272+272)).toArray) b cs (d+1) (xs.take (d*272)++L++xs.drop (d*272+272)):=by
 have hx:=h.ln
 have hk:Kb (b+1) w (w.setRow b (xs.take (d*272)++L++xs.drop (d*272+272)).toArray):=Kb.row (Nat.lt_succ_self _) _
 have hlt:(xs.take (d*272)).length=d*272:=by rw[List.length_take];omega
 have hin: ∀j,j<272→(xs.take (d*272)++L++xs.drop (d*272+272))[d*272+j]?=L[j]?:=fun j hj=>by
  rw[List.append_assoc,zMU (by omega),hlt,zMT (by omega),show d*272+j - d*272=j by omega]
 have hout: ∀i j,i<d→j<272→(xs.take (d*272)++L++xs.drop (d*272+272))[i*272+j]?=xs[i*272+j]?:=fun i j hi hj=>by
  rw[List.append_assoc,zMT (by omega),List.getElem?_take,if_pos (by omega)]
 refine⟨setRow_heap _ _ _ _ _ _ h.hp,by rw[zMS,zMS,hlt,hl,List.length_drop];omega,fun v hv=>?_,fun i c hi hc=>?_,fun i hi hn=>?_⟩
 ·rcases zMd.1 hv with hv|hv
  ·rcases zMd.1 hv with hv|hv
   ·exact h.one v (List.mem_of_mem_take hv)
   ·exact h1 v hv
  ·exact h.one v (List.mem_of_mem_drop hv)
 ·by_cases e:i<d
  ·obtain⟨L',ga,gb,gt,gr,gp,e1,e2⟩:=h.at_ i c e hc
   refine⟨L',ga,gb,gt,gr,gp,fun j v hv=>?_,e2.kb hk⟩
   have hj:=(zMF.1 hv).1
   rw[e2.cl.len]at hj
   rw[hout i j e hj]
   exact e1 j v hv
  ·obtain rfl:i=d:=by omega
   obtain⟨ga,gb,gt,gr,gp,e2⟩:=ha c hc
   refine⟨L,ga,gb,gt,gr,gp,fun j v hv=>?_,e2.kb hk⟩
   have hj:=(zMF.1 hv).1
   rw[hin j (by omega)]
   exact hv
 ·by_cases e:i<d
  ·rw[hout i 8 e (by decide),hout i 9 e (by decide)]
   exact h.sp i e hn
  ·obtain rfl:i=d:=by omega
   rw[hin 8 (by decide),hin 9 (by decide)]
   exact hs hn
theorem zIs (d:Int):Tryz.zeroCells71.setIfInBounds 8 (.int .i64 d)=(Tryz.zeroCells71.toList.set 8 (.int .i64 d)).toArray:=by
 refine Array.ext' ?_
 simp
theorem zKY:Tryz.zeroCells71.toList[9]?=some (.slice none 0 0):=by kernel_rfl
theorem zIP {n:Nat} : ∀v∈(madeCells Tryz.zeroCells71 n).toList,v.oneCell'=true:=fun v hv=>by
 simp only[madeCells,Array.toList_map,List.mem_map]at hv
 obtain⟨j,_,rfl⟩:=hv
 have hs:Tryz.zeroCells71.size=272:=by rw[←Array.length_toList];exact zAo
 have hj:j % Tryz.zeroCells71.size<Tryz.zeroCells71.size:=Nat.mod_lt _ (by rw[hs];decide)
 have e:Tryz.zeroCells71[j % Tryz.zeroCells71.size]! =Tryz.zeroCells71[j % Tryz.zeroCells71.size]'hj:=getElem!_pos Tryz.zeroCells71 _ hj
 rw[e]
 exact zBc.zero.one _ (by rw[Array.mem_toList_iff];exact Array.getElem_mem hj)
theorem zD8 {o:Option Addr} {n cap:Nat} (h:CmI w o cs) (hn:cs.length=n) (hz:n*440≤140737488351232):
  Calls Tryz.prog 21 #[.slice o n cap] w fun e w'=>e= .returned (.slice (some ⟨w.heap.size,0,none⟩) n (n+64))∧WdX w' w.heap.size cs∧Below w.heap.size w w':=by
 have H:=zL8 h
 have HN:=zL8 hn
 have HZ:=zL8 hz
 have hnz:(n:Int)≤319857928070:=by omega
 clear h hn hz
 obtain⟨i0,hi,hz0,hz1,hz2⟩:=info_parts (zK8).hi
 go_enter Tryz.func21,Tryz.ntmps21
 go_wp2_with (at_make;refine wpList_make_full _ rfl _ _ 22 rfl w.heap.size 71 i0 _ 272 Tryz.underlying22 hi hz0 hz1 .i64 .i64 ((n:Int)+64) ((n:Int)+64) (n+64) rfl rfl (by omega) (by omega) (by rw[hz2];have:=HZ.out;omega) (by unfold maxLen;omega) (by omega) ?_)
 intro w1 hown hgr
 have HO1:=zL8 hown
 have HB1:=zL8 ((zL9 w.heap.size w).grown hgr (zMA _) (fun k hk=>by cases hk))
 obtain⟨b,hbz⟩: ∃b,w.heap.size=b:=⟨_,rfl⟩
 have HBZ:=zL8 hbz
 have HW1:Hid (∃xs,WdL w1 b cs 0 xs):=zL8 (by
  rcases hown.2 with ⟨h,_⟩|⟨g,cap2,cur,h,hb2,hg,hnc,hcm,hcs,ht⟩
  ·cases h
  ·cases h
   rw[←hbz]
   have hlen:cur.toList.length=(n+64)*272:=by rw[Array.length_toList];exact hcs
   have htt:cur.toList=(madeCells Tryz.zeroCells71 ((n+64)*272)).toList:=by
    rw[List.take_of_length_le (by omega)]at ht
    exact ht
   refine⟨cur.toList,by rw[Array.toArray_toList];exact hg,by rw[HN.out];exact hlen,fun v hv=>?_,fun i c hi=>absurd hi (by omega),fun i hi=>absurd hi (by omega)⟩
   rw[htt]at hv
   exact zIP v hv)
 clear hown hgr hi hz0 hz1 hz2 HO1
 try rw[hbz]
 clear hbz
 go_wp2_with fail
 go_loopg [4] (n+64) (fun k iv wr=> ∃(d:Nat) (xs:List Value),iv= .int .i64 (d:Nat)∧k=n+64 - d∧d≤n+64∧WdL wr b cs d xs∧Below w.heap.size w wr)
 case atStart=>obtain⟨xs,hx⟩:=HW1.out;exact⟨0,xs,rfl,by omega,by omega,hx,HB1.out⟩
 case round=>
 obtain⟨d,xs,rfl,hg2,hd,hx,hb⟩:=hrel
 have HG:=zL8 hg2
 have HX:=zL8 hx
 have HB:=zL8 hb
 clear hg2 hx hb HW1 HB1
 by_cases hlt:d<n+64
 ·have hlt':(d:Int)<(n:Int)+64:=by omega
  have HDL:Hid (d<cs.length+64):=zL8 (by rw[HN.out];exact hlt)
  have HXL:Hid (d*272+272≤xs.length):=zL8 (by rw[HX.out.ln,HN.out];omega)
  by_cases hin:d<n
  ·have hin':(d:Int)<(n:Int):=by omega
   obtain⟨c,hc⟩: ∃c,cs[d]?=some c:=⟨_,zMP (by rw[HN.out];exact hin)⟩
   obtain⟨nb,no,rfl,hnb,hrg,hcm⟩:=(H.out.below HB.out) d c hc
   have HC:=zL8 hc
   have HRG:=zL8 hrg
   have HCI:Hid ((Tryz.prog.info? 71).map (·.size)=some c.l.length):=zL8 (by rw[hcm.i.ci.cl.len];exact zAd)
   have HE:=zL8 (zI0 hcm.i)
   clear hc hrg hcm
   go_wp2_with (refine wpList_load_mid rfl 71 _ rfl nb (no+d*272) rfl c.l _ HRG.out Tryz.underlying71 rfl HCI.out ?_)
   refine HE.out.mono ?_;rintro e w2 ⟨⟨L,ga,gb,gt,gr,gp,rfl,hL⟩,hb2⟩
   have HL:=zL8 (hL.mono (show b+1≤wr.heap.size from HX.out.lt))
   have HX2:=zL8 (HX.out.kb (.below hb2))
   have HB2:=zL8 (HB.out.trans (hb2.mono HB.out.size))
   have HSZ:=zL8 (zA2 hL.cl)
   have HON:Hid (L.toArray.all (·.oneCell')=true):=zL8 (by rw[←Array.all_toList,List.all_eq_true];simpa using hL.cl.one)
   have HX3:=zL8 (HX2.out.put HDL.out HL.out.cl.len HL.out.cl.one (fun c' hc'=>by
    rw[HC.out]at hc'
    cases hc'
    exact⟨_,_,_,_,_,HL.out⟩) (fun h=>absurd h (by rw[HN.out];omega)))
   have HB3:=zL8 (zAv HB2.out (g:=b) (by rw[HBZ.out];exact zMA _) (xs.take (d*272)++L++xs.drop (d*272+272)).toArray)
   clear hb2 hL HX HB HE hnb
   have T2:Hid (d*272+L.toArray.size≤xs.toArray.size):=zL8 (by rw[List.size_toArray,List.size_toArray,HL.out.cl.len];exact HXL.out)
   have T3:Hid (w2.setRow b (xs.toArray.toList.take (d*272)++L.toArray.toList++xs.toArray.toList.drop (d*272+L.toArray.size)).toArray=w2.setRow b (xs.take (d*272)++L++xs.drop (d*272+272)).toArray):=zL8 (by rw[List.size_toArray,HL.out.cl.len])
   obtain⟨W3,hW3⟩: ∃W,w2.setRow b (xs.take (d*272)++L++xs.drop (d*272+272)).toArray=W:=⟨_,rfl⟩
   rw[hW3]at HX3 HB3 T3
   clear hW3
   go_wp2_with (refine zBx rfl 71 _ _ rfl b (d*272) L.toArray rfl rfl _ xs.toArray HX2.out.hp HSZ.out T2.out HON.out _ T3.out ?_)
   go_roundg (n+64 - (d+1))
   case measure=>have:=HG.out;omega
   case rel=>exact⟨d+1,_,by go_num,rfl,by omega,HX3.out,HB3.out⟩
  ·have hin': ¬(d:Int)<(n:Int):=by omega
   go_wp2_with fail
   refine(zBt 9 (d:Int) (by decide) (by decide) (by omega) (by omega)).mono ?_;rintro e w2 ⟨rfl,rfl⟩
   have e0:(1048576:Int)*9+(d:Int)+1=9437184+(d:Int)+1:=by omega
   rw[e0]
   clear e0
   have hcl:zBc (Tryz.zeroCells71.toList.set 8 (.int .i64 (9437184+(d:Int)+1))):=zBc.zero.set 8 rfl
   have HCL:=zL8 hcl
   have HSZ:=zL8 (zA2 hcl)
   have HON:Hid ((Tryz.zeroCells71.toList.set 8 (.int .i64 (9437184+(d:Int)+1))).toArray.all (·.oneCell')=true):=zL8 (by rw[←Array.all_toList,List.all_eq_true];simpa using hcl.one)
   have HX3:=zL8 (HX.out.put HDL.out hcl.len hcl.one (fun c' hc'=>absurd (zMF.1 hc').1 (by rw[HN.out];omega)) (fun _=>⟨List.getElem?_set_self (by rw[zAo];decide),by rw[List.getElem?_set_ne (by decide)];exact zKY⟩))
   have HB3:=zL8 (zAv HB.out (g:=b) (by rw[HBZ.out];exact zMA _) (xs.take (d*272)++(Tryz.zeroCells71.toList.set 8 (.int .i64 (9437184+(d:Int)+1)))++xs.drop (d*272+272)).toArray)
   have HBA:=zL8 (zIs (9437184+(d:Int)+1))
   clear hcl
   have T2:Hid (d*272+(Tryz.zeroCells71.toList.set 8 (.int .i64 (9437184+(d:Int)+1))).toArray.size≤xs.toArray.size):=zL8 (by rw[List.size_toArray,List.size_toArray,HCL.out.len];exact HXL.out)
   have T3:Hid (wr.setRow b (xs.toArray.toList.take (d*272)++(Tryz.zeroCells71.toList.set 8 (.int .i64 (9437184+(d:Int)+1))).toArray.toList++xs.toArray.toList.drop (d*272+(Tryz.zeroCells71.toList.set 8 (.int .i64 (9437184+(d:Int)+1))).toArray.size)).toArray=wr.setRow b (xs.take (d*272)++(Tryz.zeroCells71.toList.set 8 (.int .i64 (9437184+(d:Int)+1)))++xs.drop (d*272+272)).toArray):=zL8 (by rw[List.size_toArray,HCL.out.len])
   obtain⟨W3,hW3⟩: ∃W,wr.setRow b (xs.take (d*272)++(Tryz.zeroCells71.toList.set 8 (.int .i64 (9437184+(d:Int)+1)))++xs.drop (d*272+272)).toArray=W:=⟨_,rfl⟩
   rw[hW3]at HX3 HB3 T3
   clear hW3
   go_wp2_with (refine zBx rfl 71 _ _ rfl b (d*272) (Tryz.zeroCells71.toList.set 8 (.int .i64 (9437184+(d:Int)+1))).toArray rfl (congrArg Value.agg HBA.out) _ xs.toArray HX.out.hp HSZ.out T2.out HON.out _ T3.out ?_)
   go_roundg (n+64 - (d+1))
   case measure=>have:=HG.out;omega
   case rel=>exact⟨d+1,_,by go_num,rfl,by omega,HX3.out,HB3.out⟩
 ·have hlt': ¬(d:Int)<(n:Int)+64:=by omega
  have hde:d=n+64:=by omega
  subst hde
  go_wp2_with fail
  go_ret
  exact⟨by rw[HBZ.out];rfl,⟨xs,by rw[HBZ.out,HN.out];exact HX.out⟩,HB.out⟩
end
end
section
open Go.RowKit
section
variable {w w':World} {b d:Nat} {cs:List Cx} {xs L:List Value} {c:Cx}
theorem WdX.kb (h:WdX w b cs) (k:Kb b w w'):WdX w' b cs:=by
 obtain⟨xs,h⟩:=h
 exact⟨xs,h.kb k⟩
theorem zDk {n:Nat} (h:WdX w b cs) (hi: ∀(i:Nat) (c:Cx),cs[i]?=some c→CxM w c) (hn:cs.length=n) (hz:n*440≤140737488351232):
  Calls Tryz.prog 40 #[.slice (some ⟨b,0,none⟩) n (n+64)] w fun e w'=>e= .returned (.bool true)∧Below w.heap.size w w':=by
 obtain⟨xs,h⟩:=h
 have H:=zL8 h
 have HI:=zL8 hi
 have HN:=zL8 hn
 have hnz:(n:Int)≤319857928070:=by omega
 clear h hi hn hz
 go_enter Tryz.func40,Tryz.ntmps40
 go_wp2_with fail
 go_loopg [4] 64 (fun k iv wr=> ∃d:Nat,iv= .int .i64 (d:Nat)∧k=n+64 - d∧n≤d∧d≤n+64∧Below w.heap.size w wr)
 case atStart=>exact⟨n,rfl,by omega,by omega,by omega,zL9 _ _⟩
 case round=>
 obtain⟨d,rfl,hg2,hd0,hd,hb⟩:=hrel
 have HG:=zL8 hg2
 have HB:=zL8 hb
 have HBD:=zL8 hb.drew
 clear hg2 hb
 by_cases hlt:d<n+64
 ·have hlt':(d:Int)<(n:Int)+64:=by omega
  have hx:=H.out.kb (.below HB.out)
  obtain⟨s8,s9⟩:=hx.sp d (by rw[HN.out];exact hlt) (by rw[HN.out];exact hd0)
  have c8:=(hx.cell (d*272+8)).trans s8
  have c9:=(hx.cell (d*272+9)).trans s9
  have hbl:=hx.lt
  have e1:((9437184:Int)+(d:Int)+1==9437184+(d:Int)+1)=true:=by simp
  clear hx s8 s9
  go_wp2_with fail
  refine zAA (X:=none) 18 [([0,1,2,3,4,5],6)] [7,8,9,10,11,12,13,14,15,16,17] (by kernel_rfl) (by kernel_rfl) rfl (fun _ _ _ _ _ h=>h) ?_
  simp only[zAJ,zAC,zAG,zAD,zAB,List.getD_cons_zero,List.getD_cons_succ,List.drop_succ_cons,List.drop_nil]
  repeat (go_big_quiet_step (fail))
  refine wpQuiet_nil ?_
  go_wp2_with fail
  refine(zBt 9 (d:Int) (by decide) (by decide) (by omega) (by omega)).mono ?_;rintro e w3 ⟨rfl,rfl⟩
  have e0:(1048576:Int)*9+(d:Int)+1=9437184+(d:Int)+1:=by omega
  rw[e0]
  clear e0
  go_wp2_with fail
  refine⟨zAP.refl _,?_⟩
  repeat (go_big_quiet_step (fail))
  refine wpQuiet_nil ?_
  go_wp2_with fail
  go_roundg (n+64 - (d+1))
  case measure=>have:=HG.out;omega
  case rel=>exact⟨d+1,by go_num,rfl,by omega,by omega,HBD.out⟩
 ·have hlt': ¬(d:Int)<(n:Int)+64:=by omega
  clear HBD
  rename World=>v
  go_wp2_with fail
  go_loopg [5] n (fun k iv wr=> ∃j:Nat,iv= .int .i64 (j:Nat)∧k=n - j∧j≤n∧Below w.heap.size w wr)
  case atStart=>exact⟨0,rfl,by omega,by omega,HB.out⟩
  case round=>
  obtain⟨j,rfl,hg3,hj,hb3⟩:=hrel
  have HG3:=zL8 hg3
  have HB3:=zL8 hb3
  clear hg3 hb3
  by_cases hjn:j<n
  ·have hjn':(j:Int)<(n:Int):=by omega
   obtain⟨c,hc⟩: ∃c,cs[j]?=some c:=⟨_,zMP (by rw[HN.out];exact hjn)⟩
   have hx:=H.out.kb (.below HB3.out)
   obtain⟨L,ga,gb,gt,gr,gp,e1,e2⟩:=hx.at_ j c (by rw[HN.out];omega) hc
   have HRG:=zL8 (hx.row e1)
   have HCI:Hid ((Tryz.prog.info? 71).map (·.size)=some L.length):=zL8 (by rw[e2.cl.len];exact zAd)
   have hbl:=hx.lt
   have HE:=zL8 (zHt e2 ((HI.out j c hc).below HB3.out).i)
   clear hx hc e1 e2
   go_wp2_with (refine wpList_load_mid rfl 71 _ rfl b (j*272) rfl L _ HRG.out Tryz.underlying71 rfl HCI.out ?_)
   refine HE.out.mono ?_;rintro e w2 ⟨rfl,hb2⟩
   have HB4:=zL8 (HB3.out.trans (hb2.mono HB3.out.size))
   clear hb2
   go_wp2_with fail
   go_roundg (n - (j+1))
   case measure=>have:=HG3.out;omega
   case rel=>exact⟨j+1,by go_num,rfl,by omega,HB4.out⟩
  ·have hjn': ¬(j:Int)<(n:Int):=by omega
   go_wp2_with fail
   go_ret
   exact⟨rfl,HB3.out⟩
end
end
section
open Go.RowKit
structure PgI (w:World) (oc:Option Addr) (n cc:Nat) (ot:Option Addr) (m ct:Nat) (of_:Option Addr) (k cf:Nat) (cs:List Cx) (ti:Nat→Int) (fi:Nat→ByteArray):Prop where
 c:CmI w oc cs
 cn:cs.length=n
 cz:n*440≤140737488351232
 cl:n≤cc
 t:Src w (.slice ot m ct) m ((List.range m).map fun i=> .int .i64 (ti i))
 tr:RwV w ot m fun i=> .int .i64 (ti i)
 tz:m*8≤140737488351232
 f:Src w (.slice of_ k cf) k ((List.range k).map fun i=> .string (fi i))
 fr:RwV w of_ k fun i=> .string (fi i)
 fz:k*16≤140737488351232
structure PgW (w:World) (b g h:Nat) (n m k:Nat) (cs:List Cx) (ti:Nat→Int) (fi:Nat→ByteArray):Prop where
 c:WdX w b cs
 t:zBe w b g m 3 (fun i=> .int .i64 (ti i)) zHH
 f:zBe w b h k 9 (fun i=> .string (fi i)) zHG
structure PgC (w:World) (base:Nat) (vc vt vf:Value) (m k:Nat) (cs:List Cx) (ti:Nat→Int) (fi:Nat→ByteArray):Prop where
 c:CpL w base vc cs
 t:w.ownsRow base 3 1 vt m ((List.range m).map fun i=> .int .i64 (ti i))
 f:w.ownsRow base 9 1 vf k ((List.range k).map fun i=> .string (fi i))
structure PgS (w0 w:World) (c:Nat) (v0 v1 v2:Value) (q:Bool):Prop where
 B:Below c w0 w
 p:PrB w c v0 v1 v2 q
 r:PrB w (c+1) (.slice none 0 0) (.slice none 0 0) (.slice none 0 0) false
section
variable {w w0 w':World} {oc ot of_:Option Addr} {n cc m ct k cf b g h c base:Nat} {cs:List Cx} {ti:Nat→Int} {fi:Nat→ByteArray} {q:Bool} {zs:List Cz} {v0 v1 v2 vc vt vf:Value}
theorem PgS.new (w:World) (v0 v1 v2:Value) (q:Bool):PgS w ((w.alloc (.cells #[v0,v1,v2,.bool q] 26)).alloc (.cells #[.slice none 0 0,.slice none 0 0,.slice none 0 0,.bool false] 26)) w.heap.size v0 v1 v2 q:=by
 have e1:(w.alloc (.cells #[v0,v1,v2,.bool q] 26)).heap.size=w.heap.size+1:=by simp
 have hr:=PrB.new (w.alloc (.cells #[v0,v1,v2,.bool q] 26)) (.slice none 0 0) (.slice none 0 0) (.slice none 0 0) false
 rw[e1]at hr
 exact⟨((zL9 _ _).alloc (zMA _) _).alloc (by omega) _,(PrB.new w v0 v1 v2 q).below ((zL9 _ _).alloc (zMA _) _),hr⟩
theorem PgS.below (h:PgS w0 w c v0 v1 v2 q) (hb:Below w.heap.size w w'):PgS w0 w' c v0 v1 v2 q:=
 ⟨h.B.trans (hb.mono (Nat.le_of_lt h.p.lt)),h.p.below hb,h.r.below hb⟩
theorem PrB.away {i:Nat} {x:Value} {d:Nat} (h:PrB w d v0 v1 v2 q) (hd:d≠c):PrB (w.setCell ⟨c,i,none⟩ x) d v0 v1 v2 q:=h.same (zMI _ _ _ _ hd) (by simp[World.setCell])
theorem PgS.set0 (h:PgS w0 w c v0 v1 v2 q) (x:Value):PgS w0 (w.setCell ⟨c,0,none⟩ x) c x v1 v2 q:=⟨h.B.setCell (p:=⟨c,0,none⟩) (zMA c) _,h.p.set0 x,h.r.away (by omega)⟩
theorem PgS.set1 (h:PgS w0 w c v0 v1 v2 q) (x:Value):PgS w0 (w.setCell ⟨c,1,none⟩ x) c v0 x v2 q:=⟨h.B.setCell (p:=⟨c,1,none⟩) (zMA c) _,h.p.set1 x,h.r.away (by omega)⟩
theorem PgS.set2 (h:PgS w0 w c v0 v1 v2 q) (x:Value):PgS w0 (w.setCell ⟨c,2,none⟩ x) c v0 v1 x q:=⟨h.B.setCell (p:=⟨c,2,none⟩) (zMA c) _,h.p.set2 x,h.r.away (by omega)⟩
theorem Src.same {v:Value} {n:Nat} {xs:List Value} (h:Src w v n xs) (hb:Below w.heap.size w w'):Src w' v n xs:=by
 rcases h with h|⟨a,c,h1,h2⟩
 ·exact .inl h
 ·exact .inr ⟨a,c,h1,fun j u hj=>(hb.cell (zMf _ _ (h2 j u hj))).trans (h2 j u hj)⟩
theorem PgI.below (h:PgI w oc n cc ot m ct of_ k cf cs ti fi) (hb:Below w.heap.size w w'):PgI w' oc n cc ot m ct of_ k cf cs ti fi:=
 ⟨h.c.below hb,h.cn,h.cz,h.cl,h.t.same hb,h.tr.below hb,h.tz,h.f.same hb,h.fr.below hb,h.fz⟩
theorem zBe.mono {base base' g n:Nat} {e:TypeId} {f m:Nat→Value} (h:zBe w base g n e f m) (hb:base'≤base):zBe w base' g n e f m:=by
 obtain⟨xs,h1,h2⟩:=h
 exact⟨xs,zAH h1 hb,h2⟩
theorem PgW.kb (x:PgW w b g h n m k cs ti fi) (kb:Kb b w w'):PgW w' b g h n m k cs ti fi:=⟨x.c.kb kb,x.t.kb kb,x.f.kb kb⟩
theorem PgC.kb (h:PgC w base vc vt vf m k cs ti fi) (kb:Kb base w w'):PgC w' base vc vt vf m k cs ti fi:=⟨h.c.kb kb,zAQ h.t kb,zAQ h.f kb⟩
theorem zEv {f:Nat→Value} (hf: ∀i,(f i).oneCell'=true) {n:Nat} : ∀u∈(List.range n).map f,u.oneCell'=true:=fun u hu=>by
 obtain⟨i,_,rfl⟩:=List.mem_map.1 hu
 exact hf i
theorem Kb.put4 {b d:Nat} (h:d<b) (w:World) (u0 u1 u2 u3:Value):Kb b w ((((w.setCell ⟨d,0,none⟩ u0).setCell ⟨d,1,none⟩ u1).setCell ⟨d,2,none⟩ u2).setCell ⟨d,3,none⟩ u3):=
 (((Kb.set h _ _).trans (Kb.set h _ _)).trans (Kb.set h _ _)).trans (Kb.set h _ _)
theorem zC6 (h:PgI w oc n cc ot m ct of_ k cf cs ti fi) (ht:zBn w) (q:Bool):
  Calls Tryz.prog 6 #[.agg #[.slice oc n cc,.slice ot m ct,.slice of_ k cf,.bool q]] w fun e w'=>(∃b g h,e= .returned (.agg #[.slice (some ⟨b,0,none⟩) n (n+64),.slice (some ⟨g,0,none⟩) m (m+64),.slice (some ⟨h,0,none⟩) k (k+64),.bool q])∧w.heap.size≤b∧PgW w' b g h n m k cs ti fi)∧Below w.heap.size w w':=by
 have HS:=zL8 (PgS.new w (.slice oc n cc) (.slice ot m ct) (.slice of_ k cf) q)
 have HI:=zL8 h
 have HT:=zL8 ht
 clear ht
 clear h
 go_enter Tryz.func6,Tryz.ntmps6
 go_upto_region 1 with fail
 obtain⟨W,hW⟩: ∃W,(w.alloc (.cells #[.slice oc n cc,.slice ot m ct,.slice of_ k cf,.bool q] 26)).alloc (.cells #[.slice none 0 0,.slice none 0 0,.slice none 0 0,.bool false] 26)=W:=⟨_,rfl⟩
 rw[hW]at HS ⊢
 obtain⟨c,hcz⟩: ∃c,w.heap.size=c:=⟨_,rfl⟩
 rw[hcz]at HS ⊢
 have HCZ:=zL8 hcz
 have HW0:Hid (∀ {X:World},Below c w X→Below w.heap.size w X):=zL8 (by rw[hcz];exact fun h=>h)
 clear hW hcz
 have HE:=zL8 (zD8 (cap:=cc) (HI.out.below (HW0.out HS.out.B)).c HI.out.cn HI.out.cz)
 have c0:=HS.out.p.c0
 have fz:=HS.out.p.fz
 have hl:=HS.out.p.lt
 go_wp2_with fail
 refine HE.out.mono ?_;rintro e w1 ⟨rfl,hx,hb⟩
 obtain⟨b,hbz⟩: ∃b,W.heap.size=b:=⟨_,rfl⟩
 have HRL:Hid (c+1<b):=zL8 (by rw[←hbz];exact HS.out.r.lt)
 rw[hbz]at hx ⊢
 have HBW:Hid (b≤W.heap.size):=zL8 (by rw[hbz];exact zMA _)
 clear hbz
 have HX0:=zL8 (hx)
 have HS1:=zL8 ((HS.out.below hb).set0 (.slice (some ⟨b,0,none⟩) n (n+64)))
 have HBW1:=zL8 (zMV HBW.out hb.size)
 have fz:=(HS.out.below hb).p.fz
 have k0:=(HS.out.below hb).p.c0
 have hl':=(HS.out.below hb).p.lt
 clear c0 hb hx HE hl HS HBW
 have HX0':=zL8 (WdX.kb HX0.out (Kb.set (b:=c) (by have:=HRL.out;omega) 0 (.slice (some ⟨b,0,none⟩) n (n+64))))
 clear HX0
 have HX0:=HX0'
 clear HX0'
 have HBW:Hid (b≤(w1.setCell ⟨c,0,none⟩ (.slice (some ⟨b,0,none⟩) n (n+64))).heap.size):=zL8 (by simpa [World.setCell]using HBW1.out)
 clear HBW1
 go_upto_region 2 with fail
 obtain⟨V0,hV⟩: ∃V,w1.setCell ⟨c,0,none⟩ (.slice (some ⟨b,0,none⟩) n (n+64))=V:=⟨_,rfl⟩
 rw[hV]at HS1 HX0 HBW ⊢
 have HS:=HS1
 clear hV HS1 k0 fz hl'
 have HE:=zL8 (zIz (cap:=ct) (HI.out.below (HW0.out HS.out.B)).tr HI.out.tz)
 have c1:=HS.out.p.c1
 have fz:=HS.out.p.fz
 have hl:=HS.out.p.lt
 go_wp2_with fail
 refine HE.out.mono ?_;rintro e w2 ⟨⟨g,rfl,hx⟩,hb⟩
 have HX0':=zL8 (WdX.kb HX0.out (Kb.below hb))
 have HX1:=zL8 (hx.mono HBW.out)
 have HS1:=zL8 ((HS.out.below hb).set1 (.slice (some ⟨g,0,none⟩) m (m+64)))
 have HBW1:=zL8 (zMV HBW.out hb.size)
 have fz:=(HS.out.below hb).p.fz
 have k1:=(HS.out.below hb).p.c1
 have hl':=(HS.out.below hb).p.lt
 clear c1 hb hx HE hl HS HBW HX0
 have HX0:=HX0'
 clear HX0'
 have HX0':=zL8 (WdX.kb HX0.out (Kb.set (b:=c) (by have:=HRL.out;omega) 1 (.slice (some ⟨g,0,none⟩) m (m+64))))
 clear HX0
 have HX0:=HX0'
 clear HX0'
 have HX1':=zL8 (zBe.kb HX1.out (Kb.set (b:=c) (by have:=HRL.out;omega) 1 (.slice (some ⟨g,0,none⟩) m (m+64))))
 clear HX1
 have HX1:=HX1'
 clear HX1'
 have HBW:Hid (b≤(w2.setCell ⟨c,1,none⟩ (.slice (some ⟨g,0,none⟩) m (m+64))).heap.size):=zL8 (by simpa [World.setCell]using HBW1.out)
 clear HBW1
 go_upto_region 3 with fail
 obtain⟨V1,hV⟩: ∃V,w2.setCell ⟨c,1,none⟩ (.slice (some ⟨g,0,none⟩) m (m+64))=V:=⟨_,rfl⟩
 rw[hV]at HS1 HX0 HX1 HBW ⊢
 have HS:=HS1
 clear hV HS1 k1 fz hl'
 have HE:=zL8 (zHe (cap:=cf) (HI.out.below (HW0.out HS.out.B)).fr HI.out.fz (HT.out.below (HW0.out HS.out.B)))
 have c2:=HS.out.p.c2
 have fz:=HS.out.p.fz
 have hl:=HS.out.p.lt
 go_wp2_with fail
 refine HE.out.mono ?_;rintro e w3 ⟨⟨h,rfl,hx⟩,hb⟩
 have HX0':=zL8 (WdX.kb HX0.out (Kb.below hb))
 have HX1':=zL8 (zBe.kb HX1.out (Kb.below hb))
 have HX2:=zL8 (hx.mono HBW.out)
 have HS1:=zL8 ((HS.out.below hb).set2 (.slice (some ⟨h,0,none⟩) k (k+64)))
 have HBW1:=zL8 (zMV HBW.out hb.size)
 have fz:=(HS.out.below hb).p.fz
 have k2:=(HS.out.below hb).p.c2
 have hl':=(HS.out.below hb).p.lt
 clear c2 hb hx HE hl HS HBW HX0 HX1
 have HX0:=HX0'
 clear HX0'
 have HX1:=HX1'
 clear HX1'
 have HX0':=zL8 (WdX.kb HX0.out (Kb.set (b:=c) (by have:=HRL.out;omega) 2 (.slice (some ⟨h,0,none⟩) k (k+64))))
 clear HX0
 have HX0:=HX0'
 clear HX0'
 have HX1':=zL8 (zBe.kb HX1.out (Kb.set (b:=c) (by have:=HRL.out;omega) 2 (.slice (some ⟨h,0,none⟩) k (k+64))))
 clear HX1
 have HX1:=HX1'
 clear HX1'
 have HX2':=zL8 (zBe.kb HX2.out (Kb.set (b:=c) (by have:=HRL.out;omega) 2 (.slice (some ⟨h,0,none⟩) k (k+64))))
 clear HX2
 have HX2:=HX2'
 clear HX2'
 have HBW:Hid (b≤(w3.setCell ⟨c,2,none⟩ (.slice (some ⟨h,0,none⟩) k (k+64))).heap.size):=zL8 (by simpa [World.setCell]using HBW1.out)
 clear HBW1
 go_upto_region 4 with fail
 obtain⟨V2,hV⟩: ∃V,w3.setCell ⟨c,2,none⟩ (.slice (some ⟨h,0,none⟩) k (k+64))=V:=⟨_,rfl⟩
 rw[hV]at HS1 HX0 HX1 HX2 HBW ⊢
 have HS:=HS1
 clear hV HS1 k2 fz hl'
 have c0:=HS.out.p.c0
 have c1:=HS.out.p.c1
 have c2:=HS.out.p.c2
 have c3:=HS.out.p.c3
 have d0:=HS.out.r.c0
 have d1:=HS.out.r.c1
 have d2:=HS.out.r.c2
 have d3:=HS.out.r.c3
 have fz:=HS.out.r.fz
 have hl:=HS.out.r.lt
 have hlp:=HS.out.p.lt
 go_wp2_with fail
 refine zEE (p:=2) rfl rfl rfl (HS.out.r.put _ _ _ _) ⟨⟨b,g,h,rfl,by have:=HRL.out;rw[HCZ.out];omega,⟨WdX.kb HX0.out (Kb.put4 (show c+1<b from HRL.out) _ _ _ _ _),zBe.kb HX1.out (Kb.put4 (show c+1<b from HRL.out) _ _ _ _ _),zBe.kb HX2.out (Kb.put4 (show c+1<b from HRL.out) _ _ _ _ _)⟩⟩,?_⟩
 exact HW0.out ((((HS.out.B.setCell (p:=⟨c+1,0,none⟩) (by show c≤c+1;omega) _).setCell (p:=⟨c+1,1,none⟩) (by show c≤c+1;omega) _).setCell (p:=⟨c+1,2,none⟩) (by show c≤c+1;omega) _).setCell (p:=⟨c+1,3,none⟩) (by show c≤c+1;omega) _)
theorem zDB (h:PgI w oc n cc ot m ct of_ k cf cs ti fi) (q:Bool):
  Calls Tryz.prog 33 #[.agg #[.slice oc n cc,.slice ot m ct,.slice of_ k cf,.bool q]] w fun e w'=>(∃oc2 ot2 of2 cc2 ct2 cf2,e= .returned (.agg #[.slice oc2 n cc2,.slice ot2 m ct2,.slice of2 k cf2,.bool q])∧PgC w' w.heap.size (.slice oc2 n cc2) (.slice ot2 m ct2) (.slice of2 k cf2) m k cs ti fi)∧Below w.heap.size w w':=by
 have HS:=zL8 (PgS.new w (.slice oc n cc) (.slice ot m ct) (.slice of_ k cf) q)
 have HI:=zL8 h
 clear h
 go_enter Tryz.func33,Tryz.ntmps33
 go_upto_region 1 with fail
 obtain⟨W,hW⟩: ∃W,(w.alloc (.cells #[.slice oc n cc,.slice ot m ct,.slice of_ k cf,.bool q] 26)).alloc (.cells #[.slice none 0 0,.slice none 0 0,.slice none 0 0,.bool false] 26)=W:=⟨_,rfl⟩
 rw[hW]at HS ⊢
 obtain⟨c,hcz⟩: ∃c,w.heap.size=c:=⟨_,rfl⟩
 rw[hcz]at HS ⊢
 have HCZ:=zL8 hcz
 have HW0:Hid (∀ {X:World},Below c w X→Below w.heap.size w X):=zL8 (by rw[hcz];exact fun h=>h)
 clear hW hcz
 have HE:=zL8 (zCj (cap:=cc) (HI.out.below (HW0.out HS.out.B)).c HI.out.cn HI.out.cz)
 have c0:=HS.out.p.c0
 have fz:=HS.out.p.fz
 have hl:=HS.out.p.lt
 go_wp2_with fail
 refine HE.out.mono ?_;rintro e w1 ⟨⟨oc2,cc2,rfl,hx⟩,hb⟩
 have HX0:=zL8 (hx.mono (show c+2≤_ from HS.out.r.lt))
 have HS1:=zL8 ((HS.out.below hb).set0 (.slice oc2 n cc2))
 have fz:=(HS.out.below hb).p.fz
 have k0:=(HS.out.below hb).p.c0
 have hl':=(HS.out.below hb).p.lt
 clear c0 hb hx HE hl HS
 have HX0':=zL8 (CpL.kb HX0.out (Kb.set (b:=c) (by omega) 0 (.slice oc2 n cc2)))
 clear HX0
 have HX0:=HX0'
 clear HX0'
 go_upto_region 2 with fail
 obtain⟨V0,hV⟩: ∃V,w1.setCell ⟨c,0,none⟩ (.slice oc2 n cc2)=V:=⟨_,rfl⟩
 rw[hV]at HS1 HX0 ⊢
 have HS:=HS1
 clear hV HS1 k0 fz hl'
 have HE:=zL8 (zJf (HI.out.below (HW0.out HS.out.B)).t (by simp) (zEv fun _=>rfl) HI.out.tz)
 have c1:=HS.out.p.c1
 have fz:=HS.out.p.fz
 have hl:=HS.out.p.lt
 go_wp2_with fail
 refine HE.out.mono ?_;rintro e w2 ⟨⟨ot2,ct2,rfl,hx⟩,hb⟩
 have HX0':=zL8 (CpL.kb HX0.out (Kb.below hb))
 have HX1:=zL8 (zAH hx (show c+2≤_ from HS.out.r.lt))
 have HS1:=zL8 ((HS.out.below hb).set1 (.slice ot2 m ct2))
 have fz:=(HS.out.below hb).p.fz
 have k1:=(HS.out.below hb).p.c1
 have hl':=(HS.out.below hb).p.lt
 clear c1 hb hx HE hl HS HX0
 have HX0:=HX0'
 clear HX0'
 have HX0':=zL8 (CpL.kb HX0.out (Kb.set (b:=c) (by omega) 1 (.slice ot2 m ct2)))
 clear HX0
 have HX0:=HX0'
 clear HX0'
 have HX1':=zL8 (zAQ HX1.out (Kb.set (b:=c) (by omega) 1 (.slice ot2 m ct2)))
 clear HX1
 have HX1:=HX1'
 clear HX1'
 go_upto_region 3 with fail
 obtain⟨V1,hV⟩: ∃V,w2.setCell ⟨c,1,none⟩ (.slice ot2 m ct2)=V:=⟨_,rfl⟩
 rw[hV]at HS1 HX0 HX1 ⊢
 have HS:=HS1
 clear hV HS1 k1 fz hl'
 have HE:=zL8 (zIk (HI.out.below (HW0.out HS.out.B)).f (by simp) (zEv fun _=>rfl) HI.out.fz)
 have c2:=HS.out.p.c2
 have fz:=HS.out.p.fz
 have hl:=HS.out.p.lt
 go_wp2_with fail
 refine HE.out.mono ?_;rintro e w3 ⟨⟨of2,cf2,rfl,hx⟩,hb⟩
 have HX0':=zL8 (CpL.kb HX0.out (Kb.below hb))
 have HX1':=zL8 (zAQ HX1.out (Kb.below hb))
 have HX2:=zL8 (zAH hx (show c+2≤_ from HS.out.r.lt))
 have HS1:=zL8 ((HS.out.below hb).set2 (.slice of2 k cf2))
 have fz:=(HS.out.below hb).p.fz
 have k2:=(HS.out.below hb).p.c2
 have hl':=(HS.out.below hb).p.lt
 clear c2 hb hx HE hl HS HX0 HX1
 have HX0:=HX0'
 clear HX0'
 have HX1:=HX1'
 clear HX1'
 have HX0':=zL8 (CpL.kb HX0.out (Kb.set (b:=c) (by omega) 2 (.slice of2 k cf2)))
 clear HX0
 have HX0:=HX0'
 clear HX0'
 have HX1':=zL8 (zAQ HX1.out (Kb.set (b:=c) (by omega) 2 (.slice of2 k cf2)))
 clear HX1
 have HX1:=HX1'
 clear HX1'
 have HX2':=zL8 (zAQ HX2.out (Kb.set (b:=c) (by omega) 2 (.slice of2 k cf2)))
 clear HX2
 have HX2:=HX2'
 clear HX2'
 go_upto_region 4 with fail
 obtain⟨V2,hV⟩: ∃V,w3.setCell ⟨c,2,none⟩ (.slice of2 k cf2)=V:=⟨_,rfl⟩
 rw[hV]at HS1 HX0 HX1 HX2 ⊢
 have HS:=HS1
 clear hV HS1 k2 fz hl'
 have c0:=HS.out.p.c0
 have c1:=HS.out.p.c1
 have c2:=HS.out.p.c2
 have c3:=HS.out.p.c3
 have d0:=HS.out.r.c0
 have d1:=HS.out.r.c1
 have d2:=HS.out.r.c2
 have d3:=HS.out.r.c3
 have fz:=HS.out.r.fz
 have hl:=HS.out.r.lt
 have hlp:=HS.out.p.lt
 go_wp2_with fail
 refine zEE (p:=2) rfl rfl rfl (HS.out.r.put _ _ _ _) ⟨⟨oc2,ot2,of2,cc2,ct2,cf2,rfl,⟨(CpL.kb HX0.out (Kb.put4 (show c+1<c+2 by omega) _ _ _ _ _)).mono (by rw[HCZ.out];omega),zAH (zAQ HX1.out (Kb.put4 (show c+1<c+2 by omega) _ _ _ _ _)) (by rw[HCZ.out];omega),zAH (zAQ HX2.out (Kb.put4 (show c+1<c+2 by omega) _ _ _ _ _)) (by rw[HCZ.out];omega)⟩⟩,?_⟩
 exact HW0.out ((((HS.out.B.setCell (p:=⟨c+1,0,none⟩) (by show c≤c+1;omega) _).setCell (p:=⟨c+1,1,none⟩) (by show c≤c+1;omega) _).setCell (p:=⟨c+1,2,none⟩) (by show c≤c+1;omega) _).setCell (p:=⟨c+1,3,none⟩) (by show c≤c+1;omega) _)
theorem zCo (x:PgW w b g h n m k cs ti fi) (hi: ∀(i:Nat) (c:Cx),cs[i]?=some c→CxM w c) (hn:cs.length=n) (hz:n*440≤140737488351232) (hm:m*8≤140737488351232) (hk:k*16≤140737488351232) (ht:zBn w) (q:Bool):
  Calls Tryz.prog 10 #[.agg #[.slice (some ⟨b,0,none⟩) n (n+64),.slice (some ⟨g,0,none⟩) m (m+64),.slice (some ⟨h,0,none⟩) k (k+64),.bool q]] w fun e w'=>e= .returned (.bool true)∧Below w.heap.size w w':=by
 have hba:Below w.heap.size w (w.alloc (.cells #[.slice (some ⟨b,0,none⟩) n (n+64),.slice (some ⟨g,0,none⟩) m (m+64),.slice (some ⟨h,0,none⟩) k (k+64),.bool q] 26)):=(zL9 _ _).alloc (zMA _) _
 have HB:=zL8 hba
 have HP:=zL8 (PrB.new w (.slice (some ⟨b,0,none⟩) n (n+64)) (.slice (some ⟨g,0,none⟩) m (m+64)) (.slice (some ⟨h,0,none⟩) k (k+64)) q)
 have HX:=zL8 (x.kb (.below hba))
 have HI:=zL8 (fun i c hc=>(hi i c hc).below hba)
 have HT:=zL8 (ht.below hba)
 have HN:=zL8 hn
 have HZ:=zL8 (And.intro hz (And.intro hm hk))
 clear x hi hn hz hm hk ht hba
 go_enter Tryz.func10,Tryz.ntmps10
 go_upto_region 1 with fail
 obtain⟨W,hW⟩: ∃W,w.alloc (.cells #[.slice (some ⟨b,0,none⟩) n (n+64),.slice (some ⟨g,0,none⟩) m (m+64),.slice (some ⟨h,0,none⟩) k (k+64),.bool q] 26)=W:=⟨_,rfl⟩
 rw[hW]at HP HB HX HI HT ⊢
 obtain⟨c,hcz⟩: ∃c,w.heap.size=c:=⟨_,rfl⟩
 rw[hcz]at HP ⊢
 clear hW hcz
 have HE:=zL8 (zDk HX.out.c HI.out HN.out HZ.out.1)
 have c0:=HP.out.c0
 have hl:=HP.out.lt
 go_wp2_with fail
 refine HE.out.mono ?_;rintro e w1 ⟨rfl,hb⟩
 have HE:=zL8 (zHs (HX.out.kb (.below hb)).t HZ.out.2.1)
 have c1:=(HP.out.below hb).c1
 have hl1:=(HP.out.below hb).lt
 have HB1:=zL8 (HB.out.trans (hb.mono HB.out.size))
 have HP1:=zL8 (HP.out.below hb)
 have HX1:=zL8 (HX.out.kb (.below hb))
 have HT1:=zL8 (HT.out.below hb)
 clear c0 hl hb
 go_wp2_with fail
 refine HE.out.mono ?_;rintro e w2 ⟨rfl,hb⟩
 have HE:=zL8 (zGs (HX1.out.kb (.below hb)).f HZ.out.2.2 (HT1.out.below hb))
 have c2:=(HP1.out.below hb).c2
 have hl:=(HP1.out.below hb).lt
 have HB2:=zL8 (HB1.out.trans (hb.mono HB1.out.size))
 clear c1 hl1 hb
 go_wp2_with fail
 refine HE.out.mono ?_;rintro e w3 ⟨rfl,hb⟩
 have HB3:=zL8 (HB2.out.trans (hb.mono HB2.out.size))
 clear c2 hl hb
 go_wp2_with fail
 go_ret
 exact⟨rfl,HB3.out⟩
structure PgE (w:World) (oc:Option Addr) (n:Nat) (ot:Option Addr) (m:Nat) (of_:Option Addr) (k:Nat) (zs:List Cz) (ti:Nat→Int) (fi:Nat→ByteArray):Prop where
 c:EqL w oc zs
 t:RwV w ot m fun i=> .int .i64 (ti i)
 f:RwV w of_ k fun i=> .string (fi i)
theorem PgE.below (h:PgE w oc n ot m of_ k zs ti fi) (hb:Below w.heap.size w w'):PgE w' oc n ot m of_ k zs ti fi:=⟨h.c.below hb,h.t.below hb,h.f.below hb⟩
variable {oc2 ot2 of2:Option Addr} {m2 k2 cc2 ct2 cf2:Nat} {ti2:Nat→Int} {fi2:Nat→ByteArray}
theorem zCL (h:PgE w oc n ot m of_ k zs ti fi) (h2:PgE w oc2 n ot2 m2 of2 k2 zs ti2 fi2) (hn:zs.length=n) (hz:n≤319857928070) (hm:m≤9223372036854775807) (hm2:m2≤9223372036854775807) (hk:k≤9223372036854775807) (hk2:k2≤9223372036854775807) (q:Bool):
  Calls Tryz.prog 9 #[.agg #[.slice oc n cc,.slice ot m ct,.slice of_ k cf,.bool q],.agg #[.slice oc2 n cc2,.slice ot2 m2 ct2,.slice of2 k2 cf2,.bool q]] w fun e w'=>(∃b,e= .returned (.bool b)∧(b=true↔(m=m2∧ ∀i,i<m→ti i=ti2 i)∧k=k2∧ ∀i,i<k→fi i=fi2 i))∧Below w.heap.size w w':=by
 have hb1:Below w.heap.size w (w.alloc (.cells #[.slice oc n cc,.slice ot m ct,.slice of_ k cf,.bool q] 26)):=(zL9 _ _).alloc (zMA _) _
 have hp1:=PrB.new w (.slice oc n cc) (.slice ot m ct) (.slice of_ k cf) q
 obtain⟨A,hA⟩: ∃A,w.alloc (.cells #[.slice oc n cc,.slice ot m ct,.slice of_ k cf,.bool q] 26)=A:=⟨_,rfl⟩
 have hb2:Below A.heap.size A (A.alloc (.cells #[.slice oc2 n cc2,.slice ot2 m2 ct2,.slice of2 k2 cf2,.bool q] 26)):=(zL9 _ _).alloc (zMA _) _
 have hp2:=PrB.new A (.slice oc2 n cc2) (.slice ot2 m2 ct2) (.slice of2 k2 cf2) q
 have hsA:A.heap.size=w.heap.size+1:=by rw[←hA];simp
 rw[hA]at hb1 hp1
 have HB:=zL8 (hb1.trans (hb2.mono hb1.size))
 have HP:=zL8 (hp1.below hb2)
 rw[hsA]at hp2
 have HR:=zL8 hp2
 have HX:=zL8 (h.below HB.out)
 have HY:=zL8 (h2.below HB.out)
 have HN:=zL8 hn
 have HZ:=zL8 (And.intro hz (And.intro (And.intro hm hm2) (And.intro hk hk2)))
 clear h h2 hn hz hm hm2 hk hk2 hb1 hb2 hp1 hp2 hsA
 subst hA
 go_enter Tryz.func9,Tryz.ntmps9
 go_upto_region 1 with fail
 obtain⟨W,hW⟩: ∃W,(w.alloc (.cells #[.slice oc n cc,.slice ot m ct,.slice of_ k cf,.bool q] 26)).alloc (.cells #[.slice oc2 n cc2,.slice ot2 m2 ct2,.slice of2 k2 cf2,.bool q] 26)=W:=⟨_,rfl⟩
 rw[hW]at HP HR HB HX HY ⊢
 obtain⟨c,hcz⟩: ∃c,w.heap.size=c:=⟨_,rfl⟩
 rw[hcz]at HP HR ⊢
 clear hW hcz
 have HE:=zL8 (zF7 (ca:=cc) (cb:=cc2) HX.out.c HY.out.c HN.out HZ.out.1)
 have c0:=HP.out.c0
 have hl:=HP.out.lt
 have d0:=HR.out.c0
 have kl:=HR.out.lt
 go_wp2_with fail
 refine HE.out.mono ?_;rintro e w1 ⟨rfl,hb⟩
 have HE:=zL8 (zK5 (cap:=ct) (cap2:=ct2) (HX.out.below hb).t (HY.out.below hb).t HZ.out.2.1.1 HZ.out.2.1.2)
 have HB1:=zL8 (HB.out.trans (hb.mono HB.out.size))
 have HP1:=zL8 (HP.out.below hb)
 have HR1:=zL8 (HR.out.below hb)
 have HX1:=zL8 (HX.out.below hb)
 have HY1:=zL8 (HY.out.below hb)
 clear c0 hl d0 kl hb
 have c1:=HP1.out.c1
 have hl:=HP1.out.lt
 have d1:=HR1.out.c1
 have kl:=HR1.out.lt
 go_wp2_with fail
 refine HE.out.mono ?_;rintro e w2 ⟨⟨b1,rfl,hq⟩,hb⟩
 have HB2:=zL8 (HB1.out.trans (hb.mono HB1.out.size))
 have HQ:=zL8 hq
 clear hq
 cases b1
 case false=>
  clear c1 hl d1 kl hb
  go_wp2_with fail
  go_ret
  refine⟨⟨false,rfl,fun h=>(by cases h),fun h=>HQ.out.2 h.1⟩,HB2.out⟩
 have HE:=zL8 (zKO (cap:=cf) (cap2:=cf2) (HX1.out.below hb).f (HY1.out.below hb).f HZ.out.2.2.1 HZ.out.2.2.2)
 have HP2:=zL8 (HP1.out.below hb)
 have HR2:=zL8 (HR1.out.below hb)
 clear c1 hl d1 kl hb
 have c2:=HP2.out.c2
 have hl:=HP2.out.lt
 have d2:=HR2.out.c2
 have kl:=HR2.out.lt
 go_wp2_with fail
 refine HE.out.mono ?_;rintro e w3 ⟨⟨b2,rfl,hq⟩,hb⟩
 have HB3:=zL8 (HB2.out.trans (hb.mono HB2.out.size))
 have HQ2:=zL8 hq
 clear hq
 cases b2
 case false=>
  clear c2 hl d2 kl hb
  go_wp2_with fail
  go_ret
  refine⟨⟨false,rfl,fun h=>(by cases h),fun h=>HQ2.out.2 h.2⟩,HB3.out⟩
 have HP3:=zL8 (HP2.out.below hb)
 have HR3:=zL8 (HR2.out.below hb)
 clear c2 hl d2 kl hb
 have c3:=HP3.out.c3
 have hl:=HP3.out.lt
 have d3:=HR3.out.c3
 have kl:=HR3.out.lt
 go_wp2_with fail
 go_ret
 exact⟨⟨true,by simp,fun _=>⟨HQ.out.1 (by trivial),HQ2.out.1 (by trivial)⟩,fun _=>rfl⟩,HB3.out⟩
end
end
section
open Go.RowKit
def GdP (o:Option (List Int)) (fs:List (List Nat)) (m:Nat) (ti:Nat→Int) (k:Nat) (fi:Nat→ByteArray):Prop:=
 ∃tn,o=some tn∧(m=tn.length∧ ∀i,i<m→ti i=tn.getD i 0)∧k=fs.length∧ ∀i,i<k→fi i=zBN (fs.getD i [])
section
variable {w w':World} {oc ot of_:Option Addr} {n cc m ct k cf:Nat} {rs:List Rq} {ks:List NdK} {cs:List Cx} {zs:List Cz} {ti:Nat→Int} {fi:Nat→ByteArray} {q:Bool}
theorem RwV.ints {base:Nat} {o:Option Addr} {n c:Nat} {tn:List Int} (h:w.ownsRow base 3 1 (.slice o n c) n (tn.map (.int .i64))) (hl:tn.length=n):RwV w o n fun i=> .int .i64 (tn.getD i 0):=
 RwV.own h fun i hi=>by
  rw[List.getElem?_map,zMH,zMP (by omega)]
  rfl
theorem RwV.strs {base:Nat} {o:Option Addr} {n c:Nat} {fs:List (List Nat)} (h:w.ownsRow base 9 1 (.slice o n c) n (fs.map zI2)) (hl:fs.length=n):RwV w o n fun i=> .string (zBN (fs.getD i [])):=
 RwV.own h fun i hi=>by
  rw[List.getElem?_map,zMH,zMP (by omega)]
  rfl
theorem zJY (hr: ∀W,Below w.heap.size w W→Calls Tryz.prog 26 #[.slice oc n cc,.bool q] W fun e W'=>RzR rs ks q W.heap.size e W'∧Below W.heap.size W W')
  (hrn:rs.length=n) (hkn:ks.length=n) (hz:n≤319857928070) (ht:RwV w ot m fun i=> .int .i64 (ti i)) (hf:RwV w of_ k fun i=> .string (fi i)) (hm:m≤9223372036854775807) (hk:k≤9223372036854775807):
  Calls Tryz.prog 24 #[.agg #[.slice oc n cc,.slice ot m ct,.slice of_ k cf,.bool q]] w fun e w'=>(∃b,e= .returned (.bool b)∧(b=true↔GdP (zCR rs) (zAO rs []) m ti k fi))∧Below w.heap.size w w':=by
 have hba:Below w.heap.size w (w.alloc (.cells #[.slice oc n cc,.slice ot m ct,.slice of_ k cf,.bool q] 26)):=(zL9 _ _).alloc (zMA _) _
 have HR:=zL8 (hr _ hba)
 have HP:=zL8 (PrB.new w (.slice oc n cc) (.slice ot m ct) (.slice of_ k cf) q)
 have HB:=zL8 hba
 have HT:=zL8 (ht.below hba)
 have HF:=zL8 (hf.below hba)
 have HL:=zL8 (And.intro hrn (And.intro hkn (And.intro hz (And.intro hm hk))))
 clear hr hba ht hf hrn hkn hz hm hk
 go_enter Tryz.func24,Tryz.ntmps24
 go_upto_region 1 with fail
 obtain⟨W,hW⟩: ∃W,w.alloc (.cells #[.slice oc n cc,.slice ot m ct,.slice of_ k cf,.bool q] 26)=W:=⟨_,rfl⟩
 rw[hW]at HR HP HB HT HF ⊢
 obtain⟨c,hcz⟩: ∃c,w.heap.size=c:=⟨_,rfl⟩
 rw[hcz]at HP ⊢
 clear hW hcz
 have c0:=HP.out.c0
 have c3:=HP.out.c3
 have hl:=HP.out.lt
 go_wp2_with fail
 refine HR.out.mono ?_;rintro e w1 ⟨hq,hb⟩
 have HB1:=zL8 (HB.out.trans (hb.mono HB.out.size))
 have HP1:=zL8 (HP.out.below hb)
 have HT1:=zL8 (HT.out.below hb)
 have HF1:=zL8 (HF.out.below hb)
 clear hb c0 c3 hl HR HP HT HF
 rcases hq with ⟨hno,er,at_,her,rfl⟩|⟨tn,hyes,htl,vc,vt,vf,rfl,hvc,hvt,hvf⟩
 ·have HNO:=zL8 hno
  have hne:(er==0)=false:=zME.2 her
  clear hno her
  go_upto_region 2 with fail
  go_wp2_with fail
  go_ret
  refine⟨⟨false,rfl,fun h=>(by cases h),fun⟨tn,h,_⟩=>?_⟩,?_⟩
  ·rw[HNO.out]at h
   cases h
  ·exact HB1.out.trans (((zL9 _ _).alloc (zMA _) _).mono HB1.out.size)
 ·have hvc':=hvc
  obtain⟨xs,hvc1,_⟩:=hvc'
  obtain⟨oc2,cc2,rfl⟩:=zAI hvc1
  obtain⟨ot2,ct2,rfl⟩:=zAI hvt
  obtain⟨of2,cf2,rfl⟩:=zAI hvf
  have HY:=zL8 hyes
  have HTL:=zL8 htl
  have hba:Below w1.heap.size w1 (w1.alloc (.cells #[.slice oc2 ks.length cc2,.slice ot2 rs.length ct2,.slice of2 (zAO rs []).length cf2,.bool q] 26)):=(zL9 _ _).alloc (zMA _) _
  have HPN:=zL8 (PrB.new w1 (.slice oc2 ks.length cc2) (.slice ot2 rs.length ct2) (.slice of2 (zAO rs []).length cf2) q)
  have HP2:=zL8 (HP1.out.below hba)
  have HB2:=zL8 (HB1.out.trans (hba.mono HB1.out.size))
  have HT2:=zL8 (HT1.out.below hba)
  have HF2:=zL8 (HF1.out.below hba)
  have HVT:=zL8 ((RwV.ints hvt htl).below hba)
  have HVF:=zL8 ((RwV.strs hvf rfl).below hba)
  have HFL:Hid ((zAO rs []).length≤9223372036854775807):=zL8 (by
   have:=zBm rs []
   rw[List.length_nil]at this
   have:=HL.out.1
   have:=HL.out.2.2.1
   omega)
  have HRL:Hid (rs.length≤9223372036854775807):=zL8 (by
   have:=HL.out.1
   have:=HL.out.2.2.1
   omega)
  clear hyes htl hvc hvt hvf hvc1
  go_upto_region 2 with fail
  obtain⟨V,hV⟩: ∃V,w1.alloc (.cells #[.slice oc2 ks.length cc2,.slice ot2 rs.length ct2,.slice of2 (zAO rs []).length cf2,.bool q] 26)=V:=⟨_,rfl⟩
  rw[hV]at HPN HP2 HB2 HT2 HF2 HVT HVF ⊢
  obtain⟨d,hd⟩: ∃d,w1.heap.size=d:=⟨_,rfl⟩
  rw[hd]at HPN ⊢
  clear hV hd hba HB1 HP1 HT1 HF1
  obtain⟨M,hM⟩: ∃M,rs.length=M:=⟨_,rfl⟩
  obtain⟨K,hK⟩: ∃K,(zAO rs []).length=K:=⟨_,rfl⟩
  rw[hM]at HPN HTL HVT HRL ⊢
  rw[hK]at HPN HVF HFL ⊢
  have HMK:=zL8 (And.intro hM hK)
  clear hM hK
  have HE:=zL8 (zJ7 (cap:=ct) (cap2:=ct2) HT2.out HVT.out HL.out.2.2.2.1 HRL.out)
  have c1:=HP2.out.c1
  have hl:=HP2.out.lt
  have d1:=HPN.out.c1
  have kl:=HPN.out.lt
  go_wp2_with fail
  refine HE.out.mono ?_;rintro e w3 ⟨⟨b1,rfl,hq⟩,hb⟩
  have HQ:=zL8 hq
  have HB3:=zL8 (HB2.out.trans (hb.mono HB2.out.size))
  clear hq
  cases b1
  case false=>
   clear c1 hl d1 kl hb
   go_wp2_with fail
   go_ret
   refine⟨⟨false,rfl,fun h=>(by cases h),fun⟨tn',h,h1,h2⟩=>?_⟩,HB3.out⟩
   rw[HY.out]at h
   cases h
   exact HQ.out.2 ⟨by rw[h1.1,HTL.out],h1.2⟩
  have HE:=zL8 (zI8 (cap:=cf) (cap2:=cf2) (HF2.out.below hb) (HVF.out.below hb) HL.out.2.2.2.2 HFL.out)
  have HP3:=zL8 (HP2.out.below hb)
  have HR3:=zL8 (HPN.out.below hb)
  clear c1 hl d1 kl hb
  have c2:=HP3.out.c2
  have hl:=HP3.out.lt
  have d2:=HR3.out.c2
  have kl:=HR3.out.lt
  go_wp2_with fail
  refine HE.out.mono ?_;rintro e w4 ⟨⟨b2,rfl,hq⟩,hb⟩
  have HB4:=zL8 (HB3.out.trans (hb.mono HB3.out.size))
  have HQ2:=zL8 hq
  clear hq c2 hl d2 kl hb
  go_wp2_with fail
  go_ret
  refine⟨⟨b2,rfl,fun h=>?_,fun⟨tn',h,h1,h2⟩=>?_⟩,HB4.out⟩
  ·obtain⟨h1,h2⟩:=HQ2.out.1 h
   obtain⟨h3,h4⟩:=HQ.out.1 (by trivial)
   exact⟨tn,HY.out,⟨by rw[h3,HTL.out],h4⟩,by rw[h1,HMK.out.2],h2⟩
  ·refine HQ2.out.2 ⟨by rw[h2.1,HMK.out.2],h2.2⟩
theorem zH3 (hr: ∀W,Below w.heap.size w W→Calls Tryz.prog 87 #[.slice oc n cc,.bool q] W fun e W'=>zJ0 rs cs q W.heap.size e W'∧Below W.heap.size W W')
  (hi:CmI w oc cs) (hx: ∀(i:Nat) (c:Cx),cs[i]?=some c→CxM w c) (hzs: ∀(i:Nat) (z:Cz),zs[i]?=some z→ ∃c,cs[i]?=some c∧ZOf c z) (hrn:rs.length=n) (hcn:cs.length=n) (hzn:zs.length=n) (hz:n≤319857928070)
  (ht:RwV w ot m fun i=> .int .i64 (ti i)) (hf:RwV w of_ k fun i=> .string (fi i)) (hm:m≤9223372036854775807) (hk:k≤9223372036854775807):
  Calls Tryz.prog 32 #[.agg #[.slice oc n cc,.slice ot m ct,.slice of_ k cf,.bool q]] w fun e w'=>(∃b,e= .returned (.bool b)∧(b=true↔GdP (zFn rs) (zAO rs []) m ti k fi))∧Below w.heap.size w w':=by
 have hba:Below w.heap.size w (w.alloc (.cells #[.slice oc n cc,.slice ot m ct,.slice of_ k cf,.bool q] 26)):=(zL9 _ _).alloc (zMA _) _
 have HR:=zL8 (hr _ hba)
 have HP:=zL8 (PrB.new w (.slice oc n cc) (.slice ot m ct) (.slice of_ k cf) q)
 have HB:=zL8 hba
 have HE0:=zL8 (PgE.below (n:=n) ⟨hi.eqL hzs,ht,hf⟩ hba)
 have HCE:Hid (∀(W:World) (o:Option Addr) (c base:Nat),CpL W base (.slice o n c) cs→EqL W o zs):=zL8 fun W o c base h=>h.eqL hcn.symm (fun i c hc=>⟨w,hx i c hc⟩) hzs
 have HL:=zL8 (And.intro hrn (And.intro hzn (And.intro hz (And.intro hm hk))))
 clear hr hba ht hf hrn hcn hzn hz hm hk hi hx hzs
 go_enter Tryz.func32,Tryz.ntmps32
 go_upto_region 1 with fail
 obtain⟨W,hW⟩: ∃W,w.alloc (.cells #[.slice oc n cc,.slice ot m ct,.slice of_ k cf,.bool q] 26)=W:=⟨_,rfl⟩
 rw[hW]at HR HP HB HE0 ⊢
 obtain⟨c,hcz⟩: ∃c,w.heap.size=c:=⟨_,rfl⟩
 rw[hcz]at HP ⊢
 clear hW hcz
 have c0:=HP.out.c0
 have c3:=HP.out.c3
 have hl:=HP.out.lt
 go_wp2_with fail
 refine HR.out.mono ?_;rintro e w1 ⟨hq,hb⟩
 have HB1:=zL8 (HB.out.trans (hb.mono HB.out.size))
 have HP1:=zL8 (HP.out.below hb)
 have HE1:=zL8 (HE0.out.below hb)
 clear hb c0 c3 hl HR HP HE0
 rcases hq with ⟨hno,er,at_,her,rfl⟩|⟨tn,hyes,htl,oc2,cc2,vt,vf,rfl,hvc,hvt,hvf⟩
 ·have HNO:=zL8 hno
  have hne:(er==0)=false:=zME.2 her
  clear hno her
  go_upto_region 2 with fail
  go_wp2_with fail
  go_ret
  refine⟨⟨false,rfl,fun h=>(by cases h),fun⟨tn,h,_⟩=>?_⟩,?_⟩
  ·rw[HNO.out]at h
   cases h
  ·exact HB1.out.trans (((zL9 _ _).alloc (zMA _) _).mono HB1.out.size)
 ·obtain⟨ot2,ct2,rfl⟩:=zAI hvt
  obtain⟨of2,cf2,rfl⟩:=zAI hvf
  have HY:=zL8 hyes
  have HTL:=zL8 htl
  have hba:Below w1.heap.size w1 (w1.alloc (.cells #[.slice oc2 rs.length cc2,.slice ot2 rs.length ct2,.slice of2 (zAO rs []).length cf2,.bool q] 26)):=(zL9 _ _).alloc (zMA _) _
  have HPN:=zL8 (PrB.new w1 (.slice oc2 rs.length cc2) (.slice ot2 rs.length ct2) (.slice of2 (zAO rs []).length cf2) q)
  have HP2:=zL8 (HP1.out.below hba)
  have HB2:=zL8 (HB1.out.trans (hba.mono HB1.out.size))
  have HE2:=zL8 (HE1.out.below hba)
  have HE3:Hid (PgE (w1.alloc (.cells #[.slice oc2 rs.length cc2,.slice ot2 rs.length ct2,.slice of2 (zAO rs []).length cf2,.bool q] 26)) oc2 n ot2 rs.length of2 (zAO rs []).length zs (fun i=>tn.getD i 0) fun i=>zBN ((zAO rs []).getD i [])):=zL8 (PgE.below (n:=n) ⟨HCE.out _ _ _ _ (by rw[HL.out.1]at hvc;exact hvc),RwV.ints hvt htl,RwV.strs hvf rfl⟩ hba)
  have HFL:Hid ((zAO rs []).length≤9223372036854775807):=zL8 (by
   have:=zBm rs []
   rw[List.length_nil]at this
   have:=HL.out.1
   have:=HL.out.2.2.1
   omega)
  have HRL:Hid (rs.length≤9223372036854775807):=zL8 (by
   have:=HL.out.1
   have:=HL.out.2.2.1
   omega)
  have HRN:=zL8 HL.out.1
  clear hyes htl hvc hvt hvf
  go_upto_region 2 with fail
  obtain⟨V,hV⟩: ∃V,w1.alloc (.cells #[.slice oc2 rs.length cc2,.slice ot2 rs.length ct2,.slice of2 (zAO rs []).length cf2,.bool q] 26)=V:=⟨_,rfl⟩
  rw[hV]at HPN HP2 HB2 HE2 HE3 ⊢
  obtain⟨d,hd⟩: ∃d,w1.heap.size=d:=⟨_,rfl⟩
  rw[hd]at HPN ⊢
  clear hV hd hba HB1 HP1 HE1
  obtain⟨M,hM⟩: ∃M,rs.length=M:=⟨_,rfl⟩
  obtain⟨K,hK⟩: ∃K,(zAO rs []).length=K:=⟨_,rfl⟩
  rw[hM]at HPN HTL HE3 HRL HRN ⊢
  rw[hK]at HPN HE3 HFL ⊢
  have HMK:=zL8 (And.intro hM hK)
  clear hM hK
  have hmn:M=n:=HRN.out
  subst hmn
  have HE:=zL8 (zCL (cc:=cc) (ct:=ct) (cf:=cf) (cc2:=cc2) (ct2:=ct2) (cf2:=cf2) HE2.out HE3.out HL.out.2.1 HL.out.2.2.1 HL.out.2.2.2.1 HRL.out HL.out.2.2.2.2 HFL.out q)
  have c0:=HP2.out.c0
  have c1:=HP2.out.c1
  have c2:=HP2.out.c2
  have c3:=HP2.out.c3
  have hl:=HP2.out.lt
  have d0:=HPN.out.c0
  have d1:=HPN.out.c1
  have d2:=HPN.out.c2
  have d3:=HPN.out.c3
  have kl:=HPN.out.lt
  go_wp2_with fail
  refine HE.out.mono ?_;rintro e w3 ⟨⟨b1,rfl,hq⟩,hb⟩
  have HQ:=zL8 hq
  have HB3:=zL8 (HB2.out.trans (hb.mono HB2.out.size))
  clear hq hb c0 c1 c2 c3 hl d0 d1 d2 d3 kl
  go_wp2_with fail
  go_ret
  refine⟨⟨b1,rfl,fun h=>?_,fun⟨tn',h,h1,h2⟩=>?_⟩,HB3.out⟩
  ·obtain⟨h1,h2⟩:=HQ.out.1 h
   exact⟨tn,HY.out,⟨by rw[h1.1,HTL.out],h1.2⟩,by rw[h2.1,HMK.out.2],h2.2⟩
  ·rw[HY.out]at h
   cases h
   exact HQ.out.2 ⟨⟨by rw[h1.1,HTL.out],h1.2⟩,by rw[h2.1,HMK.out.2],h2.2⟩
end
end
section
open Go.RowKit
structure CxS (c:Cx):Prop where
 a:c.ra.length≤4294967296
 b:c.rb.length≤4294967296
 r:c.R.length≤4294967296
 t:c.T.length≤4294967296
 tc:c.T.length≤c.ct
 p:c.P.length≤4294967296
 pt: ∀p∈c.P,p.T.length≤4294967296
def Cz.rq (z:Cz):Rq:=⟨z.nm,z.tx,z.wr,z.ok⟩
def Cx.nk (c:Cx):NdK:=⟨c.ra.length,c.rb.length,c.R.length,zBb c.ra,zBb c.rb,zBb c.R⟩
section
variable {w w' W:World} {c:Cx} {z:Cz} {base:Nat} {L:List Value} {ga gb gt gr gp:Nat}
theorem CxM.rr (h:CxM w c) (hz:ZOf c z) (hs:CxS c):RrC w c.l z.rq where
 cl:=h.i.ci.cl
 nm:=hz.p.nm
 nl:=hz.p.nl
 at_:=⟨_,hz.p.p⟩
 wr:=hz.p.wr
 tx:=by
  show∃o cap,c.l[9]?=some (.slice o z.tx.length cap)∧zBU w o z.tx∧z.tx.length≤4294967296∧z.tx.length≤cap
  rw[hz.t]
  exact⟨_,_,h.i.e9,h.i.t.txIn,hs.t,hs.tc⟩
 tl:=by
  show∀b∈z.tx,b<256
  rw[hz.t]
  exact h.i.tl
 sh:=fun W hb=>by
  have hM:=h.below hb
  refine zJC (hM.shV hz.a hz.b hz.t hz.r hz.f hz.p hs.a hs.b hs.r) fun V hv=>?_
  have hN:=hM.below hv
  rw[hz.t]
  exact zKh hz.p.nm hN.i.e9 hz.p.wr hN.i.t.txIn (by have:=hs.t;unfold maxLen;omega) hN.i.tl
theorem zEI {g:Nat} {re:List Nd} (h:zAy w base g re.length re) (hl:re.length≤4294967296):NoV w (.slice (some ⟨g,0,none⟩) re.length (re.length+64)) re.length (zBb re) where
 src:=by
  refine .inr ⟨_,_,rfl,fun j u hj=>?_⟩
  have hx:(zBb (re++zA7 re.length))[j]?=some u:=by
   rw[show zBb (re++zA7 re.length)=zBb re++zBb (zA7 re.length)by simp[zBb],zMT (zMF.1 hj).1]
   exact hj
  rcases h.2.src with ⟨e,_⟩|⟨a,k,e,hc⟩
  ·cases e
  ·simp only[Value.slice.injEq,Option.some.injEq]at e
   obtain⟨rfl,_⟩:=e
   exact hc j u hx
 len:=zAi re
 one:=zEJ re
 le:=hl
 form:=⟨_,_,rfl⟩
theorem zAt.txIn {g:Nat} {T:List Nat} (h:zAt w base g T.length T):zBU w (some ⟨g,0,none⟩) T:=fun hp=>by
 refine⟨g,0,rfl,fun j hj=>?_⟩
 obtain⟨_,g',he,_,hc,_⟩:=zAZ h.2 (by omega)
 cases he
 obtain⟨u,hu,hcu⟩:=hc j (by omega)
 have e:(u8s (T++zBB T.length))[j]?=some (.int .u8 (T.getD j 0:Nat)):=by
  rw[show u8s (T++zBB T.length)=u8s T++u8s (zBB T.length)by simp[u8s],zMT (by rw[zB8];omega)]
  simp[u8s,List.getElem?_eq_getElem hj,List.getD_eq_getElem?_getD]
 rw[Nat.zero_add]
 exact hcu.trans (hu.symm.trans e)
theorem zAt.bysN {g:Nat} {T:List Nat} (h:zAt w base g T.length T):Bys w base (.slice (some ⟨g,0,none⟩) T.length (T.length+64)) T:=by
 refine⟨_,_,rfl,by rw[zB8,Nat.mul_one],.inr ?_⟩
 rcases h.2.2 with ⟨h3,_⟩|⟨g',cap,cur,h3,hb,hg,hnc,hcm,hcs,ht⟩
 ·cases h3
 ·simp only[Value.slice.injEq,Option.some.injEq,Addr.mk.injEq,and_true,true_and]at h3
  obtain⟨rfl,rfl⟩:=h3
  refine⟨g,T.length+64,cur,rfl,hb,hg,by omega,hcm,hcs,?_⟩
  rw[show T.length*1=min (T.length*1) ((T.length+64)*1)by omega,←List.take_take,ht,show u8s (T++zBB T.length)=u8s T++u8s (zBB T.length)by simp[u8s],List.take_left' (by rw[zB8,Nat.mul_one])]
theorem zBa.rv (hw:zBa w base c L ga gb gt gr gp) (h:CxM w' c) (hz:ZOf c z) (hs:CxS c) (U:U8V w):RvC w L z.rq c.nk where
 cl:=hw.cl
 nm:=(hz.p.same hw.same).nm
 nl:=hz.p.nl
 at_:=⟨_,(hz.p.same hw.same).p⟩
 wr:=(hz.p.same hw.same).wr
 tx:=by
  show∃o cap,L[9]?=some (.slice o z.tx.length cap)∧zBU w o z.tx∧z.tx.length≤4294967296∧z.tx.length≤cap
  rw[hz.t]
  exact⟨_,_,hw.e9,hw.t.txIn,hs.t,Nat.le_add_right _ _⟩
 tl:=by
  show∀b∈z.tx,b<256
  rw[hz.t]
  exact h.i.tl
 clo:=⟨_,_,_,{ cl:=hw.cl,g2:=hw.e2,g5:=hw.e5,g10:=hw.e10,n2:=zEI hw.a hs.a,n5:=zEI hw.b hs.b,n10:=zEI hw.r hs.r,tx:=⟨_,c.T,_,hw.e9,hw.t.txIn,hs.t,fun g o s e=>by cases e⟩,fi:=⟨_,_,_,hw.e11,hs.p,fun i hi=>by
  obtain⟨p,hp⟩: ∃p,c.P[i]?=some p:=⟨_,zMP hi⟩
  obtain⟨_,q,⟨e1,e2⟩,e3⟩:=hw.p.at_ i p hp
  exact⟨gp,0,rfl,hw.p.lt,p.k,_,p.T,_,by rw[Nat.zero_add];exact e1,by rw[Nat.zero_add];exact e2,e3.txIn,hs.pt p (zMc hp),fun g o s e=>by cases e⟩⟩ }⟩
 sh:=fun W hb=>by
  refine zJI ((hw.below hb).shV h hz.a hz.b hz.t hz.r hz.f hz.p hs.a hs.b hs.r) fun V hv=>?_
  rw[hz.t]
  have hx:=(hw.below hb).below hv
  exact zKi (hz.p.same hw.same).nm hx.e9 (hz.p.same hw.same).wr hx.t.bysN h.i.tl ((U.below hb).below hv)
end
end
section
open Go.RowKit
section
variable {w w':World}
theorem zK3 (n:Nat):
  Calls Tryz.prog 28 #[.int .i64 (n:Nat)] w fun e w'=>(∃p er,e= .returned (.tuple #[.pointer p,.int .i64 er]))∧Below w.heap.size w w':=by
 obtain⟨i0,hi,hz0,hz1,hz2⟩:=info_parts (zJc).hi
 have h1: ¬(n:Int)<0:=by omega
 by_cases h:4096<n
 ·have h2:(4096:Int)<(n:Int):=by omega
  go_enter Tryz.func28,Tryz.ntmps28
  go_wp2_with fail
  go_ret2
  exact⟨⟨_,_,rfl⟩,zL9 _ _⟩
 have h2: ¬(4096:Int)<(n:Int):=by omega
 go_enter Tryz.func28,Tryz.ntmps28
 go_wp2_with (at_make;refine wpList_make_full _ rfl _ _ 140 rfl w.heap.size 4 i0 _ 1 Tryz.underlying140 hi hz0 hz1 .i64 .i64 (n:Int) (n:Int) n rfl rfl (by omega) (by omega) (by rw[hz2];omega) (by unfold maxLen;omega) (Nat.le_refl _) ?_)
 intro w1 hown hgr
 have HB:=zL8 ((zL9 w.heap.size w).grown hgr (zMA _) (fun k hk=>by cases hk))
 have hs:=HB.out.size
 clear hown hgr hi hz0 hz1 hz2
 go_wp2_with fail
 go_ret2
 exact⟨⟨_,_,rfl⟩,HB.out.alloc hs _⟩
theorem zG9 (n:Nat):
  Calls Tryz.prog 36 #[.int .i64 (n:Nat)] w fun e w'=>(∃p er,e= .returned (.tuple #[.pointer p,.int .i64 er]))∧Below w.heap.size w w':=by
 obtain⟨i0,hi,hz0,hz1,hz2⟩:=info_parts (zJc).hi
 have h1: ¬(n:Int)<0:=by omega
 by_cases h:4096<n
 ·have h2:(4096:Int)<(n:Int):=by omega
  go_enter Tryz.func36,Tryz.ntmps36
  go_wp2_with fail
  go_ret2
  exact⟨⟨_,_,rfl⟩,zL9 _ _⟩
 have h2: ¬(4096:Int)<(n:Int):=by omega
 go_enter Tryz.func36,Tryz.ntmps36
 go_wp2_with (at_make;refine wpList_make_full _ rfl _ _ 140 rfl w.heap.size 4 i0 _ 1 Tryz.underlying140 hi hz0 hz1 .i64 .i64 (n:Int) (n:Int) n rfl rfl (by omega) (by omega) (by rw[hz2];omega) (by unfold maxLen;omega) (Nat.le_refl _) ?_)
 intro w1 hown hgr
 have HB:=zL8 ((zL9 w.heap.size w).grown hgr (zMA _) (fun k hk=>by cases hk))
 have hs:=HB.out.size
 clear hown hgr hi hz0 hz1 hz2
 go_wp2_with fail
 go_ret2
 exact⟨⟨_,_,rfl⟩,HB.out.alloc hs _⟩
theorem zFp:Calls Tryz.prog 34 #[.int .i64 1048576] w fun e w'=>(∃p er,e= .returned (.tuple #[.pointer p,.int .i64 er]))∧Below w.heap.size w w':=by
 go_enter Tryz.func34,Tryz.ntmps34
 go_wp2_with fail
 go_ret2
 exact⟨⟨_,_,rfl⟩,(zL9 _ _).alloc (zMA _) _⟩
theorem zFq:Calls Tryz.prog 35 #[] w fun e w'=>(∃p,e= .returned (.pointer p))∧Below w.heap.size w w':=by
 go_enter Tryz.func35,Tryz.ntmps35
 go_wp2_with fail
 go_ret
 exact⟨⟨_,rfl⟩,(zL9 _ _).alloc (zMA _) _⟩
variable {oc ot of_:Option Addr} {n cc m ct k cf:Nat} {cs:List Cx} {ti:Nat→Int} {fi:Nat→ByteArray} {q:Bool} {G:Prop}
theorem zFo (hg: ∀W,Below w.heap.size w W→Calls Tryz.prog 32 #[.agg #[.slice oc n cc,.slice ot m ct,.slice of_ k cf,.bool q]] W fun e W'=>(∃b,e= .returned (.bool b)∧(b=true↔G))∧Below W.heap.size W W')
  (hp:PgI w oc n cc ot m ct of_ k cf cs ti fi) (vw:Option Addr):
  Calls Tryz.prog 8 #[.agg #[.slice oc n cc,.slice ot m ct,.slice of_ k cf,.bool q],.pointer vw] w fun e w'=>(∃(b:Bool) (v:Value),e= .returned (.tuple #[v,.int .i64 (if b then 0 else 72)])∧(b=true↔G))∧Below w.heap.size w w':=by
 have hba:Below w.heap.size w (w.alloc (.cells #[.slice oc n cc,.slice ot m ct,.slice of_ k cf,.bool q] 26)):=(zL9 _ _).alloc (zMA _) _
 have HG:=zL8 (hg _ hba)
 have HI:=zL8 (hp.below hba)
 have HP:=zL8 (PrB.new w (.slice oc n cc) (.slice ot m ct) (.slice of_ k cf) q)
 have HB:=zL8 hba
 clear hg hp hba
 go_enter Tryz.func8,Tryz.ntmps8
 go_upto_region 1 with fail
 obtain⟨W,hW⟩: ∃W,w.alloc (.cells #[.slice oc n cc,.slice ot m ct,.slice of_ k cf,.bool q] 26)=W:=⟨_,rfl⟩
 rw[hW]at HG HP HB HI ⊢
 obtain⟨c,hcz⟩: ∃c,w.heap.size=c:=⟨_,rfl⟩
 have HW0:Hid (∀ {X:World},Below c w X→Below w.heap.size w X):=zL8 fun h=>by rw[hcz];exact h
 rw[hcz]at HP HB ⊢
 clear hW hcz
 have c0:=HP.out.c0
 have c1:=HP.out.c1
 have c2:=HP.out.c2
 have c3:=HP.out.c3
 have hl:=HP.out.lt
 go_wp2_with fail
 refine HG.out.mono ?_;rintro e w1 ⟨⟨b,rfl,hbg⟩,hb⟩
 have HB1:=zL8 (HB.out.trans (hb.mono (Nat.le_of_lt hl)))
 have HP1:=zL8 (HP.out.below hb)
 have HI1:=zL8 (HI.out.below hb)
 have HBG:=zL8 hbg
 clear hb hbg c0 c1 c2 c3 hl HG HP HB HI
 cases b with
 |false=>
  go_wp2_with fail
  go_ret2
  exact⟨⟨false,_,rfl,HBG.out⟩,HW0.out HB1.out⟩
 |true=>
 have HC:=zL8 (zDB HI1.out q)
 have c0:=HP1.out.c0
 have c1:=HP1.out.c1
 have c2:=HP1.out.c2
 have c3:=HP1.out.c3
 have hl:=HP1.out.lt
 go_wp2_with fail
 refine HC.out.mono ?_;rintro e w2 ⟨⟨oc2,ot2,of2,cc2,ct2,cf2,rfl,_⟩,hb⟩
 have HB2:=zL8 (HB1.out.trans (hb.mono (Nat.le_of_lt hl)))
 have HP2:=zL8 (HP1.out.below hb)
 clear hb c0 c1 c2 c3 hl HC HP1 HB1 HI1
 go_upto_region 4 with fail
 obtain⟨A,hA⟩: ∃A,(#[.slice oc2 n cc2,.slice ot2 m ct2,.slice of2 k cf2,.bool q,.pointer vw,.pointer none,.pointer none,.pointer none,.pointer none,.bool false,.int .i64 (-1),.int .i64 0,.int .i64 0,.bool false,.bool false,.bool false,.int .i64 0]:Array Value)=A:=⟨_,rfl⟩
 have hbk:BkV (w2.alloc (.cells A 105)) w2.heap.size [(5,.pointer none),(6,.pointer none),(7,.pointer none)]:=⟨zAl _ _,fun p hp=>by
  simp only[List.mem_cons,List.not_mem_nil,or_false]at hp
  subst hA
  rcases hp with rfl|rfl|rfl<;>exact zAL _ _ _ _,zC1 _ _ _⟩
 have hba:Below w2.heap.size w2 (w2.alloc (.cells A 105)):=(zL9 _ _).alloc (zMA _) _
 obtain⟨V,hV⟩: ∃V,w2.alloc (.cells A 105)=V:=⟨_,rfl⟩
 obtain⟨r,hr⟩: ∃r,w2.heap.size=r:=⟨_,rfl⟩
 have HCR:Hid (c<r):=zL8 (by rw[←hr];exact HP2.out.lt)
 have HB3:=zL8 (HB2.out.trans (hba.mono (Nat.le_of_lt HP2.out.lt)))
 have HP3:=zL8 (HP2.out.below hba)
 rw[hA,hV,hr]
 rw[hV,hr]at hbk
 rw[hV]at HB3 HP3
 have HK3:=zL8 hbk
 clear hA hbk hba hV hr HB2 HP2
 have HS:=zL8 (zFp (w:=V))
 go_wp2_with fail
 refine HS.out.mono ?_;rintro e w4 ⟨⟨p4,e4,rfl⟩,hb⟩
 have HK4:=zL8 (HK3.out.same (hb.block r HK3.out.lt) hb.size)
 have HB4:=zL8 (HB3.out.trans (hb.mono (Nat.le_of_lt HP3.out.lt)))
 have HP4:=zL8 (HP3.out.below hb)
 clear hb HS HK3 HB3 HP3
 have k5:=HK4.out.get 0 rfl
 have z5:=HK4.out.fz 5
 have rl:=HK4.out.lt
 have hk:=HK4.out.set (by decide) 0 rfl (.pointer p4)
 have hb:=HB4.out.setCell (p:=⟨r,5,none⟩) (by show c≤r;have:=HCR.out;omega) (.pointer p4)
 have hp:PrB (w4.setCell ⟨r,5,none⟩ (.pointer p4)) c (.slice oc n cc) (.slice ot m ct) (.slice of_ k cf) q:=HP4.out.away (by have:=HCR.out;omega)
 clear HK4 HB4 HP4
 go_upto_region 5 with fail
 obtain⟨X1,hX⟩: ∃X,w4.setCell ⟨r,5,none⟩ (.pointer p4)=X:=⟨_,rfl⟩
 rw[hX]at hk hb hp ⊢
 have HK5:=zL8 hk
 have HB5:=zL8 hb
 have HP5:=zL8 hp
 clear hX k5 z5 rl hk hb hp
 have HS:=zL8 (zFq (w:=X1))
 go_wp2_with fail
 refine HS.out.mono ?_;rintro e w6 ⟨⟨p6,rfl⟩,hb⟩
 have HK6:=zL8 (HK5.out.same (hb.block r HK5.out.lt) hb.size)
 have HB6:=zL8 (HB5.out.trans (hb.mono (Nat.le_of_lt HP5.out.lt)))
 have HP6:=zL8 (HP5.out.below hb)
 clear hb HS HK5 HB5 HP5
 have k6:=HK6.out.get 1 rfl
 have z6:=HK6.out.fz 6
 have rl:=HK6.out.lt
 have hk:=HK6.out.set (show List.Nodup [5,6,7]by decide) 1 rfl (.pointer p6)
 have hb:=HB6.out.setCell (p:=⟨r,6,none⟩) (by show c≤r;have:=HCR.out;omega) (.pointer p6)
 have hp:PrB (w6.setCell ⟨r,6,none⟩ (.pointer p6)) c (.slice oc n cc) (.slice ot m ct) (.slice of_ k cf) q:=HP6.out.away (by have:=HCR.out;omega)
 clear HK6 HB6 HP6
 go_upto_region 6 with fail
 obtain⟨X2,hX⟩: ∃X,w6.setCell ⟨r,6,none⟩ (.pointer p6)=X:=⟨_,rfl⟩
 rw[hX]at hk hb hp ⊢
 have HK7:=zL8 hk
 have HB7:=zL8 hb
 have HP7:=zL8 hp
 clear hX k6 z6 rl hk hb hp
 have HS:=zL8 (zG9 (w:=X2) n)
 have c0:=HP7.out.c0
 have hl:=HP7.out.lt
 go_wp2_with fail
 refine HS.out.mono ?_;rintro e w8 ⟨⟨p8,e8,rfl⟩,hb⟩
 have HK8:=zL8 (HK7.out.same (hb.block r HK7.out.lt) hb.size)
 have HB8:=zL8 (HB7.out.trans (hb.mono (Nat.le_of_lt HP7.out.lt)))
 clear hb HS HK7 HB7 HP7 c0 hl
 have k7:=HK8.out.get 2 rfl
 have z7:=HK8.out.fz 7
 have rl:=HK8.out.lt
 go_wp2_with fail
 go_ret2
 exact⟨⟨true,_,rfl,fun _=>HBG.out.1 trivial,fun _=>rfl⟩,HW0.out (HB8.out.setCell (p:=⟨r,7,none⟩) (by show c≤r;have:=HCR.out;omega) _)⟩
end
end
end Go.Proofs.YtfcemodgopdkkaaGreatDoor
