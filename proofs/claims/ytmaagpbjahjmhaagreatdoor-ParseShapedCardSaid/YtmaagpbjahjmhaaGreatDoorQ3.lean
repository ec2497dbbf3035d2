/- Parts: Wa. -/
import Derived.Test.YtmaagpbjahjmhaaGreatDoorQ0
import Derived.Test.YtmaagpbjahjmhaaGreatDoorQ1
import Derived.Lib.Hide
set_option maxHeartbeats 800000
set_option maxRecDepth 100000
namespace Go.Proofs.YtmaagpbjahjmhaaGreatDoor
open Go.RowKit
def zAg (s:ByteArray):List Nat:=s.data.toList.map (·.toNat)
theorem zAv (s:ByteArray):(zAg s).length=s.size:=by simp[zAg]
theorem zCy (s:ByteArray) (k:Nat) (h:k<s.size):(zAg s).getD k 0=s[k].toNat:=by
 have h':k<s.data.size:=h
 simp only[zAg,List.getD_eq_getElem?_getD,List.getElem?_map,Array.getElem?_toList]
 rw[Array.getElem?_eq_getElem h'];rfl
theorem zAH {a b:Bool} (h:a=b):Ending.returned (.bool a)= .returned (.bool b):=by rw[h]
theorem zL6 {L:List Mk} {s:ByteArray} {i k:Nat} {mby:Nat} {mpl:Bool} (hi:i<L.length) (hk:k<s.size) (hm:L.getD i ⟨0,false⟩=⟨mby,mpl⟩)
  (h:mpl=true∨(mby:Int)≠s[k].toNat):zEv (L.drop i) ((zAg s).drop k)=false:=by
 rw[zKC L _ i k hi (by rw[zAv];exact hk),hm,zCy s k hk]
 rcases h with h|h
 ·simp[h]
 ·have:(mby==s[k].toNat)=false:=by simp;omega
  simp[this]
theorem zOu {L:List Mk} {s:ByteArray} {i k:Nat} {mby:Nat} (hi:i<L.length) (hk:k<s.size) (hm:L.getD i ⟨0,false⟩=⟨mby,false⟩)
  (h:(mby:Int)=s[k].toNat):zEv (L.drop i) ((zAg s).drop k)=zEv (L.drop (i+1)) ((zAg s).drop (k+1)):=by
 rw[zKC L _ i k hi (by rw[zAv];exact hk),hm,zCy s k hk]
 have:mby=s[k].toNat:=by omega
 simp[this]
structure RdV (w:World) (rb:Nat) (ere:Bool) (mb mo cap:Nat) (L:List Mk) (at_:Nat):Prop where
 hrb:rb<w.heap.size
 hmb:mb<w.heap.size
 hL:L.length≤4096
 hat:at_≤L.length
 c0:w.cell? ⟨rb,0,none⟩=some (.bool ere)
 c1:w.cell? ⟨rb,1,none⟩=some (.slice (some ⟨mb,mo,none⟩) L.length cap)
 c2:w.cell? ⟨rb,2,none⟩=some (.int .i64 at_)
 hb: ∀i,i<L.length→w.cell? ⟨mb,mo+i*2,none⟩=some (.int .u8 ((L.getD i ⟨0,false⟩).b:Int))
 hp: ∀i,i<L.length→w.cell? ⟨mb,mo+i*2+1,none⟩=some (.bool (L.getD i ⟨0,false⟩).p)
theorem RdV.below {w w':World} {rb:Nat} {ere:Bool} {mb mo cap:Nat} {L:List Mk} {at_:Nat} (h:RdV w rb ere mb mo cap L at_) (hb:Below w.heap.size w w'):RdV w' rb ere mb mo cap L at_ where
 hrb:=zQu h.hrb hb.size
 hmb:=zQu h.hmb hb.size
 hL:=h.hL
 hat:=h.hat
 c0:=(hb.cell (p:=⟨rb,0,none⟩) h.hrb).trans h.c0
 c1:=(hb.cell (p:=⟨rb,1,none⟩) h.hrb).trans h.c1
 c2:=(hb.cell (p:=⟨rb,2,none⟩) h.hrb).trans h.c2
 hb:=fun i hi=>(hb.cell (p:=⟨mb,mo+i*2,none⟩) h.hmb).trans (h.hb i hi)
 hp:=fun i hi=>(hb.cell (p:=⟨mb,mo+i*2+1,none⟩) h.hmb).trans (h.hp i hi)
theorem RdV.drew {w:World} {rb:Nat} {ere:Bool} {mb mo cap:Nat} {L:List Mk} {at_:Nat} (h:RdV w rb ere mb mo cap L at_):RdV w.drew rb ere mb mo cap L at_:=
 h.below (zQs _ _).drew
theorem zNe {L:List Mk} (s:ByteArray) {rb mb mo cap at_:Nat} {ere:Bool} {w:World} (hs:s.size≤4096) (hv:RdV w rb ere mb mo cap L at_):
  Calls Tryz.prog 213 #[.pointer (some ⟨rb,0,none⟩),.string s] w fun e w'=>e= .returned (.bool (zEv (L.drop at_) (zAg s)))∧Below w.heap.size w w':=by
 obtain⟨hrb,hmb,hL,hat,_,h1,h2,hb,hp⟩:=hv
 go_enter Tryz.func213,Tryz.ntmps213
 go_wp2_with fail
 refine zAA (X:=none) 13 [] [0,1,2,3,4,5,6,7,8,9,10,11,12] (by kernel_rfl) (by kernel_rfl) rfl (fun _ _ _ _ _ h=>h) ?_
 simp only[zAK,zAC,zAD,zAB,List.getD_cons_zero,List.getD_cons_succ,List.drop_succ_cons,List.drop_nil]
 repeat (go_big_quiet_step (fail))
 refine wpQuiet_nil ?_
 go_wp2_with fail
 ·go_ret
  refine⟨zAH (zEE _ _ ?_).symm,(zQs _ _).drew⟩
  rw[List.length_drop,zAv];omega
 ·have hlen:at_+s.size≤L.length:=by omega
  go_loopw [22] (fun i wr=> ∃k:Nat,k≤s.size∧i= .int .i64 k∧Below w.heap.size w wr∧Hid (zEv (L.drop at_) (zAg s)=zEv (L.drop (at_+k)) ((zAg s).drop k))) (fun i _=>s.size - (intOf i).toNat)
  case atStart=>exact⟨0,Nat.zero_le _,rfl,(zQs _ _).drew,rfl⟩
  case round=>
   obtain⟨k,hk,rfl,hbe,HS⟩:=hrel
   have hc1:wr.cell? ⟨rb,1,none⟩=some (.slice (some ⟨mb,mo,none⟩) L.length cap):=(hbe.cell (p:=⟨rb,1,none⟩) hrb).trans h1
   have hc2:wr.cell? ⟨rb,2,none⟩=some (.int .i64 at_):=(hbe.cell (p:=⟨rb,2,none⟩) hrb).trans h2
   have hz:w.heap.size≤wr.heap.size:=hbe.size
   have hrb':rb<wr.heap.size:=by omega
   have hmb':mb<wr.heap.size:=by omega
   by_cases hlt:k<s.size
   ·have hcb:=(hbe.cell (p:=⟨mb,mo+(at_+k)*2,none⟩) hmb).trans (hb (at_+k) (by omega))
    have hcp:=(hbe.cell (p:=⟨mb,mo+(at_+k)*2+1,none⟩) hmb).trans (hp (at_+k) (by omega))
    clear hb hp h1 h2
    generalize hm:L.getD (at_+k) ⟨0,false⟩=m at hcb hcp
    obtain⟨mby,mpl⟩:=m
    have HM:=zQr hm
    clear hm
    simp only at hcb hcp
    cases mpl
    ·go_wp2_with fail
     refine zAA (X:=none) 13 [([0,1,2,3,4,5,6,7,8,9,10,11],12)] [] (by kernel_rfl) (by kernel_rfl) rfl (fun _ _ _ _ _ h=>h) ?_
     simp only[zAK,zAC,zAE,zAD,zAB,List.getD_cons_zero,List.getD_cons_succ,List.drop_succ_cons,List.drop_zero]
     repeat (go_big_quiet_step (fail))
     refine wpQuiet_nil ?_
     go_wp2_with fail
     refine⟨zAn (zAc _ _),wpQuiet_nil ?_⟩
     go_wp2_with fail
     refine zAA (X:=none) 10 [] [0,1,2,3,4,5,6,7,8,9] (by kernel_rfl) (by kernel_rfl) rfl (fun _ _ _ _ _ h=>h) ?_
     simp only[zAK,zAC,zAD,zAB,List.getD_cons_zero,List.getD_cons_succ,List.drop_succ_cons,List.drop_nil]
     repeat (go_big_quiet_step (fail))
     refine wpQuiet_nil ?_
     go_wp2_with fail
     ·rename_i hne
      go_ret
      refine⟨zAH ?_,(hbe.alloc hz _).drew.drew⟩
      rw[HS.out,zL6 (by omega) hlt HM.out (.inr (by simpa using hne))]
     ·rename_i heq
      go_roundw
      case rel=>exact⟨k+1,by omega,by go_num,(hbe.alloc hz _).drew.drew,HS.out.trans (zOu (by omega) hlt HM.out (by simpa using heq))⟩
      case measure=>simp[intOf];omega
    ·go_wp2_with fail
     refine zAA (X:=none) 13 [([0,1,2,3,4,5,6,7,8,9,10,11],12)] [] (by kernel_rfl) (by kernel_rfl) rfl (fun _ _ _ _ _ h=>h) ?_
     simp only[zAK,zAC,zAE,zAD,zAB,List.getD_cons_zero,List.getD_cons_succ,List.drop_succ_cons,List.drop_zero]
     repeat (go_big_quiet_step (fail))
     refine wpQuiet_nil ?_
     go_wp2_with fail
     refine⟨zAn (zAc _ _),wpQuiet_nil ?_⟩
     go_wp2_with fail
     refine zAA (X:=none) 10 [] [0,1,2,3,4,5,6,7,8,9] (by kernel_rfl) (by kernel_rfl) rfl (fun _ _ _ _ _ h=>h) ?_
     simp only[zAK,zAC,zAD,zAB,List.getD_cons_zero,List.getD_cons_succ,List.drop_succ_cons,List.drop_nil]
     repeat (go_big_quiet_step (fail))
     refine wpQuiet_nil ?_
     go_wp2_with fail
     go_ret
     refine⟨zAH ?_,(hbe.alloc hz _).drew.drew⟩
     rw[HS.out,zL6 (by omega) hlt HM.out (.inl rfl)]
   ·clear hb hp h1 h2
    go_wp2_with fail
    go_ret
    refine⟨zAH ?_,hbe⟩
    rw[HS.out,List.drop_of_length_le (i:=k) (by rw[zAv];omega)]
    cases L.drop (at_+k)<;>rfl
theorem zNb {rb:Nat} {ere:Bool} (s:ByteArray) {w:World} (hs:s.size≤4096) (c0:w.cell? ⟨rb,0,none⟩=some (.bool ere)):
  Calls Tryz.prog 232 #[.pointer (some ⟨rb,0,none⟩),.string s] w fun e w'=>e= .returned (.string (if ere then s else⟨#[92]⟩++s))∧w=w':=by
 cases ere
 ·go_enter Tryz.func232,Tryz.ntmps232
  go_wp2_with fail
  go_ret
  exact⟨by simp,rfl⟩
 ·go_enter Tryz.func232,Tryz.ntmps232
  go_wp2_with fail
  go_ret
  exact⟨by simp,rfl⟩
end Go.Proofs.YtmaagpbjahjmhaaGreatDoor
