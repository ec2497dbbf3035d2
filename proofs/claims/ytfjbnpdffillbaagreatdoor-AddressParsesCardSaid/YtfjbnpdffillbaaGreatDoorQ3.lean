/- Parts: Wa. -/
import Derived.Test.YtfjbnpdffillbaaGreatDoorQ0
import Derived.Test.YtfjbnpdffillbaaGreatDoorQ1
import Derived.Lib.Hide
set_option maxHeartbeats 800000
set_option maxRecDepth 100000
namespace Go.Proofs.YtfjbnpdffillbaaGreatDoor
open Go.RowKit
def zAW (s:ByteArray):List Nat:=s.data.toList.map (·.toNat)
theorem zAh (s:ByteArray):(zAW s).length=s.size:=by simp[zAW]
theorem zDC (s:ByteArray) (k:Nat) (h:k<s.size):(zAW s).getD k 0=s[k].toNat:=by
 have h':k<s.data.size:=h
 simp only[zAW,List.getD_eq_getElem?_getD,List.getElem?_map,Array.getElem?_toList]
 rw[Array.getElem?_eq_getElem h'];rfl
theorem zAk {a b:Bool} (h:a=b):Ending.returned (.bool a)= .returned (.bool b):=by rw[h]
theorem zLu {L:List Mk} {s:ByteArray} {i k:Nat} {mby:Nat} {mpl:Bool} (hi:i<L.length) (hk:k<s.size) (hm:L.getD i ⟨0,false⟩=⟨mby,mpl⟩)
  (h:mpl=true∨(mby:Int)≠s[k].toNat):zDl (L.drop i) ((zAW s).drop k)=false:=by
 rw[zKG L _ i k hi (by rw[zAh];exact hk),hm,zDC s k hk]
 rcases h with h|h
 ·simp[h]
 ·have:(mby==s[k].toNat)=false:=by simp;omega
  simp[this]
theorem zOC {L:List Mk} {s:ByteArray} {i k:Nat} {mby:Nat} (hi:i<L.length) (hk:k<s.size) (hm:L.getD i ⟨0,false⟩=⟨mby,false⟩)
  (h:(mby:Int)=s[k].toNat):zDl (L.drop i) ((zAW s).drop k)=zDl (L.drop (i+1)) ((zAW s).drop (k+1)):=by
 rw[zKG L _ i k hi (by rw[zAh];exact hk),hm,zDC s k hk]
 have:mby=s[k].toNat:=by omega
 simp[this]
structure RdV (w:World) (rb:Nat) (ere:Bool) (mb mo cap:Nat) (L:List Mk) (at_:Nat):Prop where
 hrb:rb<w.heap.size
 hmb:mb<w.heap.size
 hL:L.length≤4096
 hat:at_≤L.length
 c0:w.cell? ⟨rb,0,none⟩=some (.bool ere)
 c1:w.cell? ⟨rb,1,none⟩=some (.slice (some ⟨mb,mo,none⟩) L.length cap)
 c2:w.cell? ⟨rb,2,none⟩=some (.int .i64 at_)
 hb: ∀i,i<L.length→w.cell? ⟨mb,mo+i*2,none⟩=some (.int .u8 ((L.getD i ⟨0,false⟩).b:Int))
 hp: ∀i,i<L.length→w.cell? ⟨mb,mo+i*2+1,none⟩=some (.bool (L.getD i ⟨0,false⟩).p)
theorem RdV.below {w w':World} {rb:Nat} {ere:Bool} {mb mo cap:Nat} {L:List Mk} {at_:Nat} (h:RdV w rb ere mb mo cap L at_) (hb:Below w.heap.size w w'):RdV w' rb ere mb mo cap L at_ where
 hrb:=zPi h.hrb hb.size
 hmb:=zPi h.hmb hb.size
 hL:=h.hL
 hat:=h.hat
 c0:=(hb.cell (p:=⟨rb,0,none⟩) h.hrb).trans h.c0
 c1:=(hb.cell (p:=⟨rb,1,none⟩) h.hrb).trans h.c1
 c2:=(hb.cell (p:=⟨rb,2,none⟩) h.hrb).trans h.c2
 hb:=fun i hi=>(hb.cell (p:=⟨mb,mo+i*2,none⟩) h.hmb).trans (h.hb i hi)
 hp:=fun i hi=>(hb.cell (p:=⟨mb,mo+i*2+1,none⟩) h.hmb).trans (h.hp i hi)
theorem RdV.drew {w:World} {rb:Nat} {ere:Bool} {mb mo cap:Nat} {L:List Mk} {at_:Nat} (h:RdV w rb ere mb mo cap L at_):RdV w.drew rb ere mb mo cap L at_:=
 h.below (zPg _ _).drew
theorem zNC {L:List Mk} (s:ByteArray) {rb mb mo cap at_:Nat} {ere:Bool} {w:World} (hs:s.size≤4096) (hv:RdV w rb ere mb mo cap L at_):
  Calls Tryz.prog 137 #[.pointer (some ⟨rb,0,none⟩),.string s] w fun e w'=>e= .returned (.bool (zDl (L.drop at_) (zAW s)))∧Below w.heap.size w w':=by
 obtain⟨hrb,hmb,hL,hat,_,h1,h2,hb,hp⟩:=hv
 go_enter Tryz.func137,Tryz.ntmps137
 go_wp2_with fail
 refine zAA (X:=none) 13 [] [0,1,2,3,4,5,6,7,8,9,10,11,12] (by kernel_rfl) (by kernel_rfl) rfl (fun _ _ _ _ _ h=>h) ?_
 simp only[zAI,zAC,zAD,zAB,List.getD_cons_zero,List.getD_cons_succ,List.drop_succ_cons,List.drop_nil]
 repeat (go_big_quiet_step (fail))
 refine wpQuiet_nil ?_
 go_wp2_with fail
 ·go_ret
  refine⟨zAk (zEO _ _ ?_).symm,(zPg _ _).drew⟩
  rw[List.length_drop,zAh];omega
 ·have hlen:at_+s.size≤L.length:=by omega
  go_loopw [22] (fun i wr=> ∃k:Nat,k≤s.size∧i= .int .i64 k∧Below w.heap.size w wr∧Hid (zDl (L.drop at_) (zAW s)=zDl (L.drop (at_+k)) ((zAW s).drop k))) (fun i _=>s.size - (intOf i).toNat)
  case atStart=>exact⟨0,Nat.zero_le _,rfl,(zPg _ _).drew,rfl⟩
  case round=>
   obtain⟨k,hk,rfl,hbe,HS⟩:=hrel
   have hc1:wr.cell? ⟨rb,1,none⟩=some (.slice (some ⟨mb,mo,none⟩) L.length cap):=(hbe.cell (p:=⟨rb,1,none⟩) hrb).trans h1
   have hc2:wr.cell? ⟨rb,2,none⟩=some (.int .i64 at_):=(hbe.cell (p:=⟨rb,2,none⟩) hrb).trans h2
   have hz:w.heap.size≤wr.heap.size:=hbe.size
   have hrb':rb<wr.heap.size:=by omega
   have hmb':mb<wr.heap.size:=by omega
   by_cases hlt:k<s.size
   ·have hcb:=(hbe.cell (p:=⟨mb,mo+(at_+k)*2,none⟩) hmb).trans (hb (at_+k) (by omega))
    have hcp:=(hbe.cell (p:=⟨mb,mo+(at_+k)*2+1,none⟩) hmb).trans (hp (at_+k) (by omega))
    clear hb hp h1 h2
    generalize hm:L.getD (at_+k) ⟨0,false⟩=m at hcb hcp
    obtain⟨mby,mpl⟩:=m
    have HM:=zPf hm
    clear hm
    simp only at hcb hcp
    cases mpl
    ·go_wp2_with fail
     refine zAA (X:=none) 13 [([0,1,2,3,4,5,6,7,8,9,10,11],12)] [] (by kernel_rfl) (by kernel_rfl) rfl (fun _ _ _ _ _ h=>h) ?_
     simp only[zAI,zAC,zAF,zAD,zAB,List.getD_cons_zero,List.getD_cons_succ,List.drop_succ_cons,List.drop_zero]
     repeat (go_big_quiet_step (fail))
     refine wpQuiet_nil ?_
     go_wp2_with fail
     refine⟨zAa (zAR _ _),wpQuiet_nil ?_⟩
     go_wp2_with fail
     refine zAA (X:=none) 10 [] [0,1,2,3,4,5,6,7,8,9] (by kernel_rfl) (by kernel_rfl) rfl (fun _ _ _ _ _ h=>h) ?_
     simp only[zAI,zAC,zAD,zAB,List.getD_cons_zero,List.getD_cons_succ,List.drop_succ_cons,List.drop_nil]
     repeat (go_big_quiet_step (fail))
     refine wpQuiet_nil ?_
     go_wp2_with fail
     ·rename_i hne
      go_ret
      refine⟨zAk ?_,(hbe.alloc hz _).drew.drew⟩
      rw[HS.out,zLu (by omega) hlt HM.out (.inr (by simpa using hne))]
     ·rename_i heq
      go_roundw
      case rel=>exact⟨k+1,by omega,by go_num,(hbe.alloc hz _).drew.drew,HS.out.trans (zOC (by omega) hlt HM.out (by simpa using heq))⟩
      case measure=>simp[intOf];omega
    ·go_wp2_with fail
     refine zAA (X:=none) 13 [([0,1,2,3,4,5,6,7,8,9,10,11],12)] [] (by kernel_rfl) (by kernel_rfl) rfl (fun _ _ _ _ _ h=>h) ?_
     simp only[zAI,zAC,zAF,zAD,zAB,List.getD_cons_zero,List.getD_cons_succ,List.drop_succ_cons,List.drop_zero]
     repeat (go_big_quiet_step (fail))
     refine wpQuiet_nil ?_
     go_wp2_with fail
     refine⟨zAa (zAR _ _),wpQuiet_nil ?_⟩
     go_wp2_with fail
     refine zAA (X:=none) 10 [] [0,1,2,3,4,5,6,7,8,9] (by kernel_rfl) (by kernel_rfl) rfl (fun _ _ _ _ _ h=>h) ?_
     simp only[zAI,zAC,zAD,zAB,List.getD_cons_zero,List.getD_cons_succ,List.drop_succ_cons,List.drop_nil]
     repeat (go_big_quiet_step (fail))
     refine wpQuiet_nil ?_
     go_wp2_with fail
     go_ret
     refine⟨zAk ?_,(hbe.alloc hz _).drew.drew⟩
     rw[HS.out,zLu (by omega) hlt HM.out (.inl rfl)]
   ·clear hb hp h1 h2
    go_wp2_with fail
    go_ret
    refine⟨zAk ?_,hbe⟩
    rw[HS.out,List.drop_of_length_le (i:=k) (by rw[zAh];omega)]
    cases L.drop (at_+k)<;>rfl
theorem zM7 {rb:Nat} {ere:Bool} (s:ByteArray) {w:World} (hs:s.size≤4096) (c0:w.cell? ⟨rb,0,none⟩=some (.bool ere)):
  Calls Tryz.prog 156 #[.pointer (some ⟨rb,0,none⟩),.string s] w fun e w'=>e= .returned (.string (if ere then s else⟨#[92]⟩++s))∧w=w':=by
 cases ere
 ·go_enter Tryz.func156,Tryz.ntmps156
  go_wp2_with fail
  go_ret
  exact⟨by simp,rfl⟩
 ·go_enter Tryz.func156,Tryz.ntmps156
  go_wp2_with fail
  go_ret
  exact⟨by simp,rfl⟩
end Go.Proofs.YtfjbnpdffillbaaGreatDoor
