/- Parts: Gz. -/
import Derived.Test.YtfjbnpdffillbaaGreatDoorQ41
import Derived.Test.YtfjbnpdffillbaaGreatDoorQ1
namespace Go.Proofs.YtfjbnpdffillbaaGreatDoor
open Go.RowKit
def opAt (n:Nat) (op:Nat→Bool) (x:Int):Bool:=decide (0≤x∧x<(n:Int))&&op x.toNat
theorem opAt_in {n:Nat} {op:Nat→Bool} {i:Nat} (hi:i<n):opAt n op (i:Int)=op i:=by
 unfold opAt
 rw[decide_eq_true (by omega),Bool.true_and,Int.toNat_natCast]
theorem opAt_out {n:Nat} {op:Nat→Bool} {x:Int} (h:x<0∨(n:Int)≤x):opAt n op x=false:=by
 unfold opAt
 rw[decide_eq_false (by omega),Bool.false_and]
theorem opAt_set {n:Nat} {op:Nat→Bool} {i:Nat} (hi:i<n) (b:Bool) (y:Int):opAt n (fun j=>if j=i then b else op j) y=if y=(i:Int)then b else opAt n op y:=by
 by_cases hy:0≤y∧y<(n:Int)
 ·obtain⟨k,rfl⟩: ∃k:Nat,y=(k:Nat):=⟨y.toNat,by omega⟩
  rw[opAt_in (by omega),opAt_in (by omega)]
  by_cases hk:k=i
  ·rw[if_pos hk,if_pos (by omega)]
  ·rw[if_neg hk,if_neg (by omega)]
 ·rw[opAt_out (by omega),opAt_out (by omega),if_neg (by omega)]
def takesI (n:Nat) (x ka na kb nb:Int) (nt:Bool) (line:Int) (last opened hit:Bool):Bool × Bool × Bool:=if 0≤x∧x<(n:Int)then takesS ka na kb nb nt line last opened hit else(false,false,false)
def askedI (n:Nat) (x ka na:Int) (ra:List Nd) (kb nb:Int) (rb:List Nd) (opened:Bool):Option Ad:=if 0≤x∧x<(n:Int)then askedA ka na ra kb nb rb opened else none
section
variable {w:World} {gb bb n:Nat} {op:Nat→Bool} {ka na:Int} {oa:Option Addr} {ca:Nat} {kb nb:Int} {ob:Option Addr} {cb:Nat} {nt:Bool} {cs:Array Value} {tb rc:Nat} {ro:Option Addr} {RL:List Bool}
set_option maxRecDepth 100000 in
set_option maxHeartbeats 1600000 in
theorem gopen_any (h:GtS w gb bb n op) (x:Int):
  Calls Tryz.prog 42 #[.pointer (some ⟨gb,0,none⟩),.int .i64 x] w fun e w'=>e= .returned (.bool (opAt n op x))∧w=w':=by
 by_cases h0:x<0
 ·have h0': ¬0≤x:=by omega
  rw[opAt_out (.inl h0)]
  go_enter Tryz.func42,Tryz.ntmps42
  go_wp2_with fail
  go_ret
  exact⟨rfl,rfl⟩
 by_cases h1:(n:Int)≤x
 ·have h0':0≤x:=by omega
  have h1': ¬x<(n:Int):=by omega
  rw[opAt_out (.inr h1)]
  have c0:=h.c0
  have hl:=h.nl
  clear h
  go_enter Tryz.func42,Tryz.ntmps42
  go_wp2_with fail
  go_ret
  exact⟨rfl,rfl⟩
 obtain⟨i,rfl⟩: ∃i:Nat,x=(i:Nat):=⟨x.toNat,by omega⟩
 rw[opAt_in (by omega)]
 exact open_call h (by omega)
theorem takes_any {ra rb:List Nd} (hc:CmdV cs ka na oa ra.length ca kb nb ob rb.length cb nt) (hg:GtS w gb bb n op) (x:Int) (ht:TlS w tb ro rc RL) (ha:AskS w tb w.heap.size none) (n1:tb≠gb) (n2:tb≠bb) (n3: ∀g o,ro=some ⟨g,o,none⟩→0<RL.length→g≠bb)
  (hsa:Src w (.slice oa ra.length ca) ra.length (ndsC ra)) (hla:ra.length*72≤140737488355328) (hsb:Src w (.slice ob rb.length cb) rb.length (ndsC rb)) (hlb:rb.length*72≤140737488355328) (line:Int) (last:Bool):
  Calls Tryz.prog 35 #[.pointer (some ⟨gb,0,none⟩),.int .i64 x,.agg cs,.int .i64 line,.bool last,.func (.func 36) #[.pointer (some ⟨tb,0,none⟩)] #[]] w fun e w'=>
   e= .returned (.tuple #[.bool (takesI n x ka na kb nb nt line last (opAt n op x) (RL.getD 0 false)).1,.bool (takesI n x ka na kb nb nt line last (opAt n op x) (RL.getD 0 false)).2.1])∧
    (∃op',GtS w' gb bb n op'∧ ∀y,opAt n op' y=if y=x then(takesI n x ka na kb nb nt line last (opAt n op x) (RL.getD 0 false)).2.2 else opAt n op y)∧RBut bb (some tb) w w'∧TlS w' tb ro rc RL∧AskS w' tb w.heap.size (askedI n x ka na ra kb nb rb (opAt n op x)):=by
 by_cases hx:0≤x∧x<(n:Int)
 ·obtain⟨i,rfl⟩: ∃i:Nat,x=(i:Nat):=⟨x.toNat,by omega⟩
  have hi:i<n:=by omega
  unfold takesI askedI
  rw[if_pos hx,if_pos hx,opAt_in hi]
  refine(takes_tell hc hg hi ht ha n1 n2 n3 hsa hla hsb hlb line last).mono ?_
  rintro e w' ⟨he,h1,h2,h3,h4⟩
  exact⟨he,⟨_,h1,fun y=>opAt_set hi _ y⟩,h2,h3,h4⟩
 ·unfold takesI askedI
  rw[if_neg hx,if_neg hx]
  refine(takes_out hg (by omega) line last).mono ?_
  rintro e w' ⟨he,hb⟩
  refine⟨he,⟨op,hg.below hb,fun y=>?_⟩,RBut.of_below hb,ht.below hb,(ha.below ht.lt hb)⟩
  by_cases hy:y=x
  ·rw[if_pos hy,hy,opAt_out (by omega)]
  ·rw[if_neg hy]
end
end Go.Proofs.YtfjbnpdffillbaaGreatDoor
