/- Parts: Pj Kb Fe Fm Ie. -/
import Derived.Test.YtfjbnpdffillbaaGreatDoorQ18
import Derived.Test.YtfjbnpdffillbaaGreatDoorQ17
import Derived.Test.YtfjbnpdffillbaaGreatDoorQ1
import Derived.Lib.ItoaNum
namespace Go.Proofs.YtfjbnpdffillbaaGreatDoor
def mk (b:Nat):Mk:=⟨b,false⟩
def step (n:Int) (b:Nat):Int:=min (max n 0*10+((b:Int) - 48)) 256
def digB (u:Nat):List Nat:=(Lib.decDigits u).map (·.toNat)
theorem digB_small {u:Nat} (h:u<10):digB u=[48+u]:=by
 rw[digB,Lib.decDigits,dif_pos h]
 simp only[List.map_cons,List.map_nil,List.cons.injEq,and_true]
 rw[UInt8.toNat_ofNat']
 omega
theorem digB_big {u:Nat} (h: ¬u<10):digB u=digB (u / 10)++[48+u % 10]:=by
 rw[digB,Lib.decDigits,dif_neg h,List.map_append,←digB]
 congr 1
 simp only[List.map_cons,List.map_nil,List.cons.injEq,and_true]
 rw[UInt8.toNat_ofNat']
 omega
theorem digB_digit (u:Nat): ∀d∈digB u,48≤d∧d≤57:=by
 induction u using Nat.strongRecOn with
 |ind u ih=>
  by_cases h:u<10
  ·rw[digB_small h];intro d hd;simp at hd;omega
  ·rw[digB_big h]
   intro d hd
   rcases List.mem_append.1 hd with hd|hd
   ·exact ih (u / 10) (by omega) d hd
   ·simp at hd;omega
theorem digB_len20: ∀(k u:Nat),u<10 ^ (k+1)→(digB u).length≤k+1
 |0,u,h=>by rw[digB_small (by omega)];simp
 |k+1,u,h=>by
  by_cases h1:u<10
  ·rw[digB_small h1];simp
  ·rw[digB_big h1,List.length_append,List.length_singleton]
   have:=digB_len20 k (u / 10) (by rw[Nat.pow_succ]at h;omega)
   omega
def itoB (m:Int):List Nat:=if m<0 then 45::digB m.natAbs else digB m.toNat
theorem itoB_len {m:Int} (h1: -9223372036854775808≤m) (h2:m≤9223372036854775807):(itoB m).length≤20:=by
 unfold itoB
 split
 ·rw[List.length_cons]
  have:=digB_len20 18 m.natAbs (by omega)
  omega
 ·have:=digB_len20 18 m.toNat (by omega)
  omega
end Go.Proofs.YtfjbnpdffillbaaGreatDoor
namespace Go.Proofs.YtfjbnpdffillbaaGreatDoor
def spB (ere:Bool):List Nat:=[46,91,42,94,36,92]++(if ere then [40,41,43,63,123,124]else [])
def byteB (ere:Bool) (b:Nat):List Nat:=if b=10 then [92,110]else if (spB ere).contains b then [92,b]else [b]
def setB (ere:Bool) (c:Cls):List Nat:=if c.els.length=256 then [46]else match c.els with
 |[b]=>byteB ere b
 |_=>brackB c
def dupB (ere:Bool) (n:Nd):List Nat:=
 if n.min=0∧n.max<0 then [42]
 else if ere=true∧n.min=1∧n.max<0 then [43]
 else if ere=true∧n.min=0∧n.max=1 then [63]
 else signB ere 123++(itoB n.min++((if n.max=n.min then []else 44::(if 0≤n.max then itoB n.max else []))++signB ere 125))
def atomP (ere:Bool) (re:List Nd) (wh:Nat→Option (List Nat × Nat)) (i:Nat):Option (List Nat × Nat):=
 match re[i]? with
 |none=>none
 |some n=>
  if n.op=1 then some (setB ere n.set,i+1)
  else if n.op=7 then
   match re[i+1]? with
   |none=>none
   |some k=>
    if k.op=4∧k.kids=0 then some (signB ere 40++signB ere 41,i+2)
    else match wh (i+1)with
     |none=>none
     |some (s,j)=>some (signB ere 40++(s++signB ere 41),j)
  else if n.op=8 then if ere=true∨9<n.n then none else some (92::itoB n.n,i+1)
  else none
def partP (ere:Bool) (re:List Nd) (wh:Nat→Option (List Nat × Nat)) (first last:Bool) (i:Nat):Option (List Nat × Nat):=
 match re[i]? with
 |none=>none
 |some n=>
  if n.op=2 then if ere||first then some ([94],i+1)else none
  else if n.op=3 then if ere||last then some ([36],i+1)else none
  else if n.op=6 then
   match atomP ere re wh (i+1)with
   |none=>none
   |some (s,j)=>some (s++dupB ere n,j)
  else atomP ere re wh i
def partsP (ere:Bool) (re:List Nd) (wh:Nat→Option (List Nat × Nat)):Nat→Bool→Nat→Option (List Nat × Nat)
 |0,_,i=>some ([],i)
 |k+1,first,i=>
  match partP ere re wh first (k==0) i with
  |none=>none
  |some (s,j)=>
   match partsP ere re wh k false j with
   |none=>none
   |some (t,e)=>some (s++t,e)
def rowP (ere:Bool) (re:List Nd) (wh:Nat→Option (List Nat × Nat)) (i:Nat):Option (List Nat × Nat):=
 match re[i]? with
 |none=>none
 |some n=>if n.op≠4 then partP ere re wh true true i else if n.kids≤0 then none else partsP ere re wh n.kids.toNat true (i+1)
def rowsP (ere:Bool) (re:List Nd) (wh:Nat→Option (List Nat × Nat)):Nat→Bool→Nat→Option (List Nat × Nat)
 |0,_,i=>some ([],i)
 |k+1,first,i=>
  match rowP ere re wh i with
  |none=>none
  |some (s,j)=>
   match rowsP ere re wh k false j with
   |none=>none
   |some (t,e)=>some ((if first then []else [124])++(s++t),e)
def wholeP (ere:Bool) (re:List Nd):Nat→Nat→Option (List Nat × Nat)
 |0,_=>none
 |f+1,i=>
  match re[i]? with
  |none=>none
  |some n=>if n.op≠5 then rowP ere re (wholeP ere re f) i else if ere then rowsP ere re (wholeP ere re f) n.kids.toNat true (i+1)else none
def spellN (ere:Bool) (re:List Nd):Option (List Nat):=
 match wholeP ere re 66 0 with
 |none=>none
 |some (s,_)=>if s.length≤4096 then some s else none
def textT (d:Nat):Bool→List Mk→Option (List Nat)
 |taken,[]=>if taken then none else some []
 |true,m::l=>if m.p||m.b==d then none else(textT d false l).map fun s=>m.b::s
 |false,m::l=>
  if m.p then(if m.b=d then(textT d false l).map fun s=>92::d::s else none)
  else if m.b=d∨m.b=10 then none
  else(textT d (m.b==92) l).map fun s=>m.b::s
def textL (d:Nat) (l:List Mk):Option (List Nat):=if d=92∨d=10 then none else textT d false l
theorem textT_length (d:Nat): ∀(l:List Mk) (t:Bool) (s:List Nat),textT d t l=some s→s.length≤2*l.length
 |[],t,s,h=>by
  unfold textT at h
  split at h<;>simp at h
  subst h;simp
 |m::l,true,s,h=>by
  unfold textT at h
  split at h
  ·cases h
  ·obtain⟨s',h',rfl⟩:=Option.map_eq_some_iff.1 h
   have:=textT_length d l _ _ h'
   simp only[List.length_cons];omega
 |m::l,false,s,h=>by
  unfold textT at h
  split at h
  ·split at h
   ·obtain⟨s',h',rfl⟩:=Option.map_eq_some_iff.1 h
    have:=textT_length d l _ _ h'
    simp only[List.length_cons];omega
   ·cases h
  ·split at h
   ·cases h
   ·obtain⟨s',h',rfl⟩:=Option.map_eq_some_iff.1 h
    have:=textT_length d l _ _ h'
    simp only[List.length_cons];omega
end Go.Proofs.YtfjbnpdffillbaaGreatDoor
namespace Go.Proofs.YtfjbnpdffillbaaGreatDoor
def rightA (a:Ad):Bool:=
 if a.kind=0∨a.kind=2 then a.n==0&&a.re.isEmpty
 else if a.kind=1 then decide (1≤a.n∧a.n≤2147483647)&&a.re.isEmpty
 else if a.kind=3 then a.n==0&&(a.re.isEmpty||shapedN a.re)
 else false
def slashed (s:List Nat):List Mk:=s.map fun b=>⟨b,b==47⟩
def betweenA (ere:Bool) (re:List Nd):Except Nat (List Nat):=
 if re=[]then .ok [47,47]
 else match spellN ere re with
  |none=> .error 50
  |some s=>match textL 47 (slashed s)with
   |none=> .error 50
   |some t=> .ok (47::t++[47])
def printA (ere:Bool) (a:Ad):Except Nat (List Nat):=
 if rightA a=false then .error 71
 else if a.kind=0 then .ok []
 else if a.kind=1 then .ok (itoB a.n)
 else if a.kind=2 then .ok [36]
 else betweenA ere a.re
def wT:List Nat:=[49,50,44,47,97,47,112]
theorem wT_one:addrL false wT 0=(⟨1,12,[]⟩,0,2):=by kernel_rfl
theorem wT_two:addrL false wT 3=(⟨3,0,[oneN 97]⟩,0,6):=by kernel_rfl
end Go.Proofs.YtfjbnpdffillbaaGreatDoor
namespace Go.Proofs.YtfjbnpdffillbaaGreatDoor
open Go.RowKit
section
variable {w:World} {oa:Option Addr} {cap:Nat} {re:List Nd}
theorem emp_len (h: ¬re.length=0):re.isEmpty=false:=by cases re<;>simp_all
set_option maxRecDepth 100000 in
set_option maxHeartbeats 1600000 in
theorem right_0_n {n:Int} (hn: ¬n=0) (_:NdV w oa re):
  Calls Tryz.prog 79 #[.agg #[.int .i8 0,.int .i64 n,.slice oa re.length cap]] w fun e w'=>e= .returned (.bool false)∧Below w.heap.size w w':=by
 have hb0:=(Below.refl w.heap.size w).alloc (Nat.le_refl _) (.cells #[.int .i8 0,.int .i64 n,.slice oa re.length cap] 54)
 have HB:=Lib.hid hb0
 clear hb0
 have qn:(n==0)=false:=beq_eq_false_iff_ne.2 hn
 go_enter Tryz.func79,Tryz.ntmps79
 go_wp2_with fail
 go_ret
 exact⟨rfl,HB.out⟩
set_option maxRecDepth 100000 in
set_option maxHeartbeats 1600000 in
theorem right_0_nil (_:NdV w oa ([]:List Nd)):
  Calls Tryz.prog 79 #[.agg #[.int .i8 0,.int .i64 0,.slice oa ([]:List Nd).length cap]] w fun e w'=>e= .returned (.bool true)∧Below w.heap.size w w':=by
 have hb0:=(Below.refl w.heap.size w).alloc (Nat.le_refl _) (.cells #[.int .i8 0,.int .i64 0,.slice oa ([]:List Nd).length cap] 54)
 have HB:=Lib.hid hb0
 clear hb0
 go_enter Tryz.func79,Tryz.ntmps79
 go_wp2_with fail
 go_ret
 exact⟨rfl,HB.out⟩
set_option maxRecDepth 100000 in
set_option maxHeartbeats 1600000 in
theorem right_0_len (hl: ¬re.length=0) (_:NdV w oa re):
  Calls Tryz.prog 79 #[.agg #[.int .i8 0,.int .i64 0,.slice oa re.length cap]] w fun e w'=>e= .returned (.bool false)∧Below w.heap.size w w':=by
 have hb0:=(Below.refl w.heap.size w).alloc (Nat.le_refl _) (.cells #[.int .i8 0,.int .i64 0,.slice oa re.length cap] 54)
 have HB:=Lib.hid hb0
 clear hb0
 have ql:((re.length:Int)==0)=false:=beq_eq_false_iff_ne.2 (by omega)
 go_enter Tryz.func79,Tryz.ntmps79
 go_wp2_with fail
 go_ret
 exact⟨rfl,HB.out⟩
set_option maxRecDepth 100000 in
set_option maxHeartbeats 1600000 in
theorem right_2_n {n:Int} (hn: ¬n=0) (_:NdV w oa re):
  Calls Tryz.prog 79 #[.agg #[.int .i8 2,.int .i64 n,.slice oa re.length cap]] w fun e w'=>e= .returned (.bool false)∧Below w.heap.size w w':=by
 have hb0:=(Below.refl w.heap.size w).alloc (Nat.le_refl _) (.cells #[.int .i8 2,.int .i64 n,.slice oa re.length cap] 54)
 have HB:=Lib.hid hb0
 clear hb0
 have qn:(n==0)=false:=beq_eq_false_iff_ne.2 hn
 go_enter Tryz.func79,Tryz.ntmps79
 go_wp2_with fail
 go_ret
 exact⟨rfl,HB.out⟩
set_option maxRecDepth 100000 in
set_option maxHeartbeats 1600000 in
theorem right_2_nil (_:NdV w oa ([]:List Nd)):
  Calls Tryz.prog 79 #[.agg #[.int .i8 2,.int .i64 0,.slice oa ([]:List Nd).length cap]] w fun e w'=>e= .returned (.bool true)∧Below w.heap.size w w':=by
 have hb0:=(Below.refl w.heap.size w).alloc (Nat.le_refl _) (.cells #[.int .i8 2,.int .i64 0,.slice oa ([]:List Nd).length cap] 54)
 have HB:=Lib.hid hb0
 clear hb0
 go_enter Tryz.func79,Tryz.ntmps79
 go_wp2_with fail
 go_ret
 exact⟨rfl,HB.out⟩
set_option maxRecDepth 100000 in
set_option maxHeartbeats 1600000 in
theorem right_2_len (hl: ¬re.length=0) (_:NdV w oa re):
  Calls Tryz.prog 79 #[.agg #[.int .i8 2,.int .i64 0,.slice oa re.length cap]] w fun e w'=>e= .returned (.bool false)∧Below w.heap.size w w':=by
 have hb0:=(Below.refl w.heap.size w).alloc (Nat.le_refl _) (.cells #[.int .i8 2,.int .i64 0,.slice oa re.length cap] 54)
 have HB:=Lib.hid hb0
 clear hb0
 have ql:((re.length:Int)==0)=false:=beq_eq_false_iff_ne.2 (by omega)
 go_enter Tryz.func79,Tryz.ntmps79
 go_wp2_with fail
 go_ret
 exact⟨rfl,HB.out⟩
set_option maxRecDepth 100000 in
set_option maxHeartbeats 1600000 in
theorem right_1_lo {n:Int} (hn: ¬1≤n) (_:NdV w oa re):
  Calls Tryz.prog 79 #[.agg #[.int .i8 1,.int .i64 n,.slice oa re.length cap]] w fun e w'=>e= .returned (.bool false)∧Below w.heap.size w w':=by
 have hb0:=(Below.refl w.heap.size w).alloc (Nat.le_refl _) (.cells #[.int .i8 1,.int .i64 n,.slice oa re.length cap] 54)
 have HB:=Lib.hid hb0
 clear hb0
 go_enter Tryz.func79,Tryz.ntmps79
 go_wp2_with fail
 go_ret
 exact⟨rfl,HB.out⟩
set_option maxRecDepth 100000 in
set_option maxHeartbeats 1600000 in
theorem right_1_hi {n:Int} (hn:1≤n) (hm: ¬n≤2147483647) (_:NdV w oa re):
  Calls Tryz.prog 79 #[.agg #[.int .i8 1,.int .i64 n,.slice oa re.length cap]] w fun e w'=>e= .returned (.bool false)∧Below w.heap.size w w':=by
 have hb0:=(Below.refl w.heap.size w).alloc (Nat.le_refl _) (.cells #[.int .i8 1,.int .i64 n,.slice oa re.length cap] 54)
 have HB:=Lib.hid hb0
 clear hb0
 go_enter Tryz.func79,Tryz.ntmps79
 go_wp2_with fail
 go_ret
 exact⟨rfl,HB.out⟩
set_option maxRecDepth 100000 in
set_option maxHeartbeats 1600000 in
theorem right_1_nil {n:Int} (hn:1≤n) (hm:n≤2147483647) (_:NdV w oa ([]:List Nd)):
  Calls Tryz.prog 79 #[.agg #[.int .i8 1,.int .i64 n,.slice oa ([]:List Nd).length cap]] w fun e w'=>e= .returned (.bool true)∧Below w.heap.size w w':=by
 have hb0:=(Below.refl w.heap.size w).alloc (Nat.le_refl _) (.cells #[.int .i8 1,.int .i64 n,.slice oa ([]:List Nd).length cap] 54)
 have HB:=Lib.hid hb0
 clear hb0
 go_enter Tryz.func79,Tryz.ntmps79
 go_wp2_with fail
 go_ret
 exact⟨rfl,HB.out⟩
set_option maxRecDepth 100000 in
set_option maxHeartbeats 1600000 in
theorem right_1_len {n:Int} (hn:1≤n) (hm:n≤2147483647) (hl: ¬re.length=0) (_:NdV w oa re):
  Calls Tryz.prog 79 #[.agg #[.int .i8 1,.int .i64 n,.slice oa re.length cap]] w fun e w'=>e= .returned (.bool false)∧Below w.heap.size w w':=by
 have hb0:=(Below.refl w.heap.size w).alloc (Nat.le_refl _) (.cells #[.int .i8 1,.int .i64 n,.slice oa re.length cap] 54)
 have HB:=Lib.hid hb0
 clear hb0
 have ql:((re.length:Int)==0)=false:=beq_eq_false_iff_ne.2 (by omega)
 go_enter Tryz.func79,Tryz.ntmps79
 go_wp2_with fail
 go_ret
 exact⟨rfl,HB.out⟩
set_option maxRecDepth 100000 in
set_option maxHeartbeats 1600000 in
theorem right_3_n {n:Int} (hn: ¬n=0) (_:NdV w oa re):
  Calls Tryz.prog 79 #[.agg #[.int .i8 3,.int .i64 n,.slice oa re.length cap]] w fun e w'=>e= .returned (.bool false)∧Below w.heap.size w w':=by
 have hb0:=(Below.refl w.heap.size w).alloc (Nat.le_refl _) (.cells #[.int .i8 3,.int .i64 n,.slice oa re.length cap] 54)
 have HB:=Lib.hid hb0
 clear hb0
 have qn:(n==0)=false:=beq_eq_false_iff_ne.2 hn
 go_enter Tryz.func79,Tryz.ntmps79
 go_wp2_with fail
 go_ret
 exact⟨rfl,HB.out⟩
set_option maxRecDepth 100000 in
set_option maxHeartbeats 1600000 in
theorem right_3_nil (_:NdV w oa ([]:List Nd)):
  Calls Tryz.prog 79 #[.agg #[.int .i8 3,.int .i64 0,.slice oa ([]:List Nd).length cap]] w fun e w'=>e= .returned (.bool true)∧Below w.heap.size w w':=by
 have hb0:=(Below.refl w.heap.size w).alloc (Nat.le_refl _) (.cells #[.int .i8 3,.int .i64 0,.slice oa ([]:List Nd).length cap] 54)
 have HB:=Lib.hid hb0
 clear hb0
 go_enter Tryz.func79,Tryz.ntmps79
 go_wp2_with fail
 go_ret
 exact⟨rfl,HB.out⟩
set_option maxRecDepth 100000 in
set_option maxHeartbeats 1600000 in
theorem right_3_len (hl: ¬re.length=0) (h:NdV w oa re):
  Calls Tryz.prog 79 #[.agg #[.int .i8 3,.int .i64 0,.slice oa re.length cap]] w fun e w'=>e= .returned (.bool (shapedN re))∧Below w.heap.size w w':=by
 have hb0:=(Below.refl w.heap.size w).alloc (Nat.le_refl _) (.cells #[.int .i8 3,.int .i64 0,.slice oa re.length cap] 54)
 have HS:=Lib.hid (shaped_call (cap:=cap) (h.below hb0))
 have HB:=Lib.hid hb0
 clear hb0 h
 have ql:((re.length:Int)==0)=false:=beq_eq_false_iff_ne.2 (by omega)
 go_enter Tryz.func79,Tryz.ntmps79
 go_wp2_with fail
 refine HS.out.mono ?_;rintro e w1 ⟨rfl,hb1⟩
 have HB1:=Lib.hid (HB.out.trans (hb1.mono (by simp)))
 clear hb1
 go_wp2_with fail
 go_ret
 exact⟨rfl,HB1.out⟩
set_option maxRecDepth 100000 in
set_option maxHeartbeats 1600000 in
theorem right_other {k n:Int} (h0: ¬k=0) (h1: ¬k=1) (h2: ¬k=2) (h3: ¬k=3) (_:NdV w oa re):
  Calls Tryz.prog 79 #[.agg #[.int .i8 k,.int .i64 n,.slice oa re.length cap]] w fun e w'=>e= .returned (.bool false)∧Below w.heap.size w w':=by
 have hb0:=(Below.refl w.heap.size w).alloc (Nat.le_refl _) (.cells #[.int .i8 k,.int .i64 n,.slice oa re.length cap] 54)
 have HB:=Lib.hid hb0
 clear hb0
 have q0:(k==0)=false:=beq_eq_false_iff_ne.2 h0
 have q1:(k==1)=false:=beq_eq_false_iff_ne.2 h1
 have q2:(k==2)=false:=beq_eq_false_iff_ne.2 h2
 have q3:(k==3)=false:=beq_eq_false_iff_ne.2 h3
 go_enter Tryz.func79,Tryz.ntmps79
 go_wp2_with fail
 go_ret
 exact⟨rfl,HB.out⟩
theorem right_call (k:Int) (n:Int) (h:NdV w oa re):
  Calls Tryz.prog 79 #[.agg #[.int .i8 k,.int .i64 n,.slice oa re.length cap]] w fun e w'=>e= .returned (.bool (rightA ⟨k,n,re⟩))∧Below w.heap.size w w':=by
 by_cases h3:k=3
 ·subst h3
  by_cases hn:n=0
  ·subst hn
   by_cases hl:re.length=0
   ·obtain rfl:=List.eq_nil_of_length_eq_zero hl
    exact right_3_nil h
   ·rw[show rightA ⟨3,0,re⟩=shapedN re by simp[rightA,emp_len hl]]
    exact right_3_len hl h
  ·rw[show rightA ⟨3,n,re⟩=false by simp[rightA,hn]]
   exact right_3_n hn h
 by_cases h1:k=1
 ·subst h1
  by_cases hn:1≤n
  ·by_cases hm:n≤2147483647
   ·by_cases hl:re.length=0
    ·obtain rfl:=List.eq_nil_of_length_eq_zero hl
     rw[show rightA ⟨1,n,[]⟩=true by simp[rightA,hn,hm]]
     exact right_1_nil hn hm h
    ·rw[show rightA ⟨1,n,re⟩=false by simp[rightA,emp_len hl]]
     exact right_1_len hn hm hl h
   ·rw[show rightA ⟨1,n,re⟩=false by simp[rightA,hm]]
    exact right_1_hi hn hm h
  ·rw[show rightA ⟨1,n,re⟩=false by simp[rightA,hn]]
   exact right_1_lo hn h
 by_cases h0:k=0
 ·subst h0
  by_cases hn:n=0
  ·subst hn
   by_cases hl:re.length=0
   ·obtain rfl:=List.eq_nil_of_length_eq_zero hl
    exact right_0_nil h
   ·rw[show rightA ⟨0,0,re⟩=false by simp[rightA,emp_len hl]]
    exact right_0_len hl h
  ·rw[show rightA ⟨0,n,re⟩=false by simp[rightA,hn]]
   exact right_0_n hn h
 by_cases h2:k=2
 ·subst h2
  by_cases hn:n=0
  ·subst hn
   by_cases hl:re.length=0
   ·obtain rfl:=List.eq_nil_of_length_eq_zero hl
    exact right_2_nil h
   ·rw[show rightA ⟨2,0,re⟩=false by simp[rightA,emp_len hl]]
    exact right_2_len hl h
  ·rw[show rightA ⟨2,n,re⟩=false by simp[rightA,hn]]
   exact right_2_n hn h
 rw[show rightA ⟨k,n,re⟩=false by simp[rightA,h0,h1,h2,h3]]
 exact right_other h0 h1 h2 h3 h
end
end Go.Proofs.YtfjbnpdffillbaaGreatDoor
namespace Go.Proofs.YtfjbnpdffillbaaGreatDoor
open Go.RowKit
section
variable {w:World} {oa:Option Addr} {cap:Nat} {re:List Nd}
set_option maxRecDepth 100000 in
set_option maxHeartbeats 1600000 in
theorem rright_0_n {n:Int} (hn: ¬n=0) (_:NdV w oa re):
  Calls Tryz.prog 83 #[.agg #[.int .i8 0,.int .i64 n,.slice oa re.length cap]] w fun e w'=>e= .returned (.bool false)∧Below w.heap.size w w':=by
 have hb0:=(Below.refl w.heap.size w).alloc (Nat.le_refl _) (.cells #[.int .i8 0,.int .i64 n,.slice oa re.length cap] 54)
 have HB:=Lib.hid hb0
 clear hb0
 have qn:(n==0)=false:=beq_eq_false_iff_ne.2 hn
 go_enter Tryz.func83,Tryz.ntmps83
 go_wp2_with fail
 go_ret
 exact⟨rfl,HB.out⟩
set_option maxRecDepth 100000 in
set_option maxHeartbeats 1600000 in
theorem rright_0_nil (_:NdV w oa ([]:List Nd)):
  Calls Tryz.prog 83 #[.agg #[.int .i8 0,.int .i64 0,.slice oa ([]:List Nd).length cap]] w fun e w'=>e= .returned (.bool true)∧Below w.heap.size w w':=by
 have hb0:=(Below.refl w.heap.size w).alloc (Nat.le_refl _) (.cells #[.int .i8 0,.int .i64 0,.slice oa ([]:List Nd).length cap] 54)
 have HB:=Lib.hid hb0
 clear hb0
 go_enter Tryz.func83,Tryz.ntmps83
 go_wp2_with fail
 go_ret
 exact⟨rfl,HB.out⟩
set_option maxRecDepth 100000 in
set_option maxHeartbeats 1600000 in
theorem rright_0_len (hl: ¬re.length=0) (_:NdV w oa re):
  Calls Tryz.prog 83 #[.agg #[.int .i8 0,.int .i64 0,.slice oa re.length cap]] w fun e w'=>e= .returned (.bool false)∧Below w.heap.size w w':=by
 have hb0:=(Below.refl w.heap.size w).alloc (Nat.le_refl _) (.cells #[.int .i8 0,.int .i64 0,.slice oa re.length cap] 54)
 have HB:=Lib.hid hb0
 clear hb0
 have ql:((re.length:Int)==0)=false:=beq_eq_false_iff_ne.2 (by omega)
 go_enter Tryz.func83,Tryz.ntmps83
 go_wp2_with fail
 go_ret
 exact⟨rfl,HB.out⟩
set_option maxRecDepth 100000 in
set_option maxHeartbeats 1600000 in
theorem rright_2_n {n:Int} (hn: ¬n=0) (_:NdV w oa re):
  Calls Tryz.prog 83 #[.agg #[.int .i8 2,.int .i64 n,.slice oa re.length cap]] w fun e w'=>e= .returned (.bool false)∧Below w.heap.size w w':=by
 have hb0:=(Below.refl w.heap.size w).alloc (Nat.le_refl _) (.cells #[.int .i8 2,.int .i64 n,.slice oa re.length cap] 54)
 have HB:=Lib.hid hb0
 clear hb0
 have qn:(n==0)=false:=beq_eq_false_iff_ne.2 hn
 go_enter Tryz.func83,Tryz.ntmps83
 go_wp2_with fail
 go_ret
 exact⟨rfl,HB.out⟩
set_option maxRecDepth 100000 in
set_option maxHeartbeats 1600000 in
theorem rright_2_nil (_:NdV w oa ([]:List Nd)):
  Calls Tryz.prog 83 #[.agg #[.int .i8 2,.int .i64 0,.slice oa ([]:List Nd).length cap]] w fun e w'=>e= .returned (.bool true)∧Below w.heap.size w w':=by
 have hb0:=(Below.refl w.heap.size w).alloc (Nat.le_refl _) (.cells #[.int .i8 2,.int .i64 0,.slice oa ([]:List Nd).length cap] 54)
 have HB:=Lib.hid hb0
 clear hb0
 go_enter Tryz.func83,Tryz.ntmps83
 go_wp2_with fail
 go_ret
 exact⟨rfl,HB.out⟩
set_option maxRecDepth 100000 in
set_option maxHeartbeats 1600000 in
theorem rright_2_len (hl: ¬re.length=0) (_:NdV w oa re):
  Calls Tryz.prog 83 #[.agg #[.int .i8 2,.int .i64 0,.slice oa re.length cap]] w fun e w'=>e= .returned (.bool false)∧Below w.heap.size w w':=by
 have hb0:=(Below.refl w.heap.size w).alloc (Nat.le_refl _) (.cells #[.int .i8 2,.int .i64 0,.slice oa re.length cap] 54)
 have HB:=Lib.hid hb0
 clear hb0
 have ql:((re.length:Int)==0)=false:=beq_eq_false_iff_ne.2 (by omega)
 go_enter Tryz.func83,Tryz.ntmps83
 go_wp2_with fail
 go_ret
 exact⟨rfl,HB.out⟩
set_option maxRecDepth 100000 in
set_option maxHeartbeats 1600000 in
theorem rright_1_lo {n:Int} (hn: ¬1≤n) (_:NdV w oa re):
  Calls Tryz.prog 83 #[.agg #[.int .i8 1,.int .i64 n,.slice oa re.length cap]] w fun e w'=>e= .returned (.bool false)∧Below w.heap.size w w':=by
 have hb0:=(Below.refl w.heap.size w).alloc (Nat.le_refl _) (.cells #[.int .i8 1,.int .i64 n,.slice oa re.length cap] 54)
 have HB:=Lib.hid hb0
 clear hb0
 go_enter Tryz.func83,Tryz.ntmps83
 go_wp2_with fail
 go_ret
 exact⟨rfl,HB.out⟩
set_option maxRecDepth 100000 in
set_option maxHeartbeats 1600000 in
theorem rright_1_hi {n:Int} (hn:1≤n) (hm: ¬n≤2147483647) (_:NdV w oa re):
  Calls Tryz.prog 83 #[.agg #[.int .i8 1,.int .i64 n,.slice oa re.length cap]] w fun e w'=>e= .returned (.bool false)∧Below w.heap.size w w':=by
 have hb0:=(Below.refl w.heap.size w).alloc (Nat.le_refl _) (.cells #[.int .i8 1,.int .i64 n,.slice oa re.length cap] 54)
 have HB:=Lib.hid hb0
 clear hb0
 go_enter Tryz.func83,Tryz.ntmps83
 go_wp2_with fail
 go_ret
 exact⟨rfl,HB.out⟩
set_option maxRecDepth 100000 in
set_option maxHeartbeats 1600000 in
theorem rright_1_nil {n:Int} (hn:1≤n) (hm:n≤2147483647) (_:NdV w oa ([]:List Nd)):
  Calls Tryz.prog 83 #[.agg #[.int .i8 1,.int .i64 n,.slice oa ([]:List Nd).length cap]] w fun e w'=>e= .returned (.bool true)∧Below w.heap.size w w':=by
 have hb0:=(Below.refl w.heap.size w).alloc (Nat.le_refl _) (.cells #[.int .i8 1,.int .i64 n,.slice oa ([]:List Nd).length cap] 54)
 have HB:=Lib.hid hb0
 clear hb0
 go_enter Tryz.func83,Tryz.ntmps83
 go_wp2_with fail
 go_ret
 exact⟨rfl,HB.out⟩
set_option maxRecDepth 100000 in
set_option maxHeartbeats 1600000 in
theorem rright_1_len {n:Int} (hn:1≤n) (hm:n≤2147483647) (hl: ¬re.length=0) (_:NdV w oa re):
  Calls Tryz.prog 83 #[.agg #[.int .i8 1,.int .i64 n,.slice oa re.length cap]] w fun e w'=>e= .returned (.bool false)∧Below w.heap.size w w':=by
 have hb0:=(Below.refl w.heap.size w).alloc (Nat.le_refl _) (.cells #[.int .i8 1,.int .i64 n,.slice oa re.length cap] 54)
 have HB:=Lib.hid hb0
 clear hb0
 have ql:((re.length:Int)==0)=false:=beq_eq_false_iff_ne.2 (by omega)
 go_enter Tryz.func83,Tryz.ntmps83
 go_wp2_with fail
 go_ret
 exact⟨rfl,HB.out⟩
set_option maxRecDepth 100000 in
set_option maxHeartbeats 1600000 in
theorem rright_3_n {n:Int} (hn: ¬n=0) (_:NdV w oa re):
  Calls Tryz.prog 83 #[.agg #[.int .i8 3,.int .i64 n,.slice oa re.length cap]] w fun e w'=>e= .returned (.bool false)∧Below w.heap.size w w':=by
 have hb0:=(Below.refl w.heap.size w).alloc (Nat.le_refl _) (.cells #[.int .i8 3,.int .i64 n,.slice oa re.length cap] 54)
 have HB:=Lib.hid hb0
 clear hb0
 have qn:(n==0)=false:=beq_eq_false_iff_ne.2 hn
 go_enter Tryz.func83,Tryz.ntmps83
 go_wp2_with fail
 go_ret
 exact⟨rfl,HB.out⟩
set_option maxRecDepth 100000 in
set_option maxHeartbeats 1600000 in
theorem rright_3_nil (_:NdV w oa ([]:List Nd)):
  Calls Tryz.prog 83 #[.agg #[.int .i8 3,.int .i64 0,.slice oa ([]:List Nd).length cap]] w fun e w'=>e= .returned (.bool true)∧Below w.heap.size w w':=by
 have hb0:=(Below.refl w.heap.size w).alloc (Nat.le_refl _) (.cells #[.int .i8 3,.int .i64 0,.slice oa ([]:List Nd).length cap] 54)
 have HB:=Lib.hid hb0
 clear hb0
 go_enter Tryz.func83,Tryz.ntmps83
 go_wp2_with fail
 go_ret
 exact⟨rfl,HB.out⟩
set_option maxRecDepth 100000 in
set_option maxHeartbeats 1600000 in
theorem rright_3_len (HOP:Hid (∀x∈re,-128≤x.op∧x.op≤127)) (hl: ¬re.length=0) (h:NdV w oa re):
  Calls Tryz.prog 83 #[.agg #[.int .i8 3,.int .i64 0,.slice oa re.length cap]] w fun e w'=>e= .returned (.bool (shapedN re))∧Below w.heap.size w w':=by
 have hb0:=(Below.refl w.heap.size w).alloc (Nat.le_refl _) (.cells #[.int .i8 3,.int .i64 0,.slice oa re.length cap] 54)
 have HS:=Lib.hid (rshaped_call (cap:=cap) HOP (h.below hb0))
 have HB:=Lib.hid hb0
 clear hb0 h
 have ql:((re.length:Int)==0)=false:=beq_eq_false_iff_ne.2 (by omega)
 go_enter Tryz.func83,Tryz.ntmps83
 go_wp2_with fail
 refine HS.out.mono ?_;rintro e w1 ⟨rfl,hb1⟩
 have HB1:=Lib.hid (HB.out.trans (hb1.mono (by simp)))
 clear hb1
 go_wp2_with fail
 go_ret
 exact⟨rfl,HB1.out⟩
set_option maxRecDepth 100000 in
set_option maxHeartbeats 1600000 in
theorem rright_other {k n:Int} (h0: ¬k=0) (h1: ¬k=1) (h2: ¬k=2) (h3: ¬k=3) (_:NdV w oa re) (k1: -128≤k) (k2:k≤127):
  Calls Tryz.prog 83 #[.agg #[.int .i8 k,.int .i64 n,.slice oa re.length cap]] w fun e w'=>e= .returned (.bool false)∧Below w.heap.size w w':=by
 have hb0:=(Below.refl w.heap.size w).alloc (Nat.le_refl _) (.cells #[.int .i8 k,.int .i64 n,.slice oa re.length cap] 54)
 have HB:=Lib.hid hb0
 clear hb0
 have q0:(k==0)=false:=beq_eq_false_iff_ne.2 h0
 have q1:(k==1)=false:=beq_eq_false_iff_ne.2 h1
 have q2:(k==2)=false:=beq_eq_false_iff_ne.2 h2
 have q3:(k==3)=false:=beq_eq_false_iff_ne.2 h3
 go_enter Tryz.func83,Tryz.ntmps83
 go_wp2_with fail
 go_ret
 exact⟨rfl,HB.out⟩
theorem rright_call (k:Int) (n:Int) (HOP:Hid (∀x∈re,-128≤x.op∧x.op≤127)) (h:NdV w oa re) (k1: -128≤k) (k2:k≤127):
  Calls Tryz.prog 83 #[.agg #[.int .i8 k,.int .i64 n,.slice oa re.length cap]] w fun e w'=>e= .returned (.bool (rightA ⟨k,n,re⟩))∧Below w.heap.size w w':=by
 by_cases h3:k=3
 ·subst h3
  by_cases hn:n=0
  ·subst hn
   by_cases hl:re.length=0
   ·obtain rfl:=List.eq_nil_of_length_eq_zero hl
    exact rright_3_nil h
   ·rw[show rightA ⟨3,0,re⟩=shapedN re by simp[rightA,emp_len hl]]
    exact rright_3_len HOP hl h
  ·rw[show rightA ⟨3,n,re⟩=false by simp[rightA,hn]]
   exact rright_3_n hn h
 by_cases h1:k=1
 ·subst h1
  by_cases hn:1≤n
  ·by_cases hm:n≤2147483647
   ·by_cases hl:re.length=0
    ·obtain rfl:=List.eq_nil_of_length_eq_zero hl
     rw[show rightA ⟨1,n,[]⟩=true by simp[rightA,hn,hm]]
     exact rright_1_nil hn hm h
    ·rw[show rightA ⟨1,n,re⟩=false by simp[rightA,emp_len hl]]
     exact rright_1_len hn hm hl h
   ·rw[show rightA ⟨1,n,re⟩=false by simp[rightA,hm]]
    exact rright_1_hi hn hm h
  ·rw[show rightA ⟨1,n,re⟩=false by simp[rightA,hn]]
   exact rright_1_lo hn h
 by_cases h0:k=0
 ·subst h0
  by_cases hn:n=0
  ·subst hn
   by_cases hl:re.length=0
   ·obtain rfl:=List.eq_nil_of_length_eq_zero hl
    exact rright_0_nil h
   ·rw[show rightA ⟨0,0,re⟩=false by simp[rightA,emp_len hl]]
    exact rright_0_len hl h
  ·rw[show rightA ⟨0,n,re⟩=false by simp[rightA,hn]]
   exact rright_0_n hn h
 by_cases h2:k=2
 ·subst h2
  by_cases hn:n=0
  ·subst hn
   by_cases hl:re.length=0
   ·obtain rfl:=List.eq_nil_of_length_eq_zero hl
    exact rright_2_nil h
   ·rw[show rightA ⟨2,0,re⟩=false by simp[rightA,emp_len hl]]
    exact rright_2_len hl h
  ·rw[show rightA ⟨2,n,re⟩=false by simp[rightA,hn]]
   exact rright_2_n hn h
 rw[show rightA ⟨k,n,re⟩=false by simp[rightA,h0,h1,h2,h3]]
 exact rright_other h0 h1 h2 h3 h k1 k2
end
end Go.Proofs.YtfjbnpdffillbaaGreatDoor
