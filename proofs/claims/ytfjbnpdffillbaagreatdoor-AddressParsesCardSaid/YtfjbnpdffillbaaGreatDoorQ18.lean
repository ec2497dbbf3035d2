/- Parts: Pj Kb Fe Fm. -/
import Derived.Test.YtfjbnpdffillbaaGreatDoorQ17
import Derived.Test.YtfjbnpdffillbaaGreatDoorQ16
import Derived.Test.YtfjbnpdffillbaaGreatDoorQ1
import Derived.Lib.ItoaNum
set_option maxHeartbeats 1600000
set_option maxRecDepth 100000
namespace Go.Proofs.YtfjbnpdffillbaaGreatDoor
section
def mk (b:Nat):Mk:=⟨b,false⟩
def step (n:Int) (b:Nat):Int:=min (max n 0*10+((b:Int) - 48)) 256
def zMt (u:Nat):List Nat:=(Lib.decDigits u).map (·.toNat)
theorem zHh {u:Nat} (h:u<10):zMt u=[48+u]:=by
 rw[zMt,Lib.decDigits,dif_pos h]
 simp only[List.map_cons,List.map_nil,List.cons.injEq,and_true]
 rw[UInt8.toNat_ofNat']
 omega
theorem zNZ {u:Nat} (h: ¬u<10):zMt u=zMt (u / 10)++[48+u % 10]:=by
 rw[zMt,Lib.decDigits,dif_neg h,List.map_append,←zMt]
 congr 1
 simp only[List.map_cons,List.map_nil,List.cons.injEq,and_true]
 rw[UInt8.toNat_ofNat']
 omega
theorem zFN: ∀(k u:Nat),u<10 ^ (k+1)→(zMt u).length≤k+1
 |0,u,h=>by rw[zHh (by omega)];simp
 |k+1,u,h=>by
  by_cases h1:u<10
  ·rw[zHh h1];simp
  ·rw[zNZ h1,zPz,List.length_singleton]
   have:=zFN k (u / 10) (by rw[Nat.pow_succ]at h;omega)
   omega
def zHZ (m:Int):List Nat:=if m<0 then 45::zMt m.natAbs else zMt m.toNat
theorem zH9 {m:Int} (h1: -9223372036854775808≤m) (h2:m≤9223372036854775807):(zHZ m).length≤20:=by
 unfold zHZ
 split
 ·rw[List.length_cons]
  have:=zFN 18 m.natAbs (by omega)
  omega
 ·have:=zFN 18 m.toNat (by omega)
  omega
end
section
def spB (ere:Bool):List Nat:=[46,91,42,94,36,92]++(if ere then [40,41,43,63,123,124]else [])
def zFO (ere:Bool) (b:Nat):List Nat:=if b=10 then [92,110]else if (spB ere).contains b then [92,b]else [b]
def zJb (ere:Bool) (c:Cls):List Nat:=if c.els.length=256 then [46]else match c.els with
 |[b]=>zFO ere b
 |_=>zB8 c
def zMY (ere:Bool) (n:Nd):List Nat:=
 if n.min=0∧n.max<0 then [42]
 else if ere=true∧n.min=1∧n.max<0 then [43]
 else if ere=true∧n.min=0∧n.max=1 then [63]
 else zA7 ere 123++(zHZ n.min++((if n.max=n.min then []else 44::(if 0≤n.max then zHZ n.max else []))++zA7 ere 125))
def zFP (ere:Bool) (re:List Nd) (wh:Nat→Option (List Nat × Nat)) (i:Nat):Option (List Nat × Nat):=
 match re[i]? with
 |none=>none
 |some n=>
  if n.op=1 then some (zJb ere n.set,i+1)
  else if n.op=7 then
   match re[i+1]? with
   |none=>none
   |some k=>
    if k.op=4∧k.kids=0 then some (zA7 ere 40++zA7 ere 41,i+2)
    else match wh (i+1)with
     |none=>none
     |some (s,j)=>some (zA7 ere 40++(s++zA7 ere 41),j)
  else if n.op=8 then if ere=true∨9<n.n then none else some (92::zHZ n.n,i+1)
  else none
def zFG (ere:Bool) (re:List Nd) (wh:Nat→Option (List Nat × Nat)) (first last:Bool) (i:Nat):Option (List Nat × Nat):=
 match re[i]? with
 |none=>none
 |some n=>
  if n.op=2 then if ere||first then some ([94],i+1)else none
  else if n.op=3 then if ere||last then some ([36],i+1)else none
  else if n.op=6 then
   match zFP ere re wh (i+1)with
   |none=>none
   |some (s,j)=>some (s++zMY ere n,j)
  else zFP ere re wh i
def zDi (ere:Bool) (re:List Nd) (wh:Nat→Option (List Nat × Nat)):Nat→Bool→Nat→Option (List Nat × Nat)
 |0,_,i=>some ([],i)
 |k+1,first,i=>
  match zFG ere re wh first (k==0) i with
  |none=>none
  |some (s,j)=>
   match zDi ere re wh k false j with
   |none=>none
   |some (t,e)=>some (s++t,e)
def zKu (ere:Bool) (re:List Nd) (wh:Nat→Option (List Nat × Nat)) (i:Nat):Option (List Nat × Nat):=
 match re[i]? with
 |none=>none
 |some n=>if n.op≠4 then zFG ere re wh true true i else if n.kids≤0 then none else zDi ere re wh n.kids.toNat true (i+1)
def zGO (ere:Bool) (re:List Nd) (wh:Nat→Option (List Nat × Nat)):Nat→Bool→Nat→Option (List Nat × Nat)
 |0,_,i=>some ([],i)
 |k+1,first,i=>
  match zKu ere re wh i with
  |none=>none
  |some (s,j)=>
   match zGO ere re wh k false j with
   |none=>none
   |some (t,e)=>some ((if first then []else [124])++(s++t),e)
def zA2 (ere:Bool) (re:List Nd):Nat→Nat→Option (List Nat × Nat)
 |0,_=>none
 |f+1,i=>
  match re[i]? with
  |none=>none
  |some n=>if n.op≠5 then zKu ere re (zA2 ere re f) i else if ere then zGO ere re (zA2 ere re f) n.kids.toNat true (i+1)else none
def zGD (ere:Bool) (re:List Nd):Option (List Nat):=
 match zA2 ere re 66 0 with
 |none=>none
 |some (s,_)=>if s.length≤4096 then some s else none
def zCh (d:Nat):Bool→List Mk→Option (List Nat)
 |taken,[]=>if taken then none else some []
 |true,m::l=>if m.p||m.b==d then none else(zCh d false l).map fun s=>m.b::s
 |false,m::l=>
  if m.p then(if m.b=d then(zCh d false l).map fun s=>92::d::s else none)
  else if m.b=d∨m.b=10 then none
  else(zCh d (m.b==92) l).map fun s=>m.b::s
def zEI (d:Nat) (l:List Mk):Option (List Nat):=if d=92∨d=10 then none else zCh d false l
theorem zC6 (d:Nat): ∀(l:List Mk) (t:Bool) (s:List Nat),zCh d t l=some s→s.length≤2*l.length
 |[],t,s,h=>by
  unfold zCh at h
  split at h<;>simp at h
  subst h;simp
 |m::l,true,s,h=>by
  unfold zCh at h
  split at h
  ·cases h
  ·obtain⟨s',h',rfl⟩:=Option.map_eq_some_iff.1 h
   have:=zC6 d l _ _ h'
   simp only[List.length_cons];omega
 |m::l,false,s,h=>by
  unfold zCh at h
  split at h
  ·split at h
   ·obtain⟨s',h',rfl⟩:=Option.map_eq_some_iff.1 h
    have:=zC6 d l _ _ h'
    simp only[List.length_cons];omega
   ·cases h
  ·split at h
   ·cases h
   ·obtain⟨s',h',rfl⟩:=Option.map_eq_some_iff.1 h
    have:=zC6 d l _ _ h'
    simp only[List.length_cons];omega
end
section
def zBk (a:Ad):Bool:=
 if a.kind=0∨a.kind=2 then a.n==0&&a.re.isEmpty
 else if a.kind=1 then decide (1≤a.n∧a.n≤2147483647)&&a.re.isEmpty
 else if a.kind=3 then a.n==0&&(a.re.isEmpty||shapedN a.re)
 else false
def zBh (s:List Nat):List Mk:=s.map fun b=>⟨b,b==47⟩
def zD7 (ere:Bool) (re:List Nd):Except Nat (List Nat):=
 if re=[]then .ok [47,47]
 else match zGD ere re with
  |none=> .error 50
  |some s=>match zEI 47 (zBh s)with
   |none=> .error 50
   |some t=> .ok (47::t++[47])
def wT:List Nat:=[49,50,44,47,97,47,112]
theorem zOf:zCa false wT 0=(⟨1,12,[]⟩,0,2):=by kernel_rfl
theorem zOe:zCa false wT 3=(⟨3,0,[zCe 97]⟩,0,6):=by kernel_rfl
end
section
open Go.RowKit
section
variable {w:World} {oa:Option Addr} {cap:Nat} {re:List Nd}
theorem zIB (h: ¬re.length=0):re.isEmpty=false:=by cases re<;>simp_all
theorem zL2 {n:Int} (hn: ¬n=0) (_:NdV w oa re):
  Calls Tryz.prog 79 #[.agg #[.int .i8 0,.int .i64 n,.slice oa re.length cap]] w fun e w'=>e= .returned (.bool false)∧Below w.heap.size w w':=by
 have hb0:=(zPg w.heap.size w).alloc (zPh _) (.cells #[.int .i8 0,.int .i64 n,.slice oa re.length cap] 54)
 have HB:=zPf hb0
 clear hb0
 have qn:(n==0)=false:=zPl.2 hn
 go_enter Tryz.func79,Tryz.ntmps79
 go_wp2_with fail
 go_ret
 exact⟨rfl,HB.out⟩
theorem zJm (_:NdV w oa ([]:List Nd)):
  Calls Tryz.prog 79 #[.agg #[.int .i8 0,.int .i64 0,.slice oa ([]:List Nd).length cap]] w fun e w'=>e= .returned (.bool true)∧Below w.heap.size w w':=by
 have hb0:=(zPg w.heap.size w).alloc (zPh _) (.cells #[.int .i8 0,.int .i64 0,.slice oa ([]:List Nd).length cap] 54)
 have HB:=zPf hb0
 clear hb0
 go_enter Tryz.func79,Tryz.ntmps79
 go_wp2_with fail
 go_ret
 exact⟨rfl,HB.out⟩
theorem zJn (hl: ¬re.length=0) (_:NdV w oa re):
  Calls Tryz.prog 79 #[.agg #[.int .i8 0,.int .i64 0,.slice oa re.length cap]] w fun e w'=>e= .returned (.bool false)∧Below w.heap.size w w':=by
 have hb0:=(zPg w.heap.size w).alloc (zPh _) (.cells #[.int .i8 0,.int .i64 0,.slice oa re.length cap] 54)
 have HB:=zPf hb0
 clear hb0
 have ql:((re.length:Int)==0)=false:=zPl.2 (by omega)
 go_enter Tryz.func79,Tryz.ntmps79
 go_wp2_with fail
 go_ret
 exact⟨rfl,HB.out⟩
theorem zL1 {n:Int} (hn: ¬n=0) (_:NdV w oa re):
  Calls Tryz.prog 79 #[.agg #[.int .i8 2,.int .i64 n,.slice oa re.length cap]] w fun e w'=>e= .returned (.bool false)∧Below w.heap.size w w':=by
 have hb0:=(zPg w.heap.size w).alloc (zPh _) (.cells #[.int .i8 2,.int .i64 n,.slice oa re.length cap] 54)
 have HB:=zPf hb0
 clear hb0
 have qn:(n==0)=false:=zPl.2 hn
 go_enter Tryz.func79,Tryz.ntmps79
 go_wp2_with fail
 go_ret
 exact⟨rfl,HB.out⟩
theorem zJi (_:NdV w oa ([]:List Nd)):
  Calls Tryz.prog 79 #[.agg #[.int .i8 2,.int .i64 0,.slice oa ([]:List Nd).length cap]] w fun e w'=>e= .returned (.bool true)∧Below w.heap.size w w':=by
 have hb0:=(zPg w.heap.size w).alloc (zPh _) (.cells #[.int .i8 2,.int .i64 0,.slice oa ([]:List Nd).length cap] 54)
 have HB:=zPf hb0
 clear hb0
 go_enter Tryz.func79,Tryz.ntmps79
 go_wp2_with fail
 go_ret
 exact⟨rfl,HB.out⟩
theorem zJj (hl: ¬re.length=0) (_:NdV w oa re):
  Calls Tryz.prog 79 #[.agg #[.int .i8 2,.int .i64 0,.slice oa re.length cap]] w fun e w'=>e= .returned (.bool false)∧Below w.heap.size w w':=by
 have hb0:=(zPg w.heap.size w).alloc (zPh _) (.cells #[.int .i8 2,.int .i64 0,.slice oa re.length cap] 54)
 have HB:=zPf hb0
 clear hb0
 have ql:((re.length:Int)==0)=false:=zPl.2 (by omega)
 go_enter Tryz.func79,Tryz.ntmps79
 go_wp2_with fail
 go_ret
 exact⟨rfl,HB.out⟩
theorem zKx {n:Int} (hn: ¬1≤n) (_:NdV w oa re):
  Calls Tryz.prog 79 #[.agg #[.int .i8 1,.int .i64 n,.slice oa re.length cap]] w fun e w'=>e= .returned (.bool false)∧Below w.heap.size w w':=by
 have hb0:=(zPg w.heap.size w).alloc (zPh _) (.cells #[.int .i8 1,.int .i64 n,.slice oa re.length cap] 54)
 have HB:=zPf hb0
 clear hb0
 go_enter Tryz.func79,Tryz.ntmps79
 go_wp2_with fail
 go_ret
 exact⟨rfl,HB.out⟩
theorem zKy {n:Int} (hn:1≤n) (hm: ¬n≤2147483647) (_:NdV w oa re):
  Calls Tryz.prog 79 #[.agg #[.int .i8 1,.int .i64 n,.slice oa re.length cap]] w fun e w'=>e= .returned (.bool false)∧Below w.heap.size w w':=by
 have hb0:=(zPg w.heap.size w).alloc (zPh _) (.cells #[.int .i8 1,.int .i64 n,.slice oa re.length cap] 54)
 have HB:=zPf hb0
 clear hb0
 go_enter Tryz.func79,Tryz.ntmps79
 go_wp2_with fail
 go_ret
 exact⟨rfl,HB.out⟩
theorem zJk {n:Int} (hn:1≤n) (hm:n≤2147483647) (_:NdV w oa ([]:List Nd)):
  Calls Tryz.prog 79 #[.agg #[.int .i8 1,.int .i64 n,.slice oa ([]:List Nd).length cap]] w fun e w'=>e= .returned (.bool true)∧Below w.heap.size w w':=by
 have hb0:=(zPg w.heap.size w).alloc (zPh _) (.cells #[.int .i8 1,.int .i64 n,.slice oa ([]:List Nd).length cap] 54)
 have HB:=zPf hb0
 clear hb0
 go_enter Tryz.func79,Tryz.ntmps79
 go_wp2_with fail
 go_ret
 exact⟨rfl,HB.out⟩
theorem zJl {n:Int} (hn:1≤n) (hm:n≤2147483647) (hl: ¬re.length=0) (_:NdV w oa re):
  Calls Tryz.prog 79 #[.agg #[.int .i8 1,.int .i64 n,.slice oa re.length cap]] w fun e w'=>e= .returned (.bool false)∧Below w.heap.size w w':=by
 have hb0:=(zPg w.heap.size w).alloc (zPh _) (.cells #[.int .i8 1,.int .i64 n,.slice oa re.length cap] 54)
 have HB:=zPf hb0
 clear hb0
 have ql:((re.length:Int)==0)=false:=zPl.2 (by omega)
 go_enter Tryz.func79,Tryz.ntmps79
 go_wp2_with fail
 go_ret
 exact⟨rfl,HB.out⟩
theorem zL0 {n:Int} (hn: ¬n=0) (_:NdV w oa re):
  Calls Tryz.prog 79 #[.agg #[.int .i8 3,.int .i64 n,.slice oa re.length cap]] w fun e w'=>e= .returned (.bool false)∧Below w.heap.size w w':=by
 have hb0:=(zPg w.heap.size w).alloc (zPh _) (.cells #[.int .i8 3,.int .i64 n,.slice oa re.length cap] 54)
 have HB:=zPf hb0
 clear hb0
 have qn:(n==0)=false:=zPl.2 hn
 go_enter Tryz.func79,Tryz.ntmps79
 go_wp2_with fail
 go_ret
 exact⟨rfl,HB.out⟩
theorem zJg (_:NdV w oa ([]:List Nd)):
  Calls Tryz.prog 79 #[.agg #[.int .i8 3,.int .i64 0,.slice oa ([]:List Nd).length cap]] w fun e w'=>e= .returned (.bool true)∧Below w.heap.size w w':=by
 have hb0:=(zPg w.heap.size w).alloc (zPh _) (.cells #[.int .i8 3,.int .i64 0,.slice oa ([]:List Nd).length cap] 54)
 have HB:=zPf hb0
 clear hb0
 go_enter Tryz.func79,Tryz.ntmps79
 go_wp2_with fail
 go_ret
 exact⟨rfl,HB.out⟩
theorem zJh (hl: ¬re.length=0) (h:NdV w oa re):
  Calls Tryz.prog 79 #[.agg #[.int .i8 3,.int .i64 0,.slice oa re.length cap]] w fun e w'=>e= .returned (.bool (shapedN re))∧Below w.heap.size w w':=by
 have hb0:=(zPg w.heap.size w).alloc (zPh _) (.cells #[.int .i8 3,.int .i64 0,.slice oa re.length cap] 54)
 have HS:=zPf (zGF (cap:=cap) (h.below hb0))
 have HB:=zPf hb0
 clear hb0 h
 have ql:((re.length:Int)==0)=false:=zPl.2 (by omega)
 go_enter Tryz.func79,Tryz.ntmps79
 go_wp2_with fail
 refine HS.out.mono ?_;rintro e w1 ⟨rfl,hb1⟩
 have HB1:=zPf (HB.out.trans (hb1.mono (by simp)))
 clear hb1
 go_wp2_with fail
 go_ret
 exact⟨rfl,HB1.out⟩
theorem zJf {k n:Int} (h0: ¬k=0) (h1: ¬k=1) (h2: ¬k=2) (h3: ¬k=3) (_:NdV w oa re):
  Calls Tryz.prog 79 #[.agg #[.int .i8 k,.int .i64 n,.slice oa re.length cap]] w fun e w'=>e= .returned (.bool false)∧Below w.heap.size w w':=by
 have hb0:=(zPg w.heap.size w).alloc (zPh _) (.cells #[.int .i8 k,.int .i64 n,.slice oa re.length cap] 54)
 have HB:=zPf hb0
 clear hb0
 have q0:(k==0)=false:=zPl.2 h0
 have q1:(k==1)=false:=zPl.2 h1
 have q2:(k==2)=false:=zPl.2 h2
 have q3:(k==3)=false:=zPl.2 h3
 go_enter Tryz.func79,Tryz.ntmps79
 go_wp2_with fail
 go_ret
 exact⟨rfl,HB.out⟩
theorem zKw (k:Int) (n:Int) (h:NdV w oa re):
  Calls Tryz.prog 79 #[.agg #[.int .i8 k,.int .i64 n,.slice oa re.length cap]] w fun e w'=>e= .returned (.bool (zBk ⟨k,n,re⟩))∧Below w.heap.size w w':=by
 by_cases h3:k=3
 ·subst h3
  by_cases hn:n=0
  ·subst hn
   by_cases hl:re.length=0
   ·obtain rfl:=zQE hl
    exact zJg h
   ·rw[show zBk ⟨3,0,re⟩=shapedN re by simp[zBk,zIB hl]]
    exact zJh hl h
  ·rw[show zBk ⟨3,n,re⟩=false by simp[zBk,hn]]
   exact zL0 hn h
 by_cases h1:k=1
 ·subst h1
  by_cases hn:1≤n
  ·by_cases hm:n≤2147483647
   ·by_cases hl:re.length=0
    ·obtain rfl:=zQE hl
     rw[show zBk ⟨1,n,[]⟩=true by simp[zBk,hn,hm]]
     exact zJk hn hm h
    ·rw[show zBk ⟨1,n,re⟩=false by simp[zBk,zIB hl]]
     exact zJl hn hm hl h
   ·rw[show zBk ⟨1,n,re⟩=false by simp[zBk,hm]]
    exact zKy hn hm h
  ·rw[show zBk ⟨1,n,re⟩=false by simp[zBk,hn]]
   exact zKx hn h
 by_cases h0:k=0
 ·subst h0
  by_cases hn:n=0
  ·subst hn
   by_cases hl:re.length=0
   ·obtain rfl:=zQE hl
    exact zJm h
   ·rw[show zBk ⟨0,0,re⟩=false by simp[zBk,zIB hl]]
    exact zJn hl h
  ·rw[show zBk ⟨0,n,re⟩=false by simp[zBk,hn]]
   exact zL2 hn h
 by_cases h2:k=2
 ·subst h2
  by_cases hn:n=0
  ·subst hn
   by_cases hl:re.length=0
   ·obtain rfl:=zQE hl
    exact zJi h
   ·rw[show zBk ⟨2,0,re⟩=false by simp[zBk,zIB hl]]
    exact zJj hl h
  ·rw[show zBk ⟨2,n,re⟩=false by simp[zBk,hn]]
   exact zL1 hn h
 rw[show zBk ⟨k,n,re⟩=false by simp[zBk,h0,h1,h2,h3]]
 exact zJf h0 h1 h2 h3 h
end
end
end Go.Proofs.YtfjbnpdffillbaaGreatDoor
