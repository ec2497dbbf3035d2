/- Parts: Pj Kb Fe Fm. -/
import Derived.Test.YtfjbnpdffillbaaGreatDoorQ16
import Derived.Test.YtfjbnpdffillbaaGreatDoorQ15
import Derived.Test.YtfjbnpdffillbaaGreatDoorQ2
import Derived.Lib.ItoaNum
namespace Go.Proofs.YtfjbnpdffillbaaGreatDoor
def mk (b:Nat):Mk:=⟨b,false⟩
def step (n:Int) (b:Nat):Int:=min (max n 0*10+((b:Int) - 48)) 256
theorem numberL_digits {L:List Mk} {rest:List Mk} (hr: ∀m l,rest=m::l→m.p=true∨m.b<48∨57<m.b):
  ∀(ds:List Nat) (f i:Nat) (n:Int),L.drop i=ds.map mk++rest→(∀d∈ds,48≤d∧d≤57)→ds.length≤f→L.length≤i+f→numberL L f n i=(ds.foldl step n,i+ds.length):=by
 intro ds
 induction ds with
 |nil=>
  intro f i n hL _ _ hlen
  cases f with
  |zero=>rfl
  |succ f=>
   simp only[List.map_nil,List.nil_append]at hL
   rw[numberL]
   split
   ·rfl
   ·rename_i hi
    have hi':i<L.length:=by omega
    have hd:L.drop i=L[i]::L.drop (i+1):=List.drop_eq_getElem_cons hi'
    have hm:markAt L i=L[i]:=by simp[markAt,List.getD_eq_getElem?_getD,List.getElem?_eq_getElem hi']
    rw[if_pos]
    ·rfl
    ·rw[hm]
     rcases hr L[i] (L.drop (i+1)) (by rw[←hL,hd])with h|h|h
     ·simp[h]
     ·simp[h]
     ·simp[h]
 |cons d ds ih=>
  intro f i n hL hd hf hlen
  cases f with
  |zero=>simp at hf
  |succ f=>
   have hi:i<L.length:=by
    by_cases h:i<L.length
    ·exact h
    ·rw[List.drop_eq_nil_of_le (by omega)]at hL
     simp at hL
   have hdr:L.drop i=L[i]::L.drop (i+1):=List.drop_eq_getElem_cons hi
   rw[hdr]at hL
   simp only[List.map_cons,List.cons_append,List.cons.injEq]at hL
   have hm:markAt L i=mk d:=by simp[markAt,List.getD_eq_getElem?_getD,List.getElem?_eq_getElem hi,hL.1]
   have hdd:=hd d (List.mem_cons_self ..)
   rw[numberL,if_neg (by omega),hm,if_neg (show¬((mk d).p||decide ((mk d).b<48)||decide (57<(mk d).b))=true by show¬(false||decide (d<48)||decide (57<d))=true;rw[decide_eq_false (show¬d<48 by omega),decide_eq_false (show¬57<d by omega)];decide)]
   rw[show(mk d).b=d from rfl]
   rw[ih f (i+1) _ hL.2 (fun x hx=>hd x (List.mem_cons_of_mem _ hx)) (by simp only[List.length_cons]at hf;omega) (by omega)]
   simp only[List.foldl_cons,step,List.length_cons]
   congr 1
   omega
def digB (u:Nat):List Nat:=(Lib.decDigits u).map (·.toNat)
theorem digB_small {u:Nat} (h:u<10):digB u=[48+u]:=by
 rw[digB,Lib.decDigits,dif_pos h]
 simp only[List.map_cons,List.map_nil,List.cons.injEq,and_true]
 rw[UInt8.toNat_ofNat']
 omega
theorem digB_big {u:Nat} (h: ¬u<10):digB u=digB (u / 10)++[48+u % 10]:=by
 rw[digB,Lib.decDigits,dif_neg h,List.map_append,←digB]
 congr 1
 simp only[List.map_cons,List.map_nil,List.cons.injEq,and_true]
 rw[UInt8.toNat_ofNat']
 omega
theorem digB_digit (u:Nat): ∀d∈digB u,48≤d∧d≤57:=by
 induction u using Nat.strongRecOn with
 |ind u ih=>
  by_cases h:u<10
  ·rw[digB_small h];intro d hd;simp at hd;omega
  ·rw[digB_big h]
   intro d hd
   rcases List.mem_append.1 hd with hd|hd
   ·exact ih (u / 10) (by omega) d hd
   ·simp at hd;omega
theorem digB_fold (u:Nat):(digB u).foldl step (-1)=min (u:Int) 256:=by
 induction u using Nat.strongRecOn with
 |ind u ih=>
  by_cases h:u<10
  ·rw[digB_small h];simp only[List.foldl_cons,List.foldl_nil,step];omega
  ·rw[digB_big h,List.foldl_append,ih (u / 10) (by omega)]
   simp only[List.foldl_cons,List.foldl_nil,step]
   omega
theorem digB_len (u:Nat):0<(digB u).length:=by
 by_cases h:u<10
 ·rw[digB_small h];simp
 ·rw[digB_big h];simp
theorem digB_len20: ∀(k u:Nat),u<10 ^ (k+1)→(digB u).length≤k+1
 |0,u,h=>by rw[digB_small (by omega)];simp
 |k+1,u,h=>by
  by_cases h1:u<10
  ·rw[digB_small h1];simp
  ·rw[digB_big h1,List.length_append,List.length_singleton]
   have:=digB_len20 k (u / 10) (by rw[Nat.pow_succ]at h;omega)
   omega
theorem numL_digits {L rest:List Mk} (hr: ∀m l,rest=m::l→m.p=true∨m.b<48∨57<m.b) {i u:Nat} (hL:L.drop i=(digB u).map mk++rest):numL L i=(min (u:Int) 256,i+(digB u).length):=by
 have hlen:L.length - i=(digB u).length+rest.length:=by rw[←List.length_drop,hL,List.length_append,List.length_map]
 rw[numL,numberL_digits hr (digB u) _ i (-1) hL (digB_digit u) (by omega) (by omega),digB_fold]
theorem numL_none {L:List Mk} {i:Nat} {rest:List Mk} (hr: ∀m l,rest=m::l→m.p=true∨m.b<48∨57<m.b) (hL:L.drop i=rest):numL L i=(-1,i):=by
 rw[numL,numberL_digits hr [] _ i (-1) (by simpa using hL) (by simp) (by simp) (by omega)]
 rfl
def itoB (m:Int):List Nat:=if m<0 then 45::digB m.natAbs else digB m.toNat
theorem seesL_map: ∀(l s:List Nat),seesL (l.map mk) s=s.isPrefixOf l
 |_,[]=>by cases ‹List Nat› <;>rfl
 |[],_::_=>rfl
 |x::l,c::s=>by
  rw[List.map_cons,seesL,seesL_map l s,List.isPrefixOf]
  show(!false&&x==c&&s.isPrefixOf l)=(c==x&&s.isPrefixOf l)
  rw[Bool.not_false,Bool.true_and,Bool.beq_comm (a:=c)]
theorem seesAt_map (l s:List Nat) (i:Nat):seesAt (l.map mk) i s=s.isPrefixOf (l.drop i):=by
 rw[seesAt,←List.map_drop,seesL_map]
theorem markAt_map (l:List Nat) (i:Nat):markAt (l.map mk) i=mk (l.getD i 0):=by
 rw[markAt,List.getD_eq_getElem?_getD,List.getElem?_map,List.getD_eq_getElem?_getD]
 cases l[i]?<;>rfl
theorem count_row (ere:Bool) (l:List Nat) (grp:Rst→Out (List Nd)) (k:Nat):
  rowL ere true ((97::(signB ere 123++l)).map mk) grp (k+1) [] 0 true ⟨0,[]⟩=match intervalL ere ((97::(signB ere 123++l)).map mk) ⟨1,[]⟩with
   | .no e i=> .no e i
   | .ok (lo,hi) t=>rowL ere true ((97::(signB ere 123++l)).map mk) grp k [repN lo hi,oneN 97] 1 false t:=by
 have h0:seesAt ((97::(signB ere 123++l)).map mk) 0 [124]=false:=by rw[seesAt_map];rfl
 have h1:seesAt ((97::(signB ere 123++l)).map mk) 0 (signB ere 41)=false:=by rw[seesAt_map];cases ere<;>rfl
 have h2:repeatsL ere ((97::(signB ere 123++l)).map mk) 0=false:=by simp only[repeatsL,seesAt_map];cases ere<;>rfl
 have h3:atomL ere true ((97::(signB ere 123++l)).map mk) grp ⟨0,[]⟩= .ok ([oneN 97],true) ⟨1,[]⟩:=by simp only[atomL,markAt_map];cases ere<;>rfl
 have h4:repeatsL ere ((97::(signB ere 123++l)).map mk) 1=true:=by simp only[repeatsL,seesAt_map];cases ere<;>rfl
 have h5:dupL ere ((97::(signB ere 123++l)).map mk) ⟨1,[]⟩=match intervalL ere ((97::(signB ere 123++l)).map mk) ⟨1,[]⟩with
   | .no e i=> .no e i
   | .ok (lo,hi) t=> .ok (repN lo hi) t:=by
  rw[dupL,if_neg (by rw[seesAt_map];cases ere<;>exact Bool.false_ne_true),if_neg (by rw[seesAt_map];cases ere<;>exact Bool.false_ne_true),if_neg (by rw[seesAt_map];cases ere<;>exact Bool.false_ne_true)]
  cases intervalL ere ((97::(signB ere 123++l)).map mk) ⟨1,[]⟩<;>rfl
 rw[rowL,if_neg (by simp),h0,Bool.and_false,if_neg (by decide),h1,if_neg (by decide),h2,Bool.false_and,if_neg (by decide),show((0:Nat)==0)=true from rfl,h3]
 dsimp only
 rw[h4,Bool.and_self,if_pos rfl,h5]
 cases intervalL ere ((97::(signB ere 123++l)).map mk) ⟨1,[]⟩<;>rfl
theorem count_parse (ere:Bool) (l:List Nat) (hl:l.length≤100):
  (∀e i,intervalL ere ((97::(signB ere 123++l)).map mk) ⟨1,[]⟩= .no e i→parseL ere ((97::(signB ere 123++l)).map mk)= .error (e,i))∧
  (∀lo hi t,intervalL ere ((97::(signB ere 123++l)).map mk) ⟨1,[]⟩= .ok (lo,hi) t→t.i=((97::(signB ere 123++l)).map mk).length→hi≤255→lo≤255→parseL ere ((97::(signB ere 123++l)).map mk)= .ok [repN lo hi,oneN 97]):=by
 have hr:=count_row ere l (groupL ere ((97::(signB ere 123++l)).map mk) 64) ((97::(signB ere 123++l)).map mk).length
 have hlen:((97::(signB ere 123++l)).map mk).length≤103:=by rw[List.length_map,List.length_cons,List.length_append];cases ere<;>simp[signB]<;>omega
 have hpos:0<((97::(signB ere 123++l)).map mk).length:=by simp
 generalize (97::(signB ere 123++l)).map mk=L at hr hlen hpos ⊢
 have hs:sidesK ere L 64 ⟨0,[]⟩=sidesL ere L (rowS ere true L (groupL ere L 64)) (L.length+1) [] 0 ⟨0,[]⟩:=rfl
 refine⟨fun e i hi=>?_,fun lo hi t hi1 ht h1 h2=>?_⟩
 ·rw[parseL,if_neg (by omega),if_neg (by omega),hs,sidesL,rowS,hr,hi]
 ·have hlast:rowL ere true L (groupL ere L 64) L.length [repN lo hi,oneN 97] 1 false t= .ok (1,[repN lo hi,oneN 97]) t:=by
   obtain⟨k,hk⟩: ∃k,L.length=k+1:=⟨L.length - 1,by omega⟩
   rw[hk,rowL,if_pos (by omega)]
  have h124:seesAt L t.i [124]=false:=by rw[seesAt,ht,List.drop_length];rfl
  have hw:weighN [repN lo hi,oneN 97] 260 0=some (min (timesN (repN lo hi)*1+1) 16385,2):=rfl
  rw[parseL,if_neg (by omega),if_neg (by omega),hs,sidesL,rowS,hr,hi1]
  dsimp only
  rw[hlast]
  dsimp only
  rw[h124,Bool.and_false]
  simp only[Bool.not_false,if_true,List.nil_append]
  rw[if_neg (by decide),if_neg (by decide)]
  dsimp only
  rw[hw]
  dsimp only
  rw[if_neg]
  show¬16384<min (timesN (repN lo hi)*1+1) 16385
  have:timesN (repN lo hi)≤256:=by
   simp only[timesN,repN]
   repeat' split
   all_goals omega
  omega
def countB (ere:Bool) (body:List Nat):List Nat:=97::(signB ere 123++(body++signB ere 125))
theorem count_drop (ere:Bool) (body l:List Nat) (k:Nat) (h:(body++signB ere 125).drop k=l):((countB ere body).map mk).drop (1+wideB ere+k)=l.map mk:=by
 rw[←List.map_drop]
 congr 1
 rw[countB,←h]
 cases ere
 ·show(97::92::123::(body++signB false 125)).drop (1+2+k)=_
  rw[show 1+2+k=k+3 by omega]
  rfl
 ·show(97::123::(body++signB true 125)).drop (1+1+k)=_
  rw[show 1+1+k=k+2 by omega]
  rfl
theorem sign_head (ere:Bool): ∀m l,(signB ere 125).map mk=m::l→m.p=true∨m.b<48∨57<m.b:=by
 intro m l h
 cases ere
 ·simp only[signB,Bool.false_eq_true,if_false,List.map_cons,List.cons.injEq]at h
  rw[←h.1];right;right;show 57<92;decide
 ·simp only[signB,if_true,List.map_cons,List.cons.injEq]at h
  rw[←h.1];right;right;show 57<125;decide
theorem head_lt {x:Nat} {r:List Nat} (hx:x<48): ∀m l,(x::r).map mk=m::l→m.p=true∨m.b<48∨57<m.b:=by
 intro m l h
 simp only[List.map_cons,List.cons.injEq]at h
 rw[←h.1];right;left;exact hx
theorem interval_neg (ere:Bool) (r:List Nat):intervalL ere ((countB ere (45::r)).map mk) ⟨1,[]⟩= .no 43 1:=by
 have h:=count_drop ere (45::r) (45::(r++signB ere 125)) 0 rfl
 have h1:numL ((countB ere (45::r)).map mk) (1+wideB ere)=(-1,1+wideB ere):=numL_none (head_lt (by decide)) h
 rw[intervalL]
 simp only
 rw[h1]
 rfl
theorem interval_dig (ere:Bool) (m:Nat) (r:List Nat) (hr: ∀x l,(r++signB ere 125).map mk=x::l→x.p=true∨x.b<48∨57<x.b):
  numL ((countB ere (digB m++r)).map mk) (1+wideB ere)=(min (m:Int) 256,1+wideB ere+(digB m).length):=by
 have h:=count_drop ere (digB m++r) (digB m++(r++signB ere 125)) 0 (by rw[List.append_assoc];rfl)
 rw[List.map_append]at h
 exact numL_digits hr h
theorem signB_len (ere:Bool) (c:Nat):(signB ere c).length=wideB ere:=by cases ere<;>rfl
theorem countB_len (ere:Bool) (body:List Nat):((countB ere body).map mk).length=1+wideB ere+body.length+wideB ere:=by
 rw[List.length_map,countB,List.length_cons,List.length_append,List.length_append,signB_len,signB_len];omega
theorem self_prefix: ∀(l:List Nat),l.isPrefixOf l=true
 |[]=>rfl
 |x::l=>by rw[List.isPrefixOf,self_prefix l,beq_self_eq_true,Bool.and_self]
theorem interval_one (ere:Bool) (m:Nat):intervalL ere ((countB ere (digB m)).map mk) ⟨1,[]⟩=if m≤255 then .ok ((m:Int),(m:Int)) ⟨((countB ere (digB m)).map mk).length,[]⟩else .no 43 1:=by
 have h1:=interval_dig ere m [] (sign_head ere)
 rw[List.append_nil]at h1
 have h2:=count_drop ere (digB m) (signB ere 125) (digB m).length (by rw[List.drop_left])
 have s1:seesAt ((countB ere (digB m)).map mk) (1+wideB ere+(digB m).length) [44]=false:=by rw[seesAt,h2,seesL_map];cases ere<;>rfl
 have s2:seesAt ((countB ere (digB m)).map mk) (1+wideB ere+(digB m).length) (signB ere 125)=true:=by rw[seesAt,h2,seesL_map];exact self_prefix _
 rw[intervalL]
 simp only
 rw[h1]
 simp only
 rw[s1,if_neg Bool.false_ne_true]
 simp only
 rw[s2,countB_len]
 by_cases hm:m≤255
 ·rw[if_pos hm,show min (m:Int) 256=m by omega,decide_eq_false (show¬(m:Int)<0 by omega),decide_eq_false (show¬255<(m:Int)by omega),decide_eq_false (show¬(m:Int)<(m:Int)by omega),Bool.and_false]
  rfl
 ·rw[if_neg hm,show min (m:Int) 256=256 by omega]
  rfl
theorem count_drop2 (ere:Bool) (m:Nat) (r l:List Nat) (k:Nat) (h:(r++signB ere 125).drop k=l):((countB ere (digB m++r)).map mk).drop (1+wideB ere+(digB m).length+k)=l.map mk:=by
 rw[Nat.add_assoc]
 refine count_drop ere (digB m++r) l ((digB m).length+k) ?_
 rw[List.append_assoc,List.drop_append,List.drop_of_length_le (by omega),List.nil_append,←h]
 congr 1
 omega
theorem interval_more (ere:Bool) (m:Nat):intervalL ere ((countB ere (digB m++[44])).map mk) ⟨1,[]⟩=if m≤255 then .ok ((m:Int),-1) ⟨((countB ere (digB m++[44])).map mk).length,[]⟩else .no 43 1:=by
 have h1:=interval_dig ere m [44] (head_lt (by decide))
 have h2:=count_drop2 ere m [44] (44::signB ere 125) 0 rfl
 have h3:=count_drop2 ere m [44] (signB ere 125) 1 rfl
 have s1:seesAt ((countB ere (digB m++[44])).map mk) (1+wideB ere+(digB m).length) [44]=true:=by rw[seesAt,←Nat.add_zero (_+(digB m).length),h2,seesL_map];rfl
 have s2:seesAt ((countB ere (digB m++[44])).map mk) (1+wideB ere+(digB m).length+1) (signB ere 125)=true:=by rw[seesAt,h3,seesL_map];exact self_prefix _
 have h4:=numL_none (sign_head ere) h3
 rw[intervalL]
 simp only
 rw[h1]
 simp only
 rw[s1,if_pos rfl,h4]
 simp only
 rw[s2,countB_len,List.length_append]
 by_cases hm:m≤255
 ·rw[if_pos hm,show min (m:Int) 256=m by omega,decide_eq_false (show¬(m:Int)<0 by omega),decide_eq_false (show¬255<(m:Int)by omega)]
  simp[Nat.add_assoc]
 ·rw[if_neg hm,show min (m:Int) 256=256 by omega]
  rfl
theorem interval_two (ere:Bool) (m n:Nat):intervalL ere ((countB ere (digB m++(44::digB n))).map mk) ⟨1,[]⟩=if m≤255∧m≤n∧n≤255 then .ok ((m:Int),(n:Int)) ⟨((countB ere (digB m++(44::digB n))).map mk).length,[]⟩else .no 43 1:=by
 have h1:=interval_dig ere m (44::digB n) (head_lt (by decide))
 have h2:=count_drop2 ere m (44::digB n) (44::(digB n++signB ere 125)) 0 rfl
 have h3:=count_drop2 ere m (44::digB n) (digB n++signB ere 125) 1 rfl
 have h5:=count_drop2 ere m (44::digB n) (signB ere 125) (1+(digB n).length) (by rw[Nat.add_comm];show(digB n++signB ere 125).drop (digB n).length=_;rw[List.drop_left])
 rw[←Nat.add_assoc]at h5
 have s1:seesAt ((countB ere (digB m++(44::digB n))).map mk) (1+wideB ere+(digB m).length) [44]=true:=by rw[seesAt,←Nat.add_zero (_+(digB m).length),h2,seesL_map];rfl
 have s2:seesAt ((countB ere (digB m++(44::digB n))).map mk) (1+wideB ere+(digB m).length+1+(digB n).length) (signB ere 125)=true:=by rw[seesAt,h5,seesL_map];exact self_prefix _
 rw[List.map_append]at h3
 have h4:=numL_digits (sign_head ere) h3
 rw[intervalL]
 simp only
 rw[h1]
 simp only
 rw[s1,if_pos rfl,h4]
 simp only
 rw[s2,countB_len,List.length_append,List.length_cons]
 by_cases hm:m≤255∧m≤n∧n≤255
 ·rw[if_pos hm,show min (m:Int) 256=m by omega,show min (n:Int) 256=n by omega,decide_eq_false (show¬(m:Int)<0 by omega),decide_eq_false (show¬255<(m:Int)by omega),decide_eq_false (show¬255<(n:Int)by omega),decide_eq_false (show¬(n:Int)<(m:Int)by omega),Bool.and_false]
  simp[Nat.add_assoc,Nat.add_comm,Nat.add_left_comm]
 ·rw[if_neg hm,if_pos]
  by_cases hm2:255<m
  ·rw[show min (m:Int) 256=256 by omega];rfl
  ·by_cases hn2:255<n
   ·rw[show min (n:Int) 256=256 by omega];simp
   ·rw[show min (m:Int) 256=m by omega,show min (n:Int) 256=n by omega,decide_eq_true (show 0≤(n:Int)by omega),decide_eq_true (show(n:Int)<(m:Int)by omega)]
    simp
theorem interval_twoNeg (ere:Bool) (m:Nat) (r:List Nat):intervalL ere ((countB ere (digB m++(44::45::r))).map mk) ⟨1,[]⟩= .no 43 1:=by
 have h1:=interval_dig ere m (44::45::r) (head_lt (by decide))
 have h2:=count_drop2 ere m (44::45::r) (44::(45::r++signB ere 125)) 0 rfl
 have h3:=count_drop2 ere m (44::45::r) (45::r++signB ere 125) 1 rfl
 have s1:seesAt ((countB ere (digB m++(44::45::r))).map mk) (1+wideB ere+(digB m).length) [44]=true:=by rw[seesAt,←Nat.add_zero (_+(digB m).length),h2,seesL_map];rfl
 have s2:seesAt ((countB ere (digB m++(44::45::r))).map mk) (1+wideB ere+(digB m).length+1) (signB ere 125)=false:=by rw[seesAt,h3,seesL_map];cases ere<;>rfl
 have h4:=numL_none (head_lt (by decide)) h3
 rw[intervalL]
 simp only
 rw[h1]
 simp only
 rw[s1,if_pos rfl,h4]
 simp only
 rw[s2,if_pos (by simp)]
def countBody (m n way:Int):List Nat:=itoB m++(if way=1 then [44]else if way=2 then 44::itoB n else [])
def countHi (m n way:Int):Int:=if way=1 then -1 else if way=2 then n else m
def countGood (m n way:Int):Bool:=decide (0≤m)&&decide (m≤255)&&(decide (way=1)||decide (m≤countHi m n way)&&decide (countHi m n way≤255))
theorem itoB_len {m:Int} (h1: -9223372036854775808≤m) (h2:m≤9223372036854775807):(itoB m).length≤20:=by
 unfold itoB
 split
 ·rw[List.length_cons]
  have:=digB_len20 18 m.natAbs (by omega)
  omega
 ·have:=digB_len20 18 m.toNat (by omega)
  omega
theorem countBody_len {m n:Int} (way:Int) (h1: -9223372036854775808≤m) (h2:m≤9223372036854775807) (h3: -9223372036854775808≤n) (h4:n≤9223372036854775807):(countBody m n way).length≤41:=by
 have a:=itoB_len h1 h2
 have b:=itoB_len h3 h4
 unfold countBody
 rw[List.length_append]
 split
 ·simp;omega
 ·split
  ·simp;omega
  ·simp;omega
theorem counts_law (ere:Bool) (m n way:Int) (h1: -9223372036854775808≤m) (h2:m≤9223372036854775807) (h3: -9223372036854775808≤n) (h4:n≤9223372036854775807):
  parseL ere ((countB ere (countBody m n way)).map mk)=if countGood m n way then .ok [repN m (countHi m n way),oneN 97]else .error (43,1):=by
 have hlen:=countBody_len way h1 h2 h3 h4
 obtain⟨p1,p2⟩:=count_parse ere (countBody m n way++signB ere 125) (by rw[List.length_append,signB_len];cases ere<;>simp[wideB]<;>omega)
 rw[show(97::(signB ere 123++(countBody m n way++signB ere 125)))=countB ere (countBody m n way)from rfl]at p1 p2
 by_cases hm:m<0
 ·have hg:countGood m n way=false:=by unfold countGood;rw[decide_eq_false (show¬0≤m by omega)];rfl
  rw[hg,if_neg Bool.false_ne_true]
  refine p1 43 1 ?_
  unfold countBody itoB
  rw[if_pos hm]
  exact interval_neg ere _
 obtain⟨m,rfl⟩: ∃k:Nat,m=k:=⟨m.toNat,by omega⟩
 have hi:itoB m=digB m:=by unfold itoB;rw[if_neg hm];rfl
 by_cases hw1:way=1
 ·subst hw1
  have hb:countBody m n 1=digB m++[44]:=by unfold countBody;rw[hi,if_pos rfl]
  have hh:countHi m n 1= -1:=rfl
  rw[hb]at p1 p2 ⊢
  have hI:=interval_more ere m
  by_cases h:m≤255
  ·rw[if_pos h]at hI
   have hg:countGood m n 1=true:=by unfold countGood;rw[decide_eq_true (show 0≤(m:Int)by omega),decide_eq_true (show(m:Int)≤255 by omega)];rfl
   rw[hg,if_pos rfl,hh]
   exact p2 _ _ _ hI rfl (by omega) (by omega)
  ·rw[if_neg h]at hI
   have hg:countGood m n 1=false:=by unfold countGood;rw[decide_eq_false (show¬(m:Int)≤255 by omega),Bool.and_false];rfl
   rw[hg,if_neg Bool.false_ne_true]
   exact p1 _ _ hI
 by_cases hw2:way=2
 ·subst hw2
  have hh:countHi m n 2=n:=rfl
  by_cases hn:n<0
  ·have hb:countBody m n 2=digB m++(44::45::digB n.natAbs):=by unfold countBody;rw[hi,if_neg (by decide),if_pos rfl];unfold itoB;rw[if_pos hn]
   have hg:countGood m n 2=false:=by unfold countGood;rw[hh,decide_eq_false (show¬(m:Int)≤n by omega),Bool.false_and,decide_eq_false (show¬(2:Int)=1 by decide),Bool.false_or,Bool.and_false]
   rw[hb]at p1 p2 ⊢
   rw[hg,if_neg Bool.false_ne_true]
   exact p1 _ _ (interval_twoNeg ere m _)
  obtain⟨n,rfl⟩: ∃k:Nat,n=k:=⟨n.toNat,by omega⟩
  have hin:itoB n=digB n:=by unfold itoB;rw[if_neg hn];rfl
  have hb:countBody m n 2=digB m++(44::digB n):=by unfold countBody;rw[hi,hin,if_neg (by decide),if_pos rfl]
  rw[hb]at p1 p2 ⊢
  have hI:=interval_two ere m n
  by_cases h:m≤255∧m≤n∧n≤255
  ·rw[if_pos h]at hI
   have hg:countGood m n 2=true:=by unfold countGood;rw[hh,decide_eq_true (show 0≤(m:Int)by omega),decide_eq_true (show(m:Int)≤255 by omega),decide_eq_true (show(m:Int)≤(n:Int)by omega),decide_eq_true (show(n:Int)≤255 by omega)];rfl
   rw[hg,if_pos rfl,hh]
   exact p2 _ _ _ hI rfl (by omega) (by omega)
  ·rw[if_neg h]at hI
   have hg:countGood m n 2=false:=by
    cases hgg:countGood m n 2 with
    |false=>rfl
    |true=>
     unfold countGood at hgg
     rw[hh]at hgg
     simp at hgg
     omega
   rw[hg,if_neg Bool.false_ne_true]
   exact p1 _ _ hI
 ·have hb:countBody m n way=digB m:=by unfold countBody;rw[hi,if_neg hw1,if_neg hw2,List.append_nil]
  have hh:countHi m n way=m:=by unfold countHi;rw[if_neg hw1,if_neg hw2]
  rw[hb]at p1 p2 ⊢
  have hI:=interval_one ere m
  by_cases h:m≤255
  ·rw[if_pos h]at hI
   have hg:countGood m n way=true:=by unfold countGood;rw[hh,decide_eq_true (show 0≤(m:Int)by omega),decide_eq_true (show(m:Int)≤255 by omega),decide_eq_true (show(m:Int)≤(m:Int)by omega),Bool.and_self,Bool.or_true,Bool.and_self]
   rw[hg,if_pos rfl,hh]
   exact p2 _ _ _ hI rfl (by omega) (by omega)
  ·rw[if_neg h]at hI
   have hg:countGood m n way=false:=by unfold countGood;rw[decide_eq_false (show¬(m:Int)≤255 by omega),Bool.and_false];rfl
   rw[hg,if_neg Bool.false_ne_true]
   exact p1 _ _ hI
end Go.Proofs.YtfjbnpdffillbaaGreatDoor
namespace Go.Proofs.YtfjbnpdffillbaaGreatDoor
def spB (ere:Bool):List Nat:=[46,91,42,94,36,92]++(if ere then [40,41,43,63,123,124]else [])
def byteB (ere:Bool) (b:Nat):List Nat:=if b=10 then [92,110]else if (spB ere).contains b then [92,b]else [b]
def setB (ere:Bool) (c:Cls):List Nat:=if c.els.length=256 then [46]else match c.els with
 |[b]=>byteB ere b
 |_=>brackB c
def dupB (ere:Bool) (n:Nd):List Nat:=
 if n.min=0∧n.max<0 then [42]
 else if ere=true∧n.min=1∧n.max<0 then [43]
 else if ere=true∧n.min=0∧n.max=1 then [63]
 else signB ere 123++(itoB n.min++((if n.max=n.min then []else 44::(if 0≤n.max then itoB n.max else []))++signB ere 125))
def atomP (ere:Bool) (re:List Nd) (wh:Nat→Option (List Nat × Nat)) (i:Nat):Option (List Nat × Nat):=
 match re[i]? with
 |none=>none
 |some n=>
  if n.op=1 then some (setB ere n.set,i+1)
  else if n.op=7 then
   match re[i+1]? with
   |none=>none
   |some k=>
    if k.op=4∧k.kids=0 then some (signB ere 40++signB ere 41,i+2)
    else match wh (i+1)with
     |none=>none
     |some (s,j)=>some (signB ere 40++(s++signB ere 41),j)
  else if n.op=8 then if ere=true∨9<n.n then none else some (92::itoB n.n,i+1)
  else none
def partP (ere:Bool) (re:List Nd) (wh:Nat→Option (List Nat × Nat)) (first last:Bool) (i:Nat):Option (List Nat × Nat):=
 match re[i]? with
 |none=>none
 |some n=>
  if n.op=2 then if ere||first then some ([94],i+1)else none
  else if n.op=3 then if ere||last then some ([36],i+1)else none
  else if n.op=6 then
   match atomP ere re wh (i+1)with
   |none=>none
   |some (s,j)=>some (s++dupB ere n,j)
  else atomP ere re wh i
def partsP (ere:Bool) (re:List Nd) (wh:Nat→Option (List Nat × Nat)):Nat→Bool→Nat→Option (List Nat × Nat)
 |0,_,i=>some ([],i)
 |k+1,first,i=>
  match partP ere re wh first (k==0) i with
  |none=>none
  |some (s,j)=>
   match partsP ere re wh k false j with
   |none=>none
   |some (t,e)=>some (s++t,e)
def rowP (ere:Bool) (re:List Nd) (wh:Nat→Option (List Nat × Nat)) (i:Nat):Option (List Nat × Nat):=
 match re[i]? with
 |none=>none
 |some n=>if n.op≠4 then partP ere re wh true true i else if n.kids≤0 then none else partsP ere re wh n.kids.toNat true (i+1)
def rowsP (ere:Bool) (re:List Nd) (wh:Nat→Option (List Nat × Nat)):Nat→Bool→Nat→Option (List Nat × Nat)
 |0,_,i=>some ([],i)
 |k+1,first,i=>
  match rowP ere re wh i with
  |none=>none
  |some (s,j)=>
   match rowsP ere re wh k false j with
   |none=>none
   |some (t,e)=>some ((if first then []else [124])++(s++t),e)
def wholeP (ere:Bool) (re:List Nd):Nat→Nat→Option (List Nat × Nat)
 |0,_=>none
 |f+1,i=>
  match re[i]? with
  |none=>none
  |some n=>if n.op≠5 then rowP ere re (wholeP ere re f) i else if ere then rowsP ere re (wholeP ere re f) n.kids.toNat true (i+1)else none
def spellN (ere:Bool) (re:List Nd):Option (List Nat):=
 match wholeP ere re 66 0 with
 |none=>none
 |some (s,_)=>if s.length≤4096 then some s else none
def textT (d:Nat):Bool→List Mk→Option (List Nat)
 |taken,[]=>if taken then none else some []
 |true,m::l=>if m.p||m.b==d then none else(textT d false l).map fun s=>m.b::s
 |false,m::l=>
  if m.p then(if m.b=d then(textT d false l).map fun s=>92::d::s else none)
  else if m.b=d∨m.b=10 then none
  else(textT d (m.b==92) l).map fun s=>m.b::s
def textL (d:Nat) (l:List Mk):Option (List Nat):=if d=92∨d=10 then none else textT d false l
theorem textT_length (d:Nat): ∀(l:List Mk) (t:Bool) (s:List Nat),textT d t l=some s→s.length≤2*l.length
 |[],t,s,h=>by
  unfold textT at h
  split at h<;>simp at h
  subst h;simp
 |m::l,true,s,h=>by
  unfold textT at h
  split at h
  ·cases h
  ·obtain⟨s',h',rfl⟩:=Option.map_eq_some_iff.1 h
   have:=textT_length d l _ _ h'
   simp only[List.length_cons];omega
 |m::l,false,s,h=>by
  unfold textT at h
  split at h
  ·split at h
   ·obtain⟨s',h',rfl⟩:=Option.map_eq_some_iff.1 h
    have:=textT_length d l _ _ h'
    simp only[List.length_cons];omega
   ·cases h
  ·split at h
   ·cases h
   ·obtain⟨s',h',rfl⟩:=Option.map_eq_some_iff.1 h
    have:=textT_length d l _ _ h'
    simp only[List.length_cons];omega
end Go.Proofs.YtfjbnpdffillbaaGreatDoor
namespace Go.Proofs.YtfjbnpdffillbaaGreatDoor
def rightA (a:Ad):Bool:=
 if a.kind=0∨a.kind=2 then a.n==0&&a.re.isEmpty
 else if a.kind=1 then decide (1≤a.n∧a.n≤2147483647)&&a.re.isEmpty
 else if a.kind=3 then a.n==0&&(a.re.isEmpty||shapedN a.re)
 else false
def slashed (s:List Nat):List Mk:=s.map fun b=>⟨b,b==47⟩
def betweenA (ere:Bool) (re:List Nd):Except Nat (List Nat):=
 if re=[]then .ok [47,47]
 else match spellN ere re with
  |none=> .error 50
  |some s=>match textL 47 (slashed s)with
   |none=> .error 50
   |some t=> .ok (47::t++[47])
def printA (ere:Bool) (a:Ad):Except Nat (List Nat):=
 if rightA a=false then .error 71
 else if a.kind=0 then .ok []
 else if a.kind=1 then .ok (itoB a.n)
 else if a.kind=2 then .ok [36]
 else betweenA ere a.re
def wT:List Nat:=[49,50,44,47,97,47,112]
theorem wT_one:addrL false wT 0=(⟨1,12,[]⟩,0,2):=by kernel_rfl
theorem wT_two:addrL false wT 3=(⟨3,0,[oneN 97]⟩,0,6):=by kernel_rfl
theorem wT_text:printA true ⟨3,0,[oneN 97]⟩= .ok [47,97,47]:=by kernel_rfl
theorem wT_right:rightA ⟨3,0,[oneN 97]⟩=true:=by kernel_rfl
end Go.Proofs.YtfjbnpdffillbaaGreatDoor
namespace Go.Proofs.YtfjbnpdffillbaaGreatDoor
open Go.RowKit
section
variable {w:World} {oa:Option Addr} {cap:Nat} {re:List Nd}
theorem emp_len (h: ¬re.length=0):re.isEmpty=false:=by cases re<;>simp_all
set_option maxRecDepth 100000 in
set_option maxHeartbeats 1600000 in
theorem right_0_n {n:Int} (hn: ¬n=0) (_:NdV w oa re):
  Calls Tryz.prog 79 #[.agg #[.int .i8 0,.int .i64 n,.slice oa re.length cap]] w fun e w'=>e= .returned (.bool false)∧Below w.heap.size w w':=by
 have hb0:=(Below.refl w.heap.size w).alloc (Nat.le_refl _) (.cells #[.int .i8 0,.int .i64 n,.slice oa re.length cap] 54)
 have HB:=Lib.hid hb0
 clear hb0
 have qn:(n==0)=false:=beq_eq_false_iff_ne.2 hn
 go_enter Tryz.func79,Tryz.ntmps79
 go_wp2_with fail
 go_ret
 exact⟨rfl,HB.out⟩
set_option maxRecDepth 100000 in
set_option maxHeartbeats 1600000 in
theorem right_0_nil (_:NdV w oa ([]:List Nd)):
  Calls Tryz.prog 79 #[.agg #[.int .i8 0,.int .i64 0,.slice oa ([]:List Nd).length cap]] w fun e w'=>e= .returned (.bool true)∧Below w.heap.size w w':=by
 have hb0:=(Below.refl w.heap.size w).alloc (Nat.le_refl _) (.cells #[.int .i8 0,.int .i64 0,.slice oa ([]:List Nd).length cap] 54)
 have HB:=Lib.hid hb0
 clear hb0
 go_enter Tryz.func79,Tryz.ntmps79
 go_wp2_with fail
 go_ret
 exact⟨rfl,HB.out⟩
set_option maxRecDepth 100000 in
set_option maxHeartbeats 1600000 in
theorem right_0_len (hl: ¬re.length=0) (_:NdV w oa re):
  Calls Tryz.prog 79 #[.agg #[.int .i8 0,.int .i64 0,.slice oa re.length cap]] w fun e w'=>e= .returned (.bool false)∧Below w.heap.size w w':=by
 have hb0:=(Below.refl w.heap.size w).alloc (Nat.le_refl _) (.cells #[.int .i8 0,.int .i64 0,.slice oa re.length cap] 54)
 have HB:=Lib.hid hb0
 clear hb0
 have ql:((re.length:Int)==0)=false:=beq_eq_false_iff_ne.2 (by omega)
 go_enter Tryz.func79,Tryz.ntmps79
 go_wp2_with fail
 go_ret
 exact⟨rfl,HB.out⟩
set_option maxRecDepth 100000 in
set_option maxHeartbeats 1600000 in
theorem right_2_n {n:Int} (hn: ¬n=0) (_:NdV w oa re):
  Calls Tryz.prog 79 #[.agg #[.int .i8 2,.int .i64 n,.slice oa re.length cap]] w fun e w'=>e= .returned (.bool false)∧Below w.heap.size w w':=by
 have hb0:=(Below.refl w.heap.size w).alloc (Nat.le_refl _) (.cells #[.int .i8 2,.int .i64 n,.slice oa re.length cap] 54)
 have HB:=Lib.hid hb0
 clear hb0
 have qn:(n==0)=false:=beq_eq_false_iff_ne.2 hn
 go_enter Tryz.func79,Tryz.ntmps79
 go_wp2_with fail
 go_ret
 exact⟨rfl,HB.out⟩
set_option maxRecDepth 100000 in
set_option maxHeartbeats 1600000 in
theorem right_2_nil (_:NdV w oa ([]:List Nd)):
  Calls Tryz.prog 79 #[.agg #[.int .i8 2,.int .i64 0,.slice oa ([]:List Nd).length cap]] w fun e w'=>e= .returned (.bool true)∧Below w.heap.size w w':=by
 have hb0:=(Below.refl w.heap.size w).alloc (Nat.le_refl _) (.cells #[.int .i8 2,.int .i64 0,.slice oa ([]:List Nd).length cap] 54)
 have HB:=Lib.hid hb0
 clear hb0
 go_enter Tryz.func79,Tryz.ntmps79
 go_wp2_with fail
 go_ret
 exact⟨rfl,HB.out⟩
set_option maxRecDepth 100000 in
set_option maxHeartbeats 1600000 in
theorem right_2_len (hl: ¬re.length=0) (_:NdV w oa re):
  Calls Tryz.prog 79 #[.agg #[.int .i8 2,.int .i64 0,.slice oa re.length cap]] w fun e w'=>e= .returned (.bool false)∧Below w.heap.size w w':=by
 have hb0:=(Below.refl w.heap.size w).alloc (Nat.le_refl _) (.cells #[.int .i8 2,.int .i64 0,.slice oa re.length cap] 54)
 have HB:=Lib.hid hb0
 clear hb0
 have ql:((re.length:Int)==0)=false:=beq_eq_false_iff_ne.2 (by omega)
 go_enter Tryz.func79,Tryz.ntmps79
 go_wp2_with fail
 go_ret
 exact⟨rfl,HB.out⟩
set_option maxRecDepth 100000 in
set_option maxHeartbeats 1600000 in
theorem right_1_lo {n:Int} (hn: ¬1≤n) (_:NdV w oa re):
  Calls Tryz.prog 79 #[.agg #[.int .i8 1,.int .i64 n,.slice oa re.length cap]] w fun e w'=>e= .returned (.bool false)∧Below w.heap.size w w':=by
 have hb0:=(Below.refl w.heap.size w).alloc (Nat.le_refl _) (.cells #[.int .i8 1,.int .i64 n,.slice oa re.length cap] 54)
 have HB:=Lib.hid hb0
 clear hb0
 go_enter Tryz.func79,Tryz.ntmps79
 go_wp2_with fail
 go_ret
 exact⟨rfl,HB.out⟩
set_option maxRecDepth 100000 in
set_option maxHeartbeats 1600000 in
theorem right_1_hi {n:Int} (hn:1≤n) (hm: ¬n≤2147483647) (_:NdV w oa re):
  Calls Tryz.prog 79 #[.agg #[.int .i8 1,.int .i64 n,.slice oa re.length cap]] w fun e w'=>e= .returned (.bool false)∧Below w.heap.size w w':=by
 have hb0:=(Below.refl w.heap.size w).alloc (Nat.le_refl _) (.cells #[.int .i8 1,.int .i64 n,.slice oa re.length cap] 54)
 have HB:=Lib.hid hb0
 clear hb0
 go_enter Tryz.func79,Tryz.ntmps79
 go_wp2_with fail
 go_ret
 exact⟨rfl,HB.out⟩
set_option maxRecDepth 100000 in
set_option maxHeartbeats 1600000 in
theorem right_1_nil {n:Int} (hn:1≤n) (hm:n≤2147483647) (_:NdV w oa ([]:List Nd)):
  Calls Tryz.prog 79 #[.agg #[.int .i8 1,.int .i64 n,.slice oa ([]:List Nd).length cap]] w fun e w'=>e= .returned (.bool true)∧Below w.heap.size w w':=by
 have hb0:=(Below.refl w.heap.size w).alloc (Nat.le_refl _) (.cells #[.int .i8 1,.int .i64 n,.slice oa ([]:List Nd).length cap] 54)
 have HB:=Lib.hid hb0
 clear hb0
 go_enter Tryz.func79,Tryz.ntmps79
 go_wp2_with fail
 go_ret
 exact⟨rfl,HB.out⟩
set_option maxRecDepth 100000 in
set_option maxHeartbeats 1600000 in
theorem right_1_len {n:Int} (hn:1≤n) (hm:n≤2147483647) (hl: ¬re.length=0) (_:NdV w oa re):
  Calls Tryz.prog 79 #[.agg #[.int .i8 1,.int .i64 n,.slice oa re.length cap]] w fun e w'=>e= .returned (.bool false)∧Below w.heap.size w w':=by
 have hb0:=(Below.refl w.heap.size w).alloc (Nat.le_refl _) (.cells #[.int .i8 1,.int .i64 n,.slice oa re.length cap] 54)
 have HB:=Lib.hid hb0
 clear hb0
 have ql:((re.length:Int)==0)=false:=beq_eq_false_iff_ne.2 (by omega)
 go_enter Tryz.func79,Tryz.ntmps79
 go_wp2_with fail
 go_ret
 exact⟨rfl,HB.out⟩
set_option maxRecDepth 100000 in
set_option maxHeartbeats 1600000 in
theorem right_3_n {n:Int} (hn: ¬n=0) (_:NdV w oa re):
  Calls Tryz.prog 79 #[.agg #[.int .i8 3,.int .i64 n,.slice oa re.length cap]] w fun e w'=>e= .returned (.bool false)∧Below w.heap.size w w':=by
 have hb0:=(Below.refl w.heap.size w).alloc (Nat.le_refl _) (.cells #[.int .i8 3,.int .i64 n,.slice oa re.length cap] 54)
 have HB:=Lib.hid hb0
 clear hb0
 have qn:(n==0)=false:=beq_eq_false_iff_ne.2 hn
 go_enter Tryz.func79,Tryz.ntmps79
 go_wp2_with fail
 go_ret
 exact⟨rfl,HB.out⟩
set_option maxRecDepth 100000 in
set_option maxHeartbeats 1600000 in
theorem right_3_nil (_:NdV w oa ([]:List Nd)):
  Calls Tryz.prog 79 #[.agg #[.int .i8 3,.int .i64 0,.slice oa ([]:List Nd).length cap]] w fun e w'=>e= .returned (.bool true)∧Below w.heap.size w w':=by
 have hb0:=(Below.refl w.heap.size w).alloc (Nat.le_refl _) (.cells #[.int .i8 3,.int .i64 0,.slice oa ([]:List Nd).length cap] 54)
 have HB:=Lib.hid hb0
 clear hb0
 go_enter Tryz.func79,Tryz.ntmps79
 go_wp2_with fail
 go_ret
 exact⟨rfl,HB.out⟩
set_option maxRecDepth 100000 in
set_option maxHeartbeats 1600000 in
theorem right_3_len (hl: ¬re.length=0) (h:NdV w oa re):
  Calls Tryz.prog 79 #[.agg #[.int .i8 3,.int .i64 0,.slice oa re.length cap]] w fun e w'=>e= .returned (.bool (shapedN re))∧Below w.heap.size w w':=by
 have hb0:=(Below.refl w.heap.size w).alloc (Nat.le_refl _) (.cells #[.int .i8 3,.int .i64 0,.slice oa re.length cap] 54)
 have HS:=Lib.hid (shaped_call (cap:=cap) (h.below hb0))
 have HB:=Lib.hid hb0
 clear hb0 h
 have ql:((re.length:Int)==0)=false:=beq_eq_false_iff_ne.2 (by omega)
 go_enter Tryz.func79,Tryz.ntmps79
 go_wp2_with fail
 refine HS.out.mono ?_;rintro e w1 ⟨rfl,hb1⟩
 have HB1:=Lib.hid (HB.out.trans (hb1.mono (by simp)))
 clear hb1
 go_wp2_with fail
 go_ret
 exact⟨rfl,HB1.out⟩
set_option maxRecDepth 100000 in
set_option maxHeartbeats 1600000 in
theorem right_other {k n:Int} (h0: ¬k=0) (h1: ¬k=1) (h2: ¬k=2) (h3: ¬k=3) (_:NdV w oa re):
  Calls Tryz.prog 79 #[.agg #[.int .i8 k,.int .i64 n,.slice oa re.length cap]] w fun e w'=>e= .returned (.bool false)∧Below w.heap.size w w':=by
 have hb0:=(Below.refl w.heap.size w).alloc (Nat.le_refl _) (.cells #[.int .i8 k,.int .i64 n,.slice oa re.length cap] 54)
 have HB:=Lib.hid hb0
 clear hb0
 have q0:(k==0)=false:=beq_eq_false_iff_ne.2 h0
 have q1:(k==1)=false:=beq_eq_false_iff_ne.2 h1
 have q2:(k==2)=false:=beq_eq_false_iff_ne.2 h2
 have q3:(k==3)=false:=beq_eq_false_iff_ne.2 h3
 go_enter Tryz.func79,Tryz.ntmps79
 go_wp2_with fail
 go_ret
 exact⟨rfl,HB.out⟩
theorem right_call (k:Int) (n:Int) (h:NdV w oa re):
  Calls Tryz.prog 79 #[.agg #[.int .i8 k,.int .i64 n,.slice oa re.length cap]] w fun e w'=>e= .returned (.bool (rightA ⟨k,n,re⟩))∧Below w.heap.size w w':=by
 by_cases h3:k=3
 ·subst h3
  by_cases hn:n=0
  ·subst hn
   by_cases hl:re.length=0
   ·obtain rfl:=List.eq_nil_of_length_eq_zero hl
    exact right_3_nil h
   ·rw[show rightA ⟨3,0,re⟩=shapedN re by simp[rightA,emp_len hl]]
    exact right_3_len hl h
  ·rw[show rightA ⟨3,n,re⟩=false by simp[rightA,hn]]
   exact right_3_n hn h
 by_cases h1:k=1
 ·subst h1
  by_cases hn:1≤n
  ·by_cases hm:n≤2147483647
   ·by_cases hl:re.length=0
    ·obtain rfl:=List.eq_nil_of_length_eq_zero hl
     rw[show rightA ⟨1,n,[]⟩=true by simp[rightA,hn,hm]]
     exact right_1_nil hn hm h
    ·rw[show rightA ⟨1,n,re⟩=false by simp[rightA,emp_len hl]]
     exact right_1_len hn hm hl h
   ·rw[show rightA ⟨1,n,re⟩=false by simp[rightA,hm]]
    exact right_1_hi hn hm h
  ·rw[show rightA ⟨1,n,re⟩=false by simp[rightA,hn]]
   exact right_1_lo hn h
 by_cases h0:k=0
 ·subst h0
  by_cases hn:n=0
  ·subst hn
   by_cases hl:re.length=0
   ·obtain rfl:=List.eq_nil_of_length_eq_zero hl
    exact right_0_nil h
   ·rw[show rightA ⟨0,0,re⟩=false by simp[rightA,emp_len hl]]
    exact right_0_len hl h
  ·rw[show rightA ⟨0,n,re⟩=false by simp[rightA,hn]]
   exact right_0_n hn h
 by_cases h2:k=2
 ·subst h2
  by_cases hn:n=0
  ·subst hn
   by_cases hl:re.length=0
   ·obtain rfl:=List.eq_nil_of_length_eq_zero hl
    exact right_2_nil h
   ·rw[show rightA ⟨2,0,re⟩=false by simp[rightA,emp_len hl]]
    exact right_2_len hl h
  ·rw[show rightA ⟨2,n,re⟩=false by simp[rightA,hn]]
   exact right_2_n hn h
 rw[show rightA ⟨k,n,re⟩=false by simp[rightA,h0,h1,h2,h3]]
 exact right_other h0 h1 h2 h3 h
end
end Go.Proofs.YtfjbnpdffillbaaGreatDoor
