/- Parts: Spec Sb Rs Rt Ru Ts Tb Faw Fau. -/
namespace Go.Proofs.YtmaagpbjahjmhaaGreatDoor
section
structure Mk where
 b:Nat
 p:Bool
deriving DecidableEq
def zEv:List Mk→List Nat→Bool
 |_,[]=>true
 |[],_::_=>false
 |m::l,c::s=> !m.p&&m.b==c&&zEv l s
theorem zEE: ∀(l:List Mk) (s:List Nat),l.length<s.length→zEv l s=false
 |_,[],h=>by simp at h
 |[],_::_,_=>rfl
 |m::l,c::s,h=>by
  simp only[zEv,zEE l s (by simpa using h),Bool.and_false]
theorem zKC (L:List Mk) (bs:List Nat) (i k:Nat) (hi:i<L.length) (hk:k<bs.length):
  zEv (L.drop i) (bs.drop k)=(!(L.getD i ⟨0,false⟩).p&&(L.getD i ⟨0,false⟩).b==bs.getD k 0&&zEv (L.drop (i+1)) (bs.drop (k+1))):=by
 rw[List.drop_eq_getElem_cons hi,List.drop_eq_getElem_cons hk,zEv]
 simp[List.getD_eq_getElem?_getD,hi,hk]
structure Cls where
 w0:BitVec 64
 w1:BitVec 64
 w2:BitVec 64
 w3:BitVec 64
deriving DecidableEq
def orw (a b:BitVec 64):BitVec 64:=a ||| b
def zPY (a b:BitVec 64):BitVec 64:=a &&& b
def zPm (a:BitVec 64):BitVec 64:= ~~~a
def zP8 (n:Nat):BitVec 64:=1#64 <<< n
def Cls.zero:Cls:=⟨0#64,0#64,0#64,0#64⟩
def Cls.word (c:Cls):Nat→BitVec 64
 |0=>c.w0
 |1=>c.w1
 |2=>c.w2
 |_=>c.w3
def Cls.set (c:Cls) (j:Nat) (v:BitVec 64):Cls:=
 match j with
 |0=> { c with w0:=v }
 |1=> { c with w1:=v }
 |2=> { c with w2:=v }
 |_=> { c with w3:=v }
def Cls.add (c:Cls) (b:Nat):Cls:=c.set (b / 64) (orw (c.word (b / 64)) (zP8 (b % 64)))
def Cls.of (l:List Nat):Cls:=l.foldl Cls.add Cls.zero
def Cls.or (a b:Cls):Cls:=⟨orw a.w0 b.w0,orw a.w1 b.w1,orw a.w2 b.w2,orw a.w3 b.w3⟩
def Cls.and (a b:Cls):Cls:=⟨zPY a.w0 b.w0,zPY a.w1 b.w1,zPY a.w2 b.w2,zPY a.w3 b.w3⟩
def Cls.not (a:Cls):Cls:=⟨zPm a.w0,zPm a.w1,zPm a.w2,zPm a.w3⟩
def Cls.range (lo hi:Nat):Cls:=Cls.of (List.range' lo (hi+1 - lo))
def zDU:Cls:=Cls.range 65 90
def zDc:Cls:=Cls.range 97 122
def zDg:Cls:=Cls.range 48 57
def zDl:Cls:=(zDU.or zDc).or zDg
def zA7 (n:List Nat):Option Cls:=
 if n=[97,108,110,117,109]then some zDl
 else if n=[97,108,112,104,97]then some (zDU.or zDc)
 else if n=[98,108,97,110,107]then some (Cls.of [32,9])
 else if n=[99,110,116,114,108]then some ((Cls.range 0 31).or (Cls.of [127]))
 else if n=[100,105,103,105,116]then some zDg
 else if n=[103,114,97,112,104]then some (Cls.range 33 126)
 else if n=[108,111,119,101,114]then some zDc
 else if n=[112,114,105,110,116]then some (Cls.range 32 126)
 else if n=[112,117,110,99,116]then some ((Cls.range 33 126).and zDl.not)
 else if n=[115,112,97,99,101]then some ((Cls.range 9 13).or (Cls.of [32]))
 else if n=[117,112,112,101,114]then some zDU
 else if n=[120,100,105,103,105,116]then some (zDg.or ((Cls.range 65 70).or (Cls.range 97 102)))
 else none
theorem zIZ:zA7 (([97,108,110,117,109]:List UInt8).map (·.toNat))=some zDl:=rfl
theorem zIY:zA7 (([97,108,112,104,97]:List UInt8).map (·.toNat))=some (zDU.or zDc):=rfl
theorem zIX:zA7 (([98,108,97,110,107]:List UInt8).map (·.toNat))=some (Cls.of [32,9]):=rfl
theorem zIW:zA7 (([99,110,116,114,108]:List UInt8).map (·.toNat))=some ((Cls.range 0 31).or (Cls.of [127])):=rfl
theorem zIV:zA7 (([100,105,103,105,116]:List UInt8).map (·.toNat))=some zDg:=rfl
theorem zIU:zA7 (([103,114,97,112,104]:List UInt8).map (·.toNat))=some (Cls.range 33 126):=rfl
theorem zIT:zA7 (([108,111,119,101,114]:List UInt8).map (·.toNat))=some zDc:=rfl
theorem zIS:zA7 (([112,114,105,110,116]:List UInt8).map (·.toNat))=some (Cls.range 32 126):=rfl
theorem zIR:zA7 (([112,117,110,99,116]:List UInt8).map (·.toNat))=some ((Cls.range 33 126).and zDl.not):=rfl
theorem zIQ:zA7 (([115,112,97,99,101]:List UInt8).map (·.toNat))=some ((Cls.range 9 13).or (Cls.of [32])):=rfl
theorem zIP:zA7 (([117,112,112,101,114]:List UInt8).map (·.toNat))=some zDU:=rfl
theorem zHa:zA7 (([120,100,105,103,105,116]:List UInt8).map (·.toNat))=some (zDg.or ((Cls.range 65 70).or (Cls.range 97 102))):=rfl
theorem zJf {l:List Nat} (h0:l≠([97,108,110,117,109]:List UInt8).map (·.toNat)) (h1:l≠([97,108,112,104,97]:List UInt8).map (·.toNat)) (h2:l≠([98,108,97,110,107]:List UInt8).map (·.toNat)) (h3:l≠([99,110,116,114,108]:List UInt8).map (·.toNat)) (h4:l≠([100,105,103,105,116]:List UInt8).map (·.toNat)) (h5:l≠([103,114,97,112,104]:List UInt8).map (·.toNat)) (h6:l≠([108,111,119,101,114]:List UInt8).map (·.toNat)) (h7:l≠([112,114,105,110,116]:List UInt8).map (·.toNat)) (h8:l≠([112,117,110,99,116]:List UInt8).map (·.toNat)) (h9:l≠([115,112,97,99,101]:List UInt8).map (·.toNat)) (h10:l≠([117,112,112,101,114]:List UInt8).map (·.toNat)) (h11:l≠([120,100,105,103,105,116]:List UInt8).map (·.toNat)):zA7 l=none:=by
 unfold zA7
 exact(if_neg h0).trans ((if_neg h1).trans ((if_neg h2).trans ((if_neg h3).trans ((if_neg h4).trans ((if_neg h5).trans ((if_neg h6).trans ((if_neg h7).trans ((if_neg h8).trans ((if_neg h9).trans ((if_neg h10).trans (if_neg h11)))))))))))
def zAI (L:List Mk) (i:Nat):Mk:=L.getD i ⟨0,false⟩
def signAt (L:List Mk) (i c:Nat):Bool:=decide (i<L.length)&&((zAI L i).b==c&& !(zAI L i).p)
structure Th where
 set:Cls
 b:Nat
 fin:Bool
 next:Nat
def Th.zero:Th:=⟨Cls.zero,0,false,0⟩
def zCz (L:List Mk) (at0 begin_:Nat):Nat→Nat→List Nat→Th × Option (Nat × Nat)
 |0,_,_=>(Th.zero,some (32,at0))
 |n+1,i,s=>
  if signAt L i 58&&signAt L (i+1) 93 then
   match zA7 s with
   |none=>(Th.zero,some (31,begin_))
   |some c=>(⟨c,0,false,i+2⟩,none)
  else zCz L at0 begin_ n (i+1) (s++[(zAI L i).b])
def zDz (L:List Mk) (at0 begin_:Nat):Th × Option (Nat × Nat):=zCz L at0 begin_ (L.length - (begin_+2)) (begin_+2) []
def zAo (L:List Mk) (at0 begin_ by_:Nat):Th × Option (Nat × Nat):=
 if L.length≤begin_+3 then(Th.zero,some (32,at0))
 else if !signAt L (begin_+3) by_ then(Th.zero,some (31,begin_))
 else if L.length≤begin_+4 then(Th.zero,some (32,at0))
 else if !signAt L (begin_+4) 93 then(Th.zero,some (31,begin_))
 else(⟨Cls.of [(zAI L (begin_+2)).b],(zAI L (begin_+2)).b,by_==46,begin_+5⟩,none)
def zAp (L:List Mk) (at0 begin_:Nat):Th × Option (Nat × Nat):=
 if L.length≤begin_ then(Th.zero,some (32,at0))
 else if signAt L begin_ 91&&decide (begin_+1<L.length)&& !(zAI L (begin_+1)).p&&(zAI L (begin_+1)).b==58 then zDz L at0 begin_
 else if signAt L begin_ 91&&decide (begin_+1<L.length)&& !(zAI L (begin_+1)).p&&((zAI L (begin_+1)).b==61||(zAI L (begin_+1)).b==46)then zAo L at0 begin_ (zAI L (begin_+1)).b
 else(⟨Cls.of [(zAI L begin_).b],(zAI L begin_).b,true,begin_+1⟩,none)
def zAt (L:List Mk) (at0 begin_:Nat) (first:Bool):Th × Option (Nat × Nat):=
 match zAp L at0 begin_ with
 |(a,some f)=>(a,some f)
 |(a,none)=>
  if signAt L begin_ 45&& !first&& !signAt L (begin_+1) 93 then
   if L.length≤begin_+1 then(a,some (32,at0))else(a,some (30,begin_))
  else if !signAt L a.next 45||decide (L.length≤a.next+1)||signAt L (a.next+1) 93 then(a,none)
  else if !a.fin then(a,some (30,begin_))
  else match zAp L at0 (a.next+1)with
   |(b,some f)=>(b,some f)
   |(b,none)=>if !b.fin||decide (b.b<a.b)then(b,some (30,begin_))else(⟨Cls.range a.b b.b,0,false,b.next⟩,none)
def zA1 (L:List Mk) (at0:Nat):Nat→Cls→Nat→Bool→Except (Nat × Nat) (Cls × Nat)
 |0,_,_,_=> .error (32,at0)
 |n+1,c,i,first=>
  if !first&&signAt L i 93 then .ok (c,i)
  else match zAt L at0 i first with
   |(_,some f)=> .error f
   |(x,none)=>zA1 L at0 n (c.or x.set) x.next false
def zA9 (L:List Mk) (at0:Nat):Except (Nat × Nat) (Cls × Nat):=
 let no:=signAt L (at0+1) 94
 let i:=if no then at0+2 else at0+1
 match zA1 L at0 (L.length+2) Cls.zero i true with
 | .error f=> .error f
 | .ok (c,i)=> .ok (if no then c.not else c,i+1)
end
section
theorem zES {L:List Mk} {i c:Nat} (h:signAt L i c=true):i<L.length:=by
 simp only[signAt,Bool.and_eq_true,decide_eq_true_eq]at h
 exact h.1
theorem zGs {L:List Mk} {at0 b0:Nat} : ∀(n i:Nat) (s:List Nat) (a:Th),zCz L at0 b0 n i s=(a,none)→i<a.next∧a.next≤L.length∧a.b=0
 |0,_,_,_,h=>by simp[zCz]at h
 |n+1,i,s,a,h=>by
  unfold zCz at h
  split at h
  ·rename_i hc
   simp only[Bool.and_eq_true]at hc
   have:=zES hc.2
   split at h
   ·simp at h
   ·simp only[Prod.mk.injEq,and_true]at h
    subst h
    exact⟨by simp,by simp;omega,rfl⟩
  ·have:=zGs n (i+1) _ a h
   exact⟨by omega,this.2.1,this.2.2⟩
theorem zB0 {L:List Mk} {at0 n:Nat} {a:Th} (h:zAp L at0 n=(a,none)) (hu: ∀i,i<L.length→(zAI L i).b<256):n<a.next∧a.next≤L.length∧a.b<256:=by
 unfold zAp at h
 split at h
 ·simp at h
 ·rename_i hlt
  have:=hu n (by omega)
  split at h
  ·have:=zGs _ _ _ _ h
   omega
  ·split at h
   ·unfold zAo at h
    split at h
    ·simp at h
    ·split at h
     ·simp at h
     ·split at h
      ·simp at h
      ·split at h
       ·simp at h
       ·simp only[Prod.mk.injEq,and_true]at h
        subst h
        have:=hu (n+2) (by omega)
        exact⟨by simp,by simp;omega,this⟩
   ·simp only[Prod.mk.injEq,and_true]at h
    subst h
    exact⟨by simp,by simp;omega,this⟩
theorem zCt {L:List Mk} {at0 n:Nat} {first:Bool} {a:Th} (h:zAt L at0 n first=(a,none)) (hu: ∀i,i<L.length→(zAI L i).b<256):n<a.next∧a.next≤L.length:=by
 unfold zAt at h
 split at h
 ·simp at h
 ·rename_i x hx
  obtain⟨h1,h2,_⟩:=zB0 hx hu
  split at h
  ·split at h<;>simp at h
  ·split at h
   ·simp only[Prod.mk.injEq]at h;rw[←h.1];exact⟨h1,h2⟩
   ·split at h
    ·simp at h
    ·split at h
     ·simp at h
     ·rename_i y hy
      obtain⟨h3,h4,_⟩:=zB0 hy hu
      split at h
      ·simp at h
      ·simp only[Prod.mk.injEq]at h
       rw[←h.1]
       exact⟨by show n<y.next;omega,h4⟩
end
section
structure Nd where
 op:Int
 set:Cls
 n:Int
 min:Int
 max:Int
 kids:Int
deriving DecidableEq
def Nd.zero:Nd:=⟨0,Cls.zero,0,0,0,0⟩
def zEo (b:Nat):Nd:=⟨1,Cls.of [b],0,0,0,0⟩
def zOt (c:Cls):Nd:=⟨1,c,0,0,0,0⟩
def zOm:Nd:=⟨2,Cls.zero,0,0,0,0⟩
def zP6:Nd:=⟨3,Cls.zero,0,0,0,0⟩
def zHe (k:Nat):Nd:=⟨4,Cls.zero,0,0,0,k⟩
def zM9 (k:Nat):Nd:=⟨5,Cls.zero,0,0,0,k⟩
def zGl (lo hi:Int):Nd:=⟨6,Cls.zero,0,lo,hi,1⟩
def zCQ (n:Nat):Nd:=⟨7,Cls.zero,n,0,0,1⟩
def zKF (n:Nat):Nd:=⟨8,Cls.zero,n,0,0,0⟩
structure Rst where
 i:Nat
 ended:List Bool
deriving DecidableEq
inductive Out (α:Type) where
 |ok (a:α) (s:Rst)
 |no (e i:Nat)
def zCw (ere:Bool) (c:Nat):List Nat:=if ere then [c]else [92,c]
def zAY (ere:Bool):Nat:=if ere then 1 else 2
def seesAt (L:List Mk) (i:Nat) (s:List Nat):Bool:=zEv (L.drop i) s
def zAm (ere:Bool) (L:List Mk) (i:Nat):Bool:=seesAt L i [42]||ere&&(seesAt L i [43]||seesAt L i [63])||seesAt L i (zCw ere 123)
def zDk (ere first:Bool) (s:Rst):Out (List Nd × Bool):=
 if !ere&& !first then .ok ([zEo 94],true) ⟨s.i+1,s.ended⟩else .ok ([zOm],false) ⟨s.i+1,s.ended⟩
def zLa (ere:Bool) (L:List Mk) (s:Rst):Out (List Nd × Bool):=
 if !ere&&decide (s.i+1<L.length)&& !seesAt L (s.i+1) [92,41]then .ok ([zEo 36],true) ⟨s.i+1,s.ended⟩else .ok ([zP6],false) ⟨s.i+1,s.ended⟩
def zPP (s:Rst):Out (List Nd × Bool):= .ok ([zOt (Cls.range 0 255)],true) ⟨s.i+1,s.ended⟩
def zDO (L:List Mk) (s:Rst):Out (List Nd × Bool):=
 match zA9 L s.i with
 | .error (e,i)=> .no e i
 | .ok (c,i)=> .ok ([zOt c],true) ⟨i,s.ended⟩
def zOy (ere:Bool):List Nat:=if ere then [46,91,93,42,94,36,92,47,40,41,43,63,123,125,124]else [46,91,93,42,94,36,92,47]
def zBF:Out (List Nd)→Out (List Nd × Bool)
 | .ok re t=> .ok (re,true) t
 | .no e i=> .no e i
def zAy (ere:Bool) (L:List Mk) (grp:Rst→Out (List Nd)) (s:Rst):Out (List Nd × Bool):=
 if s.i+1=L.length then .no 40 s.i
 else if (zAI L (s.i+1)).p then .no 40 s.i
 else
  let c:=(zAI L (s.i+1)).b
  if !ere&&c==40 then zBF (grp s)
  else if c=110 then .ok ([zEo 10],true) ⟨s.i+2,s.ended⟩
  else if (zOy ere).contains c then .ok ([zEo c],true) ⟨s.i+2,s.ended⟩
  else if !ere&&decide (49≤c)&&decide (c≤57)then
   if s.ended.length<c - 48 then .no 44 s.i
   else if !s.ended.getD (c - 48 - 1) false then .no 44 s.i
   else .ok ([zKF (c - 48)],true) ⟨s.i+2,s.ended⟩
  else .no 40 s.i
def zDR (ere first:Bool) (L:List Mk) (grp:Rst→Out (List Nd)) (s:Rst):Out (List Nd × Bool):=
 let m:=zAI L s.i
 if m.p then .ok ([zEo m.b],true) ⟨s.i+1,s.ended⟩
 else if m.b=46 then zPP s
 else if m.b=91 then zDO L s
 else if m.b=92 then zAy ere L grp s
 else if m.b=94 then zDk ere first s
 else if m.b=36 then zLa ere L s
 else if ere&&m.b==40 then zBF (grp s)
 else .ok ([zEo m.b],true) ⟨s.i+1,s.ended⟩
def zBo (L:List Mk):Nat→Int→Nat→Int × Nat
 |0,n,i=>(n,i)
 |f+1,n,i=>
  if L.length≤i then(n,i)
  else if (zAI L i).p||decide ((zAI L i).b<48)||decide (57<(zAI L i).b)then(n,i)
  else zBo L f (min (max n 0*10+(((zAI L i).b:Int) - 48)) 256) (i+1)
def zEH (L:List Mk) (i:Nat):Int × Nat:=zBo L (L.length - i) (-1) i
def zAl (ere:Bool) (L:List Mk) (s:Rst):Out (Int × Int):=
 let a:=zEH L (s.i+zAY ere)
 let b:=if seesAt L a.2 [44]then zEH L (a.2+1)else a
 if decide (a.1<0)||decide (255<a.1)||decide (255<b.1)||(decide (0≤b.1)&&decide (b.1<a.1))|| !seesAt L b.2 (zCw ere 125)then .no 43 s.i
 else .ok (a.1,b.1) ⟨b.2+zAY ere,s.ended⟩
def zGY (ere:Bool) (L:List Mk) (s:Rst):Out Nd:=
 if seesAt L s.i [42]then .ok (zGl 0 (-1)) ⟨s.i+1,s.ended⟩
 else if seesAt L s.i [43]then .ok (zGl 1 (-1)) ⟨s.i+1,s.ended⟩
 else if seesAt L s.i [63]then .ok (zGl 0 1) ⟨s.i+1,s.ended⟩
 else match zAl ere L s with
  | .no e i=> .no e i
  | .ok (lo,hi) t=> .ok (zGl lo hi) t
def zFJ (ere top:Bool) (L:List Mk) (grp:Rst→Out (List Nd)):Nat→List Nd→Nat→Bool→Rst→Out (Nat × List Nd)
 |0,_,_,_,_=> .no 0 0
 |f+1,all,n,lead,s=>
  if L.length≤s.i then .ok (n,all) s
  else if ere&&seesAt L s.i [124]then .ok (n,all) s
  else if seesAt L s.i (zCw ere 41)then if top then .no 41 s.i else .ok (n,all) s
  else if zAm ere L s.i&&(ere|| !lead|| !seesAt L s.i [42])then .no 42 s.i
  else match zDR ere (n==0) L grp s with
   | .no e i=> .no e i
   | .ok (re,takes) t=>
    let lead':=(re.getD 0 Nd.zero).op==2
    if takes&&zAm ere L t.i then
     match zGY ere L t with
     | .no e i=> .no e i
     | .ok d u=>zFJ ere top L grp f (all++d::re) (n+1) lead' u
    else zFJ ere top L grp f (all++re) (n+1) lead' t
def zGS (ere top:Bool) (L:List Mk) (grp:Rst→Out (List Nd)) (s:Rst):Out (Nat × List Nd):=zFJ ere top L grp (L.length+1) [] 0 true s
def zBx (ere:Bool) (L:List Mk) (row:Rst→Out (Nat × List Nd)):Nat→List Nd→Nat→Rst→Out (List Nd)
 |0,_,_,_=> .no 0 0
 |f+1,all,n,s=>
  match row s with
  | .no e i=> .no e i
  | .ok (parts,re) t=>
   let more:=ere&&seesAt L t.i [124]
   if parts==0&&(more||decide (0<n))then .no 45 t.i
   else
    let all':=all++(if parts=1 then re else zHe parts::re)
    if !more then .ok (if 1<n+1 then zM9 (n+1)::all' else all') t
    else zBx ere L row f all' (n+1) ⟨t.i+1,t.ended⟩
def zOd (ere:Bool) (L:List Mk) (row:Rst→Out (Nat × List Nd)) (s:Rst):Out (List Nd):=zBx ere L row (L.length+1) [] 0 s
def zAa (ere:Bool) (L:List Mk):Nat→Rst→Out (List Nd)
 |0,s=> .no 46 s.i
 |k+1,s=>
  if s.ended.length=255 then .no 47 s.i
  else match zOd ere L (zGS ere false L (zAa ere L k)) ⟨s.i+zAY ere,s.ended++[false]⟩with
   | .no e i=> .no e i
   | .ok re t=>
    if t.i=L.length then .no 41 s.i
    else .ok (zCQ (s.ended.length+1)::re) ⟨t.i+zAY ere,t.ended.set s.ended.length true⟩
def zBt (ere:Bool) (L:List Mk) (k:Nat) (s:Rst):Out (List Nd):=zOd ere L (zGS ere (k==64) L (zAa ere L k)) s
theorem zJp (ere:Bool) (L:List Mk) (k:Nat) (hk:k<64) (s:Rst):zAa ere L (k+1) s=
  if s.ended.length=255 then .no 47 s.i
  else match zBt ere L k ⟨s.i+zAY ere,s.ended++[false]⟩with
   | .no e i=> .no e i
   | .ok re t=>
    if t.i=L.length then .no 41 s.i
    else .ok (zCQ (s.ended.length+1)::re) ⟨t.i+zAY ere,t.ended.set s.ended.length true⟩:=by
 have:(k==64)=false:=by simp;omega
 simp only[zAa,zBt,this]
end
section
structure Adv (L:List Mk) (s t:Rst):Prop where
 lt:s.i<t.i
 le:t.i≤L.length
 ended:s.ended.length≤t.ended.length
structure zJ4 (L:List Mk) (s t:Rst):Prop where
 lt:s.i≤t.i
 le:t.i≤L.length
 ended:s.ended.length≤t.ended.length
theorem Adv.rise {L:List Mk} {s t:Rst} (h:Adv L s t):zJ4 L s t:=⟨Nat.le_of_lt h.lt,h.le,h.ended⟩
theorem zJ4.trans {L:List Mk} {s t u:Rst} (h:zJ4 L s t) (k:zJ4 L t u):zJ4 L s u:=⟨Nat.le_trans h.lt k.lt,k.le,Nat.le_trans h.ended k.ended⟩
theorem Adv.trans {L:List Mk} {s t u:Rst} (h:Adv L s t) (k:zJ4 L t u):Adv L s u:=⟨Nat.lt_of_lt_of_le h.lt k.lt,k.le,Nat.le_trans h.ended k.ended⟩
theorem zBP {L:List Mk} {i:Nat} {s:List Nat} (hs:0<s.length) (h:seesAt L i s=true):i+s.length≤L.length:=by
 by_cases hlt:i+s.length≤L.length
 ·exact hlt
 ·have:=zEE (L.drop i) s (by rw[List.length_drop];omega)
  unfold seesAt at h
  rw[this]at h;cases h
theorem zFH (ere:Bool) (c:Nat):(zCw ere c).length=zAY ere:=by cases ere<;>rfl
theorem zCj (ere:Bool):0<zAY ere:=by cases ere<;>decide
theorem zBn {ere:Bool} {L:List Mk} {i c:Nat} (h:seesAt L i (zCw ere c)=true):i+zAY ere≤L.length:=by
 have:=zBP (by rw[zFH];exact zCj ere) h
 rwa[zFH]at this
theorem zE4 (L:List Mk): ∀(f:Nat) (n:Int) (i:Nat),i≤L.length→i≤(zBo L f n i).2∧(zBo L f n i).2≤L.length
 |0,n,i,h=>⟨Nat.le_refl _,h⟩
 |f+1,n,i,h=>by
  unfold zBo
  split
  ·exact⟨Nat.le_refl _,h⟩
  ·split
   ·exact⟨Nat.le_refl _,h⟩
   ·have:=zE4 L f (min (max n 0*10+(((zAI L i).b:Int) - 48)) 256) (i+1) (by omega)
    omega
theorem zHc {ere:Bool} {L:List Mk} {s:Rst} {r:Int × Int} {t:Rst} (hs:s.i+zAY ere≤L.length) (h:zAl ere L s= .ok r t):Adv L s t:=by
 unfold zAl at h
 have hw:=zCj ere
 have h1:=zE4 L (L.length - (s.i+zAY ere)) (-1) (s.i+zAY ere) hs
 change (s.i+zAY ere≤(zEH L (s.i+zAY ere)).2∧(zEH L (s.i+zAY ere)).2≤L.length)at h1
 generalize zEH L (s.i+zAY ere)=a at h h1
 obtain⟨b,hb⟩: ∃b,b=(if seesAt L a.2 [44]then zEH L (a.2+1)else a):=⟨_,rfl⟩
 simp only[←hb]at h
 split at h
 ·cases h
 ·rename_i hc
  simp only[Bool.or_eq_true,Bool.not_eq_true',not_or]at hc
  have h3:=zBn (by simpa using hc.2)
  cases h
  refine⟨?_,h3,Nat.le_refl _⟩
  show s.i<b.2+zAY ere
  rw[hb]
  split
  ·rename_i h4
   have h5:=zBP (by simp) h4
   have h6:=zE4 L (L.length - (a.2+1)) (-1) (a.2+1) (by simpa using h5)
   change (a.2+1≤(zEH L (a.2+1)).2∧_)at h6
   omega
  ·omega
theorem zFe {ere:Bool} {L:List Mk} {s:Rst} {d:Nd} {t:Rst} (hs:zAm ere L s.i=true) (h:zGY ere L s= .ok d t):Adv L s t:=by
 unfold zGY at h
 split at h
 ·rename_i h1;have:=zBP (by simp) h1;cases h;exact⟨Nat.lt_succ_self _,by simpa using this,Nat.le_refl _⟩
 ·rename_i n1
  split at h
  ·rename_i h1;have:=zBP (by simp) h1;cases h;exact⟨Nat.lt_succ_self _,by simpa using this,Nat.le_refl _⟩
  ·rename_i n2
   split at h
   ·rename_i h1;have:=zBP (by simp) h1;cases h;exact⟨Nat.lt_succ_self _,by simpa using this,Nat.le_refl _⟩
   ·rename_i n3
    have hb:seesAt L s.i (zCw ere 123)=true:=by
     unfold zAm at hs
     simp only[n1,n2,n3]at hs
     simpa using hs
    split at h
    ·cases h
    ·rename_i h1
     cases h
     exact zHc (zBn hb) h1
theorem zGC {L:List Mk} {at0:Nat} (hu: ∀i,i<L.length→(zAI L i).b<256): ∀(n:Nat) (c:Cls) (i:Nat) (first:Bool) (r:Cls × Nat),zA1 L at0 n c i first= .ok r→i≤r.2∧r.2<L.length
 |0,_,_,_,_,h=>by simp[zA1]at h
 |n+1,c,i,first,r,h=>by
  unfold zA1 at h
  split at h
  ·rename_i h1
   cases h
   simp only[Bool.and_eq_true]at h1
   exact⟨Nat.le_refl _,zES h1.2⟩
  ·split at h
   ·cases h
   ·rename_i x hx
    have h1:=zCt hx hu
    have h2:=zGC hu n _ _ _ _ h
    omega
theorem zDL {L:List Mk} {at0:Nat} (hu: ∀i,i<L.length→(zAI L i).b<256) {r:Cls × Nat} (h:zA9 L at0= .ok r):at0<r.2∧r.2≤L.length:=by
 unfold zA9 at h
 simp only at h
 split at h
 ·cases h
 ·rename_i x c i hx
  have h1:=zGC hu _ _ _ _ _ hx
  cases h
  simp only at h1 ⊢
  split at h1<;>omega
theorem zLf {L:List Mk} {s:Rst} {r:List Nd × Bool} {t:Rst} (hu: ∀i,i<L.length→(zAI L i).b<256) (h:zDO L s= .ok r t):Adv L s t:=by
 unfold zDO at h
 split at h
 ·cases h
 ·rename_i x c i hx
  have:=zDL hu hx
  cases h
  exact⟨this.1,this.2,Nat.le_refl _⟩
theorem zJu {ere:Bool} {L:List Mk} {grp:Rst→Out (List Nd)} {s:Rst} {r:List Nd × Bool} {t:Rst} (hs:s.i<L.length) (hg: ∀re t,s.i+zAY ere≤L.length→grp s= .ok re t→Adv L s t) (h:zAy ere L grp s= .ok r t):Adv L s t:=by
 have two:s.i+1≠L.length→Adv L s ⟨s.i+2,s.ended⟩:=fun h=>⟨by show s.i<s.i+2;omega,by show s.i+2≤_;omega,Nat.le_refl _⟩
 unfold zAy at h
 split at h
 ·cases h
 ·rename_i hne
  split at h
  ·cases h
  ·simp only at h
   split at h
   ·rename_i he
    have hw:zAY ere=2:=by cases ere<;>simp_all[zAY]
    unfold zBF at h
    split at h
    ·rename_i hx;cases h;exact hg _ _ (by omega) hx
    ·cases h
   ·split at h
    ·cases h;exact two hne
    ·split at h
     ·cases h;exact two hne
     ·split at h
      ·split at h
       ·cases h
       ·split at h
        ·cases h
        ·cases h;exact two hne
      ·cases h
theorem zEl {ere first:Bool} {L:List Mk} {grp:Rst→Out (List Nd)} {s:Rst} {r:List Nd × Bool} {t:Rst} (hu: ∀i,i<L.length→(zAI L i).b<256) (hs:s.i<L.length) (hg: ∀re t,s.i+zAY ere≤L.length→grp s= .ok re t→Adv L s t)
  (h:zDR ere first L grp s= .ok r t):Adv L s t:=by
 have one:Adv L s ⟨s.i+1,s.ended⟩:=⟨Nat.lt_succ_self _,hs,Nat.le_refl _⟩
 unfold zDR at h
 simp only at h
 split at h
 ·cases h;exact one
 ·split at h
  ·unfold zPP at h;cases h;exact one
  ·split at h
   ·exact zLf hu h
   ·split at h
    ·exact zJu hs hg h
    ·split at h
     ·unfold zDk at h;split at h<;>(cases h;exact one)
     ·split at h
      ·unfold zLa at h;split at h<;>(cases h;exact one)
      ·split at h
       ·rename_i he
        have hw:zAY ere=1:=by cases ere<;>simp_all[zAY]
        unfold zBF at h
        split at h
        ·rename_i hx;cases h;exact hg _ _ (by omega) hx
        ·cases h
       ·cases h;exact one
theorem zEY {ere top:Bool} {L:List Mk} {grp:Rst→Out (List Nd)} (hu: ∀i,i<L.length→(zAI L i).b<256) (hg: ∀s re t,s.i+zAY ere≤L.length→grp s= .ok re t→Adv L s t):
  ∀(f:Nat) (all:List Nd) (n:Nat) (lead:Bool) (s:Rst) (r:Nat × List Nd) (t:Rst),s.i≤L.length→zFJ ere top L grp f all n lead s= .ok r t→zJ4 L s t
 |0,_,_,_,_,_,_,_,h=>by simp[zFJ]at h
 |f+1,all,n,lead,s,r,t,hs,h=>by
  have same:zJ4 L s s:=⟨Nat.le_refl _,hs,Nat.le_refl _⟩
  unfold zFJ at h
  split at h
  ·cases h;exact same
  ·rename_i hlt
   split at h
   ·cases h;exact same
   ·split at h
    ·split at h
     ·cases h
     ·cases h;exact same
    ·split at h
     ·cases h
     ·split at h
      ·cases h
      ·rename_i re takes u hx
       have h1:=zEl hu (by omega) (fun re t=>hg s re t) hx
       simp only at h
       split at h
       ·rename_i hr
        simp only[Bool.and_eq_true]at hr
        split at h
        ·cases h
        ·rename_i d v hd
         have h2:=zFe hr.2 hd
         exact h1.rise.trans (h2.rise.trans (zEY hu hg f _ _ _ _ _ _ h2.le h))
       ·exact h1.rise.trans (zEY hu hg f _ _ _ _ _ _ h1.le h)
theorem zEA {ere:Bool} {L:List Mk} {row:Rst→Out (Nat × List Nd)} (hr: ∀s r t,s.i≤L.length→row s= .ok r t→zJ4 L s t):
  ∀(f:Nat) (all:List Nd) (n:Nat) (s:Rst) (re:List Nd) (t:Rst),s.i≤L.length→zBx ere L row f all n s= .ok re t→zJ4 L s t
 |0,_,_,_,_,_,_,h=>by simp[zBx]at h
 |f+1,all,n,s,re,t,hs,h=>by
  unfold zBx at h
  split at h
  ·cases h
  ·rename_i parts r u hx
   have h1:=hr _ _ _ hs hx
   simp only at h
   split at h
   ·cases h
   ·split at h
    ·cases h;exact h1
    ·rename_i hm
     have hm':(ere&&seesAt L u.i [124])=true:=by simpa using hm
     simp only[Bool.and_eq_true]at hm'
     have h2:=zBP (by simp) hm'.2
     have h3:=zEA hr f _ _ _ _ _ (by simpa using h2) h
     exact h1.trans (zJ4.trans (t:=⟨u.i+1,u.ended⟩) ⟨Nat.le_succ _,by simpa using h2,Nat.le_refl _⟩ h3)
theorem zEX {ere top:Bool} {L:List Mk} {grp:Rst→Out (List Nd)} : ∀(f:Nat) (all:List Nd) (n:Nat) (lead:Bool) (s:Rst) (r:Nat × List Nd) (t:Rst),zFJ ere top L grp f all n lead s= .ok r t→
  L.length≤t.i∨(ere&&seesAt L t.i [124])=true∨(seesAt L t.i (zCw ere 41)=true∧top=false)
 |0,_,_,_,_,_,_,h=>by simp[zFJ]at h
 |f+1,all,n,lead,s,r,t,h=>by
  unfold zFJ at h
  split at h
  ·rename_i h1;cases h;exact .inl h1
  ·split at h
   ·rename_i h1;cases h;exact .inr (.inl h1)
   ·split at h
    ·rename_i h1
     split at h
     ·cases h
     ·rename_i h2;cases h;exact .inr (.inr ⟨h1,by simpa using h2⟩)
    ·split at h
     ·cases h
     ·split at h
      ·cases h
      ·simp only at h
       split at h
       ·split at h
        ·cases h
        ·exact zEX f _ _ _ _ _ _ h
       ·exact zEX f _ _ _ _ _ _ h
theorem zD9 {ere top:Bool} {L:List Mk} {row:Rst→Out (Nat × List Nd)} (hr: ∀s r t,row s= .ok r t→L.length≤t.i∨(ere&&seesAt L t.i [124])=true∨(seesAt L t.i (zCw ere 41)=true∧top=false)):
  ∀(f:Nat) (all:List Nd) (n:Nat) (s:Rst) (re:List Nd) (t:Rst),zBx ere L row f all n s= .ok re t→L.length≤t.i∨(seesAt L t.i (zCw ere 41)=true∧top=false)
 |0,_,_,_,_,_,h=>by simp[zBx]at h
 |f+1,all,n,s,re,t,h=>by
  unfold zBx at h
  split at h
  ·cases h
  ·rename_i parts r u hx
   have h1:=hr _ _ _ hx
   simp only at h
   split at h
   ·cases h
   ·split at h
    ·rename_i hm
     cases h
     rcases h1 with h1|h1|h1
     ·exact .inl h1
     ·rw[h1]at hm;cases hm
     ·exact .inr h1
    ·exact zD9 hr f _ _ _ _ _ h
theorem zCK {ere:Bool} {L:List Mk} (hu: ∀i,i<L.length→(zAI L i).b<256): ∀(k:Nat) (s:Rst) (re:List Nd) (t:Rst),s.i+zAY ere≤L.length→zAa ere L k s= .ok re t→Adv L s t
 |0,_,_,_,_,h=>by simp[zAa]at h
 |k+1,s,re,t,hs,h=>by
  have hw:=zCj ere
  unfold zAa at h
  split at h
  ·cases h
  ·split at h
   ·cases h
   ·rename_i r u hx
    have h1:=zEA (fun s r t h0 h=>zEY hu (fun s re t=>zCK hu k s re t) _ _ _ _ _ _ _ h0 h) _ _ _ _ _ _ (by simpa using hs) hx
    have h2:=zD9 (fun s r t h=>zEX _ _ _ _ _ _ _ h) _ _ _ _ _ _ hx
    split at h
    ·cases h
    ·rename_i hne
     have h3:u.i+zAY ere≤L.length:=by
      rcases h2 with h2|h2
      ·have:=h1.le;omega
      ·exact zBn h2.1
     cases h
     refine⟨?_,h3,?_⟩
     ·have:=h1.lt;simp only at this ⊢;omega
     ·have:=h1.ended;simp only[List.length_append,List.length_set]at this ⊢;omega
theorem zC2 {ere top:Bool} {L:List Mk} (hu: ∀i,i<L.length→(zAI L i).b<256) (k:Nat) {s:Rst} {r:Nat × List Nd} {t:Rst} (hs:s.i≤L.length) (h:zGS ere top L (zAa ere L k) s= .ok r t):zJ4 L s t:=
 zEY hu (fun s re t=>zCK hu k s re t) _ _ _ _ _ _ _ hs h
theorem zEB {ere:Bool} {L:List Mk} (hu: ∀i,i<L.length→(zAI L i).b<256) (k:Nat) {s:Rst} {re:List Nd} {t:Rst} (hs:s.i≤L.length) (h:zBt ere L k s= .ok re t):zJ4 L s t:=
 zEA (fun _ _ _ h0 h=>zC2 hu k h0 h) _ _ _ _ _ _ hs h
theorem zJB {ere:Bool} {L:List Mk} (k:Nat) {s:Rst} {re:List Nd} {t:Rst} (h:zBt ere L k s= .ok re t):L.length≤t.i∨(seesAt L t.i (zCw ere 41)=true∧(k==64)=false):=
 zD9 (fun _ _ _ h=>zEX _ _ _ _ _ _ _ h) _ _ _ _ _ _ h
end
section
def zNI (s:Rst) (re:List Nd) (t:Rst):Prop:=0<re.length∧re.length+4*s.i≤4*t.i
theorem zGN {ere first:Bool} {L:List Mk} {grp:Rst→Out (List Nd)} {s:Rst} {r:List Nd × Bool} {t:Rst} (hu: ∀i,i<L.length→(zAI L i).b<256) (hs:s.i<L.length)
  (hg: ∀re t,s.i+zAY ere≤L.length→grp s= .ok re t→zNI s re t) (h:zDR ere first L grp s= .ok r t):zNI s r.1 t:=by
 have one: ∀(x:Nd) (j:Nat),s.i<j→zNI s [x] ⟨j,s.ended⟩:=fun x j hj=>⟨by simp,by simp only[List.length_singleton];omega⟩
 unfold zDR at h
 simp only at h
 split at h
 ·cases h;exact one _ _ (Nat.lt_succ_self _)
 ·split at h
  ·unfold zPP at h;cases h;exact one _ _ (Nat.lt_succ_self _)
  ·split at h
   ·unfold zDO at h
    split at h
    ·cases h
    ·rename_i hx;cases h;exact one _ _ (zDL hu hx).1
   ·split at h
    ·unfold zAy at h
     split at h
     ·cases h
     ·rename_i hne
      split at h
      ·cases h
      ·simp only at h
       split at h
       ·rename_i he
        have hw:zAY ere=2:=by cases ere<;>simp_all[zAY]
        unfold zBF at h
        split at h
        ·rename_i hx;cases h;exact hg _ _ (by omega) hx
        ·cases h
       ·split at h
        ·cases h;exact one _ _ (by omega)
        ·split at h
         ·cases h;exact one _ _ (by omega)
         ·split at h
          ·split at h
           ·cases h
           ·split at h
            ·cases h
            ·cases h;exact one _ _ (by omega)
          ·cases h
    ·split at h
     ·unfold zDk at h;split at h<;>(cases h;exact one _ _ (Nat.lt_succ_self _))
     ·split at h
      ·unfold zLa at h;split at h<;>(cases h;exact one _ _ (Nat.lt_succ_self _))
      ·split at h
       ·rename_i he
        have hw:zAY ere=1:=by cases ere<;>simp_all[zAY]
        unfold zBF at h
        split at h
        ·rename_i hx;cases h;exact hg _ _ (by omega) hx
        ·cases h
       ·cases h;exact one _ _ (Nat.lt_succ_self _)
theorem zDs {ere top:Bool} {L:List Mk} {grp:Rst→Out (List Nd)} (hu: ∀i,i<L.length→(zAI L i).b<256) (hg: ∀s re t,s.i+zAY ere≤L.length→grp s= .ok re t→zNI s re t)
  (ha: ∀s re t,s.i+zAY ere≤L.length→grp s= .ok re t→Adv L s t) (s0:Nat):
  ∀(f:Nat) (all:List Nd) (n:Nat) (lead:Bool) (s:Rst) (r:Nat × List Nd) (t:Rst),s.i≤L.length→all.length+4*s0≤4*s.i→n+s0≤s.i→zFJ ere top L grp f all n lead s= .ok r t→r.2.length+4*s0≤4*t.i∧r.1+s0≤t.i
 |0,_,_,_,_,_,_,_,_,_,h=>by simp[zFJ]at h
 |f+1,all,n,lead,s,r,t,hs,h1,h2,h=>by
  unfold zFJ at h
  split at h
  ·cases h;exact⟨h1,h2⟩
  ·rename_i hlt
   split at h
   ·cases h;exact⟨h1,h2⟩
   ·split at h
    ·split at h
     ·cases h
     ·cases h;exact⟨h1,h2⟩
    ·split at h
     ·cases h
     ·split at h
      ·cases h
      ·rename_i re takes u hx
       have hb:=zGN hu (by omega) (fun re t=>hg s re t) hx
       have hv:=zEl hu (by omega) (fun re t=>ha s re t) hx
       have hlt1:=hv.lt
       obtain⟨_,hb2⟩:=hb
       simp only at h hb2
       split at h
       ·rename_i hr
        simp only[Bool.and_eq_true]at hr
        split at h
        ·cases h
        ·rename_i d v hd
         have h3:=zFe hr.2 hd
         have h4:=h3.lt
         exact zDs hu hg ha s0 f _ _ _ _ _ _ h3.le (by simp only[List.length_append,List.length_cons];omega) (by omega) h
       ·exact zDs hu hg ha s0 f _ _ _ _ _ _ hv.le (by simp only[List.length_append];omega) (by omega) h
theorem zDW {ere:Bool} {L:List Mk} {row:Rst→Out (Nat × List Nd)} (hr: ∀s r t,s.i≤L.length→row s= .ok r t→zJ4 L s t) (hz: ∀s r t,s.i≤L.length→row s= .ok r t→r.2.length+4*s.i≤4*t.i) (s0:Nat):
  ∀(f:Nat) (all:List Nd) (n:Nat) (s:Rst) (re:List Nd) (t:Rst),s.i≤L.length→all.length+4*s0≤4*s.i→zBx ere L row f all n s= .ok re t→re.length+4*s0≤4*t.i+2
 |0,_,_,_,_,_,_,_,h=>by simp[zBx]at h
 |f+1,all,n,s,re,t,hs,h1,h=>by
  unfold zBx at h
  split at h
  ·cases h
  ·rename_i parts r u hx
   have h2:=hr _ _ _ hs hx
   have h3:=hz _ _ _ hs hx
   simp only at h h3
   split at h
   ·cases h
   ·have hl: ∀(x:Nd),(all++(if parts=1 then r else x::r)).length+4*s0≤4*u.i+1:=fun x=>by
     split<;>simp only[List.length_append,List.length_cons]<;>omega
    split at h
    ·cases h
     split
     ·have:=hl (zHe parts);simp only[List.length_cons];omega
     ·have:=hl (zHe parts);omega
    ·rename_i hm
     have hm':(ere&&seesAt L u.i [124])=true:=by simpa using hm
     simp only[Bool.and_eq_true]at hm'
     have h4:=zBP (by simp) hm'.2
     have:=hl (zHe parts)
     exact zDW hr hz s0 f _ _ _ _ _ (by simpa using h4) (by simp only;omega) h
theorem zDe {ere:Bool} {L:List Mk} (hu: ∀i,i<L.length→(zAI L i).b<256): ∀(k:Nat) (s:Rst) (re:List Nd) (t:Rst),s.i+zAY ere≤L.length→zAa ere L k s= .ok re t→zNI s re t
 |0,_,_,_,_,h=>by simp[zAa]at h
 |k+1,s,re,t,hs,h=>by
  have hw:=zCj ere
  unfold zAa at h
  split at h
  ·cases h
  ·split at h
   ·cases h
   ·rename_i r u hx
    have h1:=zDW (fun s r t h0 h=>zC2 hu k h0 h)
     (fun s r t h0 h=>(zDs hu (fun s re t=>zDe hu k s re t) (fun s re t=>zCK hu k s re t) s.i _ _ _ _ _ _ _ h0 (by simp) (by simp) h).1) (s.i+zAY ere) _ _ _ _ _ _ (by simpa using hs) (by simp) hx
    split at h
    ·cases h
    ·cases h
     refine⟨by simp,?_⟩
     simp only[List.length_cons]
     omega
theorem zGi {ere top:Bool} {L:List Mk} (hu: ∀i,i<L.length→(zAI L i).b<256) (k:Nat) {s:Rst} {r:Nat × List Nd} {t:Rst} (hs:s.i≤L.length) (h:zGS ere top L (zAa ere L k) s= .ok r t):r.2.length+4*s.i≤4*t.i∧r.1+s.i≤t.i:=
 zDs hu (fun s re t=>zDe hu k s re t) (fun s re t=>zCK hu k s re t) s.i _ _ _ _ _ _ _ hs (by simp) (by simp) h
theorem zDX {ere:Bool} {L:List Mk} (hu: ∀i,i<L.length→(zAI L i).b<256) (k:Nat) {s:Rst} {re:List Nd} {t:Rst} (hs:s.i≤L.length) (h:zBt ere L k s= .ok re t):re.length+4*s.i≤4*t.i+2:=
 zDW (fun _ _ _ h0 h=>zC2 hu k h0 h) (fun _ _ _ h0 h=>(zGi hu k h0 h).1) s.i _ _ _ _ _ _ hs (by simp) h
end
section
def zBM (n:Nd):Int:=if n.op=6 then(if n.max<0 then n.min+1 else max n.max 1)else 1
def zDv (g:Nat→Option (Int × Nat)):Nat→Int→Nat→Option (Int × Nat)
 |0,sum,to=>some (sum,to)
 |k+1,sum,to=>match g to with
  |none=>none
  |some (w,nx)=>zDv g k (min (sum+w) 16385) nx
def zBc (re:List Nd):Nat→Nat→Option (Int × Nat)
 |0,_=>none
 |f+1,i=>match re[i]? with
  |none=>none
  |some n=>match zDv (zBc re f) n.kids.toNat 0 (i+1)with
   |none=>none
   |some (sum,to)=>some (min (zBM n*sum+1) 16385,to)
def zAf (n:Nd):Bool:=
 decide (1≤n.op)&&decide (n.op≤8)
 &&(n.op==1||n.set==Cls.zero)
 &&(n.op==7||n.op==8||n.n==0)
 &&(if n.op=6 then decide (0≤n.min)&&decide (n.min≤255)&&(n.max== -1||decide (n.min≤n.max)&&decide (n.max≤255))else n.min==0&&n.max==0)
 &&(if n.op=6∨n.op=7 then n.kids==1 else if n.op=5 then decide (2≤n.kids)else if n.op=4 then n.kids==0||decide (2≤n.kids)else n.kids==0)
def zA2 (g:Nat→List Bool→Option (Nat × List Bool)):Nat→Nat→List Bool→Option (Nat × List Bool)
 |0,i,en=>some (i,en)
 |k+1,i,en=>match g i en with
  |none=>none
  |some (j,en')=>zA2 g k j en'
def zAZ (re:List Nd):Nat→Nat→Nat→List Bool→Option (Nat × List Bool)
 |0,_,_,_=>none
 |f+1,g,i,en=>match re[i]? with
  |none=>none
  |some n=>
   if !zAf n then none
   else if n.op==8&&(decide (n.n<1)||decide ((en.length:Int)<n.n)|| !en.getD (n.n.toNat - 1) false)then none
   else if n.op=7 then
    if n.n≠(en.length:Int)+1∨255<n.n∨64≤g then none
    else match zA2 (zAZ re f (g+1)) n.kids.toNat (i+1) (en++[false])with
     |none=>none
     |some (j,en')=>some (j,en'.set en.length true)
   else zA2 (zAZ re f g) n.kids.toNat (i+1) en
def shapedN (re:List Nd):Bool:=
 match zAZ re 260 0 0 []with
 |none=>false
 |some (j,_)=>decide (j=re.length)&&(match zBc re 260 0 with
  |none=>false
  |some (w,_)=>decide (w≤16384))
def zBH (re:List Nd):Nat:=if shapedN re then(re.filter (·.op==7)).length else 0
theorem zD0 {g:Nat→List Bool→Option (Nat × List Bool)} {h:Nat→Option (Int × Nat)} (hg: ∀i en j en',g i en=some (j,en')→ ∃w,h i=some (w,j)):
  ∀(k i:Nat) (en:List Bool) (j:Nat) (en':List Bool),zA2 g k i en=some (j,en')→ ∀sum,∃w,zDv h k sum i=some (w,j)
 |0,i,en,j,en',he,sum=>by simp only[zA2,Option.some.injEq,Prod.mk.injEq]at he;exact⟨sum,by simp[zDv,he.1]⟩
 |k+1,i,en,j,en',he,sum=>by
  unfold zA2 at he
  split at he
  ·cases he
  ·rename_i j1 en1 h1
   obtain⟨w,hw⟩:=hg _ _ _ _ h1
   obtain⟨w2,hw2⟩:=zD0 hg k _ _ _ _ he (min (sum+w) 16385)
   exact⟨w2,by simp only[zDv,hw,hw2]⟩
theorem zBh (re:List Nd): ∀(f g i:Nat) (en:List Bool) (j:Nat) (en':List Bool),zAZ re f g i en=some (j,en')→ ∃w,zBc re f i=some (w,j)
 |0,_,_,_,_,_,h=>by simp[zAZ]at h
 |f+1,g,i,en,j,en',h=>by
  unfold zAZ at h
  split at h
  ·cases h
  ·rename_i n hn
   have fin: ∀g' en1 j1 en2,zA2 (zAZ re f g') n.kids.toNat (i+1) en1=some (j1,en2)→ ∃w,zBc re (f+1) i=some (w,j1):=fun g' en1 j1 en2 hk=>by
    obtain⟨w,hw⟩:=zD0 (fun i en j en'=>zBh re f g' i en j en') _ _ _ _ _ hk 0
    exact⟨min (zBM n*w+1) 16385,by simp only[zBc,hn,hw]⟩
   split at h
   ·cases h
   ·split at h
    ·cases h
    ·split at h
     ·split at h
      ·cases h
      ·split at h
       ·cases h
       ·rename_i j1 en1 hk
        cases h
        exact fin _ _ _ _ hk
     ·exact fin _ _ _ _ h
end
section
theorem zFB {g h:Nat→List Bool→Option (Nat × List Bool)} (hg: ∀i en r,g i en=some r→h i en=some r): ∀(k i:Nat) (en:List Bool) (r:Nat × List Bool),zA2 g k i en=some r→zA2 h k i en=some r
 |0,_,_,_,he=>he
 |k+1,i,en,r,he=>by
  unfold zA2 at he ⊢
  split at he
  ·cases he
  ·rename_i j en1 h1
   rw[hg _ _ _ h1]
   exact zFB hg k _ _ _ he
theorem zC5 (re:List Nd): ∀(f g i:Nat) (en:List Bool) (r:Nat × List Bool),zAZ re f g i en=some r→zAZ re (f+1) g i en=some r
 |0,_,_,_,_,h=>by simp[zAZ]at h
 |f+1,g,i,en,r,h=>by
  rw[zAZ]at h ⊢
  split at h
  ·cases h
  ·split at h
   ·cases h
   ·split at h
    ·cases h
    ·rename_i n _ hgood href
     rw[if_neg hgood,if_neg href]
     split at h
     ·rename_i h7
      rw[if_pos h7]
      split at h
      ·cases h
      ·rename_i hc
       rw[if_neg hc]
       split at h
       ·cases h
       ·rename_i j en1 hk
        rw[zFB (fun i en r=>zC5 re f (g+1) i en r) _ _ _ _ hk]
        exact h
     ·rename_i h7
      rw[if_neg h7]
      exact zFB (fun i en r=>zC5 re f g i en r) _ _ _ _ h
theorem zLH (re:List Nd) {f f' g i:Nat} {en:List Bool} {r:Nat × List Bool} (hf:f≤f') (h:zAZ re f g i en=some r):zAZ re f' g i en=some r:=by
 induction hf with
 |refl=>exact h
 |step _ ih=>exact zC5 re _ _ _ _ _ ih
def Tr (f g:Nat) (l:List Nd) (a b:List Bool):Prop:= ∀pre post,zAZ (pre++l++post) f g pre.length a=some (pre.length+l.length,b)
def Trs (f g n:Nat) (l:List Nd) (a b:List Bool):Prop:= ∀pre post,zA2 (zAZ (pre++l++post) f g) n pre.length a=some (pre.length+l.length,b)
theorem Tr.mono {f f' g:Nat} {l:List Nd} {a b:List Bool} (h:Tr f g l a b) (hf:f≤f'):Tr f' g l a b:=fun pre post=>zLH _ hf (h pre post)
theorem Trs.nil (f g:Nat) (a:List Bool):Trs f g 0 [] a a:=fun pre post=>by simp[zA2]
theorem zIh (g:Nat→List Bool→Option (Nat × List Bool)): ∀(m n i:Nat) (en:List Bool) (j:Nat) (en':List Bool),zA2 g m i en=some (j,en')→zA2 g (m+n) i en=zA2 g n j en'
 |0,n,i,en,j,en',h=>by
  simp only[zA2,Option.some.injEq,Prod.mk.injEq]at h
  rw[h.1,h.2,Nat.zero_add]
 |m+1,n,i,en,j,en',h=>by
  rw[zA2]at h
  rw[show m+1+n=(m+n)+1 by omega,zA2]
  split at h
  ·cases h
  ·rename_i j1 en1 h1
   exact zIh g m n _ _ _ _ h
theorem Trs.append {f g m n:Nat} {l l':List Nd} {a b c:List Bool} (h:Trs f g m l a b) (h':Trs f g n l' b c):Trs f g (m+n) (l++l') a c:=fun pre post=>by
 have h1:=h pre (l'++post)
 have h2:=h' (pre++l) post
 rw[show pre++(l++l')++post=pre++l++(l'++post)by simp]
 rw[zIh _ m n _ _ _ _ h1]
 rw[show pre++l++l'++post=pre++l++(l'++post)by simp,List.length_append]at h2
 rw[h2,List.length_append]
 simp only[Nat.add_assoc]
theorem Tr.one {f g:Nat} {l:List Nd} {a b:List Bool} (h:Tr f g l a b):Trs f g 1 l a b:=fun pre post=>by
 simp only[zA2,h pre post]
theorem zJq (pre l post:List Nd) (x:Nd):(pre++(x::l)++post)[pre.length]?=some x:=by simp
theorem Tr.node {f g:Nat} {x:Nd} {l:List Nd} {a b:List Bool} (hx:zAf x=true) (h8:x.op≠8) (h7:x.op≠7) (h:Trs f g x.kids.toNat l a b):Tr (f+1) g (x::l) a b:=fun pre post=>by
 have h1:=h (pre++[x]) post
 rw[show pre++[x]++l++post=pre++(x::l)++post by simp,show(pre++[x]).length=pre.length+1 by simp]at h1
 rw[zAZ,zJq]
 simp only[hx,Bool.not_true,Bool.false_eq_true,if_false,show(x.op==8)=false by simpa using h8,Bool.false_and,if_neg h7]
 rw[h1,List.length_cons]
 simp only[Nat.add_assoc,Nat.add_comm 1]
theorem Tr.leaf {f g:Nat} {x:Nd} {a:List Bool} (hx:zAf x=true) (h8:x.op≠8) (h7:x.op≠7) (hk:x.kids=0):Tr (f+1) g [x] a a:=
 Tr.node hx h8 h7 (by rw[hk];exact Trs.nil _ _ _)
theorem Tr.ref {f g n:Nat} {a:List Bool} (h1:1≤n) (h2:n≤a.length) (h3:a.getD (n - 1) false=true):Tr (f+1) g [zKF n] a a:=fun pre post=>by
 rw[zAZ,zJq]
 have hg:zAf (zKF n)=true:=by simp[zAf,zKF]
 have hb:(decide ((zKF n).n<1)||decide ((a.length:Int)<(zKF n).n)|| !a.getD ((zKF n).n.toNat - 1) false)=false:=by
  have hn1: ¬(zKF n).n<1:=by show¬(n:Int)<1;omega
  have hn2: ¬(a.length:Int)<(zKF n).n:=by show¬(a.length:Int)<(n:Int);omega
  have hn3:(zKF n).n.toNat=n:=rfl
  rw[decide_eq_false hn1,decide_eq_false hn2,hn3,h3]
  rfl
 simp only[hg,Bool.not_true,Bool.false_eq_true,if_false,hb,Bool.and_false]
 rw[if_neg (by show¬(8:Int)=7;decide)]
 simp[zKF,zA2]
theorem Tr.group {f g:Nat} {l:List Nd} {a b:List Bool} (ha:a.length<255) (hg:g<64) (h:Tr f (g+1) l (a++[false]) b):Tr (f+1) g (zCQ (a.length+1)::l) a (b.set a.length true):=fun pre post=>by
 have h1:=h.one (pre++[zCQ (a.length+1)]) post
 rw[show pre++[zCQ (a.length+1)]++l++post=pre++(zCQ (a.length+1)::l)++post by simp,show(pre++[zCQ (a.length+1)]).length=pre.length+1 by simp]at h1
 rw[zAZ,zJq]
 have hgd:zAf (zCQ (a.length+1))=true:=by simp[zAf,zCQ]
 simp only[hgd,Bool.not_true,Bool.false_eq_true,if_false,show((zCQ (a.length+1)).op==8)=false by rfl,Bool.false_and]
 rw[if_pos (by rfl),if_neg (by simp only[zCQ];omega)]
 rw[show(zCQ (a.length+1)).kids.toNat=1 from rfl,h1]
 simp only[List.length_cons,Nat.add_assoc,Nat.add_comm 1]
theorem zE5 (L:List Mk): ∀(f:Nat) (n:Int) (i:Nat),-1≤n→ -1≤(zBo L f n i).1
 |0,n,i,h1=>h1
 |f+1,n,i,h1=>by
  unfold zBo
  split
  ·exact h1
  ·split
   ·exact h1
   ·rename_i h3
    simp only[Bool.or_eq_true,decide_eq_true_eq,not_or]at h3
    exact zE5 L f _ _ (by omega)
theorem zD1 {ere:Bool} {L:List Mk} {s:Rst} {lo hi:Int} {t:Rst} (h:zAl ere L s= .ok (lo,hi) t):zAf (zGl lo hi)=true∧t.ended=s.ended:=by
 unfold zAl at h
 have h0:=zE5 L (L.length - (s.i+zAY ere)) (-1) (s.i+zAY ere) (by omega)
 change -1≤(zEH L (s.i+zAY ere)).1 at h0
 generalize zEH L (s.i+zAY ere)=a at h h0
 obtain⟨b,hb⟩: ∃b,b=(if seesAt L a.2 [44]then zEH L (a.2+1)else a):=⟨_,rfl⟩
 have hb1: -1≤b.1:=by
  rw[hb]
  split
  ·exact zE5 L _ _ _ (by omega)
  ·exact h0
 simp only[←hb]at h
 split at h
 ·cases h
 ·rename_i hc
  simp only[Bool.or_eq_true,Bool.and_eq_true,decide_eq_true_eq,not_or,not_and]at hc
  cases h
  refine⟨?_,rfl⟩
  unfold zAf zGl
  simp only[beq_self_eq_true,if_true,true_or,Bool.or_true,Bool.and_true,show((6:Int)==1)=false from rfl,show((6:Int)==7)=false from rfl,show((6:Int)==8)=false from rfl,Bool.false_or]
  rw[decide_eq_true (show(0:Int)≤a.1 by omega),decide_eq_true (show a.1≤255 by omega)]
  by_cases hm:b.1= -1
  ·rw[hm];rfl
  ·rw[decide_eq_true (show a.1≤b.1 by omega),decide_eq_true (show b.1≤255 by omega)]
   simp
theorem zMu {ere:Bool} {L:List Mk} {s:Rst} {d:Nd} {t:Rst} (h:zGY ere L s= .ok d t):zAf d=true∧t.ended=s.ended∧d.op=6∧d.kids=1:=by
 unfold zGY at h
 split at h
 ·cases h;exact⟨by decide,rfl,rfl,rfl⟩
 ·split at h
  ·cases h;exact⟨by decide,rfl,rfl,rfl⟩
  ·split at h
   ·cases h;exact⟨by decide,rfl,rfl,rfl⟩
   ·split at h
    ·cases h
    ·rename_i hi
     cases h
     exact⟨(zD1 hi).1,(zD1 hi).2,rfl,rfl⟩
theorem zL5 (c:Cls):zAf (zOt c)=true:=by simp[zAf,zOt]
theorem zMM (b:Nat):zAf (zEo b)=true:=by simp[zAf,zEo]
theorem zM3 {k:Nat} (h:k≠1):zAf (zHe k)=true:=by
 by_cases hz:k=0
 ·subst hz;rfl
 ·have h2:(2:Int)≤(k:Int):=by omega
  simp[zAf,zHe,h2]
theorem zM8 {k:Nat} (h:2≤k):zAf (zM9 k)=true:=by
 have h2:(2:Int)≤(k:Int):=by omega
 simp[zAf,zM9,h2]
theorem zLi {ere first:Bool} {L:List Mk} {grp:Rst→Out (List Nd)} {f g:Nat} {s:Rst} {r:List Nd × Bool} {t:Rst} (hl:s.ended.length≤255) (hg: ∀re t,grp s= .ok re t→Tr (f+1) g re s.ended t.ended∧t.ended.length≤255)
  (h:zDR ere first L grp s= .ok r t):Tr (f+1) g r.1 s.ended t.ended∧t.ended.length≤255:=by
 have one: ∀(x:Nd),zAf x=true→x.op≠8→x.op≠7→x.kids=0→Tr (f+1) g [x] s.ended s.ended∧s.ended.length≤255:=fun x h1 h2 h3 h4=>⟨Tr.leaf h1 h2 h3 h4,hl⟩
 have hone: ∀b,Tr (f+1) g [zEo b] s.ended s.ended∧s.ended.length≤255:=fun b=>one _ (zMM b) (by show(1:Int)≠8;decide) (by show(1:Int)≠7;decide) rfl
 have hset: ∀c,Tr (f+1) g [zOt c] s.ended s.ended∧s.ended.length≤255:=fun c=>one _ (zL5 c) (by show(1:Int)≠8;decide) (by show(1:Int)≠7;decide) rfl
 unfold zDR at h
 simp only at h
 split at h
 ·cases h;exact hone _
 ·split at h
  ·unfold zPP at h;cases h;exact hset _
  ·split at h
   ·unfold zDO at h
    split at h
    ·cases h
    ·cases h;exact hset _
   ·split at h
    ·unfold zAy at h
     split at h
     ·cases h
     ·split at h
      ·cases h
      ·simp only at h
       split at h
       ·unfold zBF at h
        split at h
        ·rename_i hx;cases h;exact hg _ _ hx
        ·cases h
       ·split at h
        ·cases h;exact hone _
        ·split at h
         ·cases h;exact hone _
         ·split at h
          ·rename_i hd
           simp only[Bool.and_eq_true,decide_eq_true_eq]at hd
           split at h
           ·cases h
           ·rename_i h1
            split at h
            ·cases h
            ·rename_i h2
             cases h
             exact⟨Tr.ref (by omega) (by omega) (by simpa using h2),hl⟩
          ·cases h
    ·split at h
     ·unfold zDk at h
      split at h
      ·cases h;exact hone _
      ·cases h;exact one _ (by decide) (by decide) (by decide) rfl
     ·split at h
      ·unfold zLa at h
       split at h
       ·cases h;exact hone _
       ·cases h;exact one _ (by decide) (by decide) (by decide) rfl
      ·split at h
       ·unfold zBF at h
        split at h
        ·rename_i hx;cases h;exact hg _ _ hx
        ·cases h
       ·cases h;exact hone _
theorem zEW {ere top:Bool} {L:List Mk} {grp:Rst→Out (List Nd)} {f g:Nat} (hg: ∀s re t,s.ended.length≤255→grp s= .ok re t→Tr (f+1) g re s.ended t.ended∧t.ended.length≤255) (a:List Bool):
  ∀(fu:Nat) (all:List Nd) (n:Nat) (lead:Bool) (s:Rst) (r:Nat × List Nd) (t:Rst),s.ended.length≤255→Trs (f+2) g n all a s.ended→zFJ ere top L grp fu all n lead s= .ok r t→Trs (f+2) g r.1 r.2 a t.ended∧t.ended.length≤255
 |0,_,_,_,_,_,_,_,_,h=>by simp[zFJ]at h
 |fu+1,all,n,lead,s,r,t,hl,ha,h=>by
  unfold zFJ at h
  split at h
  ·cases h;exact⟨ha,hl⟩
  ·split at h
   ·cases h;exact⟨ha,hl⟩
   ·split at h
    ·split at h
     ·cases h
     ·cases h;exact⟨ha,hl⟩
    ·split at h
     ·cases h
     ·split at h
      ·cases h
      ·rename_i re takes u hx
       have h1:=zLi hl (fun re t=>hg s re t hl) hx
       simp only at h h1
       split at h
       ·split at h
        ·cases h
        ·rename_i d v hd
         have h2:=zMu hd
         have h3:Tr (f+2) g (d::re) s.ended u.ended:=Tr.node h2.1 (by rw[h2.2.2.1];decide) (by rw[h2.2.2.1];decide) (by rw[h2.2.2.2];exact h1.1.one)
         exact zEW hg a fu _ _ _ _ _ _ (by rw[h2.2.1];exact h1.2) (by rw[h2.2.1];exact ha.append h3.one) h
       ·exact zEW hg a fu _ _ _ _ _ _ h1.2 (ha.append (h1.1.mono (Nat.le_succ _)).one) h
theorem zD8 {ere:Bool} {L:List Mk} {row:Rst→Out (Nat × List Nd)} {f g:Nat} (hr: ∀s r t,s.ended.length≤255→row s= .ok r t→Trs (f+2) g r.1 r.2 s.ended t.ended∧t.ended.length≤255) (a:List Bool):
  ∀(fu:Nat) (all:List Nd) (n:Nat) (s:Rst) (re:List Nd) (t:Rst),s.ended.length≤255→Trs (f+3) g n all a s.ended→zBx ere L row fu all n s= .ok re t→Tr (f+4) g re a t.ended∧t.ended.length≤255
 |0,_,_,_,_,_,_,_,h=>by simp[zBx]at h
 |fu+1,all,n,s,re,t,hl,ha,h=>by
  unfold zBx at h
  split at h
  ·cases h
  ·rename_i parts r u hx
   have h1:=hr _ _ _ hl hx
   simp only at h h1
   split at h
   ·cases h
   ·have h2:Tr (f+3) g (if parts=1 then r else zHe parts::r) s.ended u.ended:=by
     split
     ·rename_i hp
      subst hp
      have h3:=h1.1
      intro pre post
      have h4:=h3 pre post
      simp only[zA2]at h4
      split at h4
      ·cases h4
      ·rename_i j en hn
       cases h4
       exact zC5 _ _ _ _ _ _ hn
     ·rename_i hp
      refine Tr.node ?_ (by show(4:Int)≠8;decide) (by show(4:Int)≠7;decide) (by rw[show(zHe parts).kids.toNat=parts from rfl];exact h1.1)
      exact zM3 hp
    have h5:=ha.append h2.one
    split at h
    ·cases h
     split
     ·rename_i hn
      refine⟨Tr.node ?_ (by show(5:Int)≠8;decide) (by show(5:Int)≠7;decide) (by rw[show(zM9 (n+1)).kids.toNat=n+1 from rfl];exact h5),h1.2⟩
      exact zM8 (by omega)
     ·rename_i hn
      have hn0:n=0:=by omega
      subst hn0
      refine⟨fun pre post=>?_,h1.2⟩
      have h4:=h5 pre post
      rw[Nat.zero_add]at h4
      simp only[zA2]at h4
      split at h4
      ·cases h4
      ·rename_i j en hn
       cases h4
       exact zC5 _ _ _ _ _ _ hn
    ·exact zD8 hr a fu _ _ ⟨u.i+1,u.ended⟩ _ _ h1.2 h5 h
theorem zGG {ere:Bool} {L:List Mk} : ∀(k:Nat),k≤64→ ∀(s:Rst) (re:List Nd) (t:Rst),s.ended.length≤255→zAa ere L k s= .ok re t→Tr (4*k+1) (64 - k) re s.ended t.ended∧t.ended.length≤255
 |0,_,_,_,_,_,h=>by simp[zAa]at h
 |k+1,hk,s,re,t,hl,h=>by
  unfold zAa at h
  split at h
  ·cases h
  ·rename_i hne
   split at h
   ·cases h
   ·rename_i r u hx
    have h1:=zD8 (f:=4*k) (g:=64 - k) (fun s r t h0 h=>zEW (fun s re t=>zGG k (by omega) s re t) s.ended _ _ _ _ _ _ _ h0 (Trs.nil _ _ _) h) (s.ended++[false]) _ _ _ _ _ _ (by simp;omega) (Trs.nil _ _ _) hx
    split at h
    ·cases h
    ·cases h
     rw[show 64 - k=(64 - (k+1))+1 by omega]at h1
     exact⟨Tr.group (by omega) (by omega) h1.1,by simpa using h1.2⟩
theorem zJA {ere:Bool} {L:List Mk} (k:Nat) (hk:k≤64) {s:Rst} {re:List Nd} {t:Rst} (hl:s.ended.length≤255) (h:zBt ere L k s= .ok re t):Tr (4*k+4) (64 - k) re s.ended t.ended∧t.ended.length≤255:=
 zD8 (f:=4*k) (g:=64 - k) (fun _ _ _ h0 h=>zEW (fun s re t=>zGG k hk s re t) _ _ _ _ _ _ _ _ h0 (Trs.nil _ _ _) h) s.ended _ _ _ _ _ _ hl (Trs.nil _ _ _) h
theorem zEt {ere:Bool} {L:List Mk} {re:List Nd} {t:Rst} (h:zBt ere L 64 ⟨0,[]⟩= .ok re t):zAZ re 260 0 0 []=some (re.length,t.ended):=by
 have:=(zJA 64 (Nat.le_refl _) (by simp) h).1 [] []
 simpa using this
end
section
def zBu (T:List Nat) (d:Nat) (ends:Bool):Nat→Nat→List Mk→Option (List Mk × Nat)
 |0,_,_=>none
 |n+1,i,acc=>
  if T.length≤i then none
  else if T.getD i 0=d then some (acc,i+1)
  else if T.getD i 0=10 then none
  else if T.getD i 0=92 then
   if T.length≤i+1 then none
   else if T.getD (i+1) 0=10∧ends=false then none
   else zBu T d ends n (i+2) (acc++(if T.getD (i+1) 0=d then [⟨d,true⟩]else [⟨92,false⟩,⟨T.getD (i+1) 0,false⟩]))
  else zBu T d ends n (i+1) (acc++[⟨T.getD i 0,false⟩])
def zBf (T:List Nat) (d:Nat) (ends:Bool) (i:Nat):Option (List Mk × Nat):=
 if d=92∨d=10 then none else zBu T d ends (T.length - i) i []
def zEL (T:List Nat) (most:Nat):Nat→Nat→Nat→Bool→Nat × Bool × Nat
 |0,i,v,h=>(v,h,i)
 |n+1,i,v,h=>
  if T.length≤i then(v,h,i)
  else if 48≤T.getD i 0∧T.getD i 0≤57 then
   if most<T.getD i 0 - 48∨(most - (T.getD i 0 - 48)) / 10<v then zEL T most n (i+1) v true
   else zEL T most n (i+1) (10*v+(T.getD i 0 - 48)) h
  else(v,h,i)
def zHg (T:List Nat) (most i:Nat):Option (Nat × Nat):=
 let r:=zEL T most (T.length - i) i 0 false
 if r.2.2=i∨r.2.1=true then none else some (r.1,r.2.2)
theorem zHT {T:List Nat} {d:Nat} {ends:Bool} : ∀(n i:Nat) (acc:List Mk) (r:List Mk × Nat),zBu T d ends n i acc=some r→i<r.2∧r.2≤T.length∧r.1.length+i+1≤acc.length+r.2
 |0,i,acc,r,h=>by simp[zBu]at h
 |n+1,i,acc,r,h=>by
  unfold zBu at h
  split at h
  ·simp at h
  ·rename_i h0
   split at h
   ·simp only[Option.some.injEq]at h
    subst h
    simp only
    omega
   ·split at h
    ·simp at h
    ·split at h
     ·split at h
      ·simp at h
      ·split at h
       ·simp at h
       ·have:=zHT n _ _ _ h
        rw[List.length_append]at this
        split at this<;>simp only[List.length_cons,List.length_nil]at this<;>omega
     ·have:=zHT n _ _ _ h
      rw[List.length_append]at this
      simp only[List.length_cons,List.length_nil]at this
      omega
theorem zBr {T:List Nat} {d:Nat} {ends:Bool} {i:Nat} {r:List Mk × Nat} (h:zBf T d ends i=some r):i<r.2∧r.2≤T.length∧r.1.length+i+1≤r.2:=by
 unfold zBf at h
 split at h
 ·simp at h
 ·have:=zHT _ _ _ _ h
  simpa using this
theorem zHY {T:List Nat} {most:Nat} : ∀(n i v:Nat) (h:Bool),v≤most→i+n≤T.length→i≤(zEL T most n i v h).2.2∧(zEL T most n i v h).2.2≤T.length∧(zEL T most n i v h).1≤most
 |0,i,v,h,hv,hi=>by simp only[zEL];omega
 |n+1,i,v,h,hv,hi=>by
  unfold zEL
  split
  ·simp only;omega
  ·split
   ·rename_i h1
    split
    ·have:=zHY (T:=T) (most:=most) n (i+1) v true hv (by omega)
     omega
    ·rename_i h2
     have:=zHY (T:=T) (most:=most) n (i+1) (10*v+(T.getD i 0 - 48)) h (by omega) (by omega)
     omega
   ·simp only;omega
theorem zJd {T:List Nat} {most i:Nat} {r:Nat × Nat} (h:zHg T most i=some r) (hi:i≤T.length):i<r.2∧r.2≤T.length∧r.1≤most:=by
 unfold zHg at h
 simp only at h
 split at h
 ·simp at h
 ·rename_i h0
  have:=zHY (T:=T) (most:=most) (T.length - i) i 0 false (Nat.zero_le _) (by omega)
  simp only[Option.some.injEq]at h
  subst h
  simp only
  omega
end
section
section
variable {T:List Nat} {i:Nat}
theorem zJY {d:Nat} {ends:Bool} (hd:d<256) (hT: ∀j,T.getD j 0<256): ∀(n i:Nat) (acc:List Mk) (r:List Mk × Nat),(∀m∈acc,m.b<256)→zBu T d ends n i acc=some r→ ∀m∈r.1,m.b<256
 |0,i,acc,r,_,h=>by simp[zBu]at h
 |n+1,i,acc,r,ha,h=>by
  unfold zBu at h
  split at h
  ·simp at h
  ·split at h
   ·simp only[Option.some.injEq]at h
    subst h
    exact ha
   ·split at h
    ·simp at h
    ·split at h
     ·split at h
      ·simp at h
      ·split at h
       ·simp at h
       ·refine zJY hd hT n _ _ r (fun m hm=>?_) h
        rcases List.mem_append.1 hm with hm|hm
        ·exact ha m hm
        ·split at hm
         ·simp only[List.mem_singleton]at hm;subst hm;exact hd
         ·simp only[List.mem_cons,List.not_mem_nil,or_false]at hm
          rcases hm with rfl|rfl
          ·decide
          ·exact hT _
     ·refine zJY hd hT n _ _ r (fun m hm=>?_) h
      rcases List.mem_append.1 hm with hm|hm
      ·exact ha m hm
      ·simp only[List.mem_singleton]at hm;subst hm;exact hT _
theorem zJX {d:Nat} {ends:Bool} (hd:d<256) (hT: ∀j,T.getD j 0<256) {r:List Mk × Nat} (h:zBf T d ends i=some r): ∀m∈r.1,m.b<256:=by
 unfold zBf at h
 split at h
 ·simp at h
 ·exact zJY hd hT _ _ _ r (fun m hm=>by simp at hm) h
end
end
end Go.Proofs.YtmaagpbjahjmhaaGreatDoor
