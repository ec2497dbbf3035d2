/- Parts: Spec Sb Rs Rt Faw Ts Ru Tb Ka Pk. -/
set_option maxHeartbeats 1000000
namespace Go.Proofs.YtfjbnpdffillbaaGreatDoor
section
structure Mk where
 b:Nat
 p:Bool
deriving DecidableEq
def zDl:List Mk→List Nat→Bool
 |_,[]=>true
 |[],_::_=>false
 |m::l,c::s=> !m.p&&m.b==c&&zDl l s
theorem zEO: ∀(l:List Mk) (s:List Nat),l.length<s.length→zDl l s=false
 |_,[],h=>by simp at h
 |[],_::_,_=>rfl
 |m::l,c::s,h=>by
  simp only[zDl,zEO l s (by simpa using h),Bool.and_false]
theorem zKG (L:List Mk) (bs:List Nat) (i k:Nat) (hi:i<L.length) (hk:k<bs.length):
  zDl (L.drop i) (bs.drop k)=(!(L.getD i ⟨0,false⟩).p&&(L.getD i ⟨0,false⟩).b==bs.getD k 0&&zDl (L.drop (i+1)) (bs.drop (k+1))):=by
 rw[List.drop_eq_getElem_cons hi,List.drop_eq_getElem_cons hk,zDl]
 simp[List.getD_eq_getElem?_getD,hi,hk]
structure Cls where
 w0:BitVec 64
 w1:BitVec 64
 w2:BitVec 64
 w3:BitVec 64
deriving DecidableEq
def orw (a b:BitVec 64):BitVec 64:=a ||| b
def zOd (a b:BitVec 64):BitVec 64:=a &&& b
def zOq (a:BitVec 64):BitVec 64:= ~~~a
def zJK (n:Nat):BitVec 64:=1#64 <<< n
def Cls.zero:Cls:=⟨0#64,0#64,0#64,0#64⟩
def Cls.word (c:Cls):Nat→BitVec 64
 |0=>c.w0
 |1=>c.w1
 |2=>c.w2
 |_=>c.w3
def Cls.set (c:Cls) (j:Nat) (v:BitVec 64):Cls:=
 match j with
 |0=> { c with w0:=v }
 |1=> { c with w1:=v }
 |2=> { c with w2:=v }
 |_=> { c with w3:=v }
def Cls.add (c:Cls) (b:Nat):Cls:=c.set (b / 64) (orw (c.word (b / 64)) (zJK (b % 64)))
def Cls.of (l:List Nat):Cls:=l.foldl Cls.add Cls.zero
def Cls.or (a b:Cls):Cls:=⟨orw a.w0 b.w0,orw a.w1 b.w1,orw a.w2 b.w2,orw a.w3 b.w3⟩
def Cls.and (a b:Cls):Cls:=⟨zOd a.w0 b.w0,zOd a.w1 b.w1,zOd a.w2 b.w2,zOd a.w3 b.w3⟩
def Cls.not (a:Cls):Cls:=⟨zOq a.w0,zOq a.w1,zOq a.w2,zOq a.w3⟩
def Cls.range (lo hi:Nat):Cls:=Cls.of (List.range' lo (hi+1 - lo))
def zCb:Cls:=Cls.range 65 90
def zCf:Cls:=Cls.range 97 122
def zCg:Cls:=Cls.range 48 57
def zCI:Cls:=(zCb.or zCf).or zCg
def zAn (n:List Nat):Option Cls:=
 if n=[97,108,110,117,109]then some zCI
 else if n=[97,108,112,104,97]then some (zCb.or zCf)
 else if n=[98,108,97,110,107]then some (Cls.of [32,9])
 else if n=[99,110,116,114,108]then some ((Cls.range 0 31).or (Cls.of [127]))
 else if n=[100,105,103,105,116]then some zCg
 else if n=[103,114,97,112,104]then some (Cls.range 33 126)
 else if n=[108,111,119,101,114]then some zCf
 else if n=[112,114,105,110,116]then some (Cls.range 32 126)
 else if n=[112,117,110,99,116]then some ((Cls.range 33 126).and zCI.not)
 else if n=[115,112,97,99,101]then some ((Cls.range 9 13).or (Cls.of [32]))
 else if n=[117,112,112,101,114]then some zCb
 else if n=[120,100,105,103,105,116]then some (zCg.or ((Cls.range 65 70).or (Cls.range 97 102)))
 else none
theorem zFk:zAn (([97,108,110,117,109]:List UInt8).map (·.toNat))=some zCI:=rfl
theorem zFj:zAn (([97,108,112,104,97]:List UInt8).map (·.toNat))=some (zCb.or zCf):=rfl
theorem zFi:zAn (([98,108,97,110,107]:List UInt8).map (·.toNat))=some (Cls.of [32,9]):=rfl
theorem zFh:zAn (([99,110,116,114,108]:List UInt8).map (·.toNat))=some ((Cls.range 0 31).or (Cls.of [127])):=rfl
theorem zFg:zAn (([100,105,103,105,116]:List UInt8).map (·.toNat))=some zCg:=rfl
theorem zFf:zAn (([103,114,97,112,104]:List UInt8).map (·.toNat))=some (Cls.range 33 126):=rfl
theorem zFe:zAn (([108,111,119,101,114]:List UInt8).map (·.toNat))=some zCf:=rfl
theorem zFd:zAn (([112,114,105,110,116]:List UInt8).map (·.toNat))=some (Cls.range 32 126):=rfl
theorem zFc:zAn (([112,117,110,99,116]:List UInt8).map (·.toNat))=some ((Cls.range 33 126).and zCI.not):=rfl
theorem zFb:zAn (([115,112,97,99,101]:List UInt8).map (·.toNat))=some ((Cls.range 9 13).or (Cls.of [32])):=rfl
theorem zFa:zAn (([117,112,112,101,114]:List UInt8).map (·.toNat))=some zCb:=rfl
theorem zEx:zAn (([120,100,105,103,105,116]:List UInt8).map (·.toNat))=some (zCg.or ((Cls.range 65 70).or (Cls.range 97 102))):=rfl
theorem zGX {l:List Nat} (h0:l≠([97,108,110,117,109]:List UInt8).map (·.toNat)) (h1:l≠([97,108,112,104,97]:List UInt8).map (·.toNat)) (h2:l≠([98,108,97,110,107]:List UInt8).map (·.toNat)) (h3:l≠([99,110,116,114,108]:List UInt8).map (·.toNat)) (h4:l≠([100,105,103,105,116]:List UInt8).map (·.toNat)) (h5:l≠([103,114,97,112,104]:List UInt8).map (·.toNat)) (h6:l≠([108,111,119,101,114]:List UInt8).map (·.toNat)) (h7:l≠([112,114,105,110,116]:List UInt8).map (·.toNat)) (h8:l≠([112,117,110,99,116]:List UInt8).map (·.toNat)) (h9:l≠([115,112,97,99,101]:List UInt8).map (·.toNat)) (h10:l≠([117,112,112,101,114]:List UInt8).map (·.toNat)) (h11:l≠([120,100,105,103,105,116]:List UInt8).map (·.toNat)):zAn l=none:=by
 unfold zAn
 exact(if_neg h0).trans ((if_neg h1).trans ((if_neg h2).trans ((if_neg h3).trans ((if_neg h4).trans ((if_neg h5).trans ((if_neg h6).trans ((if_neg h7).trans ((if_neg h8).trans ((if_neg h9).trans ((if_neg h10).trans (if_neg h11)))))))))))
def zAH (L:List Mk) (i:Nat):Mk:=L.getD i ⟨0,false⟩
def signAt (L:List Mk) (i c:Nat):Bool:=decide (i<L.length)&&((zAH L i).b==c&& !(zAH L i).p)
structure Th where
 set:Cls
 b:Nat
 fin:Bool
 next:Nat
def Th.zero:Th:=⟨Cls.zero,0,false,0⟩
def zCj (L:List Mk) (at0 begin_:Nat):Nat→Nat→List Nat→Th × Option (Nat × Nat)
 |0,_,_=>(Th.zero,some (32,at0))
 |n+1,i,s=>
  if signAt L i 58&&signAt L (i+1) 93 then
   match zAn s with
   |none=>(Th.zero,some (31,begin_))
   |some c=>(⟨c,0,false,i+2⟩,none)
  else zCj L at0 begin_ n (i+1) (s++[(zAH L i).b])
def zC9 (L:List Mk) (at0 begin_:Nat):Th × Option (Nat × Nat):=zCj L at0 begin_ (L.length - (begin_+2)) (begin_+2) []
def zAf (L:List Mk) (at0 begin_ by_:Nat):Th × Option (Nat × Nat):=
 if L.length≤begin_+3 then(Th.zero,some (32,at0))
 else if !signAt L (begin_+3) by_ then(Th.zero,some (31,begin_))
 else if L.length≤begin_+4 then(Th.zero,some (32,at0))
 else if !signAt L (begin_+4) 93 then(Th.zero,some (31,begin_))
 else(⟨Cls.of [(zAH L (begin_+2)).b],(zAH L (begin_+2)).b,by_==46,begin_+5⟩,none)
def zAT (L:List Mk) (at0 begin_:Nat):Th × Option (Nat × Nat):=
 if L.length≤begin_ then(Th.zero,some (32,at0))
 else if signAt L begin_ 91&&decide (begin_+1<L.length)&& !(zAH L (begin_+1)).p&&(zAH L (begin_+1)).b==58 then zC9 L at0 begin_
 else if signAt L begin_ 91&&decide (begin_+1<L.length)&& !(zAH L (begin_+1)).p&&((zAH L (begin_+1)).b==61||(zAH L (begin_+1)).b==46)then zAf L at0 begin_ (zAH L (begin_+1)).b
 else(⟨Cls.of [(zAH L begin_).b],(zAH L begin_).b,true,begin_+1⟩,none)
def zAb (L:List Mk) (at0 begin_:Nat) (first:Bool):Th × Option (Nat × Nat):=
 match zAT L at0 begin_ with
 |(a,some f)=>(a,some f)
 |(a,none)=>
  if signAt L begin_ 45&& !first&& !signAt L (begin_+1) 93 then
   if L.length≤begin_+1 then(a,some (32,at0))else(a,some (30,begin_))
  else if !signAt L a.next 45||decide (L.length≤a.next+1)||signAt L (a.next+1) 93 then(a,none)
  else if !a.fin then(a,some (30,begin_))
  else match zAT L at0 (a.next+1)with
   |(b,some f)=>(b,some f)
   |(b,none)=>if !b.fin||decide (b.b<a.b)then(b,some (30,begin_))else(⟨Cls.range a.b b.b,0,false,b.next⟩,none)
def zA1 (L:List Mk) (at0:Nat):Nat→Cls→Nat→Bool→Except (Nat × Nat) (Cls × Nat)
 |0,_,_,_=> .error (32,at0)
 |n+1,c,i,first=>
  if !first&&signAt L i 93 then .ok (c,i)
  else match zAb L at0 i first with
   |(_,some f)=> .error f
   |(x,none)=>zA1 L at0 n (c.or x.set) x.next false
def zAs (L:List Mk) (at0:Nat):Except (Nat × Nat) (Cls × Nat):=
 let no:=signAt L (at0+1) 94
 let i:=if no then at0+2 else at0+1
 match zA1 L at0 (L.length+2) Cls.zero i true with
 | .error f=> .error f
 | .ok (c,i)=> .ok (if no then c.not else c,i+1)
end
section
theorem zCC {L:List Mk} {i c:Nat} (h:signAt L i c=true):i<L.length:=by
 simp only[signAt,Bool.and_eq_true,decide_eq_true_eq]at h
 exact h.1
theorem zHX {L:List Mk} {at0 b0:Nat} : ∀(n i:Nat) (s:List Nat) (a:Th),zCj L at0 b0 n i s=(a,none)→i<a.next∧a.next≤L.length∧a.b=0
 |0,_,_,_,h=>by simp[zCj]at h
 |n+1,i,s,a,h=>by
  unfold zCj at h
  split at h
  ·rename_i hc
   simp only[Bool.and_eq_true]at hc
   have:=zCC hc.2
   split at h
   ·simp at h
   ·simp only[Prod.mk.injEq,and_true]at h
    subst h
    exact⟨by simp,by simp;omega,rfl⟩
  ·have:=zHX n (i+1) _ a h
   exact⟨by omega,this.2.1,this.2.2⟩
theorem zBd {L:List Mk} {at0 n:Nat} {a:Th} (h:zAT L at0 n=(a,none)) (hu: ∀i,i<L.length→(zAH L i).b<256):n<a.next∧a.next≤L.length∧a.b<256:=by
 unfold zAT at h
 split at h
 ·simp at h
 ·rename_i hlt
  have:=hu n (by omega)
  split at h
  ·have:=zHX _ _ _ _ h
   omega
  ·split at h
   ·unfold zAf at h
    split at h
    ·simp at h
    ·split at h
     ·simp at h
     ·split at h
      ·simp at h
      ·split at h
       ·simp at h
       ·simp only[Prod.mk.injEq,and_true]at h
        subst h
        have:=hu (n+2) (by omega)
        exact⟨by simp,by simp;omega,this⟩
   ·simp only[Prod.mk.injEq,and_true]at h
    subst h
    exact⟨by simp,by simp;omega,this⟩
theorem zCO {L:List Mk} {at0 n:Nat} {first:Bool} {a:Th} (h:zAb L at0 n first=(a,none)) (hu: ∀i,i<L.length→(zAH L i).b<256):n<a.next∧a.next≤L.length:=by
 unfold zAb at h
 split at h
 ·simp at h
 ·rename_i x hx
  obtain⟨h1,h2,_⟩:=zBd hx hu
  split at h
  ·split at h<;>simp at h
  ·split at h
   ·simp only[Prod.mk.injEq]at h;rw[←h.1];exact⟨h1,h2⟩
   ·split at h
    ·simp at h
    ·split at h
     ·simp at h
     ·rename_i y hy
      obtain⟨h3,h4,_⟩:=zBd hy hu
      split at h
      ·simp at h
      ·simp only[Prod.mk.injEq]at h
       rw[←h.1]
       exact⟨by show n<y.next;omega,h4⟩
end
section
structure Nd where
 op:Int
 set:Cls
 n:Int
 min:Int
 max:Int
 kids:Int
deriving DecidableEq
def Nd.zero:Nd:=⟨0,Cls.zero,0,0,0,0⟩
def zCe (b:Nat):Nd:=⟨1,Cls.of [b],0,0,0,0⟩
def zG0 (c:Cls):Nd:=⟨1,c,0,0,0,0⟩
def zE6:Nd:=⟨2,Cls.zero,0,0,0,0⟩
def zMV:Nd:=⟨3,Cls.zero,0,0,0,0⟩
def zFA (k:Nat):Nd:=⟨4,Cls.zero,0,0,0,k⟩
def zJL (k:Nat):Nd:=⟨5,Cls.zero,0,0,0,k⟩
def zEf (lo hi:Int):Nd:=⟨6,Cls.zero,0,lo,hi,1⟩
def zBz (n:Nat):Nd:=⟨7,Cls.zero,n,0,0,1⟩
def zF1 (n:Nat):Nd:=⟨8,Cls.zero,n,0,0,0⟩
structure Rst where
 i:Nat
 ended:List Bool
deriving DecidableEq
inductive Out (α:Type) where
 |ok (a:α) (s:Rst)
 |no (e i:Nat)
def zA7 (ere:Bool) (c:Nat):List Nat:=if ere then [c]else [92,c]
def zAY (ere:Bool):Nat:=if ere then 1 else 2
def seesAt (L:List Mk) (i:Nat) (s:List Nat):Bool:=zDl (L.drop i) s
def zAe (ere:Bool) (L:List Mk) (i:Nat):Bool:=seesAt L i [42]||ere&&(seesAt L i [43]||seesAt L i [63])||seesAt L i (zA7 ere 123)
def zDj (ere first:Bool) (s:Rst):Out (List Nd × Bool):=
 if !ere&& !first then .ok ([zCe 94],true) ⟨s.i+1,s.ended⟩else .ok ([zE6],false) ⟨s.i+1,s.ended⟩
def zKU (ere:Bool) (L:List Mk) (s:Rst):Out (List Nd × Bool):=
 if !ere&&decide (s.i+1<L.length)&& !seesAt L (s.i+1) [92,41]then .ok ([zCe 36],true) ⟨s.i+1,s.ended⟩else .ok ([zMV],false) ⟨s.i+1,s.ended⟩
def zNx (s:Rst):Out (List Nd × Bool):= .ok ([zG0 (Cls.range 0 255)],true) ⟨s.i+1,s.ended⟩
def zDD (L:List Mk) (s:Rst):Out (List Nd × Bool):=
 match zAs L s.i with
 | .error (e,i)=> .no e i
 | .ok (c,i)=> .ok ([zG0 c],true) ⟨i,s.ended⟩
def zLc (ere:Bool):List Nat:=if ere then [46,91,93,42,94,36,92,47,40,41,43,63,123,125,124]else [46,91,93,42,94,36,92,47]
def zAx:Out (List Nd)→Out (List Nd × Bool)
 | .ok re t=> .ok (re,true) t
 | .no e i=> .no e i
def zA0 (ere:Bool) (L:List Mk) (grp:Rst→Out (List Nd)) (s:Rst):Out (List Nd × Bool):=
 if s.i+1=L.length then .no 40 s.i
 else if (zAH L (s.i+1)).p then .no 40 s.i
 else
  let c:=(zAH L (s.i+1)).b
  if !ere&&c==40 then zAx (grp s)
  else if c=110 then .ok ([zCe 10],true) ⟨s.i+2,s.ended⟩
  else if (zLc ere).contains c then .ok ([zCe c],true) ⟨s.i+2,s.ended⟩
  else if !ere&&decide (49≤c)&&decide (c≤57)then
   if s.ended.length<c - 48 then .no 44 s.i
   else if !s.ended.getD (c - 48 - 1) false then .no 44 s.i
   else .ok ([zF1 (c - 48)],true) ⟨s.i+2,s.ended⟩
  else .no 40 s.i
def zCG (ere first:Bool) (L:List Mk) (grp:Rst→Out (List Nd)) (s:Rst):Out (List Nd × Bool):=
 let m:=zAH L s.i
 if m.p then .ok ([zCe m.b],true) ⟨s.i+1,s.ended⟩
 else if m.b=46 then zNx s
 else if m.b=91 then zDD L s
 else if m.b=92 then zA0 ere L grp s
 else if m.b=94 then zDj ere first s
 else if m.b=36 then zKU ere L s
 else if ere&&m.b==40 then zAx (grp s)
 else .ok ([zCe m.b],true) ⟨s.i+1,s.ended⟩
def zA8 (L:List Mk):Nat→Int→Nat→Int × Nat
 |0,n,i=>(n,i)
 |f+1,n,i=>
  if L.length≤i then(n,i)
  else if (zAH L i).p||decide ((zAH L i).b<48)||decide (57<(zAH L i).b)then(n,i)
  else zA8 L f (min (max n 0*10+(((zAH L i).b:Int) - 48)) 256) (i+1)
def zDO (L:List Mk) (i:Nat):Int × Nat:=zA8 L (L.length - i) (-1) i
def zAZ (ere:Bool) (L:List Mk) (s:Rst):Out (Int × Int):=
 let a:=zDO L (s.i+zAY ere)
 let b:=if seesAt L a.2 [44]then zDO L (a.2+1)else a
 if decide (a.1<0)||decide (255<a.1)||decide (255<b.1)||(decide (0≤b.1)&&decide (b.1<a.1))|| !seesAt L b.2 (zA7 ere 125)then .no 43 s.i
 else .ok (a.1,b.1) ⟨b.2+zAY ere,s.ended⟩
def zEY (ere:Bool) (L:List Mk) (s:Rst):Out Nd:=
 if seesAt L s.i [42]then .ok (zEf 0 (-1)) ⟨s.i+1,s.ended⟩
 else if seesAt L s.i [43]then .ok (zEf 1 (-1)) ⟨s.i+1,s.ended⟩
 else if seesAt L s.i [63]then .ok (zEf 0 1) ⟨s.i+1,s.ended⟩
 else match zAZ ere L s with
  | .no e i=> .no e i
  | .ok (lo,hi) t=> .ok (zEf lo hi) t
def zEe (ere top:Bool) (L:List Mk) (grp:Rst→Out (List Nd)):Nat→List Nd→Nat→Bool→Rst→Out (Nat × List Nd)
 |0,_,_,_,_=> .no 0 0
 |f+1,all,n,lead,s=>
  if L.length≤s.i then .ok (n,all) s
  else if ere&&seesAt L s.i [124]then .ok (n,all) s
  else if seesAt L s.i (zA7 ere 41)then if top then .no 41 s.i else .ok (n,all) s
  else if zAe ere L s.i&&(ere|| !lead|| !seesAt L s.i [42])then .no 42 s.i
  else match zCG ere (n==0) L grp s with
   | .no e i=> .no e i
   | .ok (re,takes) t=>
    let lead':=(re.getD 0 Nd.zero).op==2
    if takes&&zAe ere L t.i then
     match zEY ere L t with
     | .no e i=> .no e i
     | .ok d u=>zEe ere top L grp f (all++d::re) (n+1) lead' u
    else zEe ere top L grp f (all++re) (n+1) lead' t
def zDF (ere top:Bool) (L:List Mk) (grp:Rst→Out (List Nd)) (s:Rst):Out (Nat × List Nd):=zEe ere top L grp (L.length+1) [] 0 true s
def zBf (ere:Bool) (L:List Mk) (row:Rst→Out (Nat × List Nd)):Nat→List Nd→Nat→Rst→Out (List Nd)
 |0,_,_,_=> .no 0 0
 |f+1,all,n,s=>
  match row s with
  | .no e i=> .no e i
  | .ok (parts,re) t=>
   let more:=ere&&seesAt L t.i [124]
   if parts==0&&(more||decide (0<n))then .no 45 t.i
   else
    let all':=all++(if parts=1 then re else zFA parts::re)
    if !more then .ok (if 1<n+1 then zJL (n+1)::all' else all') t
    else zBf ere L row f all' (n+1) ⟨t.i+1,t.ended⟩
def zNp (ere:Bool) (L:List Mk) (row:Rst→Out (Nat × List Nd)) (s:Rst):Out (List Nd):=zBf ere L row (L.length+1) [] 0 s
def zAN (ere:Bool) (L:List Mk):Nat→Rst→Out (List Nd)
 |0,s=> .no 46 s.i
 |k+1,s=>
  if s.ended.length=255 then .no 47 s.i
  else match zNp ere L (zDF ere false L (zAN ere L k)) ⟨s.i+zAY ere,s.ended++[false]⟩with
   | .no e i=> .no e i
   | .ok re t=>
    if t.i=L.length then .no 41 s.i
    else .ok (zBz (s.ended.length+1)::re) ⟨t.i+zAY ere,t.ended.set s.ended.length true⟩
def zBG (ere:Bool) (L:List Mk) (k:Nat) (s:Rst):Out (List Nd):=zNp ere L (zDF ere (k==64) L (zAN ere L k)) s
theorem zGf (ere:Bool) (L:List Mk) (k:Nat) (hk:k<64) (s:Rst):zAN ere L (k+1) s=
  if s.ended.length=255 then .no 47 s.i
  else match zBG ere L k ⟨s.i+zAY ere,s.ended++[false]⟩with
   | .no e i=> .no e i
   | .ok re t=>
    if t.i=L.length then .no 41 s.i
    else .ok (zBz (s.ended.length+1)::re) ⟨t.i+zAY ere,t.ended.set s.ended.length true⟩:=by
 have:(k==64)=false:=by simp;omega
 simp only[zAN,zBG,this]
end
section
structure Adv (L:List Mk) (s t:Rst):Prop where
 lt:s.i<t.i
 le:t.i≤L.length
 ended:s.ended.length≤t.ended.length
structure zJH (L:List Mk) (s t:Rst):Prop where
 lt:s.i≤t.i
 le:t.i≤L.length
 ended:s.ended.length≤t.ended.length
theorem Adv.rise {L:List Mk} {s t:Rst} (h:Adv L s t):zJH L s t:=⟨Nat.le_of_lt h.lt,h.le,h.ended⟩
theorem zJH.trans {L:List Mk} {s t u:Rst} (h:zJH L s t) (k:zJH L t u):zJH L s u:=⟨Nat.le_trans h.lt k.lt,k.le,Nat.le_trans h.ended k.ended⟩
theorem Adv.trans {L:List Mk} {s t u:Rst} (h:Adv L s t) (k:zJH L t u):Adv L s u:=⟨Nat.lt_of_lt_of_le h.lt k.lt,k.le,Nat.le_trans h.ended k.ended⟩
theorem zJH.trans' {L:List Mk} {s t u:Rst} (h:zJH L s t) (k:Adv L t u):Adv L s u:=⟨Nat.lt_of_le_of_lt h.lt k.lt,k.le,Nat.le_trans h.ended k.ended⟩
theorem zBU {L:List Mk} {i:Nat} {s:List Nat} (hs:0<s.length) (h:seesAt L i s=true):i+s.length≤L.length:=by
 by_cases hlt:i+s.length≤L.length
 ·exact hlt
 ·have:=zEO (L.drop i) s (by rw[List.length_drop];omega)
  unfold seesAt at h
  rw[this]at h;cases h
theorem zFS (ere:Bool) (c:Nat):(zA7 ere c).length=zAY ere:=by cases ere<;>rfl
theorem zCR (ere:Bool):0<zAY ere:=by cases ere<;>decide
theorem zBM {ere:Bool} {L:List Mk} {i c:Nat} (h:seesAt L i (zA7 ere c)=true):i+zAY ere≤L.length:=by
 have:=zBU (by rw[zFS];exact zCR ere) h
 rwa[zFS]at this
theorem zFJ (L:List Mk): ∀(f:Nat) (n:Int) (i:Nat),i≤L.length→i≤(zA8 L f n i).2∧(zA8 L f n i).2≤L.length
 |0,n,i,h=>⟨Nat.le_refl _,h⟩
 |f+1,n,i,h=>by
  unfold zA8
  split
  ·exact⟨Nat.le_refl _,h⟩
  ·split
   ·exact⟨Nat.le_refl _,h⟩
   ·have:=zFJ L f (min (max n 0*10+(((zAH L i).b:Int) - 48)) 256) (i+1) (by omega)
    omega
theorem zIA {ere:Bool} {L:List Mk} {s:Rst} {r:Int × Int} {t:Rst} (hs:s.i+zAY ere≤L.length) (h:zAZ ere L s= .ok r t):Adv L s t:=by
 unfold zAZ at h
 have hw:=zCR ere
 have h1:=zFJ L (L.length - (s.i+zAY ere)) (-1) (s.i+zAY ere) hs
 change (s.i+zAY ere≤(zDO L (s.i+zAY ere)).2∧(zDO L (s.i+zAY ere)).2≤L.length)at h1
 generalize zDO L (s.i+zAY ere)=a at h h1
 obtain⟨b,hb⟩: ∃b,b=(if seesAt L a.2 [44]then zDO L (a.2+1)else a):=⟨_,rfl⟩
 simp only[←hb]at h
 split at h
 ·cases h
 ·rename_i hc
  simp only[Bool.or_eq_true,Bool.not_eq_true',not_or]at hc
  have h3:=zBM (by simpa using hc.2)
  cases h
  refine⟨?_,h3,Nat.le_refl _⟩
  show s.i<b.2+zAY ere
  rw[hb]
  split
  ·rename_i h4
   have h5:=zBU (by simp) h4
   have h6:=zFJ L (L.length - (a.2+1)) (-1) (a.2+1) (by simpa using h5)
   change (a.2+1≤(zDO L (a.2+1)).2∧_)at h6
   omega
  ·omega
theorem zE1 {ere:Bool} {L:List Mk} {s:Rst} {d:Nd} {t:Rst} (hs:zAe ere L s.i=true) (h:zEY ere L s= .ok d t):Adv L s t:=by
 unfold zEY at h
 split at h
 ·rename_i h1;have:=zBU (by simp) h1;cases h;exact⟨Nat.lt_succ_self _,by simpa using this,Nat.le_refl _⟩
 ·rename_i n1
  split at h
  ·rename_i h1;have:=zBU (by simp) h1;cases h;exact⟨Nat.lt_succ_self _,by simpa using this,Nat.le_refl _⟩
  ·rename_i n2
   split at h
   ·rename_i h1;have:=zBU (by simp) h1;cases h;exact⟨Nat.lt_succ_self _,by simpa using this,Nat.le_refl _⟩
   ·rename_i n3
    have hb:seesAt L s.i (zA7 ere 123)=true:=by
     unfold zAe at hs
     simp only[n1,n2,n3]at hs
     simpa using hs
    split at h
    ·cases h
    ·rename_i h1
     cases h
     exact zIA (zBM hb) h1
theorem zGd {L:List Mk} {at0:Nat} (hu: ∀i,i<L.length→(zAH L i).b<256): ∀(n:Nat) (c:Cls) (i:Nat) (first:Bool) (r:Cls × Nat),zA1 L at0 n c i first= .ok r→i≤r.2∧r.2<L.length
 |0,_,_,_,_,h=>by simp[zA1]at h
 |n+1,c,i,first,r,h=>by
  unfold zA1 at h
  split at h
  ·rename_i h1
   cases h
   simp only[Bool.and_eq_true]at h1
   exact⟨Nat.le_refl _,zCC h1.2⟩
  ·split at h
   ·cases h
   ·rename_i x hx
    have h1:=zCO hx hu
    have h2:=zGd hu n _ _ _ _ h
    omega
theorem zCk {L:List Mk} {at0:Nat} (hu: ∀i,i<L.length→(zAH L i).b<256) {r:Cls × Nat} (h:zAs L at0= .ok r):at0<r.2∧r.2≤L.length:=by
 unfold zAs at h
 simp only at h
 split at h
 ·cases h
 ·rename_i x c i hx
  have h1:=zGd hu _ _ _ _ _ hx
  cases h
  simp only at h1 ⊢
  split at h1<;>omega
theorem zLT {L:List Mk} {s:Rst} {r:List Nd × Bool} {t:Rst} (hu: ∀i,i<L.length→(zAH L i).b<256) (h:zDD L s= .ok r t):Adv L s t:=by
 unfold zDD at h
 split at h
 ·cases h
 ·rename_i x c i hx
  have:=zCk hu hx
  cases h
  exact⟨this.1,this.2,Nat.le_refl _⟩
theorem zJ5 {ere:Bool} {L:List Mk} {grp:Rst→Out (List Nd)} {s:Rst} {r:List Nd × Bool} {t:Rst} (hs:s.i<L.length) (hg: ∀re t,s.i+zAY ere≤L.length→grp s= .ok re t→Adv L s t) (h:zA0 ere L grp s= .ok r t):Adv L s t:=by
 have two:s.i+1≠L.length→Adv L s ⟨s.i+2,s.ended⟩:=fun h=>⟨by show s.i<s.i+2;omega,by show s.i+2≤_;omega,Nat.le_refl _⟩
 unfold zA0 at h
 split at h
 ·cases h
 ·rename_i hne
  split at h
  ·cases h
  ·simp only at h
   split at h
   ·rename_i he
    have hw:zAY ere=2:=by cases ere<;>simp_all[zAY]
    unfold zAx at h
    split at h
    ·rename_i hx;cases h;exact hg _ _ (by omega) hx
    ·cases h
   ·split at h
    ·cases h;exact two hne
    ·split at h
     ·cases h;exact two hne
     ·split at h
      ·split at h
       ·cases h
       ·split at h
        ·cases h
        ·cases h;exact two hne
      ·cases h
theorem zDy {ere first:Bool} {L:List Mk} {grp:Rst→Out (List Nd)} {s:Rst} {r:List Nd × Bool} {t:Rst} (hu: ∀i,i<L.length→(zAH L i).b<256) (hs:s.i<L.length) (hg: ∀re t,s.i+zAY ere≤L.length→grp s= .ok re t→Adv L s t)
  (h:zCG ere first L grp s= .ok r t):Adv L s t:=by
 have one:Adv L s ⟨s.i+1,s.ended⟩:=⟨Nat.lt_succ_self _,hs,Nat.le_refl _⟩
 unfold zCG at h
 simp only at h
 split at h
 ·cases h;exact one
 ·split at h
  ·unfold zNx at h;cases h;exact one
  ·split at h
   ·exact zLT hu h
   ·split at h
    ·exact zJ5 hs hg h
    ·split at h
     ·unfold zDj at h;split at h<;>(cases h;exact one)
     ·split at h
      ·unfold zKU at h;split at h<;>(cases h;exact one)
      ·split at h
       ·rename_i he
        have hw:zAY ere=1:=by cases ere<;>simp_all[zAY]
        unfold zAx at h
        split at h
        ·rename_i hx;cases h;exact hg _ _ (by omega) hx
        ·cases h
       ·cases h;exact one
theorem zEq {ere top:Bool} {L:List Mk} {grp:Rst→Out (List Nd)} (hu: ∀i,i<L.length→(zAH L i).b<256) (hg: ∀s re t,s.i+zAY ere≤L.length→grp s= .ok re t→Adv L s t):
  ∀(f:Nat) (all:List Nd) (n:Nat) (lead:Bool) (s:Rst) (r:Nat × List Nd) (t:Rst),s.i≤L.length→zEe ere top L grp f all n lead s= .ok r t→zJH L s t
 |0,_,_,_,_,_,_,_,h=>by simp[zEe]at h
 |f+1,all,n,lead,s,r,t,hs,h=>by
  have same:zJH L s s:=⟨Nat.le_refl _,hs,Nat.le_refl _⟩
  unfold zEe at h
  split at h
  ·cases h;exact same
  ·rename_i hlt
   split at h
   ·cases h;exact same
   ·split at h
    ·split at h
     ·cases h
     ·cases h;exact same
    ·split at h
     ·cases h
     ·split at h
      ·cases h
      ·rename_i re takes u hx
       have h1:=zDy hu (by omega) (fun re t=>hg s re t) hx
       simp only at h
       split at h
       ·rename_i hr
        simp only[Bool.and_eq_true]at hr
        split at h
        ·cases h
        ·rename_i d v hd
         have h2:=zE1 hr.2 hd
         exact h1.rise.trans (h2.rise.trans (zEq hu hg f _ _ _ _ _ _ h2.le h))
       ·exact h1.rise.trans (zEq hu hg f _ _ _ _ _ _ h1.le h)
theorem zEN {ere:Bool} {L:List Mk} {row:Rst→Out (Nat × List Nd)} (hr: ∀s r t,s.i≤L.length→row s= .ok r t→zJH L s t):
  ∀(f:Nat) (all:List Nd) (n:Nat) (s:Rst) (re:List Nd) (t:Rst),s.i≤L.length→zBf ere L row f all n s= .ok re t→zJH L s t
 |0,_,_,_,_,_,_,h=>by simp[zBf]at h
 |f+1,all,n,s,re,t,hs,h=>by
  unfold zBf at h
  split at h
  ·cases h
  ·rename_i parts r u hx
   have h1:=hr _ _ _ hs hx
   simp only at h
   split at h
   ·cases h
   ·split at h
    ·cases h;exact h1
    ·rename_i hm
     have hm':(ere&&seesAt L u.i [124])=true:=by simpa using hm
     simp only[Bool.and_eq_true]at hm'
     have h2:=zBU (by simp) hm'.2
     have h3:=zEN hr f _ _ _ _ _ (by simpa using h2) h
     exact h1.trans (zJH.trans (t:=⟨u.i+1,u.ended⟩) ⟨Nat.le_succ _,by simpa using h2,Nat.le_refl _⟩ h3)
theorem zEp {ere top:Bool} {L:List Mk} {grp:Rst→Out (List Nd)} : ∀(f:Nat) (all:List Nd) (n:Nat) (lead:Bool) (s:Rst) (r:Nat × List Nd) (t:Rst),zEe ere top L grp f all n lead s= .ok r t→
  L.length≤t.i∨(ere&&seesAt L t.i [124])=true∨(seesAt L t.i (zA7 ere 41)=true∧top=false)
 |0,_,_,_,_,_,_,h=>by simp[zEe]at h
 |f+1,all,n,lead,s,r,t,h=>by
  unfold zEe at h
  split at h
  ·rename_i h1;cases h;exact .inl h1
  ·split at h
   ·rename_i h1;cases h;exact .inr (.inl h1)
   ·split at h
    ·rename_i h1
     split at h
     ·cases h
     ·rename_i h2;cases h;exact .inr (.inr ⟨h1,by simpa using h2⟩)
    ·split at h
     ·cases h
     ·split at h
      ·cases h
      ·simp only at h
       split at h
       ·split at h
        ·cases h
        ·exact zEp f _ _ _ _ _ _ h
       ·exact zEp f _ _ _ _ _ _ h
theorem zEM {ere top:Bool} {L:List Mk} {row:Rst→Out (Nat × List Nd)} (hr: ∀s r t,row s= .ok r t→L.length≤t.i∨(ere&&seesAt L t.i [124])=true∨(seesAt L t.i (zA7 ere 41)=true∧top=false)):
  ∀(f:Nat) (all:List Nd) (n:Nat) (s:Rst) (re:List Nd) (t:Rst),zBf ere L row f all n s= .ok re t→L.length≤t.i∨(seesAt L t.i (zA7 ere 41)=true∧top=false)
 |0,_,_,_,_,_,h=>by simp[zBf]at h
 |f+1,all,n,s,re,t,h=>by
  unfold zBf at h
  split at h
  ·cases h
  ·rename_i parts r u hx
   have h1:=hr _ _ _ hx
   simp only at h
   split at h
   ·cases h
   ·split at h
    ·rename_i hm
     cases h
     rcases h1 with h1|h1|h1
     ·exact .inl h1
     ·rw[h1]at hm;cases hm
     ·exact .inr h1
    ·exact zEM hr f _ _ _ _ _ h
theorem zB7 {ere:Bool} {L:List Mk} (hu: ∀i,i<L.length→(zAH L i).b<256): ∀(k:Nat) (s:Rst) (re:List Nd) (t:Rst),s.i+zAY ere≤L.length→zAN ere L k s= .ok re t→Adv L s t
 |0,_,_,_,_,h=>by simp[zAN]at h
 |k+1,s,re,t,hs,h=>by
  have hw:=zCR ere
  unfold zAN at h
  split at h
  ·cases h
  ·split at h
   ·cases h
   ·rename_i r u hx
    have h1:=zEN (fun s r t h0 h=>zEq hu (fun s re t=>zB7 hu k s re t) _ _ _ _ _ _ _ h0 h) _ _ _ _ _ _ (by simpa using hs) hx
    have h2:=zEM (fun s r t h=>zEp _ _ _ _ _ _ _ h) _ _ _ _ _ _ hx
    split at h
    ·cases h
    ·rename_i hne
     have h3:u.i+zAY ere≤L.length:=by
      rcases h2 with h2|h2
      ·have:=h1.le;omega
      ·exact zBM h2.1
     cases h
     refine⟨?_,h3,?_⟩
     ·have:=h1.lt;simp only at this ⊢;omega
     ·have:=h1.ended;simp only[List.length_append,List.length_set]at this ⊢;omega
theorem zCz {ere top:Bool} {L:List Mk} (hu: ∀i,i<L.length→(zAH L i).b<256) (k:Nat) {s:Rst} {r:Nat × List Nd} {t:Rst} (hs:s.i≤L.length) (h:zDF ere top L (zAN ere L k) s= .ok r t):zJH L s t:=
 zEq hu (fun s re t=>zB7 hu k s re t) _ _ _ _ _ _ _ hs h
theorem zCv {ere:Bool} {L:List Mk} (hu: ∀i,i<L.length→(zAH L i).b<256) (k:Nat) {s:Rst} {re:List Nd} {t:Rst} (hs:s.i≤L.length) (h:zBG ere L k s= .ok re t):zJH L s t:=
 zEN (fun _ _ _ h0 h=>zCz hu k h0 h) _ _ _ _ _ _ hs h
theorem zGE {ere:Bool} {L:List Mk} (k:Nat) {s:Rst} {re:List Nd} {t:Rst} (h:zBG ere L k s= .ok re t):L.length≤t.i∨(seesAt L t.i (zA7 ere 41)=true∧(k==64)=false):=
 zEM (fun _ _ _ h=>zEp _ _ _ _ _ _ _ h) _ _ _ _ _ _ h
end
section
def zB0 (T:List Nat) (d:Nat) (ends:Bool):Nat→Nat→List Mk→Option (List Mk × Nat)
 |0,_,_=>none
 |n+1,i,acc=>
  if T.length≤i then none
  else if T.getD i 0=d then some (acc,i+1)
  else if T.getD i 0=10 then none
  else if T.getD i 0=92 then
   if T.length≤i+1 then none
   else if T.getD (i+1) 0=10∧ends=false then none
   else zB0 T d ends n (i+2) (acc++(if T.getD (i+1) 0=d then [⟨d,true⟩]else [⟨92,false⟩,⟨T.getD (i+1) 0,false⟩]))
  else zB0 T d ends n (i+1) (acc++[⟨T.getD i 0,false⟩])
def zCM (T:List Nat) (d:Nat) (ends:Bool) (i:Nat):Option (List Mk × Nat):=
 if d=92∨d=10 then none else zB0 T d ends (T.length - i) i []
def zF5 (T:List Nat) (most:Nat):Nat→Nat→Nat→Bool→Nat × Bool × Nat
 |0,i,v,h=>(v,h,i)
 |n+1,i,v,h=>
  if T.length≤i then(v,h,i)
  else if 48≤T.getD i 0∧T.getD i 0≤57 then
   if most<T.getD i 0 - 48∨(most - (T.getD i 0 - 48)) / 10<v then zF5 T most n (i+1) v true
   else zF5 T most n (i+1) (10*v+(T.getD i 0 - 48)) h
  else(v,h,i)
def zIK (T:List Nat) (most i:Nat):Option (Nat × Nat):=
 let r:=zF5 T most (T.length - i) i 0 false
 if r.2.2=i∨r.2.1=true then none else some (r.1,r.2.2)
theorem zH3 {T:List Nat} {d:Nat} {ends:Bool} : ∀(n i:Nat) (acc:List Mk) (r:List Mk × Nat),zB0 T d ends n i acc=some r→i<r.2∧r.2≤T.length∧r.1.length+i+1≤acc.length+r.2
 |0,i,acc,r,h=>by simp[zB0]at h
 |n+1,i,acc,r,h=>by
  unfold zB0 at h
  split at h
  ·simp at h
  ·rename_i h0
   split at h
   ·simp only[Option.some.injEq]at h
    subst h
    simp only
    omega
   ·split at h
    ·simp at h
    ·split at h
     ·split at h
      ·simp at h
      ·split at h
       ·simp at h
       ·have:=zH3 n _ _ _ h
        rw[List.length_append]at this
        split at this<;>simp only[List.length_cons,List.length_nil]at this<;>omega
     ·have:=zH3 n _ _ _ h
      rw[List.length_append]at this
      simp only[List.length_cons,List.length_nil]at this
      omega
theorem zF3 {T:List Nat} {d:Nat} {ends:Bool} {i:Nat} {r:List Mk × Nat} (h:zCM T d ends i=some r):i<r.2∧r.2≤T.length∧r.1.length+i+1≤r.2:=by
 unfold zCM at h
 split at h
 ·simp at h
 ·have:=zH3 _ _ _ _ h
  simpa using this
theorem zH4 {T:List Nat} {most:Nat} : ∀(n i v:Nat) (h:Bool),v≤most→i+n≤T.length→i≤(zF5 T most n i v h).2.2∧(zF5 T most n i v h).2.2≤T.length∧(zF5 T most n i v h).1≤most
 |0,i,v,h,hv,hi=>by simp only[zF5];omega
 |n+1,i,v,h,hv,hi=>by
  unfold zF5
  split
  ·simp only;omega
  ·split
   ·rename_i h1
    split
    ·have:=zH4 (T:=T) (most:=most) n (i+1) v true hv (by omega)
     omega
    ·rename_i h2
     have:=zH4 (T:=T) (most:=most) n (i+1) (10*v+(T.getD i 0 - 48)) h (by omega) (by omega)
     omega
   ·simp only;omega
theorem zOJ {T:List Nat} {most i:Nat} {r:Nat × Nat} (h:zIK T most i=some r) (hi:i≤T.length):i<r.2∧r.2≤T.length∧r.1≤most:=by
 unfold zIK at h
 simp only at h
 split at h
 ·simp at h
 ·rename_i h0
  have:=zH4 (T:=T) (most:=most) (T.length - i) i 0 false (Nat.zero_le _) (by omega)
  simp only[Option.some.injEq]at h
  subst h
  simp only
  omega
end
section
def zBY (n:Nd):Int:=if n.op=6 then(if n.max<0 then n.min+1 else max n.max 1)else 1
def zD8 (g:Nat→Option (Int × Nat)):Nat→Int→Nat→Option (Int × Nat)
 |0,sum,to=>some (sum,to)
 |k+1,sum,to=>match g to with
  |none=>none
  |some (w,nx)=>zD8 g k (min (sum+w) 16385) nx
def zBj (re:List Nd):Nat→Nat→Option (Int × Nat)
 |0,_=>none
 |f+1,i=>match re[i]? with
  |none=>none
  |some n=>match zD8 (zBj re f) n.kids.toNat 0 (i+1)with
   |none=>none
   |some (sum,to)=>some (min (zBY n*sum+1) 16385,to)
def zAl (n:Nd):Bool:=
 decide (1≤n.op)&&decide (n.op≤8)
 &&(n.op==1||n.set==Cls.zero)
 &&(n.op==7||n.op==8||n.n==0)
 &&(if n.op=6 then decide (0≤n.min)&&decide (n.min≤255)&&(n.max== -1||decide (n.min≤n.max)&&decide (n.max≤255))else n.min==0&&n.max==0)
 &&(if n.op=6∨n.op=7 then n.kids==1 else if n.op=5 then decide (2≤n.kids)else if n.op=4 then n.kids==0||decide (2≤n.kids)else n.kids==0)
def zAy (g:Nat→List Bool→Option (Nat × List Bool)):Nat→Nat→List Bool→Option (Nat × List Bool)
 |0,i,en=>some (i,en)
 |k+1,i,en=>match g i en with
  |none=>none
  |some (j,en')=>zAy g k j en'
def zAi (re:List Nd):Nat→Nat→Nat→List Bool→Option (Nat × List Bool)
 |0,_,_,_=>none
 |f+1,g,i,en=>match re[i]? with
  |none=>none
  |some n=>
   if !zAl n then none
   else if n.op==8&&(decide (n.n<1)||decide ((en.length:Int)<n.n)|| !en.getD (n.n.toNat - 1) false)then none
   else if n.op=7 then
    if n.n≠(en.length:Int)+1∨255<n.n∨64≤g then none
    else match zAy (zAi re f (g+1)) n.kids.toNat (i+1) (en++[false])with
     |none=>none
     |some (j,en')=>some (j,en'.set en.length true)
   else zAy (zAi re f g) n.kids.toNat (i+1) en
def shapedN (re:List Nd):Bool:=
 match zAi re 260 0 0 []with
 |none=>false
 |some (j,_)=>decide (j=re.length)&&(match zBj re 260 0 with
  |none=>false
  |some (w,_)=>decide (w≤16384))
theorem zED {g:Nat→List Bool→Option (Nat × List Bool)} {h:Nat→Option (Int × Nat)} (hg: ∀i en j en',g i en=some (j,en')→ ∃w,h i=some (w,j)):
  ∀(k i:Nat) (en:List Bool) (j:Nat) (en':List Bool),zAy g k i en=some (j,en')→ ∀sum,∃w,zD8 h k sum i=some (w,j)
 |0,i,en,j,en',he,sum=>by simp only[zAy,Option.some.injEq,Prod.mk.injEq]at he;exact⟨sum,by simp[zD8,he.1]⟩
 |k+1,i,en,j,en',he,sum=>by
  unfold zAy at he
  split at he
  ·cases he
  ·rename_i j1 en1 h1
   obtain⟨w,hw⟩:=hg _ _ _ _ h1
   obtain⟨w2,hw2⟩:=zED hg k _ _ _ _ he (min (sum+w) 16385)
   exact⟨w2,by simp only[zD8,hw,hw2]⟩
theorem zBa (re:List Nd): ∀(f g i:Nat) (en:List Bool) (j:Nat) (en':List Bool),zAi re f g i en=some (j,en')→ ∃w,zBj re f i=some (w,j)
 |0,_,_,_,_,_,h=>by simp[zAi]at h
 |f+1,g,i,en,j,en',h=>by
  unfold zAi at h
  split at h
  ·cases h
  ·rename_i n hn
   have fin: ∀g' en1 j1 en2,zAy (zAi re f g') n.kids.toNat (i+1) en1=some (j1,en2)→ ∃w,zBj re (f+1) i=some (w,j1):=fun g' en1 j1 en2 hk=>by
    obtain⟨w,hw⟩:=zED (fun i en j en'=>zBa re f g' i en j en') _ _ _ _ _ hk 0
    exact⟨min (zBY n*w+1) 16385,by simp only[zBj,hn,hw]⟩
   split at h
   ·cases h
   ·split at h
    ·cases h
    ·split at h
     ·split at h
      ·cases h
      ·split at h
       ·cases h
       ·rename_i j1 en1 hk
        cases h
        exact fin _ _ _ _ hk
     ·exact fin _ _ _ _ h
end
section
def zMn (s:Rst) (re:List Nd) (t:Rst):Prop:=0<re.length∧re.length+4*s.i≤4*t.i
theorem zEZ {ere first:Bool} {L:List Mk} {grp:Rst→Out (List Nd)} {s:Rst} {r:List Nd × Bool} {t:Rst} (hu: ∀i,i<L.length→(zAH L i).b<256) (hs:s.i<L.length)
  (hg: ∀re t,s.i+zAY ere≤L.length→grp s= .ok re t→zMn s re t) (h:zCG ere first L grp s= .ok r t):zMn s r.1 t:=by
 have one: ∀(x:Nd) (j:Nat),s.i<j→zMn s [x] ⟨j,s.ended⟩:=fun x j hj=>⟨by simp,by simp only[List.length_singleton];omega⟩
 unfold zCG at h
 simp only at h
 split at h
 ·cases h;exact one _ _ (Nat.lt_succ_self _)
 ·split at h
  ·unfold zNx at h;cases h;exact one _ _ (Nat.lt_succ_self _)
  ·split at h
   ·unfold zDD at h
    split at h
    ·cases h
    ·rename_i hx;cases h;exact one _ _ (zCk hu hx).1
   ·split at h
    ·unfold zA0 at h
     split at h
     ·cases h
     ·rename_i hne
      split at h
      ·cases h
      ·simp only at h
       split at h
       ·rename_i he
        have hw:zAY ere=2:=by cases ere<;>simp_all[zAY]
        unfold zAx at h
        split at h
        ·rename_i hx;cases h;exact hg _ _ (by omega) hx
        ·cases h
       ·split at h
        ·cases h;exact one _ _ (by omega)
        ·split at h
         ·cases h;exact one _ _ (by omega)
         ·split at h
          ·split at h
           ·cases h
           ·split at h
            ·cases h
            ·cases h;exact one _ _ (by omega)
          ·cases h
    ·split at h
     ·unfold zDj at h;split at h<;>(cases h;exact one _ _ (Nat.lt_succ_self _))
     ·split at h
      ·unfold zKU at h;split at h<;>(cases h;exact one _ _ (Nat.lt_succ_self _))
      ·split at h
       ·rename_i he
        have hw:zAY ere=1:=by cases ere<;>simp_all[zAY]
        unfold zAx at h
        split at h
        ·rename_i hx;cases h;exact hg _ _ (by omega) hx
        ·cases h
       ·cases h;exact one _ _ (Nat.lt_succ_self _)
theorem zD2 {ere top:Bool} {L:List Mk} {grp:Rst→Out (List Nd)} (hu: ∀i,i<L.length→(zAH L i).b<256) (hg: ∀s re t,s.i+zAY ere≤L.length→grp s= .ok re t→zMn s re t)
  (ha: ∀s re t,s.i+zAY ere≤L.length→grp s= .ok re t→Adv L s t) (s0:Nat):
  ∀(f:Nat) (all:List Nd) (n:Nat) (lead:Bool) (s:Rst) (r:Nat × List Nd) (t:Rst),s.i≤L.length→all.length+4*s0≤4*s.i→n+s0≤s.i→zEe ere top L grp f all n lead s= .ok r t→r.2.length+4*s0≤4*t.i∧r.1+s0≤t.i
 |0,_,_,_,_,_,_,_,_,_,h=>by simp[zEe]at h
 |f+1,all,n,lead,s,r,t,hs,h1,h2,h=>by
  unfold zEe at h
  split at h
  ·cases h;exact⟨h1,h2⟩
  ·rename_i hlt
   split at h
   ·cases h;exact⟨h1,h2⟩
   ·split at h
    ·split at h
     ·cases h
     ·cases h;exact⟨h1,h2⟩
    ·split at h
     ·cases h
     ·split at h
      ·cases h
      ·rename_i re takes u hx
       have hb:=zEZ hu (by omega) (fun re t=>hg s re t) hx
       have hv:=zDy hu (by omega) (fun re t=>ha s re t) hx
       have hlt1:=hv.lt
       obtain⟨_,hb2⟩:=hb
       simp only at h hb2
       split at h
       ·rename_i hr
        simp only[Bool.and_eq_true]at hr
        split at h
        ·cases h
        ·rename_i d v hd
         have h3:=zE1 hr.2 hd
         have h4:=h3.lt
         exact zD2 hu hg ha s0 f _ _ _ _ _ _ h3.le (by simp only[List.length_append,List.length_cons];omega) (by omega) h
       ·exact zD2 hu hg ha s0 f _ _ _ _ _ _ hv.le (by simp only[List.length_append];omega) (by omega) h
theorem zDp {ere:Bool} {L:List Mk} {row:Rst→Out (Nat × List Nd)} (hr: ∀s r t,s.i≤L.length→row s= .ok r t→zJH L s t) (hz: ∀s r t,s.i≤L.length→row s= .ok r t→r.2.length+4*s.i≤4*t.i) (s0:Nat):
  ∀(f:Nat) (all:List Nd) (n:Nat) (s:Rst) (re:List Nd) (t:Rst),s.i≤L.length→all.length+4*s0≤4*s.i→zBf ere L row f all n s= .ok re t→re.length+4*s0≤4*t.i+2
 |0,_,_,_,_,_,_,_,h=>by simp[zBf]at h
 |f+1,all,n,s,re,t,hs,h1,h=>by
  unfold zBf at h
  split at h
  ·cases h
  ·rename_i parts r u hx
   have h2:=hr _ _ _ hs hx
   have h3:=hz _ _ _ hs hx
   simp only at h h3
   split at h
   ·cases h
   ·have hl: ∀(x:Nd),(all++(if parts=1 then r else x::r)).length+4*s0≤4*u.i+1:=fun x=>by
     split<;>simp only[List.length_append,List.length_cons]<;>omega
    split at h
    ·cases h
     split
     ·have:=hl (zFA parts);simp only[List.length_cons];omega
     ·have:=hl (zFA parts);omega
    ·rename_i hm
     have hm':(ere&&seesAt L u.i [124])=true:=by simpa using hm
     simp only[Bool.and_eq_true]at hm'
     have h4:=zBU (by simp) hm'.2
     have:=hl (zFA parts)
     exact zDp hr hz s0 f _ _ _ _ _ (by simpa using h4) (by simp only;omega) h
theorem zDA {ere:Bool} {L:List Mk} (hu: ∀i,i<L.length→(zAH L i).b<256): ∀(k:Nat) (s:Rst) (re:List Nd) (t:Rst),s.i+zAY ere≤L.length→zAN ere L k s= .ok re t→zMn s re t
 |0,_,_,_,_,h=>by simp[zAN]at h
 |k+1,s,re,t,hs,h=>by
  have hw:=zCR ere
  unfold zAN at h
  split at h
  ·cases h
  ·split at h
   ·cases h
   ·rename_i r u hx
    have h1:=zDp (fun s r t h0 h=>zCz hu k h0 h)
     (fun s r t h0 h=>(zD2 hu (fun s re t=>zDA hu k s re t) (fun s re t=>zB7 hu k s re t) s.i _ _ _ _ _ _ _ h0 (by simp) (by simp) h).1) (s.i+zAY ere) _ _ _ _ _ _ (by simpa using hs) (by simp) hx
    split at h
    ·cases h
    ·cases h
     refine⟨by simp,?_⟩
     simp only[List.length_cons]
     omega
theorem zFD {ere top:Bool} {L:List Mk} (hu: ∀i,i<L.length→(zAH L i).b<256) (k:Nat) {s:Rst} {r:Nat × List Nd} {t:Rst} (hs:s.i≤L.length) (h:zDF ere top L (zAN ere L k) s= .ok r t):r.2.length+4*s.i≤4*t.i∧r.1+s.i≤t.i:=
 zD2 hu (fun s re t=>zDA hu k s re t) (fun s re t=>zB7 hu k s re t) s.i _ _ _ _ _ _ _ hs (by simp) (by simp) h
theorem zCT {ere:Bool} {L:List Mk} (hu: ∀i,i<L.length→(zAH L i).b<256) (k:Nat) {s:Rst} {re:List Nd} {t:Rst} (hs:s.i≤L.length) (h:zBG ere L k s= .ok re t):re.length+4*s.i≤4*t.i+2:=
 zDp (fun _ _ _ h0 h=>zCz hu k h0 h) (fun _ _ _ h0 h=>(zFD hu k h0 h).1) s.i _ _ _ _ _ _ hs (by simp) h
end
section
theorem zFL {g h:Nat→List Bool→Option (Nat × List Bool)} (hg: ∀i en r,g i en=some r→h i en=some r): ∀(k i:Nat) (en:List Bool) (r:Nat × List Bool),zAy g k i en=some r→zAy h k i en=some r
 |0,_,_,_,he=>he
 |k+1,i,en,r,he=>by
  unfold zAy at he ⊢
  split at he
  ·cases he
  ·rename_i j en1 h1
   rw[hg _ _ _ h1]
   exact zFL hg k _ _ _ he
theorem zDP (re:List Nd): ∀(f g i:Nat) (en:List Bool) (r:Nat × List Bool),zAi re f g i en=some r→zAi re (f+1) g i en=some r
 |0,_,_,_,_,h=>by simp[zAi]at h
 |f+1,g,i,en,r,h=>by
  rw[zAi]at h ⊢
  split at h
  ·cases h
  ·split at h
   ·cases h
   ·split at h
    ·cases h
    ·rename_i n _ hgood href
     rw[if_neg hgood,if_neg href]
     split at h
     ·rename_i h7
      rw[if_pos h7]
      split at h
      ·cases h
      ·rename_i hc
       rw[if_neg hc]
       split at h
       ·cases h
       ·rename_i j en1 hk
        rw[zFL (fun i en r=>zDP re f (g+1) i en r) _ _ _ _ hk]
        exact h
     ·rename_i h7
      rw[if_neg h7]
      exact zFL (fun i en r=>zDP re f g i en r) _ _ _ _ h
theorem zLA (re:List Nd) {f f' g i:Nat} {en:List Bool} {r:Nat × List Bool} (hf:f≤f') (h:zAi re f g i en=some r):zAi re f' g i en=some r:=by
 induction hf with
 |refl=>exact h
 |step _ ih=>exact zDP re _ _ _ _ _ ih
def Tr (f g:Nat) (l:List Nd) (a b:List Bool):Prop:= ∀pre post,zAi (pre++l++post) f g pre.length a=some (pre.length+l.length,b)
def Trs (f g n:Nat) (l:List Nd) (a b:List Bool):Prop:= ∀pre post,zAy (zAi (pre++l++post) f g) n pre.length a=some (pre.length+l.length,b)
theorem Tr.mono {f f' g:Nat} {l:List Nd} {a b:List Bool} (h:Tr f g l a b) (hf:f≤f'):Tr f' g l a b:=fun pre post=>zLA _ hf (h pre post)
theorem Trs.nil (f g:Nat) (a:List Bool):Trs f g 0 [] a a:=fun pre post=>by simp[zAy]
theorem zIw (g:Nat→List Bool→Option (Nat × List Bool)): ∀(m n i:Nat) (en:List Bool) (j:Nat) (en':List Bool),zAy g m i en=some (j,en')→zAy g (m+n) i en=zAy g n j en'
 |0,n,i,en,j,en',h=>by
  simp only[zAy,Option.some.injEq,Prod.mk.injEq]at h
  rw[h.1,h.2,Nat.zero_add]
 |m+1,n,i,en,j,en',h=>by
  rw[zAy]at h
  rw[show m+1+n=(m+n)+1 by omega,zAy]
  split at h
  ·cases h
  ·rename_i j1 en1 h1
   exact zIw g m n _ _ _ _ h
theorem Trs.append {f g m n:Nat} {l l':List Nd} {a b c:List Bool} (h:Trs f g m l a b) (h':Trs f g n l' b c):Trs f g (m+n) (l++l') a c:=fun pre post=>by
 have h1:=h pre (l'++post)
 have h2:=h' (pre++l) post
 rw[show pre++(l++l')++post=pre++l++(l'++post)by simp]
 rw[zIw _ m n _ _ _ _ h1]
 rw[show pre++l++l'++post=pre++l++(l'++post)by simp,List.length_append]at h2
 rw[h2,List.length_append]
 simp only[Nat.add_assoc]
theorem Tr.one {f g:Nat} {l:List Nd} {a b:List Bool} (h:Tr f g l a b):Trs f g 1 l a b:=fun pre post=>by
 simp only[zAy,h pre post]
theorem zJ3 (pre l post:List Nd) (x:Nd):(pre++(x::l)++post)[pre.length]?=some x:=by simp
theorem Tr.node {f g:Nat} {x:Nd} {l:List Nd} {a b:List Bool} (hx:zAl x=true) (h8:x.op≠8) (h7:x.op≠7) (h:Trs f g x.kids.toNat l a b):Tr (f+1) g (x::l) a b:=fun pre post=>by
 have h1:=h (pre++[x]) post
 rw[show pre++[x]++l++post=pre++(x::l)++post by simp,show(pre++[x]).length=pre.length+1 by simp]at h1
 rw[zAi,zJ3]
 simp only[hx,Bool.not_true,Bool.false_eq_true,if_false,show(x.op==8)=false by simpa using h8,Bool.false_and,if_neg h7]
 rw[h1,List.length_cons]
 simp only[Nat.add_assoc,Nat.add_comm 1]
theorem Tr.leaf {f g:Nat} {x:Nd} {a:List Bool} (hx:zAl x=true) (h8:x.op≠8) (h7:x.op≠7) (hk:x.kids=0):Tr (f+1) g [x] a a:=
 Tr.node hx h8 h7 (by rw[hk];exact Trs.nil _ _ _)
theorem Tr.ref {f g n:Nat} {a:List Bool} (h1:1≤n) (h2:n≤a.length) (h3:a.getD (n - 1) false=true):Tr (f+1) g [zF1 n] a a:=fun pre post=>by
 rw[zAi,zJ3]
 have hg:zAl (zF1 n)=true:=by simp[zAl,zF1]
 have hb:(decide ((zF1 n).n<1)||decide ((a.length:Int)<(zF1 n).n)|| !a.getD ((zF1 n).n.toNat - 1) false)=false:=by
  have hn1: ¬(zF1 n).n<1:=by show¬(n:Int)<1;omega
  have hn2: ¬(a.length:Int)<(zF1 n).n:=by show¬(a.length:Int)<(n:Int);omega
  have hn3:(zF1 n).n.toNat=n:=rfl
  rw[decide_eq_false hn1,decide_eq_false hn2,hn3,h3]
  rfl
 simp only[hg,Bool.not_true,Bool.false_eq_true,if_false,hb,Bool.and_false]
 rw[if_neg (by show¬(8:Int)=7;decide)]
 simp[zF1,zAy]
theorem Tr.group {f g:Nat} {l:List Nd} {a b:List Bool} (ha:a.length<255) (hg:g<64) (h:Tr f (g+1) l (a++[false]) b):Tr (f+1) g (zBz (a.length+1)::l) a (b.set a.length true):=fun pre post=>by
 have h1:=h.one (pre++[zBz (a.length+1)]) post
 rw[show pre++[zBz (a.length+1)]++l++post=pre++(zBz (a.length+1)::l)++post by simp,show(pre++[zBz (a.length+1)]).length=pre.length+1 by simp]at h1
 rw[zAi,zJ3]
 have hgd:zAl (zBz (a.length+1))=true:=by simp[zAl,zBz]
 simp only[hgd,Bool.not_true,Bool.false_eq_true,if_false,show((zBz (a.length+1)).op==8)=false by rfl,Bool.false_and]
 rw[if_pos (by rfl),if_neg (by simp only[zBz];omega)]
 rw[show(zBz (a.length+1)).kids.toNat=1 from rfl,h1]
 simp only[List.length_cons,Nat.add_assoc,Nat.add_comm 1]
theorem zFK (L:List Mk): ∀(f:Nat) (n:Int) (i:Nat),-1≤n→ -1≤(zA8 L f n i).1
 |0,n,i,h1=>h1
 |f+1,n,i,h1=>by
  unfold zA8
  split
  ·exact h1
  ·split
   ·exact h1
   ·rename_i h3
    simp only[Bool.or_eq_true,decide_eq_true_eq,not_or]at h3
    exact zFK L f _ _ (by omega)
theorem zEE {ere:Bool} {L:List Mk} {s:Rst} {lo hi:Int} {t:Rst} (h:zAZ ere L s= .ok (lo,hi) t):zAl (zEf lo hi)=true∧t.ended=s.ended:=by
 unfold zAZ at h
 have h0:=zFK L (L.length - (s.i+zAY ere)) (-1) (s.i+zAY ere) (by omega)
 change -1≤(zDO L (s.i+zAY ere)).1 at h0
 generalize zDO L (s.i+zAY ere)=a at h h0
 obtain⟨b,hb⟩: ∃b,b=(if seesAt L a.2 [44]then zDO L (a.2+1)else a):=⟨_,rfl⟩
 have hb1: -1≤b.1:=by
  rw[hb]
  split
  ·exact zFK L _ _ _ (by omega)
  ·exact h0
 simp only[←hb]at h
 split at h
 ·cases h
 ·rename_i hc
  simp only[Bool.or_eq_true,Bool.and_eq_true,decide_eq_true_eq,not_or,not_and]at hc
  cases h
  refine⟨?_,rfl⟩
  unfold zAl zEf
  simp only[beq_self_eq_true,if_true,true_or,Bool.or_true,Bool.and_true,show((6:Int)==1)=false from rfl,show((6:Int)==7)=false from rfl,show((6:Int)==8)=false from rfl,Bool.false_or]
  rw[decide_eq_true (show(0:Int)≤a.1 by omega),decide_eq_true (show a.1≤255 by omega)]
  by_cases hm:b.1= -1
  ·rw[hm];rfl
  ·rw[decide_eq_true (show a.1≤b.1 by omega),decide_eq_true (show b.1≤255 by omega)]
   simp
theorem zMX {ere:Bool} {L:List Mk} {s:Rst} {d:Nd} {t:Rst} (h:zEY ere L s= .ok d t):zAl d=true∧t.ended=s.ended∧d.op=6∧d.kids=1:=by
 unfold zEY at h
 split at h
 ·cases h;exact⟨by decide,rfl,rfl,rfl⟩
 ·split at h
  ·cases h;exact⟨by decide,rfl,rfl,rfl⟩
  ·split at h
   ·cases h;exact⟨by decide,rfl,rfl,rfl⟩
   ·split at h
    ·cases h
    ·rename_i hi
     cases h
     exact⟨(zEE hi).1,(zEE hi).2,rfl,rfl⟩
theorem zLt (c:Cls):zAl (zG0 c)=true:=by simp[zAl,zG0]
theorem zMA (b:Nat):zAl (zCe b)=true:=by simp[zAl,zCe]
theorem zMe {k:Nat} (h:k≠1):zAl (zFA k)=true:=by
 by_cases hz:k=0
 ·subst hz;rfl
 ·have h2:(2:Int)≤(k:Int):=by omega
  simp[zAl,zFA,h2]
theorem zMk {k:Nat} (h:2≤k):zAl (zJL k)=true:=by
 have h2:(2:Int)≤(k:Int):=by omega
 simp[zAl,zJL,h2]
theorem zLZ {ere first:Bool} {L:List Mk} {grp:Rst→Out (List Nd)} {f g:Nat} {s:Rst} {r:List Nd × Bool} {t:Rst} (hl:s.ended.length≤255) (hg: ∀re t,grp s= .ok re t→Tr (f+1) g re s.ended t.ended∧t.ended.length≤255)
  (h:zCG ere first L grp s= .ok r t):Tr (f+1) g r.1 s.ended t.ended∧t.ended.length≤255:=by
 have one: ∀(x:Nd),zAl x=true→x.op≠8→x.op≠7→x.kids=0→Tr (f+1) g [x] s.ended s.ended∧s.ended.length≤255:=fun x h1 h2 h3 h4=>⟨Tr.leaf h1 h2 h3 h4,hl⟩
 have hone: ∀b,Tr (f+1) g [zCe b] s.ended s.ended∧s.ended.length≤255:=fun b=>one _ (zMA b) (by show(1:Int)≠8;decide) (by show(1:Int)≠7;decide) rfl
 have hset: ∀c,Tr (f+1) g [zG0 c] s.ended s.ended∧s.ended.length≤255:=fun c=>one _ (zLt c) (by show(1:Int)≠8;decide) (by show(1:Int)≠7;decide) rfl
 unfold zCG at h
 simp only at h
 split at h
 ·cases h;exact hone _
 ·split at h
  ·unfold zNx at h;cases h;exact hset _
  ·split at h
   ·unfold zDD at h
    split at h
    ·cases h
    ·cases h;exact hset _
   ·split at h
    ·unfold zA0 at h
     split at h
     ·cases h
     ·split at h
      ·cases h
      ·simp only at h
       split at h
       ·unfold zAx at h
        split at h
        ·rename_i hx;cases h;exact hg _ _ hx
        ·cases h
       ·split at h
        ·cases h;exact hone _
        ·split at h
         ·cases h;exact hone _
         ·split at h
          ·rename_i hd
           simp only[Bool.and_eq_true,decide_eq_true_eq]at hd
           split at h
           ·cases h
           ·rename_i h1
            split at h
            ·cases h
            ·rename_i h2
             cases h
             exact⟨Tr.ref (by omega) (by omega) (by simpa using h2),hl⟩
          ·cases h
    ·split at h
     ·unfold zDj at h
      split at h
      ·cases h;exact hone _
      ·cases h;exact one _ (by decide) (by decide) (by decide) rfl
     ·split at h
      ·unfold zKU at h
       split at h
       ·cases h;exact hone _
       ·cases h;exact one _ (by decide) (by decide) (by decide) rfl
      ·split at h
       ·unfold zAx at h
        split at h
        ·rename_i hx;cases h;exact hg _ _ hx
        ·cases h
       ·cases h;exact hone _
theorem zEo {ere top:Bool} {L:List Mk} {grp:Rst→Out (List Nd)} {f g:Nat} (hg: ∀s re t,s.ended.length≤255→grp s= .ok re t→Tr (f+1) g re s.ended t.ended∧t.ended.length≤255) (a:List Bool):
  ∀(fu:Nat) (all:List Nd) (n:Nat) (lead:Bool) (s:Rst) (r:Nat × List Nd) (t:Rst),s.ended.length≤255→Trs (f+2) g n all a s.ended→zEe ere top L grp fu all n lead s= .ok r t→Trs (f+2) g r.1 r.2 a t.ended∧t.ended.length≤255
 |0,_,_,_,_,_,_,_,_,h=>by simp[zEe]at h
 |fu+1,all,n,lead,s,r,t,hl,ha,h=>by
  unfold zEe at h
  split at h
  ·cases h;exact⟨ha,hl⟩
  ·split at h
   ·cases h;exact⟨ha,hl⟩
   ·split at h
    ·split at h
     ·cases h
     ·cases h;exact⟨ha,hl⟩
    ·split at h
     ·cases h
     ·split at h
      ·cases h
      ·rename_i re takes u hx
       have h1:=zLZ hl (fun re t=>hg s re t hl) hx
       simp only at h h1
       split at h
       ·split at h
        ·cases h
        ·rename_i d v hd
         have h2:=zMX hd
         have h3:Tr (f+2) g (d::re) s.ended u.ended:=Tr.node h2.1 (by rw[h2.2.2.1];decide) (by rw[h2.2.2.1];decide) (by rw[h2.2.2.2];exact h1.1.one)
         exact zEo hg a fu _ _ _ _ _ _ (by rw[h2.2.1];exact h1.2) (by rw[h2.2.1];exact ha.append h3.one) h
       ·exact zEo hg a fu _ _ _ _ _ _ h1.2 (ha.append (h1.1.mono (Nat.le_succ _)).one) h
theorem zEL {ere:Bool} {L:List Mk} {row:Rst→Out (Nat × List Nd)} {f g:Nat} (hr: ∀s r t,s.ended.length≤255→row s= .ok r t→Trs (f+2) g r.1 r.2 s.ended t.ended∧t.ended.length≤255) (a:List Bool):
  ∀(fu:Nat) (all:List Nd) (n:Nat) (s:Rst) (re:List Nd) (t:Rst),s.ended.length≤255→Trs (f+3) g n all a s.ended→zBf ere L row fu all n s= .ok re t→Tr (f+4) g re a t.ended∧t.ended.length≤255
 |0,_,_,_,_,_,_,_,h=>by simp[zBf]at h
 |fu+1,all,n,s,re,t,hl,ha,h=>by
  unfold zBf at h
  split at h
  ·cases h
  ·rename_i parts r u hx
   have h1:=hr _ _ _ hl hx
   simp only at h h1
   split at h
   ·cases h
   ·have h2:Tr (f+3) g (if parts=1 then r else zFA parts::r) s.ended u.ended:=by
     split
     ·rename_i hp
      subst hp
      have h3:=h1.1
      intro pre post
      have h4:=h3 pre post
      simp only[zAy]at h4
      split at h4
      ·cases h4
      ·rename_i j en hn
       cases h4
       exact zDP _ _ _ _ _ _ hn
     ·rename_i hp
      refine Tr.node ?_ (by show(4:Int)≠8;decide) (by show(4:Int)≠7;decide) (by rw[show(zFA parts).kids.toNat=parts from rfl];exact h1.1)
      exact zMe hp
    have h5:=ha.append h2.one
    split at h
    ·cases h
     split
     ·rename_i hn
      refine⟨Tr.node ?_ (by show(5:Int)≠8;decide) (by show(5:Int)≠7;decide) (by rw[show(zJL (n+1)).kids.toNat=n+1 from rfl];exact h5),h1.2⟩
      exact zMk (by omega)
     ·rename_i hn
      have hn0:n=0:=by omega
      subst hn0
      refine⟨fun pre post=>?_,h1.2⟩
      have h4:=h5 pre post
      rw[Nat.zero_add]at h4
      simp only[zAy]at h4
      split at h4
      ·cases h4
      ·rename_i j en hn
       cases h4
       exact zDP _ _ _ _ _ _ hn
    ·exact zEL hr a fu _ _ ⟨u.i+1,u.ended⟩ _ _ h1.2 h5 h
theorem zGe {ere:Bool} {L:List Mk} : ∀(k:Nat),k≤64→ ∀(s:Rst) (re:List Nd) (t:Rst),s.ended.length≤255→zAN ere L k s= .ok re t→Tr (4*k+1) (64 - k) re s.ended t.ended∧t.ended.length≤255
 |0,_,_,_,_,_,h=>by simp[zAN]at h
 |k+1,hk,s,re,t,hl,h=>by
  unfold zAN at h
  split at h
  ·cases h
  ·rename_i hne
   split at h
   ·cases h
   ·rename_i r u hx
    have h1:=zEL (f:=4*k) (g:=64 - k) (fun s r t h0 h=>zEo (fun s re t=>zGe k (by omega) s re t) s.ended _ _ _ _ _ _ _ h0 (Trs.nil _ _ _) h) (s.ended++[false]) _ _ _ _ _ _ (by simp;omega) (Trs.nil _ _ _) hx
    split at h
    ·cases h
    ·cases h
     rw[show 64 - k=(64 - (k+1))+1 by omega]at h1
     exact⟨Tr.group (by omega) (by omega) h1.1,by simpa using h1.2⟩
theorem zJT {ere:Bool} {L:List Mk} (k:Nat) (hk:k≤64) {s:Rst} {re:List Nd} {t:Rst} (hl:s.ended.length≤255) (h:zBG ere L k s= .ok re t):Tr (4*k+4) (64 - k) re s.ended t.ended∧t.ended.length≤255:=
 zEL (f:=4*k) (g:=64 - k) (fun _ _ _ h0 h=>zEo (fun s re t=>zGe k hk s re t) _ _ _ _ _ _ _ _ h0 (Trs.nil _ _ _) h) s.ended _ _ _ _ _ _ hl (Trs.nil _ _ _) h
theorem zCm {ere:Bool} {L:List Mk} {re:List Nd} {t:Rst} (h:zBG ere L 64 ⟨0,[]⟩= .ok re t):zAi re 260 0 0 []=some (re.length,t.ended):=by
 have:=(zJT 64 (Nat.le_refl _) (by simp) h).1 [] []
 simpa using this
end
section
def Cls.has (c:Cls) (b:Nat):Bool:=(c.word (b / 64)).getLsbD (b % 64)
def Cls.els (c:Cls):List Nat:=(List.range 256).filter c.has
theorem zOX {n i:Nat} (hn:n<64):(zJK n).getLsbD i=decide (i=n):=by
 unfold zJK
 rw[BitVec.getLsbD_shiftLeft,BitVec.getLsbD_one]
 by_cases h:i=n
 ·subst h;simp[hn]
 ·by_cases h2:i<n
  ·simp[h2,h]
  ·have:i - n≠0:=by omega
   simp[h,this]
theorem zMx (c:Cls) (j k:Nat) (hj:j<4) (hk:k<4) (v:BitVec 64):(c.set j v).word k=if k=j then v else c.word k:=by
 match j,hj,k,hk with
 |0,_,0,_|0,_,1,_|0,_,2,_|0,_,3,_|1,_,0,_|1,_,1,_|1,_,2,_|1,_,3,_|2,_,0,_|2,_,1,_|2,_,2,_|2,_,3,_|3,_,0,_|3,_,1,_|3,_,2,_|3,_,3,_=>rfl
theorem zOS (c:Cls) {b i:Nat} (hb:b<256) (hi:i<256):(c.add b).has i=(c.has i||decide (i=b)):=by
 unfold Cls.has Cls.add
 rw[zMx _ _ _ (by omega) (by omega)]
 by_cases h:i / 64=b / 64
 ·rw[if_pos h,h,orw,BitVec.getLsbD_or,zOX (by omega)]
  congr 1
  rw[decide_eq_decide]
  omega
 ·rw[if_neg h,decide_eq_false (show i≠b by omega),Bool.or_false]
theorem zN2 (a b:Cls) (k:Nat):(a.or b).word k=a.word k ||| b.word k:=by
 match k with
 |0|1|2|_+3=>rfl
theorem zMz (a b:Cls) (k:Nat):(a.and b).word k=a.word k &&& b.word k:=by
 match k with
 |0|1|2|_+3=>rfl
theorem zMy (a:Cls) (k:Nat):a.not.word k= ~~~(a.word k):=by
 match k with
 |0|1|2|_+3=>rfl
theorem zOw (a b:Cls) (i:Nat):(a.or b).has i=(a.has i||b.has i):=by
 unfold Cls.has;rw[zN2,BitVec.getLsbD_or]
theorem zOR (a b:Cls) (i:Nat):(a.and b).has i=(a.has i&&b.has i):=by
 unfold Cls.has;rw[zMz,BitVec.getLsbD_and]
theorem zOQ (a:Cls) (i:Nat):a.not.has i= !a.has i:=by
 unfold Cls.has;rw[zMy,BitVec.getLsbD_not,decide_eq_true (show i % 64<64 by omega),Bool.true_and]
theorem zNT (i:Nat):Cls.zero.has i=false:=by
 unfold Cls.has Cls.zero Cls.word
 split<;>simp
theorem zKS: ∀(l:List Nat) (c:Cls) {i:Nat},(∀b∈l,b<256)→i<256→(l.foldl Cls.add c).has i=(c.has i||decide (i∈l))
 |[],c,i,_,_=>by simp
 |b::l,c,i,hl,hi=>by
  rw[List.foldl_cons,zKS l (c.add b) (fun x hx=>hl x (List.mem_cons_of_mem _ hx)) hi,zOS c (hl b (List.mem_cons_self ..)) hi,Bool.or_assoc]
  congr 1
  simp
theorem zOx {l:List Nat} {i:Nat} (hl: ∀b∈l,b<256) (hi:i<256):(Cls.of l).has i=decide (i∈l):=by
 unfold Cls.of
 rw[zKS l _ hl hi,zNT,Bool.false_or]
theorem Cls.ext' {c d:Cls} (h: ∀i,i<256→c.has i=d.has i):c=d:=by
 have hw: ∀k,k<4→c.word k=d.word k:=fun k hk=>by
  refine BitVec.eq_of_getLsbD_eq fun i hi=>?_
  have:=h (k*64+i) (by omega)
  unfold Cls.has at this
  rwa[show(k*64+i) / 64=k by omega,show(k*64+i) % 64=i by omega]at this
 obtain⟨c0,c1,c2,c3⟩:=c
 obtain⟨d0,d1,d2,d3⟩:=d
 have h0:=hw 0 (by omega)
 have h1:=hw 1 (by omega)
 have h2:=hw 2 (by omega)
 have h3:=hw 3 (by omega)
 simp only[Cls.word]at h0 h1 h2 h3
 subst h0 h1 h2 h3
 rfl
theorem zOM {c:Cls} {b:Nat} :b∈c.els↔b<256∧c.has b=true:=by
 unfold Cls.els
 rw[List.mem_filter,List.mem_range]
theorem zNs {c:Cls} {b:Nat} (h:b∈c.els):b<256:=(zOM.1 h).1
theorem zHg (c:Cls):c.els.length≤256:=by
 have:=List.length_filter_le c.has (List.range 256)
 rwa[List.length_range]at this
def zDq (l:List (Nat × Nat)) (b:Nat):List (Nat × Nat):=
 match l.getLast? with
 |none=>[(b,b)]
 |some r=>if r.2+1=b then l.dropLast++[(r.1,b)]else l++[(b,b)]
def zIb (l:List Nat):List (Nat × Nat):=l.foldl zDq []
def Cls.runs (c:Cls):List (Nat × Nat):=zIb c.els
def zJJ (b:Nat):List Nat:=if b=91∨b=93∨b=45∨b=94 then [91,46,b,46,93]else [b]
def zHw (r:Nat × Nat):List Nat:=zJJ r.1++(if r.2=r.1 then []else 45::zJJ r.2)
def zPO:Cls:=Cls.range 0 255
def Cls.neg (c:Cls):Bool:=decide (c≠zPO)&&(c.has 10||decide (c=Cls.zero))
def zB8 (c:Cls):List Nat:=[91]++((if c.neg then [94]else [])++((if c.neg then c.not else c).runs.flatMap zHw++[93]))
theorem zHx (l:List (Nat × Nat)) (b:Nat):(zDq l b).length≤l.length+1:=by
 unfold zDq
 split
 ·simp
 ·split
  ·simp
  ·simp
theorem zIa (l:List Nat): ∀r:List (Nat × Nat),(l.foldl zDq r).length≤r.length+l.length:=by
 induction l with
 |nil=>intro r;simp
 |cons b l ih=>
  intro r
  have:=ih (zDq r b)
  have:=zHx r b
  rw[List.foldl_cons,List.length_cons]
  omega
theorem zEP (c:Cls):c.runs.length≤256:=by
 have:=zIa c.els []
 have:=zHg c
 unfold Cls.runs zIb
 simp at*
 omega
theorem zKs {l:List (Nat × Nat)} {b:Nat} (h: ∀r∈l,r.1<256∧r.2<256) (hb:b<256): ∀r∈zDq l b,r.1<256∧r.2<256:=by
 intro r hr
 unfold zDq at hr
 split at hr
 ·simp only[List.mem_singleton]at hr;subst hr;exact⟨hb,hb⟩
 ·rename_i q hq
  have hq':=h q (List.mem_of_getLast? hq)
  split at hr
  ·rcases List.mem_append.1 hr with h1|h1
   ·exact h r (List.dropLast_subset _ h1)
   ·simp only[List.mem_singleton]at h1;subst h1;exact⟨hq'.1,hb⟩
  ·rcases List.mem_append.1 hr with h1|h1
   ·exact h r h1
   ·simp only[List.mem_singleton]at h1;subst h1;exact⟨hb,hb⟩
theorem zHN (l:List Nat) (hl: ∀b∈l,b<256): ∀r:List (Nat × Nat),(∀x∈r,x.1<256∧x.2<256)→ ∀x∈l.foldl zDq r,x.1<256∧x.2<256:=by
 induction l with
 |nil=>intro r h;exact h
 |cons b l ih=>
  intro r h
  exact ih (fun x hx=>hl x (List.mem_cons_of_mem _ hx)) _ (zKs h (hl b (List.mem_cons_self ..)))
theorem zOD {c:Cls} : ∀r∈c.runs,r.1<256∧r.2<256:=zHN _ (fun _ hb=>zNs hb) [] (by simp)
theorem zC4 (b:Nat):1≤(zJJ b).length∧(zJJ b).length≤5:=by unfold zJJ;split<;>simp
theorem zJc (r:Nat × Nat):(zHw r).length≤11:=by
 have:=zC4 r.1
 have:=zC4 r.2
 unfold zHw
 split<;>simp<;>omega
theorem zFU: ∀l:List (Nat × Nat),(l.flatMap zHw).length≤11*l.length
 |[]=>by simp
 |r::l=>by
  have:=zJc r
  have:=zFU l
  simp only[List.flatMap_cons,List.length_append,List.length_cons]
  omega
theorem zDe (c:Cls):(zB8 c).length≤2819:=by
 unfold zB8
 have h1:=zFU (if c.neg then c.not else c).runs
 have h2:=zEP (if c.neg then c.not else c)
 generalize (if c.neg then c.not else c).runs=l at h1 h2 ⊢
 have h3:(if c.neg then [94]else([]:List Nat)).length≤1:=by split<;>simp
 simp only[List.length_append,List.length_cons,List.length_nil]
 omega
end
section
def pc (n x:Nat):Nat:=(List.range n).countP fun i=>x.testBit i
theorem zCu {k d x:Nat} (h:d<2 ^ k) (j:Nat):(2 ^ k*x+d).testBit j=if j<k then d.testBit j else x.testBit (j - k):=Nat.testBit_two_pow_mul_add x h j
theorem zMi {k d m x y:Nat} (hd:d<2 ^ k) (hm:m<2 ^ k):(2 ^ k*x+d) &&& (2 ^ k*y+m)=2 ^ k*(x &&& y)+(d &&& m):=by
 refine Nat.eq_of_testBit_eq fun j=>?_
 rw[Nat.testBit_and,zCu hd,zCu hm,zCu (Nat.lt_of_le_of_lt Nat.and_le_left hd)]
 split<;>rw[Nat.testBit_and]
def zJq (m:Nat):Nat→Nat
 |0=>0
 |n+1=>256*zJq m n+m
def zBZ (f:Nat→Nat):Nat→Nat→Nat
 |0,_=>0
 |n+1,x=>256*zBZ f n (x / 256)+f (x % 256)
theorem zJU {s m:Nat} (hs:s≤8) (hm:m<2 ^ (8 - s)): ∀(n x:Nat),x<256 ^ n→(x >>> s) &&& zJq m n=zBZ (fun d=>(d >>> s) &&& m) n x
 |0,x,h=>by simp[zJq,zBZ]
 |n+1,x,h=>by
  have hx:x / 256<256 ^ n:=by rw[Nat.pow_succ]at h;omega
  have h2:2 ^ s*2 ^ (8 - s)=256:=by rw[←Nat.pow_add,show s+(8 - s)=8 by omega]
  have hp:0<2 ^ s:=Nat.two_pow_pos s
  have hm8:m<2 ^ 8:=Nat.lt_of_lt_of_le hm (Nat.pow_le_pow_right (by decide) (by omega))
  have e1:x >>> s=2 ^ 8*((x / 256) >>> s)+(x >>> s) % 256:=by
   have hc:x / 256 / 2 ^ s=x / 2 ^ s / 256:=by rw[Nat.div_div_eq_div_mul,Nat.div_div_eq_div_mul,Nat.mul_comm]
   rw[Nat.shiftRight_eq_div_pow,Nat.shiftRight_eq_div_pow,hc]
   omega
  have e2:(x >>> s) % 256 &&& m=((x % 256) >>> s) &&& m:=by
   refine Nat.eq_of_testBit_eq fun j=>?_
   rw[Nat.testBit_and,Nat.testBit_and]
   by_cases hj:j<8 - s
   ·rw[show(256:Nat)=2 ^ 8 from rfl,Nat.testBit_mod_two_pow,Nat.testBit_shiftRight,Nat.testBit_shiftRight,Nat.testBit_mod_two_pow]
    rw[decide_eq_true (show j<8 by omega),decide_eq_true (show s+j<8 by omega)]
   ·rw[Nat.testBit_lt_two_pow (x:=m) (Nat.lt_of_lt_of_le hm (Nat.pow_le_pow_right (by decide) (by omega))),Bool.and_false,Bool.and_false]
  rw[e1,zJq,show 256*zJq m n+m=2 ^ 8*zJq m n+m from rfl,zMi (by omega) hm8,zJU hs hm n _ hx,e2]
  rfl
theorem zEX {f g:Nat→Nat} : ∀(n x:Nat),(∀d,d<256→f d=g d)→zBZ f n x=zBZ g n x
 |0,_,_=>rfl
 |n+1,x,h=>by rw[zBZ,zBZ,zEX n _ h,h _ (Nat.mod_lt _ (by decide))]
theorem zI6 {f g:Nat→Nat} : ∀(n x:Nat),zBZ f n x+zBZ g n x=zBZ (fun d=>f d+g d) n x
 |0,_=>rfl
 |n+1,x=>by rw[zBZ,zBZ,zBZ,←zI6 n];omega
theorem zIC {f:Nat→Nat} (hf: ∀d,d<256→f d<256): ∀(n x:Nat),zBZ f n x<256 ^ n
 |0,_=>by simp[zBZ]
 |n+1,x=>by
  have:=zIC hf n (x / 256)
  have:=hf (x % 256) (Nat.mod_lt _ (by decide))
  rw[zBZ,Nat.pow_succ]
  omega
theorem zGh {f g:Nat→Nat} (hf: ∀d,d<256→f d<256): ∀(n x:Nat),zBZ g n (zBZ f n x)=zBZ (fun d=>g (f d)) n x
 |0,_=>rfl
 |n+1,x=>by
  have h:=hf (x % 256) (Nat.mod_lt _ (by decide))
  rw[zBZ,zBZ,zBZ,show(256*zBZ f n (x / 256)+f (x % 256)) / 256=zBZ f n (x / 256)by omega,show(256*zBZ f n (x / 256)+f (x % 256)) % 256=f (x % 256)by omega,zGh hf n]
def pf1 (d:Nat):Nat:=((d >>> 1) &&& 85)+(d &&& 85)
def pf2 (d:Nat):Nat:=((d >>> 2) &&& 51)+(d &&& 51)
def pf3 (d:Nat):Nat:=d / 16+d % 16
theorem zLn {s m:Nat} (hs:s≤8) (hm:m<2 ^ (8 - s)) (x n:Nat) (h:x<256 ^ n):((x >>> s) &&& zJq m n)+(x &&& zJq m n)=zBZ (fun d=>((d >>> s) &&& m)+(d &&& m)) n x:=by
 have h0:=zJU (s:=0) (m:=m) (by omega) (Nat.lt_of_lt_of_le hm (Nat.pow_le_pow_right (by decide) (by omega))) n x h
 rw[Nat.shiftRight_zero]at h0
 rw[zJU hs hm n x h,h0,zI6]
 exact zEX n x fun d _=>rfl
theorem zL4: ∀d,d<256→pf1 d<256:=by decide+kernel
theorem zNq: ∀d,d<256→pf2 (pf1 d)<256∧pf2 (pf1 d) / 16≤4∧pf2 (pf1 d) % 16≤4:=by decide+kernel
theorem zOl: ∀d,d<256→pf3 (pf2 (pf1 d))=pc 8 d:=by decide+kernel
theorem zOh (f:Nat→Nat) (hf: ∀d,d<256→f d<256∧f d / 16≤4∧f d % 16≤4): ∀(n x:Nat),(((zBZ f n x) >>> 4)+zBZ f n x) &&& zJq 15 n=zBZ (fun d=>pf3 (f d)) n x
 |0,x=>by simp[zJq,zBZ]
 |n+1,x=>by
  obtain⟨h1,h2,h3⟩:=hf (x % 256) (Nat.mod_lt _ (by decide))
  have ih:=zOh f hf n (x / 256)
  have hlow:zBZ f n (x / 256) % 16≤4:=by
   cases n with
   |zero=>simp[zBZ]
   |succ n=>
    obtain⟨_,_,h6⟩:=hf (x / 256 % 256) (Nat.mod_lt _ (by decide))
    rw[zBZ]
    omega
  rw[zBZ]
  generalize hy:zBZ f n (x / 256)=y at*
  generalize hd:f (x % 256)=d at*
  have e:(256*y+d) >>> 4+(256*y+d)=2 ^ 8*(y >>> 4+y)+(16*(y % 16)+d / 16+d):=by
   rw[Nat.shiftRight_eq_div_pow,Nat.shiftRight_eq_div_pow]
   omega
  have e2:(16*(y % 16)+d / 16+d) &&& 15=pf3 d:=by
   rw[show(15:Nat)=2 ^ 4 - 1 from rfl,Nat.and_two_pow_sub_one_eq_mod]
   unfold pf3
   omega
  rw[e,zJq,show 256*zJq 15 n+15=2 ^ 8*zJq 15 n+15 from rfl,zMi (by omega) (by decide),ih,e2,zBZ]
  rw[hd]
theorem zOm (k n d x:Nat) (h:d<2 ^ k):pc (k+n) (2 ^ k*x+d)=pc k d+pc n x:=by
 unfold pc
 rw[List.range_add,List.countP_append,List.countP_map]
 congr 1
 ·refine List.countP_congr fun i hi=>?_
  rw[zCu h,if_pos (List.mem_range.1 hi)]
 ·refine List.countP_congr fun i _=>?_
  simp only[Function.comp]
  rw[zCu h,if_neg (by omega),show k+i - k=i by omega]
theorem zFr (n x:Nat):pc n x≤n:=by
 unfold pc
 have:=List.countP_le_length (p:=fun i=>x.testBit i) (l:=List.range n)
 simpa using this
theorem zJ7 {m a b x:Nat} (hm:b<m) (h:x=m*a+b):x / m=a:=by
 subst h
 rw[Nat.mul_add_div (by omega),Nat.div_eq_of_lt hm,Nat.add_zero]
theorem zPa {c0 c1 c2:Nat} (p0:c0≤8) (p1:c1≤8) (p2:c2≤8):c0+c1+256*(c1+c2)<65536:=by omega
theorem zPZ {a b c d:Nat} (p0:a≤32) (p1:b≤32) (p2:c≤32) (p3:d≤32):a+256*b+65536*c+16777216*d<4294967296:=by omega
theorem eq1 {c y1 y2 y3 c0 c1 c2:Nat} (e0:c=256*y1+c0) (e1:y1=256*y2+c1) (e2:y2=256*y3+c2):c+y1=65536*(y2+y3)+(c0+c1+256*(c1+c2)):=by
 rw[e0,e1,e2];omega
theorem up {y z a k m:Nat} (h:y=256*z+a) (ha:a≤8) (hz:z<k) (hm:m=256*k):y<m:=by omega
theorem eq2 {c y1 y2 y3 y4 y5 y6 y7 c0 c1 c2 c3 c4 c5 c6:Nat} (e0:c=256*y1+c0) (e1:y1=256*y2+c1) (e2:y2=256*y3+c2) (e3:y3=256*y4+c3) (e4:y4=256*y5+c4) (e5:y5=256*y6+c5) (e6:y6=256*y7+c6):
  c+y1+(y2+y3)=4294967296*(y4+y5+y6+y7)+((c0+c1+c2+c3)+256*(c1+c2+c3+c4)+65536*(c2+c3+c4+c5)+16777216*(c3+c4+c5+c6)):=by
 have h0:c=4294967296*y4+(c0+256*c1+65536*c2+16777216*c3):=by rw[e0,e1,e2,e3];omega
 have h1:y1=4294967296*y5+(c1+256*c2+65536*c3+16777216*c4):=by rw[e1,e2,e3,e4];omega
 have h2:y2=4294967296*y6+(c2+256*c3+65536*c4+16777216*c5):=by rw[e2,e3,e4,e5];omega
 have h3:y3=4294967296*y7+(c3+256*c4+65536*c5+16777216*c6):=by rw[e3,e4,e5,e6];omega
 rw[h0,h1,h2,h3]
 clear e0 e1 e2 e3 e4 e5 e6 h0 h1 h2 h3
 omega
theorem eq3 {c y1 y2 y3 y4 y5 y6 y7 c0 c1 c2 c3 c4 c5 c6:Nat} (e0:c=256*y1+c0) (e1:y1=256*y2+c1) (e2:y2=256*y3+c2) (e3:y3=256*y4+c3) (e4:y4=256*y5+c4) (e5:y5=256*y6+c5) (e6:y6=256*y7+c6):
  c+y1+(y2+y3)+(y4+y5+y6+y7)=128*(2*(y1+y2+y3+y4+y5+y6+y7))+(c0+c1+c2+c3+c4+c5+c6+y7):=by
 have h:c+y1+y2+y3+y4+y5+y6=256*(y1+y2+y3+y4+y5+y6+y7)+(c0+c1+c2+c3+c4+c5+c6):=by
  have:c+y1+y2+y3+y4+y5+y6=(256*y1+c0)+(256*y2+c1)+(256*y3+c2)+(256*y4+c3)+(256*y5+c4)+(256*y6+c5)+(256*y7+c6):=by rw[←e0,←e1,←e2,←e3,←e4,←e5,←e6]
  rw[this]
  clear e0 e1 e2 e3 e4 e5 e6 this
  omega
 clear e0 e1 e2 e3 e4 e5 e6
 omega
theorem zPX {c y1 y2 y3 y4 y5 y6 y7 c0 c1 c2 c3 c4 c5 c6:Nat} (e0:c=256*y1+c0) (e1:y1=256*y2+c1) (e2:y2=256*y3+c2) (e3:y3=256*y4+c3) (e4:y4=256*y5+c4) (e5:y5=256*y6+c5) (e6:y6=256*y7+c6)
  (p0:c0≤8) (p1:c1≤8) (p2:c2≤8) (p3:c3≤8) (p4:c4≤8) (p5:c5≤8) (p6:c6≤8) (p7:y7≤8):
  c+c >>> 8=c+y1∧(c+y1)+(c+y1) >>> 16=c+y1+(y2+y3)∧(c+y1+(y2+y3))+(c+y1+(y2+y3)) >>> 32=c+y1+(y2+y3)+(y4+y5+y6+y7)∧
  c+y1+(y2+y3)+(y4+y5+y6+y7)<2 ^ 63∧(c+y1+(y2+y3)+(y4+y5+y6+y7)) &&& 127=c0+c1+c2+c3+c4+c5+c6+y7:=by
 have l6:y6<4096:=up e6 p6 (show y7<16 by omega) rfl
 have l5:y5<1048576:=up e5 p5 l6 rfl
 have l4:y4<268435456:=up e4 p4 l5 rfl
 have l3:y3<68719476736:=up e3 p3 l4 rfl
 have l2:y2<17592186044416:=up e2 p2 l3 rfl
 have l1:y1<4503599627370496:=up e1 p1 l2 rfl
 have l0:c<1152921504606846976:=up e0 p0 l1 rfl
 refine⟨?_,?_,?_,?_,?_⟩
 ·rw[Nat.shiftRight_eq_div_pow,zJ7 (a:=y1) (b:=c0) (by omega) e0]
 ·rw[Nat.shiftRight_eq_div_pow,zJ7 (show _<2 ^ 16 from zPa p0 p1 p2) (eq1 e0 e1 e2)]
 ·rw[Nat.shiftRight_eq_div_pow,zJ7 (show _<2 ^ 32 from zPZ (by omega) (by omega) (by omega) (by omega)) (eq2 e0 e1 e2 e3 e4 e5 e6)]
 ·clear e0 e1 e2 e3 e4 e5 e6
  omega
 ·rw[show(127:Nat)=2 ^ 7 - 1 from rfl,Nat.and_two_pow_sub_one_eq_mod,eq3 e0 e1 e2 e3 e4 e5 e6,show 2 ^ 7=128 from rfl,Nat.mul_add_mod]
  exact Nat.mod_eq_of_lt (by clear e0 e1 e2 e3 e4 e5 e6;omega)
theorem zKV {f:Nat→Nat} {k:Nat} (hf: ∀d,d<256→f d≤k): ∀(n x:Nat),zBZ f n x≤zJq k n
 |0,_=>Nat.le_refl _
 |n+1,x=>by
  have:=zKV hf n (x / 256)
  have:=hf (x % 256) (Nat.mod_lt _ (by decide))
  rw[zBZ,zJq]
  omega
theorem zPW (x:Nat) (h:x<2 ^ 64):let a:=((x >>> 1) &&& 6148914691236517205)+(x &&& 6148914691236517205);let b:=((a >>> 2) &&& 3689348814741910323)+(a &&& 3689348814741910323);let c:=((b >>> 4)+b) &&& 1085102592571150095
  a<2 ^ 64∧b<2 ^ 64∧(b >>> 4)+b<2 ^ 64∧c+c >>> 8<2 ^ 64∧(c+c >>> 8)+(c+c >>> 8) >>> 16<2 ^ 64∧((c+c >>> 8)+(c+c >>> 8) >>> 16)+((c+c >>> 8)+(c+c >>> 8) >>> 16) >>> 32<2 ^ 63∧
  (((c+c >>> 8)+(c+c >>> 8) >>> 16)+((c+c >>> 8)+(c+c >>> 8) >>> 16) >>> 32) &&& 127=pc 64 x:=by
 intro a b c
 have ha:a=zBZ pf1 8 x:=zLn (s:=1) (m:=85) (by decide) (by decide) x 8 h
 have hb:b=zBZ (fun d=>pf2 (pf1 d)) 8 x:=by
  have:=zLn (s:=2) (m:=51) (by decide) (by decide) a 8 (by rw[ha];exact zIC zL4 8 x)
  rw[show b=_ from this,ha]
  exact zGh zL4 8 x
 have hc:c=zBZ (fun d=>pf3 (pf2 (pf1 d))) 8 x:=by
  have:=zOh (fun d=>pf2 (pf1 d)) zNq 8 x
  rw[←hb]at this
  exact this
 rw[zEX 8 x zOl]at hc
 have hpc:pc 64 x=pc 8 (x % 256)+(pc 8 (x / 256 % 256)+(pc 8 (x / 256 / 256 % 256)+(pc 8 (x / 256 / 256 / 256 % 256)+(pc 8 (x / 256 / 256 / 256 / 256 % 256)+(pc 8 (x / 256 / 256 / 256 / 256 / 256 % 256)+(pc 8 (x / 256 / 256 / 256 / 256 / 256 / 256 % 256)+pc 8 (x / 256 / 256 / 256 / 256 / 256 / 256 / 256))))))):=by
  have s:=fun n y=>zOm 8 n (y % 256) (y / 256) (Nat.mod_lt _ (by decide))
  have t:=fun y:Nat=>show 2 ^ 8*(y / 256)+y % 256=y by omega
  simp only[t]at s
  rw[s 56 x,s 48,s 40,s 32,s 24,s 16,s 8]
 have h7:x / 256 / 256 / 256 / 256 / 256 / 256 / 256 % 256=x / 256 / 256 / 256 / 256 / 256 / 256 / 256:=by omega
 simp only[zBZ,h7]at hc
 have hb0:b<2 ^ 63:=by
  rw[hb]
  exact Nat.lt_of_le_of_lt (zKV (k:=68) (fun d hd=>by have:=zNq d hd;omega) 8 x) (by decide)
 rw[hpc]
 have p0:=zFr 8 (x % 256)
 have p1:=zFr 8 (x / 256 % 256)
 have p2:=zFr 8 (x / 256 / 256 % 256)
 have p3:=zFr 8 (x / 256 / 256 / 256 % 256)
 have p4:=zFr 8 (x / 256 / 256 / 256 / 256 % 256)
 have p5:=zFr 8 (x / 256 / 256 / 256 / 256 / 256 % 256)
 have p6:=zFr 8 (x / 256 / 256 / 256 / 256 / 256 / 256 % 256)
 have p7:=zFr 8 (x / 256 / 256 / 256 / 256 / 256 / 256 / 256)
 rw[Nat.mul_zero,Nat.zero_add]at hc
 have ha64:a<2 ^ 64:=by rw[ha];exact zIC zL4 8 x
 generalize pc 8 (x % 256)=c0 at*
 generalize pc 8 (x / 256 % 256)=c1 at*
 generalize pc 8 (x / 256 / 256 % 256)=c2 at*
 generalize pc 8 (x / 256 / 256 / 256 % 256)=c3 at*
 generalize pc 8 (x / 256 / 256 / 256 / 256 % 256)=c4 at*
 generalize pc 8 (x / 256 / 256 / 256 / 256 / 256 % 256)=c5 at*
 generalize pc 8 (x / 256 / 256 / 256 / 256 / 256 / 256 % 256)=c6 at*
 generalize pc 8 (x / 256 / 256 / 256 / 256 / 256 / 256 / 256)=c7 at*
 clear hpc h7 hb ha
 clear_value a b c
 obtain⟨s1,s2,s3,s4,s5⟩:=zPX hc rfl rfl rfl rfl rfl rfl p0 p1 p2 p3 p4 p5 p6 p7
 have r4:b >>> 4≤b:=by rw[Nat.shiftRight_eq_div_pow];exact Nat.div_le_self _ _
 rw[s1,s2,s3,s5]
 refine⟨ha64,by omega,by omega,by omega,by omega,s4,by omega⟩
end
end Go.Proofs.YtfjbnpdffillbaaGreatDoor
