/- Parts: Spec Sb Rs Rt Ts Ru Tb Faw Ka Pk. -/
namespace Go.Proofs.YtfjbnpdffillbaaGreatDoor
structure Mk where
 b:Nat
 p:Bool
deriving DecidableEq
def seesL:List Mk→List Nat→Bool
 |_,[]=>true
 |[],_::_=>false
 |m::l,c::s=> !m.p&&m.b==c&&seesL l s
theorem seesL_short: ∀(l:List Mk) (s:List Nat),l.length<s.length→seesL l s=false
 |_,[],h=>by simp at h
 |[],_::_,_=>rfl
 |m::l,c::s,h=>by
  simp only[seesL,seesL_short l s (by simpa using h),Bool.and_false]
theorem seesL_at (L:List Mk) (bs:List Nat) (i k:Nat) (hi:i<L.length) (hk:k<bs.length):
  seesL (L.drop i) (bs.drop k)=(!(L.getD i ⟨0,false⟩).p&&(L.getD i ⟨0,false⟩).b==bs.getD k 0&&seesL (L.drop (i+1)) (bs.drop (k+1))):=by
 rw[List.drop_eq_getElem_cons hi,List.drop_eq_getElem_cons hk,seesL]
 simp[List.getD_eq_getElem?_getD,hi,hk]
structure Cls where
 w0:BitVec 64
 w1:BitVec 64
 w2:BitVec 64
 w3:BitVec 64
deriving DecidableEq
def orw (a b:BitVec 64):BitVec 64:=a ||| b
def andw (a b:BitVec 64):BitVec 64:=a &&& b
def notw (a:BitVec 64):BitVec 64:= ~~~a
def bit1 (n:Nat):BitVec 64:=1#64 <<< n
def Cls.zero:Cls:=⟨0#64,0#64,0#64,0#64⟩
def Cls.word (c:Cls):Nat→BitVec 64
 |0=>c.w0
 |1=>c.w1
 |2=>c.w2
 |_=>c.w3
def Cls.set (c:Cls) (j:Nat) (v:BitVec 64):Cls:=
 match j with
 |0=> { c with w0:=v }
 |1=> { c with w1:=v }
 |2=> { c with w2:=v }
 |_=> { c with w3:=v }
def Cls.add (c:Cls) (b:Nat):Cls:=c.set (b / 64) (orw (c.word (b / 64)) (bit1 (b % 64)))
def Cls.of (l:List Nat):Cls:=l.foldl Cls.add Cls.zero
def Cls.or (a b:Cls):Cls:=⟨orw a.w0 b.w0,orw a.w1 b.w1,orw a.w2 b.w2,orw a.w3 b.w3⟩
def Cls.and (a b:Cls):Cls:=⟨andw a.w0 b.w0,andw a.w1 b.w1,andw a.w2 b.w2,andw a.w3 b.w3⟩
def Cls.not (a:Cls):Cls:=⟨notw a.w0,notw a.w1,notw a.w2,notw a.w3⟩
def Cls.range (lo hi:Nat):Cls:=Cls.of (List.range' lo (hi+1 - lo))
def upperC:Cls:=Cls.range 65 90
def lowerC:Cls:=Cls.range 97 122
def digitC:Cls:=Cls.range 48 57
def alnumC:Cls:=(upperC.or lowerC).or digitC
def namedL (n:List Nat):Option Cls:=
 if n=[97,108,110,117,109]then some alnumC
 else if n=[97,108,112,104,97]then some (upperC.or lowerC)
 else if n=[98,108,97,110,107]then some (Cls.of [32,9])
 else if n=[99,110,116,114,108]then some ((Cls.range 0 31).or (Cls.of [127]))
 else if n=[100,105,103,105,116]then some digitC
 else if n=[103,114,97,112,104]then some (Cls.range 33 126)
 else if n=[108,111,119,101,114]then some lowerC
 else if n=[112,114,105,110,116]then some (Cls.range 32 126)
 else if n=[112,117,110,99,116]then some ((Cls.range 33 126).and alnumC.not)
 else if n=[115,112,97,99,101]then some ((Cls.range 9 13).or (Cls.of [32]))
 else if n=[117,112,112,101,114]then some upperC
 else if n=[120,100,105,103,105,116]then some (digitC.or ((Cls.range 65 70).or (Cls.range 97 102)))
 else none
theorem namedL_alnum:namedL (([97,108,110,117,109]:List UInt8).map (·.toNat))=some alnumC:=rfl
theorem namedL_alpha:namedL (([97,108,112,104,97]:List UInt8).map (·.toNat))=some (upperC.or lowerC):=rfl
theorem namedL_blank:namedL (([98,108,97,110,107]:List UInt8).map (·.toNat))=some (Cls.of [32,9]):=rfl
theorem namedL_cntrl:namedL (([99,110,116,114,108]:List UInt8).map (·.toNat))=some ((Cls.range 0 31).or (Cls.of [127])):=rfl
theorem namedL_digit:namedL (([100,105,103,105,116]:List UInt8).map (·.toNat))=some digitC:=rfl
theorem namedL_graph:namedL (([103,114,97,112,104]:List UInt8).map (·.toNat))=some (Cls.range 33 126):=rfl
theorem namedL_lower:namedL (([108,111,119,101,114]:List UInt8).map (·.toNat))=some lowerC:=rfl
theorem namedL_print:namedL (([112,114,105,110,116]:List UInt8).map (·.toNat))=some (Cls.range 32 126):=rfl
theorem namedL_punct:namedL (([112,117,110,99,116]:List UInt8).map (·.toNat))=some ((Cls.range 33 126).and alnumC.not):=rfl
theorem namedL_space:namedL (([115,112,97,99,101]:List UInt8).map (·.toNat))=some ((Cls.range 9 13).or (Cls.of [32])):=rfl
theorem namedL_upper:namedL (([117,112,112,101,114]:List UInt8).map (·.toNat))=some upperC:=rfl
theorem namedL_xdigit:namedL (([120,100,105,103,105,116]:List UInt8).map (·.toNat))=some (digitC.or ((Cls.range 65 70).or (Cls.range 97 102))):=rfl
theorem namedL_none {l:List Nat} (h0:l≠([97,108,110,117,109]:List UInt8).map (·.toNat)) (h1:l≠([97,108,112,104,97]:List UInt8).map (·.toNat)) (h2:l≠([98,108,97,110,107]:List UInt8).map (·.toNat)) (h3:l≠([99,110,116,114,108]:List UInt8).map (·.toNat)) (h4:l≠([100,105,103,105,116]:List UInt8).map (·.toNat)) (h5:l≠([103,114,97,112,104]:List UInt8).map (·.toNat)) (h6:l≠([108,111,119,101,114]:List UInt8).map (·.toNat)) (h7:l≠([112,114,105,110,116]:List UInt8).map (·.toNat)) (h8:l≠([112,117,110,99,116]:List UInt8).map (·.toNat)) (h9:l≠([115,112,97,99,101]:List UInt8).map (·.toNat)) (h10:l≠([117,112,112,101,114]:List UInt8).map (·.toNat)) (h11:l≠([120,100,105,103,105,116]:List UInt8).map (·.toNat)):namedL l=none:=by
 unfold namedL
 exact(if_neg h0).trans ((if_neg h1).trans ((if_neg h2).trans ((if_neg h3).trans ((if_neg h4).trans ((if_neg h5).trans ((if_neg h6).trans ((if_neg h7).trans ((if_neg h8).trans ((if_neg h9).trans ((if_neg h10).trans (if_neg h11)))))))))))
def markAt (L:List Mk) (i:Nat):Mk:=L.getD i ⟨0,false⟩
def signAt (L:List Mk) (i c:Nat):Bool:=decide (i<L.length)&&((markAt L i).b==c&& !(markAt L i).p)
structure Th where
 set:Cls
 b:Nat
 fin:Bool
 next:Nat
def Th.zero:Th:=⟨Cls.zero,0,false,0⟩
def nameL (L:List Mk) (at0 begin_:Nat):Nat→Nat→List Nat→Th × Option (Nat × Nat)
 |0,_,_=>(Th.zero,some (32,at0))
 |n+1,i,s=>
  if signAt L i 58&&signAt L (i+1) 93 then
   match namedL s with
   |none=>(Th.zero,some (31,begin_))
   |some c=>(⟨c,0,false,i+2⟩,none)
  else nameL L at0 begin_ n (i+1) (s++[(markAt L i).b])
def nameTh (L:List Mk) (at0 begin_:Nat):Th × Option (Nat × Nat):=nameL L at0 begin_ (L.length - (begin_+2)) (begin_+2) []
def enclosedTh (L:List Mk) (at0 begin_ by_:Nat):Th × Option (Nat × Nat):=
 if L.length≤begin_+3 then(Th.zero,some (32,at0))
 else if !signAt L (begin_+3) by_ then(Th.zero,some (31,begin_))
 else if L.length≤begin_+4 then(Th.zero,some (32,at0))
 else if !signAt L (begin_+4) 93 then(Th.zero,some (31,begin_))
 else(⟨Cls.of [(markAt L (begin_+2)).b],(markAt L (begin_+2)).b,by_==46,begin_+5⟩,none)
def thingTh (L:List Mk) (at0 begin_:Nat):Th × Option (Nat × Nat):=
 if L.length≤begin_ then(Th.zero,some (32,at0))
 else if signAt L begin_ 91&&decide (begin_+1<L.length)&& !(markAt L (begin_+1)).p&&(markAt L (begin_+1)).b==58 then nameTh L at0 begin_
 else if signAt L begin_ 91&&decide (begin_+1<L.length)&& !(markAt L (begin_+1)).p&&((markAt L (begin_+1)).b==61||(markAt L (begin_+1)).b==46)then enclosedTh L at0 begin_ (markAt L (begin_+1)).b
 else(⟨Cls.of [(markAt L begin_).b],(markAt L begin_).b,true,begin_+1⟩,none)
def itemTh (L:List Mk) (at0 begin_:Nat) (first:Bool):Th × Option (Nat × Nat):=
 match thingTh L at0 begin_ with
 |(a,some f)=>(a,some f)
 |(a,none)=>
  if signAt L begin_ 45&& !first&& !signAt L (begin_+1) 93 then
   if L.length≤begin_+1 then(a,some (32,at0))else(a,some (30,begin_))
  else if !signAt L a.next 45||decide (L.length≤a.next+1)||signAt L (a.next+1) 93 then(a,none)
  else if !a.fin then(a,some (30,begin_))
  else match thingTh L at0 (a.next+1)with
   |(b,some f)=>(b,some f)
   |(b,none)=>if !b.fin||decide (b.b<a.b)then(b,some (30,begin_))else(⟨Cls.range a.b b.b,0,false,b.next⟩,none)
def itemsL (L:List Mk) (at0:Nat):Nat→Cls→Nat→Bool→Except (Nat × Nat) (Cls × Nat)
 |0,_,_,_=> .error (32,at0)
 |n+1,c,i,first=>
  if !first&&signAt L i 93 then .ok (c,i)
  else match itemTh L at0 i first with
   |(_,some f)=> .error f
   |(x,none)=>itemsL L at0 n (c.or x.set) x.next false
def bracketL (L:List Mk) (at0:Nat):Except (Nat × Nat) (Cls × Nat):=
 let no:=signAt L (at0+1) 94
 let i:=if no then at0+2 else at0+1
 match itemsL L at0 (L.length+2) Cls.zero i true with
 | .error f=> .error f
 | .ok (c,i)=> .ok (if no then c.not else c,i+1)
end Go.Proofs.YtfjbnpdffillbaaGreatDoor
namespace Go.Proofs.YtfjbnpdffillbaaGreatDoor
theorem signAt_lt {L:List Mk} {i c:Nat} (h:signAt L i c=true):i<L.length:=by
 simp only[signAt,Bool.and_eq_true,decide_eq_true_eq]at h
 exact h.1
theorem nameL_next {L:List Mk} {at0 b0:Nat} : ∀(n i:Nat) (s:List Nat) (a:Th),nameL L at0 b0 n i s=(a,none)→i<a.next∧a.next≤L.length∧a.b=0
 |0,_,_,_,h=>by simp[nameL]at h
 |n+1,i,s,a,h=>by
  unfold nameL at h
  split at h
  ·rename_i hc
   simp only[Bool.and_eq_true]at hc
   have:=signAt_lt hc.2
   split at h
   ·simp at h
   ·simp only[Prod.mk.injEq,and_true]at h
    subst h
    exact⟨by simp,by simp;omega,rfl⟩
  ·have:=nameL_next n (i+1) _ a h
   exact⟨by omega,this.2.1,this.2.2⟩
theorem thingTh_next {L:List Mk} {at0 n:Nat} {a:Th} (h:thingTh L at0 n=(a,none)) (hu: ∀i,i<L.length→(markAt L i).b<256):n<a.next∧a.next≤L.length∧a.b<256:=by
 unfold thingTh at h
 split at h
 ·simp at h
 ·rename_i hlt
  have:=hu n (by omega)
  split at h
  ·have:=nameL_next _ _ _ _ h
   omega
  ·split at h
   ·unfold enclosedTh at h
    split at h
    ·simp at h
    ·split at h
     ·simp at h
     ·split at h
      ·simp at h
      ·split at h
       ·simp at h
       ·simp only[Prod.mk.injEq,and_true]at h
        subst h
        have:=hu (n+2) (by omega)
        exact⟨by simp,by simp;omega,this⟩
   ·simp only[Prod.mk.injEq,and_true]at h
    subst h
    exact⟨by simp,by simp;omega,this⟩
theorem itemTh_next {L:List Mk} {at0 n:Nat} {first:Bool} {a:Th} (h:itemTh L at0 n first=(a,none)) (hu: ∀i,i<L.length→(markAt L i).b<256):n<a.next∧a.next≤L.length:=by
 unfold itemTh at h
 split at h
 ·simp at h
 ·rename_i x hx
  obtain⟨h1,h2,_⟩:=thingTh_next hx hu
  split at h
  ·split at h<;>simp at h
  ·split at h
   ·simp only[Prod.mk.injEq]at h;rw[←h.1];exact⟨h1,h2⟩
   ·split at h
    ·simp at h
    ·split at h
     ·simp at h
     ·rename_i y hy
      obtain⟨h3,h4,_⟩:=thingTh_next hy hu
      split at h
      ·simp at h
      ·simp only[Prod.mk.injEq]at h
       rw[←h.1]
       exact⟨by show n<y.next;omega,h4⟩
end Go.Proofs.YtfjbnpdffillbaaGreatDoor
namespace Go.Proofs.YtfjbnpdffillbaaGreatDoor
structure Nd where
 op:Int
 set:Cls
 n:Int
 min:Int
 max:Int
 kids:Int
deriving DecidableEq
def Nd.zero:Nd:=⟨0,Cls.zero,0,0,0,0⟩
def oneN (b:Nat):Nd:=⟨1,Cls.of [b],0,0,0,0⟩
def setN (c:Cls):Nd:=⟨1,c,0,0,0,0⟩
def beginN:Nd:=⟨2,Cls.zero,0,0,0,0⟩
def endN:Nd:=⟨3,Cls.zero,0,0,0,0⟩
def catN (k:Nat):Nd:=⟨4,Cls.zero,0,0,0,k⟩
def altN (k:Nat):Nd:=⟨5,Cls.zero,0,0,0,k⟩
def repN (lo hi:Int):Nd:=⟨6,Cls.zero,0,lo,hi,1⟩
def groupN (n:Nat):Nd:=⟨7,Cls.zero,n,0,0,1⟩
def refN (n:Nat):Nd:=⟨8,Cls.zero,n,0,0,0⟩
structure Rst where
 i:Nat
 ended:List Bool
deriving DecidableEq
inductive Out (α:Type) where
 |ok (a:α) (s:Rst)
 |no (e i:Nat)
def signB (ere:Bool) (c:Nat):List Nat:=if ere then [c]else [92,c]
def wideB (ere:Bool):Nat:=if ere then 1 else 2
def seesAt (L:List Mk) (i:Nat) (s:List Nat):Bool:=seesL (L.drop i) s
def repeatsL (ere:Bool) (L:List Mk) (i:Nat):Bool:=seesAt L i [42]||ere&&(seesAt L i [43]||seesAt L i [63])||seesAt L i (signB ere 123)
def beginL (ere first:Bool) (s:Rst):Out (List Nd × Bool):=
 if !ere&& !first then .ok ([oneN 94],true) ⟨s.i+1,s.ended⟩else .ok ([beginN],false) ⟨s.i+1,s.ended⟩
def endL (ere:Bool) (L:List Mk) (s:Rst):Out (List Nd × Bool):=
 if !ere&&decide (s.i+1<L.length)&& !seesAt L (s.i+1) [92,41]then .ok ([oneN 36],true) ⟨s.i+1,s.ended⟩else .ok ([endN],false) ⟨s.i+1,s.ended⟩
def anyL (s:Rst):Out (List Nd × Bool):= .ok ([setN (Cls.range 0 255)],true) ⟨s.i+1,s.ended⟩
def brackL (L:List Mk) (s:Rst):Out (List Nd × Bool):=
 match bracketL L s.i with
 | .error (e,i)=> .no e i
 | .ok (c,i)=> .ok ([setN c],true) ⟨i,s.ended⟩
def ownB (ere:Bool):List Nat:=if ere then [46,91,93,42,94,36,92,47,40,41,43,63,123,125,124]else [46,91,93,42,94,36,92,47]
def withTrue:Out (List Nd)→Out (List Nd × Bool)
 | .ok re t=> .ok (re,true) t
 | .no e i=> .no e i
def escapeL (ere:Bool) (L:List Mk) (grp:Rst→Out (List Nd)) (s:Rst):Out (List Nd × Bool):=
 if s.i+1=L.length then .no 40 s.i
 else if (markAt L (s.i+1)).p then .no 40 s.i
 else
  let c:=(markAt L (s.i+1)).b
  if !ere&&c==40 then withTrue (grp s)
  else if c=110 then .ok ([oneN 10],true) ⟨s.i+2,s.ended⟩
  else if (ownB ere).contains c then .ok ([oneN c],true) ⟨s.i+2,s.ended⟩
  else if !ere&&decide (49≤c)&&decide (c≤57)then
   if s.ended.length<c - 48 then .no 44 s.i
   else if !s.ended.getD (c - 48 - 1) false then .no 44 s.i
   else .ok ([refN (c - 48)],true) ⟨s.i+2,s.ended⟩
  else .no 40 s.i
def atomL (ere first:Bool) (L:List Mk) (grp:Rst→Out (List Nd)) (s:Rst):Out (List Nd × Bool):=
 let m:=markAt L s.i
 if m.p then .ok ([oneN m.b],true) ⟨s.i+1,s.ended⟩
 else if m.b=46 then anyL s
 else if m.b=91 then brackL L s
 else if m.b=92 then escapeL ere L grp s
 else if m.b=94 then beginL ere first s
 else if m.b=36 then endL ere L s
 else if ere&&m.b==40 then withTrue (grp s)
 else .ok ([oneN m.b],true) ⟨s.i+1,s.ended⟩
def numberL (L:List Mk):Nat→Int→Nat→Int × Nat
 |0,n,i=>(n,i)
 |f+1,n,i=>
  if L.length≤i then(n,i)
  else if (markAt L i).p||decide ((markAt L i).b<48)||decide (57<(markAt L i).b)then(n,i)
  else numberL L f (min (max n 0*10+(((markAt L i).b:Int) - 48)) 256) (i+1)
def numL (L:List Mk) (i:Nat):Int × Nat:=numberL L (L.length - i) (-1) i
def intervalL (ere:Bool) (L:List Mk) (s:Rst):Out (Int × Int):=
 let a:=numL L (s.i+wideB ere)
 let b:=if seesAt L a.2 [44]then numL L (a.2+1)else a
 if decide (a.1<0)||decide (255<a.1)||decide (255<b.1)||(decide (0≤b.1)&&decide (b.1<a.1))|| !seesAt L b.2 (signB ere 125)then .no 43 s.i
 else .ok (a.1,b.1) ⟨b.2+wideB ere,s.ended⟩
def dupL (ere:Bool) (L:List Mk) (s:Rst):Out Nd:=
 if seesAt L s.i [42]then .ok (repN 0 (-1)) ⟨s.i+1,s.ended⟩
 else if seesAt L s.i [43]then .ok (repN 1 (-1)) ⟨s.i+1,s.ended⟩
 else if seesAt L s.i [63]then .ok (repN 0 1) ⟨s.i+1,s.ended⟩
 else match intervalL ere L s with
  | .no e i=> .no e i
  | .ok (lo,hi) t=> .ok (repN lo hi) t
def rowL (ere top:Bool) (L:List Mk) (grp:Rst→Out (List Nd)):Nat→List Nd→Nat→Bool→Rst→Out (Nat × List Nd)
 |0,_,_,_,_=> .no 0 0
 |f+1,all,n,lead,s=>
  if L.length≤s.i then .ok (n,all) s
  else if ere&&seesAt L s.i [124]then .ok (n,all) s
  else if seesAt L s.i (signB ere 41)then if top then .no 41 s.i else .ok (n,all) s
  else if repeatsL ere L s.i&&(ere|| !lead|| !seesAt L s.i [42])then .no 42 s.i
  else match atomL ere (n==0) L grp s with
   | .no e i=> .no e i
   | .ok (re,takes) t=>
    let lead':=(re.getD 0 Nd.zero).op==2
    if takes&&repeatsL ere L t.i then
     match dupL ere L t with
     | .no e i=> .no e i
     | .ok d u=>rowL ere top L grp f (all++d::re) (n+1) lead' u
    else rowL ere top L grp f (all++re) (n+1) lead' t
def rowS (ere top:Bool) (L:List Mk) (grp:Rst→Out (List Nd)) (s:Rst):Out (Nat × List Nd):=rowL ere top L grp (L.length+1) [] 0 true s
def sidesL (ere:Bool) (L:List Mk) (row:Rst→Out (Nat × List Nd)):Nat→List Nd→Nat→Rst→Out (List Nd)
 |0,_,_,_=> .no 0 0
 |f+1,all,n,s=>
  match row s with
  | .no e i=> .no e i
  | .ok (parts,re) t=>
   let more:=ere&&seesAt L t.i [124]
   if parts==0&&(more||decide (0<n))then .no 45 t.i
   else
    let all':=all++(if parts=1 then re else catN parts::re)
    if !more then .ok (if 1<n+1 then altN (n+1)::all' else all') t
    else sidesL ere L row f all' (n+1) ⟨t.i+1,t.ended⟩
def sidesS (ere:Bool) (L:List Mk) (row:Rst→Out (Nat × List Nd)) (s:Rst):Out (List Nd):=sidesL ere L row (L.length+1) [] 0 s
def groupL (ere:Bool) (L:List Mk):Nat→Rst→Out (List Nd)
 |0,s=> .no 46 s.i
 |k+1,s=>
  if s.ended.length=255 then .no 47 s.i
  else match sidesS ere L (rowS ere false L (groupL ere L k)) ⟨s.i+wideB ere,s.ended++[false]⟩with
   | .no e i=> .no e i
   | .ok re t=>
    if t.i=L.length then .no 41 s.i
    else .ok (groupN (s.ended.length+1)::re) ⟨t.i+wideB ere,t.ended.set s.ended.length true⟩
def sidesK (ere:Bool) (L:List Mk) (k:Nat) (s:Rst):Out (List Nd):=sidesS ere L (rowS ere (k==64) L (groupL ere L k)) s
theorem groupL_succ (ere:Bool) (L:List Mk) (k:Nat) (hk:k<64) (s:Rst):groupL ere L (k+1) s=
  if s.ended.length=255 then .no 47 s.i
  else match sidesK ere L k ⟨s.i+wideB ere,s.ended++[false]⟩with
   | .no e i=> .no e i
   | .ok re t=>
    if t.i=L.length then .no 41 s.i
    else .ok (groupN (s.ended.length+1)::re) ⟨t.i+wideB ere,t.ended.set s.ended.length true⟩:=by
 have:(k==64)=false:=by simp;omega
 simp only[groupL,sidesK,this]
end Go.Proofs.YtfjbnpdffillbaaGreatDoor
namespace Go.Proofs.YtfjbnpdffillbaaGreatDoor
structure Adv (L:List Mk) (s t:Rst):Prop where
 lt:s.i<t.i
 le:t.i≤L.length
 ended:s.ended.length≤t.ended.length
structure Rise (L:List Mk) (s t:Rst):Prop where
 lt:s.i≤t.i
 le:t.i≤L.length
 ended:s.ended.length≤t.ended.length
theorem Adv.rise {L:List Mk} {s t:Rst} (h:Adv L s t):Rise L s t:=⟨Nat.le_of_lt h.lt,h.le,h.ended⟩
theorem Rise.trans {L:List Mk} {s t u:Rst} (h:Rise L s t) (k:Rise L t u):Rise L s u:=⟨Nat.le_trans h.lt k.lt,k.le,Nat.le_trans h.ended k.ended⟩
theorem Adv.trans {L:List Mk} {s t u:Rst} (h:Adv L s t) (k:Rise L t u):Adv L s u:=⟨Nat.lt_of_lt_of_le h.lt k.lt,k.le,Nat.le_trans h.ended k.ended⟩
theorem Rise.trans' {L:List Mk} {s t u:Rst} (h:Rise L s t) (k:Adv L t u):Adv L s u:=⟨Nat.lt_of_le_of_lt h.lt k.lt,k.le,Nat.le_trans h.ended k.ended⟩
theorem seesAt_le {L:List Mk} {i:Nat} {s:List Nat} (hs:0<s.length) (h:seesAt L i s=true):i+s.length≤L.length:=by
 by_cases hlt:i+s.length≤L.length
 ·exact hlt
 ·have:=seesL_short (L.drop i) s (by rw[List.length_drop];omega)
  unfold seesAt at h
  rw[this]at h;cases h
theorem signB_length (ere:Bool) (c:Nat):(signB ere c).length=wideB ere:=by cases ere<;>rfl
theorem wideB_pos (ere:Bool):0<wideB ere:=by cases ere<;>decide
theorem seesSign_le {ere:Bool} {L:List Mk} {i c:Nat} (h:seesAt L i (signB ere c)=true):i+wideB ere≤L.length:=by
 have:=seesAt_le (by rw[signB_length];exact wideB_pos ere) h
 rwa[signB_length]at this
theorem numberL_le (L:List Mk): ∀(f:Nat) (n:Int) (i:Nat),i≤L.length→i≤(numberL L f n i).2∧(numberL L f n i).2≤L.length
 |0,n,i,h=>⟨Nat.le_refl _,h⟩
 |f+1,n,i,h=>by
  unfold numberL
  split
  ·exact⟨Nat.le_refl _,h⟩
  ·split
   ·exact⟨Nat.le_refl _,h⟩
   ·have:=numberL_le L f (min (max n 0*10+(((markAt L i).b:Int) - 48)) 256) (i+1) (by omega)
    omega
theorem intervalL_adv {ere:Bool} {L:List Mk} {s:Rst} {r:Int × Int} {t:Rst} (hs:s.i+wideB ere≤L.length) (h:intervalL ere L s= .ok r t):Adv L s t:=by
 unfold intervalL at h
 have hw:=wideB_pos ere
 have h1:=numberL_le L (L.length - (s.i+wideB ere)) (-1) (s.i+wideB ere) hs
 change (s.i+wideB ere≤(numL L (s.i+wideB ere)).2∧(numL L (s.i+wideB ere)).2≤L.length)at h1
 generalize numL L (s.i+wideB ere)=a at h h1
 obtain⟨b,hb⟩: ∃b,b=(if seesAt L a.2 [44]then numL L (a.2+1)else a):=⟨_,rfl⟩
 simp only[←hb]at h
 split at h
 ·cases h
 ·rename_i hc
  simp only[Bool.or_eq_true,Bool.not_eq_true',not_or]at hc
  have h3:=seesSign_le (by simpa using hc.2)
  cases h
  refine⟨?_,h3,Nat.le_refl _⟩
  show s.i<b.2+wideB ere
  rw[hb]
  split
  ·rename_i h4
   have h5:=seesAt_le (by simp) h4
   have h6:=numberL_le L (L.length - (a.2+1)) (-1) (a.2+1) (by simpa using h5)
   change (a.2+1≤(numL L (a.2+1)).2∧_)at h6
   omega
  ·omega
theorem dupL_adv {ere:Bool} {L:List Mk} {s:Rst} {d:Nd} {t:Rst} (hs:repeatsL ere L s.i=true) (h:dupL ere L s= .ok d t):Adv L s t:=by
 unfold dupL at h
 split at h
 ·rename_i h1;have:=seesAt_le (by simp) h1;cases h;exact⟨Nat.lt_succ_self _,by simpa using this,Nat.le_refl _⟩
 ·rename_i n1
  split at h
  ·rename_i h1;have:=seesAt_le (by simp) h1;cases h;exact⟨Nat.lt_succ_self _,by simpa using this,Nat.le_refl _⟩
  ·rename_i n2
   split at h
   ·rename_i h1;have:=seesAt_le (by simp) h1;cases h;exact⟨Nat.lt_succ_self _,by simpa using this,Nat.le_refl _⟩
   ·rename_i n3
    have hb:seesAt L s.i (signB ere 123)=true:=by
     unfold repeatsL at hs
     simp only[n1,n2,n3]at hs
     simpa using hs
    split at h
    ·cases h
    ·rename_i h1
     cases h
     exact intervalL_adv (seesSign_le hb) h1
theorem itemsL_next {L:List Mk} {at0:Nat} (hu: ∀i,i<L.length→(markAt L i).b<256): ∀(n:Nat) (c:Cls) (i:Nat) (first:Bool) (r:Cls × Nat),itemsL L at0 n c i first= .ok r→i≤r.2∧r.2<L.length
 |0,_,_,_,_,h=>by simp[itemsL]at h
 |n+1,c,i,first,r,h=>by
  unfold itemsL at h
  split at h
  ·rename_i h1
   cases h
   simp only[Bool.and_eq_true]at h1
   exact⟨Nat.le_refl _,signAt_lt h1.2⟩
  ·split at h
   ·cases h
   ·rename_i x hx
    have h1:=itemTh_next hx hu
    have h2:=itemsL_next hu n _ _ _ _ h
    omega
theorem bracketL_next {L:List Mk} {at0:Nat} (hu: ∀i,i<L.length→(markAt L i).b<256) {r:Cls × Nat} (h:bracketL L at0= .ok r):at0<r.2∧r.2≤L.length:=by
 unfold bracketL at h
 simp only at h
 split at h
 ·cases h
 ·rename_i x c i hx
  have h1:=itemsL_next hu _ _ _ _ _ hx
  cases h
  simp only at h1 ⊢
  split at h1<;>omega
theorem brackL_adv {L:List Mk} {s:Rst} {r:List Nd × Bool} {t:Rst} (hu: ∀i,i<L.length→(markAt L i).b<256) (h:brackL L s= .ok r t):Adv L s t:=by
 unfold brackL at h
 split at h
 ·cases h
 ·rename_i x c i hx
  have:=bracketL_next hu hx
  cases h
  exact⟨this.1,this.2,Nat.le_refl _⟩
theorem escapeL_adv {ere:Bool} {L:List Mk} {grp:Rst→Out (List Nd)} {s:Rst} {r:List Nd × Bool} {t:Rst} (hs:s.i<L.length) (hg: ∀re t,s.i+wideB ere≤L.length→grp s= .ok re t→Adv L s t) (h:escapeL ere L grp s= .ok r t):Adv L s t:=by
 have two:s.i+1≠L.length→Adv L s ⟨s.i+2,s.ended⟩:=fun h=>⟨by show s.i<s.i+2;omega,by show s.i+2≤_;omega,Nat.le_refl _⟩
 unfold escapeL at h
 split at h
 ·cases h
 ·rename_i hne
  split at h
  ·cases h
  ·simp only at h
   split at h
   ·rename_i he
    have hw:wideB ere=2:=by cases ere<;>simp_all[wideB]
    unfold withTrue at h
    split at h
    ·rename_i hx;cases h;exact hg _ _ (by omega) hx
    ·cases h
   ·split at h
    ·cases h;exact two hne
    ·split at h
     ·cases h;exact two hne
     ·split at h
      ·split at h
       ·cases h
       ·split at h
        ·cases h
        ·cases h;exact two hne
      ·cases h
theorem atomL_adv {ere first:Bool} {L:List Mk} {grp:Rst→Out (List Nd)} {s:Rst} {r:List Nd × Bool} {t:Rst} (hu: ∀i,i<L.length→(markAt L i).b<256) (hs:s.i<L.length) (hg: ∀re t,s.i+wideB ere≤L.length→grp s= .ok re t→Adv L s t)
  (h:atomL ere first L grp s= .ok r t):Adv L s t:=by
 have one:Adv L s ⟨s.i+1,s.ended⟩:=⟨Nat.lt_succ_self _,hs,Nat.le_refl _⟩
 unfold atomL at h
 simp only at h
 split at h
 ·cases h;exact one
 ·split at h
  ·unfold anyL at h;cases h;exact one
  ·split at h
   ·exact brackL_adv hu h
   ·split at h
    ·exact escapeL_adv hs hg h
    ·split at h
     ·unfold beginL at h;split at h<;>(cases h;exact one)
     ·split at h
      ·unfold endL at h;split at h<;>(cases h;exact one)
      ·split at h
       ·rename_i he
        have hw:wideB ere=1:=by cases ere<;>simp_all[wideB]
        unfold withTrue at h
        split at h
        ·rename_i hx;cases h;exact hg _ _ (by omega) hx
        ·cases h
       ·cases h;exact one
theorem rowL_rise {ere top:Bool} {L:List Mk} {grp:Rst→Out (List Nd)} (hu: ∀i,i<L.length→(markAt L i).b<256) (hg: ∀s re t,s.i+wideB ere≤L.length→grp s= .ok re t→Adv L s t):
  ∀(f:Nat) (all:List Nd) (n:Nat) (lead:Bool) (s:Rst) (r:Nat × List Nd) (t:Rst),s.i≤L.length→rowL ere top L grp f all n lead s= .ok r t→Rise L s t
 |0,_,_,_,_,_,_,_,h=>by simp[rowL]at h
 |f+1,all,n,lead,s,r,t,hs,h=>by
  have same:Rise L s s:=⟨Nat.le_refl _,hs,Nat.le_refl _⟩
  unfold rowL at h
  split at h
  ·cases h;exact same
  ·rename_i hlt
   split at h
   ·cases h;exact same
   ·split at h
    ·split at h
     ·cases h
     ·cases h;exact same
    ·split at h
     ·cases h
     ·split at h
      ·cases h
      ·rename_i re takes u hx
       have h1:=atomL_adv hu (by omega) (fun re t=>hg s re t) hx
       simp only at h
       split at h
       ·rename_i hr
        simp only[Bool.and_eq_true]at hr
        split at h
        ·cases h
        ·rename_i d v hd
         have h2:=dupL_adv hr.2 hd
         exact h1.rise.trans (h2.rise.trans (rowL_rise hu hg f _ _ _ _ _ _ h2.le h))
       ·exact h1.rise.trans (rowL_rise hu hg f _ _ _ _ _ _ h1.le h)
theorem sidesL_rise {ere:Bool} {L:List Mk} {row:Rst→Out (Nat × List Nd)} (hr: ∀s r t,s.i≤L.length→row s= .ok r t→Rise L s t):
  ∀(f:Nat) (all:List Nd) (n:Nat) (s:Rst) (re:List Nd) (t:Rst),s.i≤L.length→sidesL ere L row f all n s= .ok re t→Rise L s t
 |0,_,_,_,_,_,_,h=>by simp[sidesL]at h
 |f+1,all,n,s,re,t,hs,h=>by
  unfold sidesL at h
  split at h
  ·cases h
  ·rename_i parts r u hx
   have h1:=hr _ _ _ hs hx
   simp only at h
   split at h
   ·cases h
   ·split at h
    ·cases h;exact h1
    ·rename_i hm
     have hm':(ere&&seesAt L u.i [124])=true:=by simpa using hm
     simp only[Bool.and_eq_true]at hm'
     have h2:=seesAt_le (by simp) hm'.2
     have h3:=sidesL_rise hr f _ _ _ _ _ (by simpa using h2) h
     exact h1.trans (Rise.trans (t:=⟨u.i+1,u.ended⟩) ⟨Nat.le_succ _,by simpa using h2,Nat.le_refl _⟩ h3)
theorem rowL_stop {ere top:Bool} {L:List Mk} {grp:Rst→Out (List Nd)} : ∀(f:Nat) (all:List Nd) (n:Nat) (lead:Bool) (s:Rst) (r:Nat × List Nd) (t:Rst),rowL ere top L grp f all n lead s= .ok r t→
  L.length≤t.i∨(ere&&seesAt L t.i [124])=true∨(seesAt L t.i (signB ere 41)=true∧top=false)
 |0,_,_,_,_,_,_,h=>by simp[rowL]at h
 |f+1,all,n,lead,s,r,t,h=>by
  unfold rowL at h
  split at h
  ·rename_i h1;cases h;exact .inl h1
  ·split at h
   ·rename_i h1;cases h;exact .inr (.inl h1)
   ·split at h
    ·rename_i h1
     split at h
     ·cases h
     ·rename_i h2;cases h;exact .inr (.inr ⟨h1,by simpa using h2⟩)
    ·split at h
     ·cases h
     ·split at h
      ·cases h
      ·simp only at h
       split at h
       ·split at h
        ·cases h
        ·exact rowL_stop f _ _ _ _ _ _ h
       ·exact rowL_stop f _ _ _ _ _ _ h
theorem sidesL_stop {ere top:Bool} {L:List Mk} {row:Rst→Out (Nat × List Nd)} (hr: ∀s r t,row s= .ok r t→L.length≤t.i∨(ere&&seesAt L t.i [124])=true∨(seesAt L t.i (signB ere 41)=true∧top=false)):
  ∀(f:Nat) (all:List Nd) (n:Nat) (s:Rst) (re:List Nd) (t:Rst),sidesL ere L row f all n s= .ok re t→L.length≤t.i∨(seesAt L t.i (signB ere 41)=true∧top=false)
 |0,_,_,_,_,_,h=>by simp[sidesL]at h
 |f+1,all,n,s,re,t,h=>by
  unfold sidesL at h
  split at h
  ·cases h
  ·rename_i parts r u hx
   have h1:=hr _ _ _ hx
   simp only at h
   split at h
   ·cases h
   ·split at h
    ·rename_i hm
     cases h
     rcases h1 with h1|h1|h1
     ·exact .inl h1
     ·rw[h1]at hm;cases hm
     ·exact .inr h1
    ·exact sidesL_stop hr f _ _ _ _ _ h
theorem groupL_adv {ere:Bool} {L:List Mk} (hu: ∀i,i<L.length→(markAt L i).b<256): ∀(k:Nat) (s:Rst) (re:List Nd) (t:Rst),s.i+wideB ere≤L.length→groupL ere L k s= .ok re t→Adv L s t
 |0,_,_,_,_,h=>by simp[groupL]at h
 |k+1,s,re,t,hs,h=>by
  have hw:=wideB_pos ere
  unfold groupL at h
  split at h
  ·cases h
  ·split at h
   ·cases h
   ·rename_i r u hx
    have h1:=sidesL_rise (fun s r t h0 h=>rowL_rise hu (fun s re t=>groupL_adv hu k s re t) _ _ _ _ _ _ _ h0 h) _ _ _ _ _ _ (by simpa using hs) hx
    have h2:=sidesL_stop (fun s r t h=>rowL_stop _ _ _ _ _ _ _ h) _ _ _ _ _ _ hx
    split at h
    ·cases h
    ·rename_i hne
     have h3:u.i+wideB ere≤L.length:=by
      rcases h2 with h2|h2
      ·have:=h1.le;omega
      ·exact seesSign_le h2.1
     cases h
     refine⟨?_,h3,?_⟩
     ·have:=h1.lt;simp only at this ⊢;omega
     ·have:=h1.ended;simp only[List.length_append,List.length_set]at this ⊢;omega
theorem rowS_rise {ere top:Bool} {L:List Mk} (hu: ∀i,i<L.length→(markAt L i).b<256) (k:Nat) {s:Rst} {r:Nat × List Nd} {t:Rst} (hs:s.i≤L.length) (h:rowS ere top L (groupL ere L k) s= .ok r t):Rise L s t:=
 rowL_rise hu (fun s re t=>groupL_adv hu k s re t) _ _ _ _ _ _ _ hs h
theorem sidesK_rise {ere:Bool} {L:List Mk} (hu: ∀i,i<L.length→(markAt L i).b<256) (k:Nat) {s:Rst} {re:List Nd} {t:Rst} (hs:s.i≤L.length) (h:sidesK ere L k s= .ok re t):Rise L s t:=
 sidesL_rise (fun _ _ _ h0 h=>rowS_rise hu k h0 h) _ _ _ _ _ _ hs h
theorem sidesK_stop {ere:Bool} {L:List Mk} (k:Nat) {s:Rst} {re:List Nd} {t:Rst} (h:sidesK ere L k s= .ok re t):L.length≤t.i∨(seesAt L t.i (signB ere 41)=true∧(k==64)=false):=
 sidesL_stop (fun _ _ _ h=>rowL_stop _ _ _ _ _ _ _ h) _ _ _ _ _ _ h
end Go.Proofs.YtfjbnpdffillbaaGreatDoor
namespace Go.Proofs.YtfjbnpdffillbaaGreatDoor
def timesN (n:Nd):Int:=if n.op=6 then(if n.max<0 then n.min+1 else max n.max 1)else 1
def kidsW (g:Nat→Option (Int × Nat)):Nat→Int→Nat→Option (Int × Nat)
 |0,sum,to=>some (sum,to)
 |k+1,sum,to=>match g to with
  |none=>none
  |some (w,nx)=>kidsW g k (min (sum+w) 16385) nx
def weighN (re:List Nd):Nat→Nat→Option (Int × Nat)
 |0,_=>none
 |f+1,i=>match re[i]? with
  |none=>none
  |some n=>match kidsW (weighN re f) n.kids.toNat 0 (i+1)with
   |none=>none
   |some (sum,to)=>some (min (timesN n*sum+1) 16385,to)
def goodN (n:Nd):Bool:=
 decide (1≤n.op)&&decide (n.op≤8)
 &&(n.op==1||n.set==Cls.zero)
 &&(n.op==7||n.op==8||n.n==0)
 &&(if n.op=6 then decide (0≤n.min)&&decide (n.min≤255)&&(n.max== -1||decide (n.min≤n.max)&&decide (n.max≤255))else n.min==0&&n.max==0)
 &&(if n.op=6∨n.op=7 then n.kids==1 else if n.op=5 then decide (2≤n.kids)else if n.op=4 then n.kids==0||decide (2≤n.kids)else n.kids==0)
def kidsN (g:Nat→List Bool→Option (Nat × List Bool)):Nat→Nat→List Bool→Option (Nat × List Bool)
 |0,i,en=>some (i,en)
 |k+1,i,en=>match g i en with
  |none=>none
  |some (j,en')=>kidsN g k j en'
def nodeN (re:List Nd):Nat→Nat→Nat→List Bool→Option (Nat × List Bool)
 |0,_,_,_=>none
 |f+1,g,i,en=>match re[i]? with
  |none=>none
  |some n=>
   if !goodN n then none
   else if n.op==8&&(decide (n.n<1)||decide ((en.length:Int)<n.n)|| !en.getD (n.n.toNat - 1) false)then none
   else if n.op=7 then
    if n.n≠(en.length:Int)+1∨255<n.n∨64≤g then none
    else match kidsN (nodeN re f (g+1)) n.kids.toNat (i+1) (en++[false])with
     |none=>none
     |some (j,en')=>some (j,en'.set en.length true)
   else kidsN (nodeN re f g) n.kids.toNat (i+1) en
def shapedN (re:List Nd):Bool:=
 match nodeN re 260 0 0 []with
 |none=>false
 |some (j,_)=>decide (j=re.length)&&(match weighN re 260 0 with
  |none=>false
  |some (w,_)=>decide (w≤16384))
def behindN (re:List Nd) (i:Int):Int:=if shapedN re&&decide (0≤i)&&decide (i<re.length)then(match weighN re 260 i.toNat with|none=> -1|some (_,to)=>to)else -1
theorem kidsW_of_kidsN {g:Nat→List Bool→Option (Nat × List Bool)} {h:Nat→Option (Int × Nat)} (hg: ∀i en j en',g i en=some (j,en')→ ∃w,h i=some (w,j)):
  ∀(k i:Nat) (en:List Bool) (j:Nat) (en':List Bool),kidsN g k i en=some (j,en')→ ∀sum,∃w,kidsW h k sum i=some (w,j)
 |0,i,en,j,en',he,sum=>by simp only[kidsN,Option.some.injEq,Prod.mk.injEq]at he;exact⟨sum,by simp[kidsW,he.1]⟩
 |k+1,i,en,j,en',he,sum=>by
  unfold kidsN at he
  split at he
  ·cases he
  ·rename_i j1 en1 h1
   obtain⟨w,hw⟩:=hg _ _ _ _ h1
   obtain⟨w2,hw2⟩:=kidsW_of_kidsN hg k _ _ _ _ he (min (sum+w) 16385)
   exact⟨w2,by simp only[kidsW,hw,hw2]⟩
theorem weighN_of_nodeN (re:List Nd): ∀(f g i:Nat) (en:List Bool) (j:Nat) (en':List Bool),nodeN re f g i en=some (j,en')→ ∃w,weighN re f i=some (w,j)
 |0,_,_,_,_,_,h=>by simp[nodeN]at h
 |f+1,g,i,en,j,en',h=>by
  unfold nodeN at h
  split at h
  ·cases h
  ·rename_i n hn
   have fin: ∀g' en1 j1 en2,kidsN (nodeN re f g') n.kids.toNat (i+1) en1=some (j1,en2)→ ∃w,weighN re (f+1) i=some (w,j1):=fun g' en1 j1 en2 hk=>by
    obtain⟨w,hw⟩:=kidsW_of_kidsN (fun i en j en'=>weighN_of_nodeN re f g' i en j en') _ _ _ _ _ hk 0
    exact⟨min (timesN n*w+1) 16385,by simp only[weighN,hn,hw]⟩
   split at h
   ·cases h
   ·split at h
    ·cases h
    ·split at h
     ·split at h
      ·cases h
      ·split at h
       ·cases h
       ·rename_i j1 en1 hk
        cases h
        exact fin _ _ _ _ hk
     ·exact fin _ _ _ _ h
theorem kidsW_mono {g h:Nat→Option (Int × Nat)} (hg: ∀i r,g i=some r→h i=some r): ∀(k:Nat) (sum:Int) (i:Nat) (r:Int × Nat),kidsW g k sum i=some r→kidsW h k sum i=some r
 |0,_,_,_,he=>he
 |k+1,sum,i,r,he=>by
  unfold kidsW at he ⊢
  split at he
  ·cases he
  ·rename_i w nx h1
   rw[hg _ _ h1]
   exact kidsW_mono hg k _ _ _ he
theorem weighN_succ (re:List Nd): ∀(f i:Nat) (r:Int × Nat),weighN re f i=some r→weighN re (f+1) i=some r
 |0,_,_,h=>by simp[weighN]at h
 |f+1,i,r,h=>by
  rw[weighN]at h ⊢
  split at h
  ·cases h
  ·split at h
   ·cases h
   ·rename_i sum to hk
    rw[kidsW_mono (fun i r=>weighN_succ re f i r) _ _ _ _ hk]
    exact h
theorem weighN_mono (re:List Nd) {f g i:Nat} {r:Int × Nat} (hfg:f≤g) (h:weighN re f i=some r):weighN re g i=some r:=by
 induction hfg with
 |refl=>exact h
 |step _ ih=>exact weighN_succ re _ _ _ ih
end Go.Proofs.YtfjbnpdffillbaaGreatDoor
namespace Go.Proofs.YtfjbnpdffillbaaGreatDoor
def Small (s:Rst) (re:List Nd) (t:Rst):Prop:=0<re.length∧re.length+4*s.i≤4*t.i
theorem atomL_small {ere first:Bool} {L:List Mk} {grp:Rst→Out (List Nd)} {s:Rst} {r:List Nd × Bool} {t:Rst} (hu: ∀i,i<L.length→(markAt L i).b<256) (hs:s.i<L.length)
  (hg: ∀re t,s.i+wideB ere≤L.length→grp s= .ok re t→Small s re t) (h:atomL ere first L grp s= .ok r t):Small s r.1 t:=by
 have one: ∀(x:Nd) (j:Nat),s.i<j→Small s [x] ⟨j,s.ended⟩:=fun x j hj=>⟨by simp,by simp only[List.length_singleton];omega⟩
 unfold atomL at h
 simp only at h
 split at h
 ·cases h;exact one _ _ (Nat.lt_succ_self _)
 ·split at h
  ·unfold anyL at h;cases h;exact one _ _ (Nat.lt_succ_self _)
  ·split at h
   ·unfold brackL at h
    split at h
    ·cases h
    ·rename_i hx;cases h;exact one _ _ (bracketL_next hu hx).1
   ·split at h
    ·unfold escapeL at h
     split at h
     ·cases h
     ·rename_i hne
      split at h
      ·cases h
      ·simp only at h
       split at h
       ·rename_i he
        have hw:wideB ere=2:=by cases ere<;>simp_all[wideB]
        unfold withTrue at h
        split at h
        ·rename_i hx;cases h;exact hg _ _ (by omega) hx
        ·cases h
       ·split at h
        ·cases h;exact one _ _ (by omega)
        ·split at h
         ·cases h;exact one _ _ (by omega)
         ·split at h
          ·split at h
           ·cases h
           ·split at h
            ·cases h
            ·cases h;exact one _ _ (by omega)
          ·cases h
    ·split at h
     ·unfold beginL at h;split at h<;>(cases h;exact one _ _ (Nat.lt_succ_self _))
     ·split at h
      ·unfold endL at h;split at h<;>(cases h;exact one _ _ (Nat.lt_succ_self _))
      ·split at h
       ·rename_i he
        have hw:wideB ere=1:=by cases ere<;>simp_all[wideB]
        unfold withTrue at h
        split at h
        ·rename_i hx;cases h;exact hg _ _ (by omega) hx
        ·cases h
       ·cases h;exact one _ _ (Nat.lt_succ_self _)
theorem rowL_small {ere top:Bool} {L:List Mk} {grp:Rst→Out (List Nd)} (hu: ∀i,i<L.length→(markAt L i).b<256) (hg: ∀s re t,s.i+wideB ere≤L.length→grp s= .ok re t→Small s re t)
  (ha: ∀s re t,s.i+wideB ere≤L.length→grp s= .ok re t→Adv L s t) (s0:Nat):
  ∀(f:Nat) (all:List Nd) (n:Nat) (lead:Bool) (s:Rst) (r:Nat × List Nd) (t:Rst),s.i≤L.length→all.length+4*s0≤4*s.i→n+s0≤s.i→rowL ere top L grp f all n lead s= .ok r t→r.2.length+4*s0≤4*t.i∧r.1+s0≤t.i
 |0,_,_,_,_,_,_,_,_,_,h=>by simp[rowL]at h
 |f+1,all,n,lead,s,r,t,hs,h1,h2,h=>by
  unfold rowL at h
  split at h
  ·cases h;exact⟨h1,h2⟩
  ·rename_i hlt
   split at h
   ·cases h;exact⟨h1,h2⟩
   ·split at h
    ·split at h
     ·cases h
     ·cases h;exact⟨h1,h2⟩
    ·split at h
     ·cases h
     ·split at h
      ·cases h
      ·rename_i re takes u hx
       have hb:=atomL_small hu (by omega) (fun re t=>hg s re t) hx
       have hv:=atomL_adv hu (by omega) (fun re t=>ha s re t) hx
       have hlt1:=hv.lt
       obtain⟨_,hb2⟩:=hb
       simp only at h hb2
       split at h
       ·rename_i hr
        simp only[Bool.and_eq_true]at hr
        split at h
        ·cases h
        ·rename_i d v hd
         have h3:=dupL_adv hr.2 hd
         have h4:=h3.lt
         exact rowL_small hu hg ha s0 f _ _ _ _ _ _ h3.le (by simp only[List.length_append,List.length_cons];omega) (by omega) h
       ·exact rowL_small hu hg ha s0 f _ _ _ _ _ _ hv.le (by simp only[List.length_append];omega) (by omega) h
theorem sidesL_small {ere:Bool} {L:List Mk} {row:Rst→Out (Nat × List Nd)} (hr: ∀s r t,s.i≤L.length→row s= .ok r t→Rise L s t) (hz: ∀s r t,s.i≤L.length→row s= .ok r t→r.2.length+4*s.i≤4*t.i) (s0:Nat):
  ∀(f:Nat) (all:List Nd) (n:Nat) (s:Rst) (re:List Nd) (t:Rst),s.i≤L.length→all.length+4*s0≤4*s.i→sidesL ere L row f all n s= .ok re t→re.length+4*s0≤4*t.i+2
 |0,_,_,_,_,_,_,_,h=>by simp[sidesL]at h
 |f+1,all,n,s,re,t,hs,h1,h=>by
  unfold sidesL at h
  split at h
  ·cases h
  ·rename_i parts r u hx
   have h2:=hr _ _ _ hs hx
   have h3:=hz _ _ _ hs hx
   simp only at h h3
   split at h
   ·cases h
   ·have hl: ∀(x:Nd),(all++(if parts=1 then r else x::r)).length+4*s0≤4*u.i+1:=fun x=>by
     split<;>simp only[List.length_append,List.length_cons]<;>omega
    split at h
    ·cases h
     split
     ·have:=hl (catN parts);simp only[List.length_cons];omega
     ·have:=hl (catN parts);omega
    ·rename_i hm
     have hm':(ere&&seesAt L u.i [124])=true:=by simpa using hm
     simp only[Bool.and_eq_true]at hm'
     have h4:=seesAt_le (by simp) hm'.2
     have:=hl (catN parts)
     exact sidesL_small hr hz s0 f _ _ _ _ _ (by simpa using h4) (by simp only;omega) h
theorem groupL_small {ere:Bool} {L:List Mk} (hu: ∀i,i<L.length→(markAt L i).b<256): ∀(k:Nat) (s:Rst) (re:List Nd) (t:Rst),s.i+wideB ere≤L.length→groupL ere L k s= .ok re t→Small s re t
 |0,_,_,_,_,h=>by simp[groupL]at h
 |k+1,s,re,t,hs,h=>by
  have hw:=wideB_pos ere
  unfold groupL at h
  split at h
  ·cases h
  ·split at h
   ·cases h
   ·rename_i r u hx
    have h1:=sidesL_small (fun s r t h0 h=>rowS_rise hu k h0 h)
     (fun s r t h0 h=>(rowL_small hu (fun s re t=>groupL_small hu k s re t) (fun s re t=>groupL_adv hu k s re t) s.i _ _ _ _ _ _ _ h0 (by simp) (by simp) h).1) (s.i+wideB ere) _ _ _ _ _ _ (by simpa using hs) (by simp) hx
    split at h
    ·cases h
    ·cases h
     refine⟨by simp,?_⟩
     simp only[List.length_cons]
     omega
theorem rowS_small {ere top:Bool} {L:List Mk} (hu: ∀i,i<L.length→(markAt L i).b<256) (k:Nat) {s:Rst} {r:Nat × List Nd} {t:Rst} (hs:s.i≤L.length) (h:rowS ere top L (groupL ere L k) s= .ok r t):r.2.length+4*s.i≤4*t.i∧r.1+s.i≤t.i:=
 rowL_small hu (fun s re t=>groupL_small hu k s re t) (fun s re t=>groupL_adv hu k s re t) s.i _ _ _ _ _ _ _ hs (by simp) (by simp) h
theorem sidesK_small {ere:Bool} {L:List Mk} (hu: ∀i,i<L.length→(markAt L i).b<256) (k:Nat) {s:Rst} {re:List Nd} {t:Rst} (hs:s.i≤L.length) (h:sidesK ere L k s= .ok re t):re.length+4*s.i≤4*t.i+2:=
 sidesL_small (fun _ _ _ h0 h=>rowS_rise hu k h0 h) (fun _ _ _ h0 h=>(rowS_small hu k h0 h).1) s.i _ _ _ _ _ _ hs (by simp) h
end Go.Proofs.YtfjbnpdffillbaaGreatDoor
namespace Go.Proofs.YtfjbnpdffillbaaGreatDoor
theorem kidsN_mono {g h:Nat→List Bool→Option (Nat × List Bool)} (hg: ∀i en r,g i en=some r→h i en=some r): ∀(k i:Nat) (en:List Bool) (r:Nat × List Bool),kidsN g k i en=some r→kidsN h k i en=some r
 |0,_,_,_,he=>he
 |k+1,i,en,r,he=>by
  unfold kidsN at he ⊢
  split at he
  ·cases he
  ·rename_i j en1 h1
   rw[hg _ _ _ h1]
   exact kidsN_mono hg k _ _ _ he
theorem nodeN_succ (re:List Nd): ∀(f g i:Nat) (en:List Bool) (r:Nat × List Bool),nodeN re f g i en=some r→nodeN re (f+1) g i en=some r
 |0,_,_,_,_,h=>by simp[nodeN]at h
 |f+1,g,i,en,r,h=>by
  rw[nodeN]at h ⊢
  split at h
  ·cases h
  ·split at h
   ·cases h
   ·split at h
    ·cases h
    ·rename_i n _ hgood href
     rw[if_neg hgood,if_neg href]
     split at h
     ·rename_i h7
      rw[if_pos h7]
      split at h
      ·cases h
      ·rename_i hc
       rw[if_neg hc]
       split at h
       ·cases h
       ·rename_i j en1 hk
        rw[kidsN_mono (fun i en r=>nodeN_succ re f (g+1) i en r) _ _ _ _ hk]
        exact h
     ·rename_i h7
      rw[if_neg h7]
      exact kidsN_mono (fun i en r=>nodeN_succ re f g i en r) _ _ _ _ h
theorem nodeN_mono (re:List Nd) {f f' g i:Nat} {en:List Bool} {r:Nat × List Bool} (hf:f≤f') (h:nodeN re f g i en=some r):nodeN re f' g i en=some r:=by
 induction hf with
 |refl=>exact h
 |step _ ih=>exact nodeN_succ re _ _ _ _ _ ih
def Tr (f g:Nat) (l:List Nd) (a b:List Bool):Prop:= ∀pre post,nodeN (pre++l++post) f g pre.length a=some (pre.length+l.length,b)
def Trs (f g n:Nat) (l:List Nd) (a b:List Bool):Prop:= ∀pre post,kidsN (nodeN (pre++l++post) f g) n pre.length a=some (pre.length+l.length,b)
theorem Tr.mono {f f' g:Nat} {l:List Nd} {a b:List Bool} (h:Tr f g l a b) (hf:f≤f'):Tr f' g l a b:=fun pre post=>nodeN_mono _ hf (h pre post)
theorem Trs.nil (f g:Nat) (a:List Bool):Trs f g 0 [] a a:=fun pre post=>by simp[kidsN]
theorem kidsN_add (g:Nat→List Bool→Option (Nat × List Bool)): ∀(m n i:Nat) (en:List Bool) (j:Nat) (en':List Bool),kidsN g m i en=some (j,en')→kidsN g (m+n) i en=kidsN g n j en'
 |0,n,i,en,j,en',h=>by
  simp only[kidsN,Option.some.injEq,Prod.mk.injEq]at h
  rw[h.1,h.2,Nat.zero_add]
 |m+1,n,i,en,j,en',h=>by
  rw[kidsN]at h
  rw[show m+1+n=(m+n)+1 by omega,kidsN]
  split at h
  ·cases h
  ·rename_i j1 en1 h1
   exact kidsN_add g m n _ _ _ _ h
theorem Trs.append {f g m n:Nat} {l l':List Nd} {a b c:List Bool} (h:Trs f g m l a b) (h':Trs f g n l' b c):Trs f g (m+n) (l++l') a c:=fun pre post=>by
 have h1:=h pre (l'++post)
 have h2:=h' (pre++l) post
 rw[show pre++(l++l')++post=pre++l++(l'++post)by simp]
 rw[kidsN_add _ m n _ _ _ _ h1]
 rw[show pre++l++l'++post=pre++l++(l'++post)by simp,List.length_append]at h2
 rw[h2,List.length_append]
 simp only[Nat.add_assoc]
theorem Tr.one {f g:Nat} {l:List Nd} {a b:List Bool} (h:Tr f g l a b):Trs f g 1 l a b:=fun pre post=>by
 simp only[kidsN,h pre post]
theorem get_mid (pre l post:List Nd) (x:Nd):(pre++(x::l)++post)[pre.length]?=some x:=by simp
theorem Tr.node {f g:Nat} {x:Nd} {l:List Nd} {a b:List Bool} (hx:goodN x=true) (h8:x.op≠8) (h7:x.op≠7) (h:Trs f g x.kids.toNat l a b):Tr (f+1) g (x::l) a b:=fun pre post=>by
 have h1:=h (pre++[x]) post
 rw[show pre++[x]++l++post=pre++(x::l)++post by simp,show(pre++[x]).length=pre.length+1 by simp]at h1
 rw[nodeN,get_mid]
 simp only[hx,Bool.not_true,Bool.false_eq_true,if_false,show(x.op==8)=false by simpa using h8,Bool.false_and,if_neg h7]
 rw[h1,List.length_cons]
 simp only[Nat.add_assoc,Nat.add_comm 1]
theorem Tr.leaf {f g:Nat} {x:Nd} {a:List Bool} (hx:goodN x=true) (h8:x.op≠8) (h7:x.op≠7) (hk:x.kids=0):Tr (f+1) g [x] a a:=
 Tr.node hx h8 h7 (by rw[hk];exact Trs.nil _ _ _)
theorem Tr.ref {f g n:Nat} {a:List Bool} (h1:1≤n) (h2:n≤a.length) (h3:a.getD (n - 1) false=true):Tr (f+1) g [refN n] a a:=fun pre post=>by
 rw[nodeN,get_mid]
 have hg:goodN (refN n)=true:=by simp[goodN,refN]
 have hb:(decide ((refN n).n<1)||decide ((a.length:Int)<(refN n).n)|| !a.getD ((refN n).n.toNat - 1) false)=false:=by
  have hn1: ¬(refN n).n<1:=by show¬(n:Int)<1;omega
  have hn2: ¬(a.length:Int)<(refN n).n:=by show¬(a.length:Int)<(n:Int);omega
  have hn3:(refN n).n.toNat=n:=rfl
  rw[decide_eq_false hn1,decide_eq_false hn2,hn3,h3]
  rfl
 simp only[hg,Bool.not_true,Bool.false_eq_true,if_false,hb,Bool.and_false]
 rw[if_neg (by show¬(8:Int)=7;decide)]
 simp[refN,kidsN]
theorem Tr.group {f g:Nat} {l:List Nd} {a b:List Bool} (ha:a.length<255) (hg:g<64) (h:Tr f (g+1) l (a++[false]) b):Tr (f+1) g (groupN (a.length+1)::l) a (b.set a.length true):=fun pre post=>by
 have h1:=h.one (pre++[groupN (a.length+1)]) post
 rw[show pre++[groupN (a.length+1)]++l++post=pre++(groupN (a.length+1)::l)++post by simp,show(pre++[groupN (a.length+1)]).length=pre.length+1 by simp]at h1
 rw[nodeN,get_mid]
 have hgd:goodN (groupN (a.length+1))=true:=by simp[goodN,groupN]
 simp only[hgd,Bool.not_true,Bool.false_eq_true,if_false,show((groupN (a.length+1)).op==8)=false by rfl,Bool.false_and]
 rw[if_pos (by rfl),if_neg (by simp only[groupN];omega)]
 rw[show(groupN (a.length+1)).kids.toNat=1 from rfl,h1]
 simp only[List.length_cons,Nat.add_assoc,Nat.add_comm 1]
theorem numberL_ge (L:List Mk): ∀(f:Nat) (n:Int) (i:Nat),-1≤n→ -1≤(numberL L f n i).1
 |0,n,i,h1=>h1
 |f+1,n,i,h1=>by
  unfold numberL
  split
  ·exact h1
  ·split
   ·exact h1
   ·rename_i h3
    simp only[Bool.or_eq_true,decide_eq_true_eq,not_or]at h3
    exact numberL_ge L f _ _ (by omega)
theorem intervalL_good {ere:Bool} {L:List Mk} {s:Rst} {lo hi:Int} {t:Rst} (h:intervalL ere L s= .ok (lo,hi) t):goodN (repN lo hi)=true∧t.ended=s.ended:=by
 unfold intervalL at h
 have h0:=numberL_ge L (L.length - (s.i+wideB ere)) (-1) (s.i+wideB ere) (by omega)
 change -1≤(numL L (s.i+wideB ere)).1 at h0
 generalize numL L (s.i+wideB ere)=a at h h0
 obtain⟨b,hb⟩: ∃b,b=(if seesAt L a.2 [44]then numL L (a.2+1)else a):=⟨_,rfl⟩
 have hb1: -1≤b.1:=by
  rw[hb]
  split
  ·exact numberL_ge L _ _ _ (by omega)
  ·exact h0
 simp only[←hb]at h
 split at h
 ·cases h
 ·rename_i hc
  simp only[Bool.or_eq_true,Bool.and_eq_true,decide_eq_true_eq,not_or,not_and]at hc
  cases h
  refine⟨?_,rfl⟩
  unfold goodN repN
  simp only[beq_self_eq_true,if_true,true_or,Bool.or_true,Bool.and_true,show((6:Int)==1)=false from rfl,show((6:Int)==7)=false from rfl,show((6:Int)==8)=false from rfl,Bool.false_or]
  rw[decide_eq_true (show(0:Int)≤a.1 by omega),decide_eq_true (show a.1≤255 by omega)]
  by_cases hm:b.1= -1
  ·rw[hm];rfl
  ·rw[decide_eq_true (show a.1≤b.1 by omega),decide_eq_true (show b.1≤255 by omega)]
   simp
theorem dupL_good {ere:Bool} {L:List Mk} {s:Rst} {d:Nd} {t:Rst} (h:dupL ere L s= .ok d t):goodN d=true∧t.ended=s.ended∧d.op=6∧d.kids=1:=by
 unfold dupL at h
 split at h
 ·cases h;exact⟨by decide,rfl,rfl,rfl⟩
 ·split at h
  ·cases h;exact⟨by decide,rfl,rfl,rfl⟩
  ·split at h
   ·cases h;exact⟨by decide,rfl,rfl,rfl⟩
   ·split at h
    ·cases h
    ·rename_i hi
     cases h
     exact⟨(intervalL_good hi).1,(intervalL_good hi).2,rfl,rfl⟩
theorem setN_good (c:Cls):goodN (setN c)=true:=by simp[goodN,setN]
theorem oneN_good (b:Nat):goodN (oneN b)=true:=by simp[goodN,oneN]
theorem catN_good {k:Nat} (h:k≠1):goodN (catN k)=true:=by
 by_cases hz:k=0
 ·subst hz;rfl
 ·have h2:(2:Int)≤(k:Int):=by omega
  simp[goodN,catN,h2]
theorem altN_good {k:Nat} (h:2≤k):goodN (altN k)=true:=by
 have h2:(2:Int)≤(k:Int):=by omega
 simp[goodN,altN,h2]
theorem atomL_tree {ere first:Bool} {L:List Mk} {grp:Rst→Out (List Nd)} {f g:Nat} {s:Rst} {r:List Nd × Bool} {t:Rst} (hl:s.ended.length≤255) (hg: ∀re t,grp s= .ok re t→Tr (f+1) g re s.ended t.ended∧t.ended.length≤255)
  (h:atomL ere first L grp s= .ok r t):Tr (f+1) g r.1 s.ended t.ended∧t.ended.length≤255:=by
 have one: ∀(x:Nd),goodN x=true→x.op≠8→x.op≠7→x.kids=0→Tr (f+1) g [x] s.ended s.ended∧s.ended.length≤255:=fun x h1 h2 h3 h4=>⟨Tr.leaf h1 h2 h3 h4,hl⟩
 have hone: ∀b,Tr (f+1) g [oneN b] s.ended s.ended∧s.ended.length≤255:=fun b=>one _ (oneN_good b) (by show(1:Int)≠8;decide) (by show(1:Int)≠7;decide) rfl
 have hset: ∀c,Tr (f+1) g [setN c] s.ended s.ended∧s.ended.length≤255:=fun c=>one _ (setN_good c) (by show(1:Int)≠8;decide) (by show(1:Int)≠7;decide) rfl
 unfold atomL at h
 simp only at h
 split at h
 ·cases h;exact hone _
 ·split at h
  ·unfold anyL at h;cases h;exact hset _
  ·split at h
   ·unfold brackL at h
    split at h
    ·cases h
    ·cases h;exact hset _
   ·split at h
    ·unfold escapeL at h
     split at h
     ·cases h
     ·split at h
      ·cases h
      ·simp only at h
       split at h
       ·unfold withTrue at h
        split at h
        ·rename_i hx;cases h;exact hg _ _ hx
        ·cases h
       ·split at h
        ·cases h;exact hone _
        ·split at h
         ·cases h;exact hone _
         ·split at h
          ·rename_i hd
           simp only[Bool.and_eq_true,decide_eq_true_eq]at hd
           split at h
           ·cases h
           ·rename_i h1
            split at h
            ·cases h
            ·rename_i h2
             cases h
             exact⟨Tr.ref (by omega) (by omega) (by simpa using h2),hl⟩
          ·cases h
    ·split at h
     ·unfold beginL at h
      split at h
      ·cases h;exact hone _
      ·cases h;exact one _ (by decide) (by decide) (by decide) rfl
     ·split at h
      ·unfold endL at h
       split at h
       ·cases h;exact hone _
       ·cases h;exact one _ (by decide) (by decide) (by decide) rfl
      ·split at h
       ·unfold withTrue at h
        split at h
        ·rename_i hx;cases h;exact hg _ _ hx
        ·cases h
       ·cases h;exact hone _
theorem rowL_tree {ere top:Bool} {L:List Mk} {grp:Rst→Out (List Nd)} {f g:Nat} (hg: ∀s re t,s.ended.length≤255→grp s= .ok re t→Tr (f+1) g re s.ended t.ended∧t.ended.length≤255) (a:List Bool):
  ∀(fu:Nat) (all:List Nd) (n:Nat) (lead:Bool) (s:Rst) (r:Nat × List Nd) (t:Rst),s.ended.length≤255→Trs (f+2) g n all a s.ended→rowL ere top L grp fu all n lead s= .ok r t→Trs (f+2) g r.1 r.2 a t.ended∧t.ended.length≤255
 |0,_,_,_,_,_,_,_,_,h=>by simp[rowL]at h
 |fu+1,all,n,lead,s,r,t,hl,ha,h=>by
  unfold rowL at h
  split at h
  ·cases h;exact⟨ha,hl⟩
  ·split at h
   ·cases h;exact⟨ha,hl⟩
   ·split at h
    ·split at h
     ·cases h
     ·cases h;exact⟨ha,hl⟩
    ·split at h
     ·cases h
     ·split at h
      ·cases h
      ·rename_i re takes u hx
       have h1:=atomL_tree hl (fun re t=>hg s re t hl) hx
       simp only at h h1
       split at h
       ·split at h
        ·cases h
        ·rename_i d v hd
         have h2:=dupL_good hd
         have h3:Tr (f+2) g (d::re) s.ended u.ended:=Tr.node h2.1 (by rw[h2.2.2.1];decide) (by rw[h2.2.2.1];decide) (by rw[h2.2.2.2];exact h1.1.one)
         exact rowL_tree hg a fu _ _ _ _ _ _ (by rw[h2.2.1];exact h1.2) (by rw[h2.2.1];exact ha.append h3.one) h
       ·exact rowL_tree hg a fu _ _ _ _ _ _ h1.2 (ha.append (h1.1.mono (Nat.le_succ _)).one) h
theorem sidesL_tree {ere:Bool} {L:List Mk} {row:Rst→Out (Nat × List Nd)} {f g:Nat} (hr: ∀s r t,s.ended.length≤255→row s= .ok r t→Trs (f+2) g r.1 r.2 s.ended t.ended∧t.ended.length≤255) (a:List Bool):
  ∀(fu:Nat) (all:List Nd) (n:Nat) (s:Rst) (re:List Nd) (t:Rst),s.ended.length≤255→Trs (f+3) g n all a s.ended→sidesL ere L row fu all n s= .ok re t→Tr (f+4) g re a t.ended∧t.ended.length≤255
 |0,_,_,_,_,_,_,_,h=>by simp[sidesL]at h
 |fu+1,all,n,s,re,t,hl,ha,h=>by
  unfold sidesL at h
  split at h
  ·cases h
  ·rename_i parts r u hx
   have h1:=hr _ _ _ hl hx
   simp only at h h1
   split at h
   ·cases h
   ·have h2:Tr (f+3) g (if parts=1 then r else catN parts::r) s.ended u.ended:=by
     split
     ·rename_i hp
      subst hp
      have h3:=h1.1
      intro pre post
      have h4:=h3 pre post
      simp only[kidsN]at h4
      split at h4
      ·cases h4
      ·rename_i j en hn
       cases h4
       exact nodeN_succ _ _ _ _ _ _ hn
     ·rename_i hp
      refine Tr.node ?_ (by show(4:Int)≠8;decide) (by show(4:Int)≠7;decide) (by rw[show(catN parts).kids.toNat=parts from rfl];exact h1.1)
      exact catN_good hp
    have h5:=ha.append h2.one
    split at h
    ·cases h
     split
     ·rename_i hn
      refine⟨Tr.node ?_ (by show(5:Int)≠8;decide) (by show(5:Int)≠7;decide) (by rw[show(altN (n+1)).kids.toNat=n+1 from rfl];exact h5),h1.2⟩
      exact altN_good (by omega)
     ·rename_i hn
      have hn0:n=0:=by omega
      subst hn0
      refine⟨fun pre post=>?_,h1.2⟩
      have h4:=h5 pre post
      rw[Nat.zero_add]at h4
      simp only[kidsN]at h4
      split at h4
      ·cases h4
      ·rename_i j en hn
       cases h4
       exact nodeN_succ _ _ _ _ _ _ hn
    ·exact sidesL_tree hr a fu _ _ ⟨u.i+1,u.ended⟩ _ _ h1.2 h5 h
theorem groupL_tree {ere:Bool} {L:List Mk} : ∀(k:Nat),k≤64→ ∀(s:Rst) (re:List Nd) (t:Rst),s.ended.length≤255→groupL ere L k s= .ok re t→Tr (4*k+1) (64 - k) re s.ended t.ended∧t.ended.length≤255
 |0,_,_,_,_,_,h=>by simp[groupL]at h
 |k+1,hk,s,re,t,hl,h=>by
  unfold groupL at h
  split at h
  ·cases h
  ·rename_i hne
   split at h
   ·cases h
   ·rename_i r u hx
    have h1:=sidesL_tree (f:=4*k) (g:=64 - k) (fun s r t h0 h=>rowL_tree (fun s re t=>groupL_tree k (by omega) s re t) s.ended _ _ _ _ _ _ _ h0 (Trs.nil _ _ _) h) (s.ended++[false]) _ _ _ _ _ _ (by simp;omega) (Trs.nil _ _ _) hx
    split at h
    ·cases h
    ·cases h
     rw[show 64 - k=(64 - (k+1))+1 by omega]at h1
     exact⟨Tr.group (by omega) (by omega) h1.1,by simpa using h1.2⟩
theorem sidesK_tree {ere:Bool} {L:List Mk} (k:Nat) (hk:k≤64) {s:Rst} {re:List Nd} {t:Rst} (hl:s.ended.length≤255) (h:sidesK ere L k s= .ok re t):Tr (4*k+4) (64 - k) re s.ended t.ended∧t.ended.length≤255:=
 sidesL_tree (f:=4*k) (g:=64 - k) (fun _ _ _ h0 h=>rowL_tree (fun s re t=>groupL_tree k hk s re t) _ _ _ _ _ _ _ _ h0 (Trs.nil _ _ _) h) s.ended _ _ _ _ _ _ hl (Trs.nil _ _ _) h
theorem sidesK_top {ere:Bool} {L:List Mk} {re:List Nd} {t:Rst} (h:sidesK ere L 64 ⟨0,[]⟩= .ok re t):nodeN re 260 0 0 []=some (re.length,t.ended):=by
 have:=(sidesK_tree 64 (Nat.le_refl _) (by simp) h).1 [] []
 simpa using this
end Go.Proofs.YtfjbnpdffillbaaGreatDoor
namespace Go.Proofs.YtfjbnpdffillbaaGreatDoor
def partN (T:List Nat) (d:Nat) (ends:Bool):Nat→Nat→List Mk→Option (List Mk × Nat)
 |0,_,_=>none
 |n+1,i,acc=>
  if T.length≤i then none
  else if T.getD i 0=d then some (acc,i+1)
  else if T.getD i 0=10 then none
  else if T.getD i 0=92 then
   if T.length≤i+1 then none
   else if T.getD (i+1) 0=10∧ends=false then none
   else partN T d ends n (i+2) (acc++(if T.getD (i+1) 0=d then [⟨d,true⟩]else [⟨92,false⟩,⟨T.getD (i+1) 0,false⟩]))
  else partN T d ends n (i+1) (acc++[⟨T.getD i 0,false⟩])
def partS (T:List Nat) (d:Nat) (ends:Bool) (i:Nat):Option (List Mk × Nat):=
 if d=92∨d=10 then none else partN T d ends (T.length - i) i []
def numN (T:List Nat) (most:Nat):Nat→Nat→Nat→Bool→Nat × Bool × Nat
 |0,i,v,h=>(v,h,i)
 |n+1,i,v,h=>
  if T.length≤i then(v,h,i)
  else if 48≤T.getD i 0∧T.getD i 0≤57 then
   if most<T.getD i 0 - 48∨(most - (T.getD i 0 - 48)) / 10<v then numN T most n (i+1) v true
   else numN T most n (i+1) (10*v+(T.getD i 0 - 48)) h
  else(v,h,i)
def numS (T:List Nat) (most i:Nat):Option (Nat × Nat):=
 let r:=numN T most (T.length - i) i 0 false
 if r.2.2=i∨r.2.1=true then none else some (r.1,r.2.2)
theorem partN_at {T:List Nat} {d:Nat} {ends:Bool} : ∀(n i:Nat) (acc:List Mk) (r:List Mk × Nat),partN T d ends n i acc=some r→i<r.2∧r.2≤T.length∧r.1.length+i+1≤acc.length+r.2
 |0,i,acc,r,h=>by simp[partN]at h
 |n+1,i,acc,r,h=>by
  unfold partN at h
  split at h
  ·simp at h
  ·rename_i h0
   split at h
   ·simp only[Option.some.injEq]at h
    subst h
    simp only
    omega
   ·split at h
    ·simp at h
    ·split at h
     ·split at h
      ·simp at h
      ·split at h
       ·simp at h
       ·have:=partN_at n _ _ _ h
        rw[List.length_append]at this
        split at this<;>simp only[List.length_cons,List.length_nil]at this<;>omega
     ·have:=partN_at n _ _ _ h
      rw[List.length_append]at this
      simp only[List.length_cons,List.length_nil]at this
      omega
theorem partS_at {T:List Nat} {d:Nat} {ends:Bool} {i:Nat} {r:List Mk × Nat} (h:partS T d ends i=some r):i<r.2∧r.2≤T.length∧r.1.length+i+1≤r.2:=by
 unfold partS at h
 split at h
 ·simp at h
 ·have:=partN_at _ _ _ _ h
  simpa using this
theorem numN_at {T:List Nat} {most:Nat} : ∀(n i v:Nat) (h:Bool),v≤most→i+n≤T.length→i≤(numN T most n i v h).2.2∧(numN T most n i v h).2.2≤T.length∧(numN T most n i v h).1≤most
 |0,i,v,h,hv,hi=>by simp only[numN];omega
 |n+1,i,v,h,hv,hi=>by
  unfold numN
  split
  ·simp only;omega
  ·split
   ·rename_i h1
    split
    ·have:=numN_at (T:=T) (most:=most) n (i+1) v true hv (by omega)
     omega
    ·rename_i h2
     have:=numN_at (T:=T) (most:=most) n (i+1) (10*v+(T.getD i 0 - 48)) h (by omega) (by omega)
     omega
   ·simp only;omega
end Go.Proofs.YtfjbnpdffillbaaGreatDoor
namespace Go.Proofs.YtfjbnpdffillbaaGreatDoor
def Cls.has (c:Cls) (b:Nat):Bool:=(c.word (b / 64)).getLsbD (b % 64)
def Cls.els (c:Cls):List Nat:=(List.range 256).filter c.has
theorem bit1_at {n i:Nat} (hn:n<64):(bit1 n).getLsbD i=decide (i=n):=by
 unfold bit1
 rw[BitVec.getLsbD_shiftLeft,BitVec.getLsbD_one]
 by_cases h:i=n
 ·subst h;simp[hn]
 ·by_cases h2:i<n
  ·simp[h2,h]
  ·have:i - n≠0:=by omega
   simp[h,this]
theorem word_set (c:Cls) (j k:Nat) (hj:j<4) (hk:k<4) (v:BitVec 64):(c.set j v).word k=if k=j then v else c.word k:=by
 match j,hj,k,hk with
 |0,_,0,_|0,_,1,_|0,_,2,_|0,_,3,_|1,_,0,_|1,_,1,_|1,_,2,_|1,_,3,_|2,_,0,_|2,_,1,_|2,_,2,_|2,_,3,_|3,_,0,_|3,_,1,_|3,_,2,_|3,_,3,_=>rfl
theorem has_add (c:Cls) {b i:Nat} (hb:b<256) (hi:i<256):(c.add b).has i=(c.has i||decide (i=b)):=by
 unfold Cls.has Cls.add
 rw[word_set _ _ _ (by omega) (by omega)]
 by_cases h:i / 64=b / 64
 ·rw[if_pos h,h,orw,BitVec.getLsbD_or,bit1_at (by omega)]
  congr 1
  rw[decide_eq_decide]
  omega
 ·rw[if_neg h,decide_eq_false (show i≠b by omega),Bool.or_false]
theorem word_or (a b:Cls) (k:Nat):(a.or b).word k=a.word k ||| b.word k:=by
 match k with
 |0|1|2|_+3=>rfl
theorem word_not (a:Cls) (k:Nat):a.not.word k= ~~~(a.word k):=by
 match k with
 |0|1|2|_+3=>rfl
theorem has_not (a:Cls) (i:Nat):a.not.has i= !a.has i:=by
 unfold Cls.has;rw[word_not,BitVec.getLsbD_not,decide_eq_true (show i % 64<64 by omega),Bool.true_and]
theorem has_zero (i:Nat):Cls.zero.has i=false:=by
 unfold Cls.has Cls.zero Cls.word
 split<;>simp
theorem has_adds: ∀(l:List Nat) (c:Cls) {i:Nat},(∀b∈l,b<256)→i<256→(l.foldl Cls.add c).has i=(c.has i||decide (i∈l))
 |[],c,i,_,_=>by simp
 |b::l,c,i,hl,hi=>by
  rw[List.foldl_cons,has_adds l (c.add b) (fun x hx=>hl x (List.mem_cons_of_mem _ hx)) hi,has_add c (hl b (List.mem_cons_self ..)) hi,Bool.or_assoc]
  congr 1
  simp
theorem has_of {l:List Nat} {i:Nat} (hl: ∀b∈l,b<256) (hi:i<256):(Cls.of l).has i=decide (i∈l):=by
 unfold Cls.of
 rw[has_adds l _ hl hi,has_zero,Bool.false_or]
theorem has_range {lo hi i:Nat} (hh:hi<256) (hi':i<256):(Cls.range lo hi).has i=(decide (lo≤i)&&decide (i≤hi)):=by
 unfold Cls.range
 rw[has_of (fun b hb=>by have:=List.mem_range'_1.1 hb;omega) hi',←Bool.decide_and,decide_eq_decide,List.mem_range'_1]
 omega
theorem Cls.ext' {c d:Cls} (h: ∀i,i<256→c.has i=d.has i):c=d:=by
 have hw: ∀k,k<4→c.word k=d.word k:=fun k hk=>by
  refine BitVec.eq_of_getLsbD_eq fun i hi=>?_
  have:=h (k*64+i) (by omega)
  unfold Cls.has at this
  rwa[show(k*64+i) / 64=k by omega,show(k*64+i) % 64=i by omega]at this
 obtain⟨c0,c1,c2,c3⟩:=c
 obtain⟨d0,d1,d2,d3⟩:=d
 have h0:=hw 0 (by omega)
 have h1:=hw 1 (by omega)
 have h2:=hw 2 (by omega)
 have h3:=hw 3 (by omega)
 simp only[Cls.word]at h0 h1 h2 h3
 subst h0 h1 h2 h3
 rfl
theorem mem_els {c:Cls} {b:Nat} :b∈c.els↔b<256∧c.has b=true:=by
 unfold Cls.els
 rw[List.mem_filter,List.mem_range]
theorem els_lt {c:Cls} {b:Nat} (h:b∈c.els):b<256:=(mem_els.1 h).1
theorem els_inj {c d:Cls} (h:c.els=d.els):c=d:=Cls.ext' fun i hi=>by
 have:i∈c.els↔i∈d.els:=by rw[h]
 rw[mem_els,mem_els]at this
 cases hc:c.has i<;>cases hd:d.has i<;>simp_all
theorem els_length (c:Cls):c.els.length≤256:=by
 have:=List.length_filter_le c.has (List.range 256)
 rwa[List.length_range]at this
def runAdd (l:List (Nat × Nat)) (b:Nat):List (Nat × Nat):=
 match l.getLast? with
 |none=>[(b,b)]
 |some r=>if r.2+1=b then l.dropLast++[(r.1,b)]else l++[(b,b)]
def runsOf (l:List Nat):List (Nat × Nat):=l.foldl runAdd []
def Cls.runs (c:Cls):List (Nat × Nat):=runsOf c.els
def endB (b:Nat):List Nat:=if b=91∨b=93∨b=45∨b=94 then [91,46,b,46,93]else [b]
def runB (r:Nat × Nat):List Nat:=endB r.1++(if r.2=r.1 then []else 45::endB r.2)
def allC:Cls:=Cls.range 0 255
def Cls.neg (c:Cls):Bool:=decide (c≠allC)&&(c.has 10||decide (c=Cls.zero))
def brackB (c:Cls):List Nat:=[91]++((if c.neg then [94]else [])++((if c.neg then c.not else c).runs.flatMap runB++[93]))
theorem runAdd_length (l:List (Nat × Nat)) (b:Nat):(runAdd l b).length≤l.length+1:=by
 unfold runAdd
 split
 ·simp
 ·split
  ·simp
  ·simp
theorem runsOf_go (l:List Nat): ∀r:List (Nat × Nat),(l.foldl runAdd r).length≤r.length+l.length:=by
 induction l with
 |nil=>intro r;simp
 |cons b l ih=>
  intro r
  have:=ih (runAdd r b)
  have:=runAdd_length r b
  rw[List.foldl_cons,List.length_cons]
  omega
theorem runs_length (c:Cls):c.runs.length≤256:=by
 have:=runsOf_go c.els []
 have:=els_length c
 unfold Cls.runs runsOf
 simp at*
 omega
theorem runAdd_mem {l:List (Nat × Nat)} {b:Nat} (h: ∀r∈l,r.1<256∧r.2<256) (hb:b<256): ∀r∈runAdd l b,r.1<256∧r.2<256:=by
 intro r hr
 unfold runAdd at hr
 split at hr
 ·simp only[List.mem_singleton]at hr;subst hr;exact⟨hb,hb⟩
 ·rename_i q hq
  have hq':=h q (List.mem_of_getLast? hq)
  split at hr
  ·rcases List.mem_append.1 hr with h1|h1
   ·exact h r (List.dropLast_subset _ h1)
   ·simp only[List.mem_singleton]at h1;subst h1;exact⟨hq'.1,hb⟩
  ·rcases List.mem_append.1 hr with h1|h1
   ·exact h r h1
   ·simp only[List.mem_singleton]at h1;subst h1;exact⟨hb,hb⟩
theorem runsOf_mem (l:List Nat) (hl: ∀b∈l,b<256): ∀r:List (Nat × Nat),(∀x∈r,x.1<256∧x.2<256)→ ∀x∈l.foldl runAdd r,x.1<256∧x.2<256:=by
 induction l with
 |nil=>intro r h;exact h
 |cons b l ih=>
  intro r h
  exact ih (fun x hx=>hl x (List.mem_cons_of_mem _ hx)) _ (runAdd_mem h (hl b (List.mem_cons_self ..)))
theorem runs_lt {c:Cls} : ∀r∈c.runs,r.1<256∧r.2<256:=runsOf_mem _ (fun _ hb=>els_lt hb) [] (by simp)
theorem endB_length (b:Nat):1≤(endB b).length∧(endB b).length≤5:=by unfold endB;split<;>simp
theorem runB_length (r:Nat × Nat):(runB r).length≤11:=by
 have:=endB_length r.1
 have:=endB_length r.2
 unfold runB
 split<;>simp<;>omega
theorem runsB_length: ∀l:List (Nat × Nat),(l.flatMap runB).length≤11*l.length
 |[]=>by simp
 |r::l=>by
  have:=runB_length r
  have:=runsB_length l
  simp only[List.flatMap_cons,List.length_append,List.length_cons]
  omega
theorem brackB_length (c:Cls):(brackB c).length≤2819:=by
 unfold brackB
 have h1:=runsB_length (if c.neg then c.not else c).runs
 have h2:=runs_length (if c.neg then c.not else c)
 generalize (if c.neg then c.not else c).runs=l at h1 h2 ⊢
 have h3:(if c.neg then [94]else([]:List Nat)).length≤1:=by split<;>simp
 simp only[List.length_append,List.length_cons,List.length_nil]
 omega
theorem endB_lt {b:Nat} (h:b<256): ∀x∈endB b,x<256:=by
 intro x hx
 unfold endB at hx
 split at hx<;>simp at hx<;>omega
theorem runB_lt {r:Nat × Nat} (h:r.1<256∧r.2<256): ∀x∈runB r,x<256:=by
 intro x hx
 unfold runB at hx
 rcases List.mem_append.1 hx with h1|h1
 ·exact endB_lt h.1 x h1
 ·split at h1
  ·simp at h1
  ·rcases List.mem_cons.1 h1 with rfl|h1
   ·omega
   ·exact endB_lt h.2 x h1
theorem brackB_lt (c:Cls): ∀x∈brackB c,x<256:=by
 intro x hx
 unfold brackB at hx
 simp only[List.mem_append,List.mem_flatMap]at hx
 rcases hx with h|h|⟨r,hr,h⟩|h
 ·simp at h;omega
 ·split at h<;>simp at h;omega
 ·exact runB_lt (runs_lt r hr) x h
 ·simp at h;omega
end Go.Proofs.YtfjbnpdffillbaaGreatDoor
namespace Go.Proofs.YtfjbnpdffillbaaGreatDoor
def pc (n x:Nat):Nat:=(List.range n).countP fun i=>x.testBit i
theorem testBit_low {k d x:Nat} (h:d<2 ^ k) (j:Nat):(2 ^ k*x+d).testBit j=if j<k then d.testBit j else x.testBit (j - k):=Nat.testBit_two_pow_mul_add x h j
theorem and_low {k d m x y:Nat} (hd:d<2 ^ k) (hm:m<2 ^ k):(2 ^ k*x+d) &&& (2 ^ k*y+m)=2 ^ k*(x &&& y)+(d &&& m):=by
 refine Nat.eq_of_testBit_eq fun j=>?_
 rw[Nat.testBit_and,testBit_low hd,testBit_low hm,testBit_low (Nat.lt_of_le_of_lt Nat.and_le_left hd)]
 split<;>rw[Nat.testBit_and]
def rep8 (m:Nat):Nat→Nat
 |0=>0
 |n+1=>256*rep8 m n+m
def each8 (f:Nat→Nat):Nat→Nat→Nat
 |0,_=>0
 |n+1,x=>256*each8 f n (x / 256)+f (x % 256)
theorem shr_and {s m:Nat} (hs:s≤8) (hm:m<2 ^ (8 - s)): ∀(n x:Nat),x<256 ^ n→(x >>> s) &&& rep8 m n=each8 (fun d=>(d >>> s) &&& m) n x
 |0,x,h=>by simp[rep8,each8]
 |n+1,x,h=>by
  have hx:x / 256<256 ^ n:=by rw[Nat.pow_succ]at h;omega
  have h2:2 ^ s*2 ^ (8 - s)=256:=by rw[←Nat.pow_add,show s+(8 - s)=8 by omega]
  have hp:0<2 ^ s:=Nat.two_pow_pos s
  have hm8:m<2 ^ 8:=Nat.lt_of_lt_of_le hm (Nat.pow_le_pow_right (by decide) (by omega))
  have e1:x >>> s=2 ^ 8*((x / 256) >>> s)+(x >>> s) % 256:=by
   have hc:x / 256 / 2 ^ s=x / 2 ^ s / 256:=by rw[Nat.div_div_eq_div_mul,Nat.div_div_eq_div_mul,Nat.mul_comm]
   rw[Nat.shiftRight_eq_div_pow,Nat.shiftRight_eq_div_pow,hc]
   omega
  have e2:(x >>> s) % 256 &&& m=((x % 256) >>> s) &&& m:=by
   refine Nat.eq_of_testBit_eq fun j=>?_
   rw[Nat.testBit_and,Nat.testBit_and]
   by_cases hj:j<8 - s
   ·rw[show(256:Nat)=2 ^ 8 from rfl,Nat.testBit_mod_two_pow,Nat.testBit_shiftRight,Nat.testBit_shiftRight,Nat.testBit_mod_two_pow]
    rw[decide_eq_true (show j<8 by omega),decide_eq_true (show s+j<8 by omega)]
   ·rw[Nat.testBit_lt_two_pow (x:=m) (Nat.lt_of_lt_of_le hm (Nat.pow_le_pow_right (by decide) (by omega))),Bool.and_false,Bool.and_false]
  rw[e1,rep8,show 256*rep8 m n+m=2 ^ 8*rep8 m n+m from rfl,and_low (by omega) hm8,shr_and hs hm n _ hx,e2]
  rfl
theorem each8_congr {f g:Nat→Nat} : ∀(n x:Nat),(∀d,d<256→f d=g d)→each8 f n x=each8 g n x
 |0,_,_=>rfl
 |n+1,x,h=>by rw[each8,each8,each8_congr n _ h,h _ (Nat.mod_lt _ (by decide))]
theorem each8_add {f g:Nat→Nat} : ∀(n x:Nat),each8 f n x+each8 g n x=each8 (fun d=>f d+g d) n x
 |0,_=>rfl
 |n+1,x=>by rw[each8,each8,each8,←each8_add n];omega
theorem each8_lt {f:Nat→Nat} (hf: ∀d,d<256→f d<256): ∀(n x:Nat),each8 f n x<256 ^ n
 |0,_=>by simp[each8]
 |n+1,x=>by
  have:=each8_lt hf n (x / 256)
  have:=hf (x % 256) (Nat.mod_lt _ (by decide))
  rw[each8,Nat.pow_succ]
  omega
theorem each8_each8 {f g:Nat→Nat} (hf: ∀d,d<256→f d<256): ∀(n x:Nat),each8 g n (each8 f n x)=each8 (fun d=>g (f d)) n x
 |0,_=>rfl
 |n+1,x=>by
  have h:=hf (x % 256) (Nat.mod_lt _ (by decide))
  rw[each8,each8,each8,show(256*each8 f n (x / 256)+f (x % 256)) / 256=each8 f n (x / 256)by omega,show(256*each8 f n (x / 256)+f (x % 256)) % 256=f (x % 256)by omega,each8_each8 hf n]
def pf1 (d:Nat):Nat:=((d >>> 1) &&& 85)+(d &&& 85)
def pf2 (d:Nat):Nat:=((d >>> 2) &&& 51)+(d &&& 51)
def pf3 (d:Nat):Nat:=d / 16+d % 16
theorem step_of {s m:Nat} (hs:s≤8) (hm:m<2 ^ (8 - s)) (x n:Nat) (h:x<256 ^ n):((x >>> s) &&& rep8 m n)+(x &&& rep8 m n)=each8 (fun d=>((d >>> s) &&& m)+(d &&& m)) n x:=by
 have h0:=shr_and (s:=0) (m:=m) (by omega) (Nat.lt_of_lt_of_le hm (Nat.pow_le_pow_right (by decide) (by omega))) n x h
 rw[Nat.shiftRight_zero]at h0
 rw[shr_and hs hm n x h,h0,each8_add]
 exact each8_congr n x fun d _=>rfl
theorem pf1_lt: ∀d,d<256→pf1 d<256:=by decide+kernel
theorem pf2_lt: ∀d,d<256→pf2 (pf1 d)<256∧pf2 (pf1 d) / 16≤4∧pf2 (pf1 d) % 16≤4:=by decide+kernel
theorem pf3_pc: ∀d,d<256→pf3 (pf2 (pf1 d))=pc 8 d:=by decide+kernel
theorem step3 (f:Nat→Nat) (hf: ∀d,d<256→f d<256∧f d / 16≤4∧f d % 16≤4): ∀(n x:Nat),(((each8 f n x) >>> 4)+each8 f n x) &&& rep8 15 n=each8 (fun d=>pf3 (f d)) n x
 |0,x=>by simp[rep8,each8]
 |n+1,x=>by
  obtain⟨h1,h2,h3⟩:=hf (x % 256) (Nat.mod_lt _ (by decide))
  have ih:=step3 f hf n (x / 256)
  have hlow:each8 f n (x / 256) % 16≤4:=by
   cases n with
   |zero=>simp[each8]
   |succ n=>
    obtain⟨_,_,h6⟩:=hf (x / 256 % 256) (Nat.mod_lt _ (by decide))
    rw[each8]
    omega
  rw[each8]
  generalize hy:each8 f n (x / 256)=y at*
  generalize hd:f (x % 256)=d at*
  have e:(256*y+d) >>> 4+(256*y+d)=2 ^ 8*(y >>> 4+y)+(16*(y % 16)+d / 16+d):=by
   rw[Nat.shiftRight_eq_div_pow,Nat.shiftRight_eq_div_pow]
   omega
  have e2:(16*(y % 16)+d / 16+d) &&& 15=pf3 d:=by
   rw[show(15:Nat)=2 ^ 4 - 1 from rfl,Nat.and_two_pow_sub_one_eq_mod]
   unfold pf3
   omega
  rw[e,rep8,show 256*rep8 15 n+15=2 ^ 8*rep8 15 n+15 from rfl,and_low (by omega) (by decide),ih,e2,each8]
  rw[hd]
theorem pc_add (k n d x:Nat) (h:d<2 ^ k):pc (k+n) (2 ^ k*x+d)=pc k d+pc n x:=by
 unfold pc
 rw[List.range_add,List.countP_append,List.countP_map]
 congr 1
 ·refine List.countP_congr fun i hi=>?_
  rw[testBit_low h,if_pos (List.mem_range.1 hi)]
 ·refine List.countP_congr fun i _=>?_
  simp only[Function.comp]
  rw[testBit_low h,if_neg (by omega),show k+i - k=i by omega]
theorem pc_le (n x:Nat):pc n x≤n:=by
 unfold pc
 have:=List.countP_le_length (p:=fun i=>x.testBit i) (l:=List.range n)
 simpa using this
theorem div_low {m a b x:Nat} (hm:b<m) (h:x=m*a+b):x / m=a:=by
 subst h
 rw[Nat.mul_add_div (by omega),Nat.div_eq_of_lt hm,Nat.add_zero]
theorem low2 {c0 c1 c2:Nat} (p0:c0≤8) (p1:c1≤8) (p2:c2≤8):c0+c1+256*(c1+c2)<65536:=by omega
theorem low4 {a b c d:Nat} (p0:a≤32) (p1:b≤32) (p2:c≤32) (p3:d≤32):a+256*b+65536*c+16777216*d<4294967296:=by omega
theorem eq1 {c y1 y2 y3 c0 c1 c2:Nat} (e0:c=256*y1+c0) (e1:y1=256*y2+c1) (e2:y2=256*y3+c2):c+y1=65536*(y2+y3)+(c0+c1+256*(c1+c2)):=by
 rw[e0,e1,e2];omega
theorem up {y z a k m:Nat} (h:y=256*z+a) (ha:a≤8) (hz:z<k) (hm:m=256*k):y<m:=by omega
theorem eq2 {c y1 y2 y3 y4 y5 y6 y7 c0 c1 c2 c3 c4 c5 c6:Nat} (e0:c=256*y1+c0) (e1:y1=256*y2+c1) (e2:y2=256*y3+c2) (e3:y3=256*y4+c3) (e4:y4=256*y5+c4) (e5:y5=256*y6+c5) (e6:y6=256*y7+c6):
  c+y1+(y2+y3)=4294967296*(y4+y5+y6+y7)+((c0+c1+c2+c3)+256*(c1+c2+c3+c4)+65536*(c2+c3+c4+c5)+16777216*(c3+c4+c5+c6)):=by
 have h0:c=4294967296*y4+(c0+256*c1+65536*c2+16777216*c3):=by rw[e0,e1,e2,e3];omega
 have h1:y1=4294967296*y5+(c1+256*c2+65536*c3+16777216*c4):=by rw[e1,e2,e3,e4];omega
 have h2:y2=4294967296*y6+(c2+256*c3+65536*c4+16777216*c5):=by rw[e2,e3,e4,e5];omega
 have h3:y3=4294967296*y7+(c3+256*c4+65536*c5+16777216*c6):=by rw[e3,e4,e5,e6];omega
 rw[h0,h1,h2,h3]
 clear e0 e1 e2 e3 e4 e5 e6 h0 h1 h2 h3
 omega
theorem eq3 {c y1 y2 y3 y4 y5 y6 y7 c0 c1 c2 c3 c4 c5 c6:Nat} (e0:c=256*y1+c0) (e1:y1=256*y2+c1) (e2:y2=256*y3+c2) (e3:y3=256*y4+c3) (e4:y4=256*y5+c4) (e5:y5=256*y6+c5) (e6:y6=256*y7+c6):
  c+y1+(y2+y3)+(y4+y5+y6+y7)=128*(2*(y1+y2+y3+y4+y5+y6+y7))+(c0+c1+c2+c3+c4+c5+c6+y7):=by
 have h:c+y1+y2+y3+y4+y5+y6=256*(y1+y2+y3+y4+y5+y6+y7)+(c0+c1+c2+c3+c4+c5+c6):=by
  have:c+y1+y2+y3+y4+y5+y6=(256*y1+c0)+(256*y2+c1)+(256*y3+c2)+(256*y4+c3)+(256*y5+c4)+(256*y6+c5)+(256*y7+c6):=by rw[←e0,←e1,←e2,←e3,←e4,←e5,←e6]
  rw[this]
  clear e0 e1 e2 e3 e4 e5 e6 this
  omega
 clear e0 e1 e2 e3 e4 e5 e6
 omega
theorem sum8 {c y1 y2 y3 y4 y5 y6 y7 c0 c1 c2 c3 c4 c5 c6:Nat} (e0:c=256*y1+c0) (e1:y1=256*y2+c1) (e2:y2=256*y3+c2) (e3:y3=256*y4+c3) (e4:y4=256*y5+c4) (e5:y5=256*y6+c5) (e6:y6=256*y7+c6)
  (p0:c0≤8) (p1:c1≤8) (p2:c2≤8) (p3:c3≤8) (p4:c4≤8) (p5:c5≤8) (p6:c6≤8) (p7:y7≤8):
  c+c >>> 8=c+y1∧(c+y1)+(c+y1) >>> 16=c+y1+(y2+y3)∧(c+y1+(y2+y3))+(c+y1+(y2+y3)) >>> 32=c+y1+(y2+y3)+(y4+y5+y6+y7)∧
  c+y1+(y2+y3)+(y4+y5+y6+y7)<2 ^ 63∧(c+y1+(y2+y3)+(y4+y5+y6+y7)) &&& 127=c0+c1+c2+c3+c4+c5+c6+y7:=by
 have l6:y6<4096:=up e6 p6 (show y7<16 by omega) rfl
 have l5:y5<1048576:=up e5 p5 l6 rfl
 have l4:y4<268435456:=up e4 p4 l5 rfl
 have l3:y3<68719476736:=up e3 p3 l4 rfl
 have l2:y2<17592186044416:=up e2 p2 l3 rfl
 have l1:y1<4503599627370496:=up e1 p1 l2 rfl
 have l0:c<1152921504606846976:=up e0 p0 l1 rfl
 refine⟨?_,?_,?_,?_,?_⟩
 ·rw[Nat.shiftRight_eq_div_pow,div_low (a:=y1) (b:=c0) (by omega) e0]
 ·rw[Nat.shiftRight_eq_div_pow,div_low (show _<2 ^ 16 from low2 p0 p1 p2) (eq1 e0 e1 e2)]
 ·rw[Nat.shiftRight_eq_div_pow,div_low (show _<2 ^ 32 from low4 (by omega) (by omega) (by omega) (by omega)) (eq2 e0 e1 e2 e3 e4 e5 e6)]
 ·clear e0 e1 e2 e3 e4 e5 e6
  omega
 ·rw[show(127:Nat)=2 ^ 7 - 1 from rfl,Nat.and_two_pow_sub_one_eq_mod,eq3 e0 e1 e2 e3 e4 e5 e6,show 2 ^ 7=128 from rfl,Nat.mul_add_mod]
  exact Nat.mod_eq_of_lt (by clear e0 e1 e2 e3 e4 e5 e6;omega)
theorem each8_le {f:Nat→Nat} {k:Nat} (hf: ∀d,d<256→f d≤k): ∀(n x:Nat),each8 f n x≤rep8 k n
 |0,_=>Nat.le_refl _
 |n+1,x=>by
  have:=each8_le hf n (x / 256)
  have:=hf (x % 256) (Nat.mod_lt _ (by decide))
  rw[each8,rep8]
  omega
set_option maxHeartbeats 1000000 in
theorem swar (x:Nat) (h:x<2 ^ 64):let a:=((x >>> 1) &&& 6148914691236517205)+(x &&& 6148914691236517205);let b:=((a >>> 2) &&& 3689348814741910323)+(a &&& 3689348814741910323);let c:=((b >>> 4)+b) &&& 1085102592571150095
  a<2 ^ 64∧b<2 ^ 64∧(b >>> 4)+b<2 ^ 64∧c+c >>> 8<2 ^ 64∧(c+c >>> 8)+(c+c >>> 8) >>> 16<2 ^ 64∧((c+c >>> 8)+(c+c >>> 8) >>> 16)+((c+c >>> 8)+(c+c >>> 8) >>> 16) >>> 32<2 ^ 63∧
  (((c+c >>> 8)+(c+c >>> 8) >>> 16)+((c+c >>> 8)+(c+c >>> 8) >>> 16) >>> 32) &&& 127=pc 64 x:=by
 intro a b c
 have ha:a=each8 pf1 8 x:=step_of (s:=1) (m:=85) (by decide) (by decide) x 8 h
 have hb:b=each8 (fun d=>pf2 (pf1 d)) 8 x:=by
  have:=step_of (s:=2) (m:=51) (by decide) (by decide) a 8 (by rw[ha];exact each8_lt pf1_lt 8 x)
  rw[show b=_ from this,ha]
  exact each8_each8 pf1_lt 8 x
 have hc:c=each8 (fun d=>pf3 (pf2 (pf1 d))) 8 x:=by
  have:=step3 (fun d=>pf2 (pf1 d)) pf2_lt 8 x
  rw[←hb]at this
  exact this
 rw[each8_congr 8 x pf3_pc]at hc
 have hpc:pc 64 x=pc 8 (x % 256)+(pc 8 (x / 256 % 256)+(pc 8 (x / 256 / 256 % 256)+(pc 8 (x / 256 / 256 / 256 % 256)+(pc 8 (x / 256 / 256 / 256 / 256 % 256)+(pc 8 (x / 256 / 256 / 256 / 256 / 256 % 256)+(pc 8 (x / 256 / 256 / 256 / 256 / 256 / 256 % 256)+pc 8 (x / 256 / 256 / 256 / 256 / 256 / 256 / 256))))))):=by
  have s:=fun n y=>pc_add 8 n (y % 256) (y / 256) (Nat.mod_lt _ (by decide))
  have t:=fun y:Nat=>show 2 ^ 8*(y / 256)+y % 256=y by omega
  simp only[t]at s
  rw[s 56 x,s 48,s 40,s 32,s 24,s 16,s 8]
 have h7:x / 256 / 256 / 256 / 256 / 256 / 256 / 256 % 256=x / 256 / 256 / 256 / 256 / 256 / 256 / 256:=by omega
 simp only[each8,h7]at hc
 have hb0:b<2 ^ 63:=by
  rw[hb]
  exact Nat.lt_of_le_of_lt (each8_le (k:=68) (fun d hd=>by have:=pf2_lt d hd;omega) 8 x) (by decide)
 rw[hpc]
 have p0:=pc_le 8 (x % 256)
 have p1:=pc_le 8 (x / 256 % 256)
 have p2:=pc_le 8 (x / 256 / 256 % 256)
 have p3:=pc_le 8 (x / 256 / 256 / 256 % 256)
 have p4:=pc_le 8 (x / 256 / 256 / 256 / 256 % 256)
 have p5:=pc_le 8 (x / 256 / 256 / 256 / 256 / 256 % 256)
 have p6:=pc_le 8 (x / 256 / 256 / 256 / 256 / 256 / 256 % 256)
 have p7:=pc_le 8 (x / 256 / 256 / 256 / 256 / 256 / 256 / 256)
 rw[Nat.mul_zero,Nat.zero_add]at hc
 have ha64:a<2 ^ 64:=by rw[ha];exact each8_lt pf1_lt 8 x
 generalize pc 8 (x % 256)=c0 at*
 generalize pc 8 (x / 256 % 256)=c1 at*
 generalize pc 8 (x / 256 / 256 % 256)=c2 at*
 generalize pc 8 (x / 256 / 256 / 256 % 256)=c3 at*
 generalize pc 8 (x / 256 / 256 / 256 / 256 % 256)=c4 at*
 generalize pc 8 (x / 256 / 256 / 256 / 256 / 256 % 256)=c5 at*
 generalize pc 8 (x / 256 / 256 / 256 / 256 / 256 / 256 % 256)=c6 at*
 generalize pc 8 (x / 256 / 256 / 256 / 256 / 256 / 256 / 256)=c7 at*
 clear hpc h7 hb ha
 clear_value a b c
 obtain⟨s1,s2,s3,s4,s5⟩:=sum8 hc rfl rfl rfl rfl rfl rfl p0 p1 p2 p3 p4 p5 p6 p7
 have r4:b >>> 4≤b:=by rw[Nat.shiftRight_eq_div_pow];exact Nat.div_le_self _ _
 rw[s1,s2,s3,s5]
 refine⟨ha64,by omega,by omega,by omega,by omega,s4,by omega⟩
end Go.Proofs.YtfjbnpdffillbaaGreatDoor
