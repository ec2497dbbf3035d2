/- Parts: Ro Fa Va Vg Vb Vc Rp Pa Vd Fea Ve Yu Ya Vf. -/
import Derived.Test.YtmaagpbjahjmhaaGreatDoorQ12
import Derived.Test.YtmaagpbjahjmhaaGreatDoorQ13
import Derived.Test.YtmaagpbjahjmhaaGreatDoorQ7
import Derived.Test.YtmaagpbjahjmhaaGreatDoorQ2
set_option maxHeartbeats 1600000
set_option maxRecDepth 100000
namespace Go.Proofs.YtmaagpbjahjmhaaGreatDoor
section
open Go.RowKit
def zPw (re:List Nd) (p:Nat):Prop:= ∃x,re[p]?=some x∧zAd x=true∧x.kids≤re.length
theorem zDi {re:List Nd} {g:Nat→List Bool→Option (Nat × List Bool)} (hg: ∀i en r,g i en=some r→i<r.1∧r.1≤re.length∧ ∀p,i≤p→p<r.1→zPw re p):
  ∀(k i:Nat) (en:List Bool) (r:Nat × List Bool),i≤re.length→zBY g k i en=some r→i+k≤r.1∧r.1≤re.length∧ ∀p,i≤p→p<r.1→zPw re p
 |0,i,en,r,hi,h=>by simp only[zBY,Option.some.injEq]at h;subst h;exact⟨Nat.le_refl _,hi,fun p h1 h2=>by simp only at h2;omega⟩
 |k+1,i,en,r,hi,h=>by
  unfold zBY at h
  split at h
  ·cases h
  ·rename_i j en1 h1
   have h2:=hg _ _ _ h1
   simp only at h2
   have h3:=zDi hg k _ _ _ h2.2.1 h
   refine⟨by omega,h3.2.1,fun p hp1 hp2=>?_⟩
   by_cases hj:p<j
   ·exact h2.2.2 p hp1 hj
   ·exact h3.2.2 p (by omega) hp2
theorem zD2 (re:List Nd): ∀(f g i:Nat) (en:List Bool) (r:Nat × List Bool),zA0 re f g i en=some r→i<r.1∧r.1≤re.length∧ ∀p,i≤p→p<r.1→zPw re p
 |0,_,_,_,_,h=>by simp[zA0]at h
 |f+1,g,i,en,r,h=>by
  unfold zA0 at h
  split at h
  ·cases h
  ·rename_i n hn
   split at h
   ·cases h
   ·rename_i hgd
    have hgd':zAd n=true:=by simpa using hgd
    have hi:i<re.length:=(List.getElem?_eq_some_iff.1 hn).1
    have fin: ∀(g':Nat) (en1:List Bool) (r1:Nat × List Bool),zBY (zA0 re f g') n.kids.toNat (i+1) en1=some r1→i<r1.1∧r1.1≤re.length∧ ∀p,i≤p→p<r1.1→zPw re p:=fun g' en1 r1 hk=>by
     have h1:=zDi (re:=re) (fun i en r=>zD2 re f g' i en r) _ _ _ _ (by omega) hk
     refine⟨by have:=h1.1;omega,h1.2.1,fun p hp1 hp2=>?_⟩
     by_cases he:p=i
     ·subst he
      exact⟨n,hn,hgd',by have:=h1.1;have:=h1.2.1;omega⟩
     ·exact h1.2.2 p (by omega) hp2
    split at h
    ·cases h
    ·split at h
     ·split at h
      ·cases h
      ·split at h
       ·cases h
       ·rename_i hk
        cases h
        have:=fin _ _ _ hk
        exact this
     ·exact fin _ _ _ h
theorem zF2 {re:List Nd} (h: ∀p,p<re.length→zPw re p):zOm re∧ ∀x∈re,x.kids≤re.length:=by
 have all: ∀x∈re,zAd x=true∧x.kids≤re.length:=fun x hx=>by
  obtain⟨p,hp⟩:=List.mem_iff_getElem?.1 hx
  obtain⟨y,hy,hg⟩:=h p (List.getElem?_eq_some_iff.1 hp).1
  rw[hp]at hy;cases hy;exact hg
 refine⟨fun x hx h6=>?_,fun x hx=>(all x hx).2⟩
 have:=(all x hx).1
 simp only[zAd,h6,if_true,Bool.and_eq_true,decide_eq_true_eq,Bool.or_eq_true,beq_iff_eq]at this
 omega
def zAz (ere:Bool) (L:List Mk):Except (Nat × Nat) (List Nd):=
 if 4096<L.length then .error (2,4096)
 else if L.length=0 then .error (45,0)
 else match zBp ere L 64 ⟨0,[]⟩with
  | .no e i=> .error (e,i)
  | .ok re _=>match zCK re 260 0 with
   |some (w,_)=>if 16384<w then .error (48,L.length)else .ok re
   |none=> .error (0,0)
end
section
structure Ad where
 kind:Int
 n:Int
 re:List Nd
def Ad.zero:Ad:=⟨0,0,[]⟩
def zBe (ere:Bool) (T:List Nat) (i:Nat):Ad × Nat × Nat:=
 if T.length≤i then(Ad.zero,0,i)
 else
  let b:=T.getD i 0
  if 48≤b∧b≤57 then
   match zFD T 2147483647 i with
   |none=>(Ad.zero,71,i)
   |some (v,j)=>if v=0 then(Ad.zero,71,j)else(⟨1,v,[]⟩,0,j)
  else if b=36 then(⟨2,0,[]⟩,0,i+1)
  else if b=92∧T.length≤i+1 then(Ad.zero,70,i+1)
  else if b=47∨b=92 then
   let k:=if b=92 then i+1 else i
   match zAu T (T.getD k 0) false (k+1)with
   |none=>(Ad.zero,70,k+1)
   |some (l,j)=>
    if l=[]then(⟨3,0,[]⟩,0,j)
    else match zAz ere l with
     | .error e=>(Ad.zero,e.1,j)
     | .ok re=>(⟨3,0,re⟩,0,j)
  else(Ad.zero,0,i)
theorem zOj {ere:Bool} {T:List Nat} {i:Nat} (hi:i≤T.length):i≤(zBe ere T i).2.2∧(zBe ere T i).2.2≤T.length:=by
 unfold zBe
 split
 ·simp only;omega
 ·simp only
  split
  ·split
   ·simp only;omega
   ·rename_i v j h
    have:=zEV h hi
    simp only at this
    split<;>simp only<;>omega
  ·split
   ·simp only;omega
   ·split
    ·simp only;omega
    ·rename_i h1
     split
     ·split
      ·simp only
       split<;>omega
      ·rename_i l j h
       have:=zBG h
       simp only at this
       have hk:i≤(if T.getD i 0=92 then i+1 else i):=by split<;>omega
       split
       ·simp only;omega
       ·split<;>simp only<;>omega
     ·simp only;omega
end
section
def zNo (p:Nat→Bool) (T:List Nat):Nat→Nat→Nat
 |0,i=>i
 |n+1,i=>if i<T.length∧p (T.getD i 0)=true then zNo p T n (i+1)else i
def zAP (p:Nat→Bool) (T:List Nat) (i:Nat):Nat:=zNo p T (T.length - i) i
def zAJ (b:Nat):Bool:=b==32||b==9
def zAh (b:Nat):Bool:=b==32||b==9||b==59||b==10
def zAc (b:Nat):Bool:=b !=10
def zCz (T:List Nat) (i:Nat):Nat:=zAP zAc T i
def zEF (T:List Nat) (i j:Nat):List Nat:=(T.drop i).take (j - i)
def zEy (T:List Nat) (i:Nat):Nat × Nat:=
 let j:=zAP zAJ T i
 if T.length≤j∨T.getD j 0=125∨T.getD j 0=35 then(0,j)
 else if T.getD j 0=59∨T.getD j 0=10 then(0,j+1)
 else(78,j)
def zB2 (T:List Nat):Nat→Nat→List Nat→Option (List Nat × Nat)
 |0,i,acc=>some (acc,i)
 |n+1,i,acc=>
  if T.length≤i then some (acc,i)
  else if T.getD i 0=10 then some (acc,i+1)
  else if T.getD i 0=92 then
   if T.length≤i+1 then none else zB2 T n (i+2) (acc++[T.getD (i+1) 0])
  else zB2 T n (i+1) (acc++[T.getD i 0])
def zDJ (T:List Nat) (i:Nat):Option (List Nat × Nat):=
 let j:=zAP zAJ T i
 if T.length<j+3∨T.getD j 0≠92∨T.getD (j+1) 0≠10 then none else zB2 T (T.length - (j+2)) (j+2) []
def zE3:List Mk→Bool→List Nat→Option (List Nat)
 |[],e,acc=>if e then none else some acc
 |m::l,true,acc=>if m.p=false∧m.b=110 then zE3 l false (acc++[10])else if m.p=true∨m.b≠92 then none else zE3 l false (acc++[m.b])
 |m::l,false,acc=>if m.p=false∧m.b=92 then zE3 l true acc else zE3 l false (acc++[m.b])
def zJM (l:List Mk):Option (List Nat):=zE3 l false []
def zBi:List Nat:=List.range 256
def zPh:List Nat→List Nat→List Nat→List Nat→Option (List Nat)
 |[],_,_,t=>some t
 |b::l,u,s,t=>if b∈s then none else zPh l (u.drop 1) (s++[b]) (t.set b (u.getD 0 0))
def zQA (f t:List Nat):Option (List Nat):=if f.length=t.length then zPh f t [] zBi else none
def zD9 (l m:List Mk):Option (List Nat):=match zJM l,zJM m with
 |some f,some t=>zQA f t
 |_,_=>none
structure Pc where
 k:Int
 t:List Nat
deriving DecidableEq
def zI3 (p:List Pc) (b:Nat):List Pc:=match p.getLast? with
 |some x=>if x.k= -1 then p.dropLast++[⟨-1,x.t++[b]⟩]else p++[⟨-1,[b]⟩]
 |none=>p++[⟨-1,[b]⟩]
def zCA:List Mk→Bool→List Pc→Option (List Pc)
 |[],e,p=>if e then none else some p
 |m::l,true,p=>if m.p=false∧49≤m.b∧m.b≤57 then zCA l false (p++[⟨(m.b:Int) - 48,[]⟩])else if m.p=false∧m.b=110 then zCA l false (zI3 p 10)else zCA l false (zI3 p m.b)
 |m::l,false,p=>if m.p=true then zCA l false (zI3 p m.b)else if m.b=38 then zCA l false (p++[⟨0,[]⟩])else if m.b=92 then zCA l true p else zCA l false (zI3 p m.b)
def zGR (l:List Mk):Option (List Pc):=zCA l false []
def zGj (p:List Pc):Int:=p.foldl (fun n x=>max n x.k) 0
structure Cm where
 a:Ad
 b:Ad
 nt:Bool
 nm:Nat
 at_:Nat
 tx:List Nat
 re:List Nd
 fi:List Pc
 ct:Nat
 al:Bool
 pr:Bool
 wr:Bool
 tb:List Nat
def Cm.zero:Cm:=⟨Ad.zero,Ad.zero,false,0,0,[],[],[],0,false,false,false,List.replicate 256 0⟩
abbrev Rd (α:Type):Type:=Except (Nat × Nat) α
def zDC (b:Nat):Option Nat:=
 if b∈[125,58]then some 0
 else if b∈[61,97,105,113,114]then some 1
 else if b∈[123,98,99,100,68,103,71,104,72,108,110,78,112,80,115,116,119,120,121]then some 2
 else none
def zEG (ere:Bool) (T:List Nat) (i:Nat):Rd (Ad × Nat):=
 let r:=zBe ere T i
 if r.2.1≠0 then .error (r.2.1,i)else .ok (r.1,if r.1.kind≠0 then zAP zAJ T r.2.2 else r.2.2)
def zBc (T:List Nat) (c i:Nat):Option Nat:=if i<T.length∧T.getD i 0=c then some (zAP zAJ T (i+1))else none
def zF6 (ere:Bool) (T:List Nat) (a:Ad) (i:Nat):Rd (Ad × Nat × Nat):=
 if a.kind=0 then .ok (Ad.zero,0,i)
 else match zBc T 44 i with
  |none=> .ok (Ad.zero,1,i)
  |some k=>match zEG ere T k with
   | .error e=> .error e
   | .ok (b,j)=>if b.kind=0 then .error (71,k)else .ok (b,2,j)
def zIM (T:List Nat):Nat→Nat→Bool→Nat × Bool
 |0,i,nt=>(i,nt)
 |n+1,i,nt=>match zBc T 33 i with
  |none=>(i,nt)
  |some k=>zIM T n k true
def zFd (T:List Nat) (i:Nat):Nat × Bool:=zIM T (T.length+1 - i) i false
def zJD (T:List Nat) (i:Nat):Nat:=if i<T.length then i+1 else i
def zBy (ere:Bool) (T:List Nat) (i n:Nat):Rd (Cm × Nat):=
 match zEG ere T i with
 | .error e=> .error e
 | .ok (a,j)=>match zF6 ere T a j with
  | .error e=> .error e
  | .ok (b,many,k)=>
   let q:=zFd T k
   let nm:=T.getD q.1 0
   match zDC nm with
   |none=> .error (72,q.1)
   |some most=>
    if most<many∨most=0∧q.2=true then .error (71,q.1)
    else if 4096≤n then .error (2,q.1)
    else .ok ({ Cm.zero with a:=a,b:=b,nt:=q.2,nm:=nm,at_:=q.1 },zJD T q.1)
def zBa (l:List Nat):List Nat:=(l.reverse.dropWhile zAJ).reverse
def zBZ (l:List Nat):Bool:=decide (1≤l.length∧l.length≤64)&&l.all (fun b=>b !=0&&b !=10&&b !=47)&& !(zAJ (l.getD 0 0))
def zCL (T:List Nat) (i:Nat) (c:Cm):Rd (Cm × Nat):=
 let j:=zAP zAJ T i
 let t:=zBa (zEF T j (zCz T j))
 if c.nm=58∧t=[]then .error (75,c.at_)else .ok ({ c with tx:=t },zCz T j)
def zCl (T:List Nat) (i:Nat) (c:Cm):Rd (Cm × Nat):=
 let j:=zAP zAJ T i
 let t:=zEF T j (zCz T j)
 if zBZ t then .ok ({ c with tx:=t },zCz T j)else .error (77,c.at_)
def zCf (T:List Nat) (i:Nat) (c:Cm):Rd (Cm × Nat):=let r:=zEy T i;if r.1≠0 then .error r else .ok (c,r.2)
def zHr (T:List Nat) (i:Nat) (c:Cm):Rd (Cm × Nat):=match zDJ T i with
 |none=> .error (73,c.at_)
 |some (t,j)=> .ok ({ c with tx:=t },j)
def zB5 (T:List Nat) (i:Nat) (c:Cm):Rd (Cm × Nat):=
 if T.length≤i then .error (70,c.at_)
 else match zAu T (T.getD i 0) false (i+1)with
  |none=> .error (70,c.at_)
  |some (l,j)=>match zAu T (T.getD i 0) false j with
   |none=> .error (70,c.at_)
   |some (m,k)=>match zD9 l m with
    |none=> .error (60,c.at_)
    |some t=>zCf T k { c with tb:=t }
def zBb (T:List Nat):Nat→Nat→Cm→Rd (Cm × Nat)
 |0,i,c=> .ok (c,i)
 |n+1,i,c=>
  let b:=T.getD i 0
  if b=103 then if c.al=true then .error (74,c.at_)else zBb T n (i+1) { c with al:=true }
  else if b=112 then if c.pr=true then .error (74,c.at_)else zBb T n (i+1) { c with pr:=true }
  else if 48≤b∧b≤57 then match zFD T 1048576 i with
   |none=> .error (74,c.at_)
   |some (v,j)=>if c.ct≠0∨v=0 then .error (74,c.at_)else zBb T n j { c with ct:=v }
  else if b=119 then if c.wr=true then .error (74,c.at_)else zCl T (i+1) { c with wr:=true }
  else zCf T i c
def zDG (T:List Nat) (i:Nat) (c:Cm):Rd (Cm × Nat):=zBb T (T.length+1 - i) i c
def reS (ere:Bool) (l:List Mk) (c:Cm):Rd (List Nd):=
 if l=[]then .ok []else match zAz ere l with
  | .error e=> .error (e.1,c.at_)
  | .ok re=> .ok re
def zBT (ere:Bool) (T:List Nat) (i:Nat) (c:Cm):Rd (Cm × Nat):=
 if T.length≤i then .error (70,c.at_)
 else match zAu T (T.getD i 0) false (i+1)with
  |none=> .error (70,c.at_)
  |some (l,j)=>match reS ere l c with
   | .error e=> .error e
   | .ok re=>match zAu T (T.getD i 0) true j with
    |none=> .error (70,c.at_)
    |some (m,k)=>match zGR m with
     |none=> .error (61,c.at_)
     |some p=>match zDG T k { c with re:=re,fi:=p } with
      | .error e=> .error e
      | .ok (c',q)=>if re≠[]∧(zCR re:Int)<zGj p then .error (44,c.at_)else .ok (c',q)
def zCJ (ere:Bool) (T:List Nat) (i:Nat) (c:Cm):Rd (Cm × Nat):=
 if c.nm=123 then .ok (c,i)
 else if c.nm=115 then zBT ere T i c
 else if c.nm=121 then zB5 T i c
 else if c.nm=58∨c.nm=98∨c.nm=116 then zCL T i c
 else if c.nm=114∨c.nm=119 then zCl T i c
 else if c.nm=97∨c.nm=99∨c.nm=105 then zHr T i c
 else zCf T i c
def zD8 (ere:Bool) (T:List Nat):Nat→Nat→List Cm→Rd (List Cm)
 |0,_,l=> .ok l
 |n+1,i,l=>
  let j:=zAP zAh T i
  if T.length≤j then .ok l
  else if T.getD j 0=35 then zD8 ere T n (zCz T j) l
  else match zBy ere T j l.length with
   | .error e=> .error e
   | .ok (c,k)=>match zCJ ere T k c with
    | .error e=> .error e
    | .ok (c',q)=>zD8 ere T n q (l++[c'])
def zCB (ere:Bool) (T:List Nat):Rd (List Cm):=if 65536<T.length then .error (2,65536)else zD8 ere T (T.length+1) 0 []
def zBh (T:List Nat):Bool:=T.take (zCz T 0)==[35,110]
end
section
open Go.RowKit
section
variable {w:World} {sb:Nat} {b:Nat}
theorem zKp (hc:w.cell? ⟨sb,0,none⟩=some (.string ⟨#[32,9]⟩)) (hb:b<256):
  Calls Tryz.prog 96 #[.int .i32 (b:Nat),.pointer (some ⟨sb,0,none⟩)] w fun e w'=>e= .returned (.bool (zAJ b))∧Below w.heap.size w w':=by
 have n0: ∀ty,(Instr.next (.pointer (some ⟨w.heap.size,0,none⟩)) true ty).run Tryz.prog (w.iter ⟨#[32,9]⟩ 0)= .ok (.tuple #[.bool true,.int .i64 0,.int .i32 32]) (w.iter ⟨#[32,9]⟩ 1):=fun ty=>run_next_ascii w ⟨#[32,9]⟩ 0 ty (by decide) (by decide)
 have n1: ∀ty,(Instr.next (.pointer (some ⟨w.heap.size,0,none⟩)) true ty).run Tryz.prog (w.iter ⟨#[32,9]⟩ 1)= .ok (.tuple #[.bool true,.int .i64 1,.int .i32 9]) (w.iter ⟨#[32,9]⟩ 2):=fun ty=>run_next_ascii w ⟨#[32,9]⟩ 1 ty (by decide) (by decide)
 have nn: ∀ty,(Instr.next (.pointer (some ⟨w.heap.size,0,none⟩)) true ty).run Tryz.prog (w.iter ⟨#[32,9]⟩ 2)= .ok (.tuple #[.bool false]) (w.iter ⟨#[32,9]⟩ 2):=fun ty=>run_next_end w ⟨#[32,9]⟩ 2 ty (by decide)
 have HB: ∀k,Below w.heap.size w (w.iter ⟨#[32,9]⟩ k):=fun k=>(Below.refl _ _).alloc (Nat.le_refl _) _
 have HBH:=Lib.hid HB
 clear HB
 by_cases h0:b=32
 ·subst h0
  go_enter Tryz.func96,Tryz.ntmps96
  go_wp2_with fail
  refine wp_loop_rounds 1 ?_
  rw[rounds_succ]
  go_wp2_with fail
  go_ret
  exact⟨rfl,HBH.out _⟩
 by_cases h1:b=9
 ·subst h1
  go_enter Tryz.func96,Tryz.ntmps96
  go_wp2_with fail
  refine wp_loop_rounds 2 ?_
  rw[rounds_succ]
  go_wp2_with fail
  rw[rounds_succ]
  go_wp2_with fail
  go_ret
  exact⟨rfl,HBH.out _⟩
 have q0:((32:Int)==(b:Int))=false:=beq_eq_false_iff_ne.2 (by omega)
 have q1:((9:Int)==(b:Int))=false:=beq_eq_false_iff_ne.2 (by omega)
 have hp:zAJ b=false:=by simp[zAJ,h0,h1]
 have HP:=Lib.hid hp
 clear hp h0 h1
 go_enter Tryz.func96,Tryz.ntmps96
 go_wp2_with fail
 refine wp_loop_rounds 3 ?_
 rw[rounds_succ]
 go_wp2_with fail
 rw[rounds_succ]
 go_wp2_with fail
 rw[rounds_succ]
 go_wp2_with fail
 go_ret
 exact⟨by rw[HP.out];rfl,HBH.out _⟩
theorem zNd (hc:w.cell? ⟨sb,0,none⟩=some (.string ⟨#[32,9,59,10]⟩)) (hb:b<256):
  Calls Tryz.prog 96 #[.int .i32 (b:Nat),.pointer (some ⟨sb,0,none⟩)] w fun e w'=>e= .returned (.bool (zAh b))∧Below w.heap.size w w':=by
 have n0: ∀ty,(Instr.next (.pointer (some ⟨w.heap.size,0,none⟩)) true ty).run Tryz.prog (w.iter ⟨#[32,9,59,10]⟩ 0)= .ok (.tuple #[.bool true,.int .i64 0,.int .i32 32]) (w.iter ⟨#[32,9,59,10]⟩ 1):=fun ty=>run_next_ascii w ⟨#[32,9,59,10]⟩ 0 ty (by decide) (by decide)
 have n1: ∀ty,(Instr.next (.pointer (some ⟨w.heap.size,0,none⟩)) true ty).run Tryz.prog (w.iter ⟨#[32,9,59,10]⟩ 1)= .ok (.tuple #[.bool true,.int .i64 1,.int .i32 9]) (w.iter ⟨#[32,9,59,10]⟩ 2):=fun ty=>run_next_ascii w ⟨#[32,9,59,10]⟩ 1 ty (by decide) (by decide)
 have n2: ∀ty,(Instr.next (.pointer (some ⟨w.heap.size,0,none⟩)) true ty).run Tryz.prog (w.iter ⟨#[32,9,59,10]⟩ 2)= .ok (.tuple #[.bool true,.int .i64 2,.int .i32 59]) (w.iter ⟨#[32,9,59,10]⟩ 3):=fun ty=>run_next_ascii w ⟨#[32,9,59,10]⟩ 2 ty (by decide) (by decide)
 have n3: ∀ty,(Instr.next (.pointer (some ⟨w.heap.size,0,none⟩)) true ty).run Tryz.prog (w.iter ⟨#[32,9,59,10]⟩ 3)= .ok (.tuple #[.bool true,.int .i64 3,.int .i32 10]) (w.iter ⟨#[32,9,59,10]⟩ 4):=fun ty=>run_next_ascii w ⟨#[32,9,59,10]⟩ 3 ty (by decide) (by decide)
 have nn: ∀ty,(Instr.next (.pointer (some ⟨w.heap.size,0,none⟩)) true ty).run Tryz.prog (w.iter ⟨#[32,9,59,10]⟩ 4)= .ok (.tuple #[.bool false]) (w.iter ⟨#[32,9,59,10]⟩ 4):=fun ty=>run_next_end w ⟨#[32,9,59,10]⟩ 4 ty (by decide)
 have HB: ∀k,Below w.heap.size w (w.iter ⟨#[32,9,59,10]⟩ k):=fun k=>(Below.refl _ _).alloc (Nat.le_refl _) _
 have HBH:=Lib.hid HB
 clear HB
 by_cases h0:b=32
 ·subst h0
  go_enter Tryz.func96,Tryz.ntmps96
  go_wp2_with fail
  refine wp_loop_rounds 1 ?_
  rw[rounds_succ]
  go_wp2_with fail
  go_ret
  exact⟨rfl,HBH.out _⟩
 by_cases h1:b=9
 ·subst h1
  go_enter Tryz.func96,Tryz.ntmps96
  go_wp2_with fail
  refine wp_loop_rounds 2 ?_
  rw[rounds_succ]
  go_wp2_with fail
  rw[rounds_succ]
  go_wp2_with fail
  go_ret
  exact⟨rfl,HBH.out _⟩
 by_cases h2:b=59
 ·subst h2
  go_enter Tryz.func96,Tryz.ntmps96
  go_wp2_with fail
  refine wp_loop_rounds 3 ?_
  rw[rounds_succ]
  go_wp2_with fail
  rw[rounds_succ]
  go_wp2_with fail
  rw[rounds_succ]
  go_wp2_with fail
  go_ret
  exact⟨rfl,HBH.out _⟩
 by_cases h3:b=10
 ·subst h3
  go_enter Tryz.func96,Tryz.ntmps96
  go_wp2_with fail
  refine wp_loop_rounds 4 ?_
  rw[rounds_succ]
  go_wp2_with fail
  rw[rounds_succ]
  go_wp2_with fail
  rw[rounds_succ]
  go_wp2_with fail
  rw[rounds_succ]
  go_wp2_with fail
  go_ret
  exact⟨rfl,HBH.out _⟩
 have q0:((32:Int)==(b:Int))=false:=beq_eq_false_iff_ne.2 (by omega)
 have q1:((9:Int)==(b:Int))=false:=beq_eq_false_iff_ne.2 (by omega)
 have q2:((59:Int)==(b:Int))=false:=beq_eq_false_iff_ne.2 (by omega)
 have q3:((10:Int)==(b:Int))=false:=beq_eq_false_iff_ne.2 (by omega)
 have hp:zAh b=false:=by simp[zAh,h0,h1,h2,h3]
 have HP:=Lib.hid hp
 clear hp h0 h1 h2 h3
 go_enter Tryz.func96,Tryz.ntmps96
 go_wp2_with fail
 refine wp_loop_rounds 5 ?_
 rw[rounds_succ]
 go_wp2_with fail
 rw[rounds_succ]
 go_wp2_with fail
 rw[rounds_succ]
 go_wp2_with fail
 rw[rounds_succ]
 go_wp2_with fail
 rw[rounds_succ]
 go_wp2_with fail
 go_ret
 exact⟨by rw[HP.out];rfl,HBH.out _⟩
end
end
section
structure Jn (T X U:List Nat):Prop where
 len:U.length=T.length+1+X.length
 lo: ∀k,k<T.length→U.getD k 0=T.getD k 0
 nl:U.getD T.length 0=10
 hi: ∀k,U.getD (T.length+1+k) 0=X.getD k 0
theorem Jn.of (T X:List Nat):Jn T X (T++10::X) where
 len:=by simp;omega
 lo:=fun k hk=>by simp[List.getD_eq_getElem?_getD,List.getElem?_append_left hk]
 nl:=by simp[List.getD_eq_getElem?_getD]
 hi:=fun k=>by
  rw[List.getD_eq_getElem?_getD,List.getElem?_append_right (by omega),show T.length+1+k - T.length=k+1 by omega,List.getElem?_cons_succ,List.getD_eq_getElem?_getD]
def Rel (n j k:Nat):Prop:=k=j∨(j=n∧k=n+1)
section
variable {T X U:List Nat} {p:Nat→Bool} {i:Nat}
theorem zAR (p:Nat→Bool) (T:List Nat) (i:Nat):zAP p T i=if i<T.length∧p (T.getD i 0)=true then zAP p T (i+1)else i:=by
 unfold zAP
 by_cases h:i<T.length
 ·rw[show T.length - i=T.length - (i+1)+1 by omega,zNo]
 ·rw[show T.length - i=0 by omega,zNo,if_neg (fun h2=>h h2.1)]
theorem zKE (p:Nat→Bool) (T:List Nat): ∀(n i:Nat),T.length - i≤n→i≤zAP p T i
 |0,i,h=>by rw[zAR,if_neg (by omega)];exact Nat.le_refl _
 |n+1,i,h=>by
  rw[zAR]
  split
  ·have:=zKE p T n (i+1) (by omega);omega
  ·exact Nat.le_refl _
theorem zA9 (p:Nat→Bool) (T:List Nat) (i:Nat):i≤zAP p T i:=zKE p T _ i (Nat.le_refl _)
theorem zKD (p:Nat→Bool) (T:List Nat): ∀(n i:Nat),T.length - i≤n→i≤T.length→zAP p T i≤T.length
 |0,i,h,hi=>by rw[zAR,if_neg (by omega)];exact hi
 |n+1,i,h,hi=>by
  rw[zAR]
  split
  ·exact zKD p T n (i+1) (by omega) (by omega)
  ·exact hi
theorem zBn (p:Nat→Bool) {T:List Nat} {i:Nat} (h:i≤T.length):zAP p T i≤T.length:=zKD p T _ i (Nat.le_refl _) h
theorem zGn (p:Nat→Bool) (T:List Nat): ∀(n i:Nat),T.length - i≤n→zAP p T i<T.length→p (T.getD (zAP p T i) 0)=false
 |0,i,h,hl=>by
  have:=zA9 p T i
  omega
 |n+1,i,h,hl=>by
  rw[zAR]at hl ⊢
  split
  ·rename_i h2
   rw[if_pos h2]at hl
   exact zGn p T n (i+1) (by omega) hl
  ·rename_i h2
   rw[if_neg h2]at hl
   cases hb:p (T.getD i 0)with
   |false=>rfl
   |true=>exact absurd ⟨hl,hb⟩ h2
theorem zH4 (p:Nat→Bool) {T:List Nat} {i:Nat} (h:zAP p T i<T.length):p (T.getD (zAP p T i) 0)=false:=zGn p T _ i (Nat.le_refl _) h
theorem zH5 (p:Nat→Bool) (T:List Nat): ∀(n i k:Nat),T.length - i≤n→i≤k→k<zAP p T i→p (T.getD k 0)=true
 |0,i,k,h,h1,h2=>by
  rw[zAR,if_neg (by omega)]at h2
  omega
 |n+1,i,k,h,h1,h2=>by
  rw[zAR]at h2
  split at h2
  ·rename_i h3
   by_cases hk:k=i
   ·rw[hk];exact h3.2
   ·exact zH5 p T n (i+1) k (by omega) (by omega) h2
  ·omega
theorem zNn (p:Nat→Bool) {T:List Nat} {i k:Nat} (h1:i≤k) (h2:k<zAP p T i):p (T.getD k 0)=true:=zH5 p T _ i k (Nat.le_refl _) h1 h2
theorem zHL (J:Jn T X U) (hp:p 10=false): ∀(n i:Nat),T.length - i≤n→i≤T.length→zAP p U i=zAP p T i
 |0,i,h,hi=>by
  obtain rfl:i=T.length:=by omega
  rw[zAR,J.nl,hp,if_neg (by simp),zAR,if_neg (by omega)]
 |n+1,i,h,hi=>by
  have hl:=J.len
  by_cases hlt:i<T.length
  ·rw[zAR p U,zAR p T,J.lo i hlt]
   by_cases hb:p (T.getD i 0)=true
   ·rw[if_pos ⟨by omega,hb⟩,if_pos ⟨hlt,hb⟩]
    exact zHL J hp n (i+1) (by omega) (by omega)
   ·rw[if_neg (fun h=>hb h.2),if_neg (fun h=>hb h.2)]
  ·exact zHL J hp 0 i (by omega) hi
theorem zEM (J:Jn T X U) (hp:p 10=false) (hi:i≤T.length):zAP p U i=zAP p T i:=zHL J hp _ i (Nat.le_refl _) hi
theorem zMB (J:Jn T X U): ∀(n i:Nat),X.length - i≤n→zAP p U (T.length+1+i)=T.length+1+zAP p X i
 |0,i,h=>by
  have hl:=J.len
  rw[zAR,if_neg (by omega),zAR,if_neg (by omega)]
 |n+1,i,h=>by
  have hl:=J.len
  rw[zAR p U,zAR p X,J.hi i]
  by_cases hb:i<X.length∧p (X.getD i 0)=true
  ·rw[if_pos ⟨by omega,hb.2⟩,if_pos hb]
   exact zMB J n (i+1) (by omega)
  ·rw[if_neg (fun h=>hb ⟨by omega,h.2⟩),if_neg hb]
theorem zBJ (J:Jn T X U) (i:Nat):zAP p U (T.length+1+i)=T.length+1+zAP p X i:=zMB J _ i (Nat.le_refl _)
theorem zHi (J:Jn T X U): ∀(n i:Nat),T.length - i≤n→i≤T.length→zAP zAh U i=if zAP zAh T i<T.length then zAP zAh T i else T.length+1+zAP zAh X 0
 |0,i,h,hi=>by
  obtain rfl:i=T.length:=by omega
  have hl:=J.len
  have e:zAP zAh T T.length=T.length:=by rw[zAR,if_neg (by omega)]
  have e2:zAP zAh U T.length=zAP zAh U (T.length+1+0):=by rw[zAR,J.nl,if_pos ⟨by omega,by decide⟩]
  rw[e,if_neg (by omega),e2]
  exact zBJ (p:=zAh) J 0
 |n+1,i,h,hi=>by
  have hl:=J.len
  by_cases hlt:i<T.length
  ·by_cases hb:zAh (T.getD i 0)=true
   ·have e:zAP zAh T i=zAP zAh T (i+1):=by rw[zAR,if_pos ⟨hlt,hb⟩]
    have e2:zAP zAh U i=zAP zAh U (i+1):=by rw[zAR,J.lo i hlt,if_pos ⟨by omega,hb⟩]
    rw[e,e2]
    exact zHi J n (i+1) (by omega) (by omega)
   ·have e:zAP zAh T i=i:=by rw[zAR,if_neg (fun h=>hb h.2)]
    have e2:zAP zAh U i=i:=by rw[zAR,J.lo i hlt,if_neg (fun h=>hb h.2)]
    rw[e,e2,if_pos hlt]
  ·exact zHi J 0 i (by omega) hi
theorem zM7 (hU:U=T++10::X) {j:Nat} (hj:j≤T.length):zEF U i j=zEF T i j:=by
 subst hU
 unfold zEF
 by_cases hi:i≤T.length
 ·rw[List.drop_append_of_le_length hi,List.take_append_of_le_length (by rw[List.length_drop];omega)]
 ·rw[show j - i=0 by omega];simp
theorem zIr (hU:U=T++10::X) (i j:Nat):zEF U (T.length+1+i) (T.length+1+j)=zEF X i j:=by
 subst hU
 unfold zEF
 rw[show T.length+1+j - (T.length+1+i)=j - i by omega,List.drop_append,show T.length+1+i - T.length=i+1 by omega,List.drop_succ_cons,List.drop_eq_nil_of_le (by omega),List.nil_append]
theorem zPW (J:Jn T X U) {j:Nat} (hi:i≤T.length) (h:zEy T i=(0,j)): ∃k,zEy U i=(0,k)∧Rel T.length j k:=by
 have hs:=zEM (p:=zAJ) J (by decide) hi
 have hle:=zBn zAJ hi
 unfold zEy at h ⊢
 simp only at h ⊢
 rw[hs]
 generalize zAP zAJ T i=q at h hle
 have hl:=J.len
 by_cases hq:T.length≤q
 ·obtain rfl:q=T.length:=by omega
  rw[if_pos (.inl (Nat.le_refl _))]at h
  simp only[Prod.mk.injEq,true_and]at h
  rw[J.nl,if_neg (by omega),if_pos (.inr rfl)]
  exact⟨_,rfl,.inr ⟨h.symm,rfl⟩⟩
 ·rw[J.lo q (by omega)]
  by_cases h1:T.getD q 0=125∨T.getD q 0=35
  ·rw[if_pos (.inr h1)]at h ⊢
   exact⟨_,h,.inl rfl⟩
  ·rw[if_neg (fun h=>h1 (h.resolve_left hq))]at h
   rw[if_neg (fun h=>h1 (h.resolve_left (by omega)))]
   exact⟨_,h,.inl rfl⟩
theorem zM3 (J:Jn T X U) (i:Nat):zEy U (T.length+1+i)=((zEy X i).1,T.length+1+(zEy X i).2):=by
 have hl:=J.len
 unfold zEy
 simp only
 rw[zBJ J,J.hi]
 generalize zAP zAJ X i=q
 by_cases h1:X.length≤q∨X.getD q 0=125∨X.getD q 0=35
 ·rw[if_pos h1,if_pos (h1.imp_left fun h=>by omega)]
 ·rw[if_neg h1,if_neg (fun h=>h1 (h.imp_left fun h=>by omega))]
  by_cases h2:X.getD q 0=59∨X.getD q 0=10
  ·rw[if_pos h2,if_pos h2];rfl
  ·rw[if_neg h2,if_neg h2]
theorem zFy (J:Jn T X U): ∀(n m i:Nat) (acc t:List Nat) (j:Nat),T.length - i≤n→n<m→i≤T.length→zB2 T n i acc=some (t,j)→ ∃k,zB2 U m i acc=some (t,k)∧Rel T.length j k
 |0,m+1,i,acc,t,j,h,_,hi,hr=>by
  obtain rfl:i=T.length:=by omega
  have hl:=J.len
  simp only[zB2,Option.some.injEq,Prod.mk.injEq]at hr
  obtain⟨rfl,rfl⟩:=hr
  rw[zB2,if_neg (by omega),J.nl,if_pos rfl]
  exact⟨_,rfl,.inr ⟨rfl,rfl⟩⟩
 |n+1,m+1,i,acc,t,j,h,hm,hi,hr=>by
  have hl:=J.len
  by_cases hlt:i<T.length
  ·rw[zB2,if_neg (by omega)]at hr
   rw[zB2,if_neg (by omega),J.lo i hlt]
   by_cases h1:T.getD i 0=10
   ·rw[if_pos h1]at hr ⊢
    exact⟨_,hr,.inl rfl⟩
   ·rw[if_neg h1]at hr ⊢
    by_cases h2:T.getD i 0=92
    ·rw[if_pos h2]at hr ⊢
     by_cases h3:T.length≤i+1
     ·rw[if_pos h3]at hr;cases hr
     ·rw[if_neg h3]at hr
      rw[if_neg (by omega),J.lo (i+1) (by omega)]
      exact zFy J n m (i+2) _ t j (by omega) (by omega) (by omega) hr
    ·rw[if_neg h2]at hr ⊢
     exact zFy J n m (i+1) _ t j (by omega) (by omega) (by omega) hr
  ·obtain rfl:i=T.length:=by omega
   rw[zB2,if_pos (Nat.le_refl _)]at hr
   simp only[Option.some.injEq,Prod.mk.injEq]at hr
   obtain⟨rfl,rfl⟩:=hr
   rw[zB2,if_neg (by omega),J.nl,if_pos rfl]
   exact⟨_,rfl,.inr ⟨rfl,rfl⟩⟩
theorem zEK (J:Jn T X U): ∀(n i:Nat) (acc:List Nat),zB2 U n (T.length+1+i) acc=(zB2 X n i acc).map fun r=>(r.1,T.length+1+r.2)
 |0,i,acc=>rfl
 |n+1,i,acc=>by
  have hl:=J.len
  rw[zB2,zB2,J.hi i]
  by_cases h0:X.length≤i
  ·rw[if_pos h0,if_pos (by omega)];rfl
  ·rw[if_neg h0,if_neg (by omega)]
   split
   ·rfl
   ·split
    ·by_cases h3:X.length≤i+1
     ·rw[if_pos h3,if_pos (by omega)];rfl
     ·rw[if_neg h3,if_neg (by omega),show T.length+1+i+1=T.length+1+(i+1)by omega,J.hi (i+1)]
      exact zEK J n (i+2) _
    ·exact zEK J n (i+1) _
theorem zNe (J:Jn T X U) {t:List Nat} {j:Nat} (hi:i≤T.length) (h:zDJ T i=some (t,j)): ∃k,zDJ U i=some (t,k)∧Rel T.length j k:=by
 have hs:=zEM (p:=zAJ) J (by decide) hi
 have hl:=J.len
 unfold zDJ at h ⊢
 simp only at h ⊢
 rw[hs]
 generalize zAP zAJ T i=q at h
 split at h
 ·cases h
 ·rename_i h1
  have h2:q+3≤T.length:=by
   by_cases h3:T.length<q+3
   ·exact absurd (.inl h3) h1
   ·omega
  rw[J.lo q (by omega),J.lo (q+1) (by omega),if_neg (fun h=>h1 (h.imp_left fun h=>by omega))]
  exact zFy J _ _ _ _ t j (by omega) (by omega) (by omega) h
theorem zKr (J:Jn T X U) (i:Nat):zDJ U (T.length+1+i)=(zDJ X i).map fun r=>(r.1,T.length+1+r.2):=by
 have hl:=J.len
 unfold zDJ
 simp only
 rw[zBJ J]
 generalize zAP zAJ X i=q
 rw[J.hi q,show T.length+1+q+1=T.length+1+(q+1)by omega,J.hi (q+1)]
 by_cases h1:X.length<q+3∨X.getD q 0≠92∨X.getD (q+1) 0≠10
 ·rw[if_pos h1,if_pos (h1.imp_left fun h=>by omega)];rfl
 ·rw[if_neg h1,if_neg (fun h=>h1 (h.imp_left fun h=>by omega)),show U.length - (T.length+1+q+2)=X.length - (q+2)by omega]
  exact zEK J _ (q+2) []
theorem zGC (J:Jn T X U) {d:Nat} {e:Bool} : ∀(n m i:Nat) (acc:List Mk) (r:List Mk × Nat),n≤m→zBg T d e n i acc=some r→zBg U d e m i acc=some r
 |0,m,i,acc,r,_,hr=>by cases hr
 |n+1,m+1,i,acc,r,hm,hr=>by
  have hl:=J.len
  rw[zBg]at hr ⊢
  split at hr
  ·cases hr
  ·rename_i h0
   rw[if_neg (by omega),J.lo i (by omega)]
   split at hr
   ·rename_i h1;rw[if_pos h1];exact hr
   ·rename_i h1
    rw[if_neg h1]
    split at hr
    ·cases hr
    ·rename_i h2
     rw[if_neg h2]
     split at hr
     ·rename_i h3
      rw[if_pos h3]
      split at hr
      ·cases hr
      ·rename_i h4
       rw[if_neg (by omega),J.lo (i+1) (by omega)]
       split at hr
       ·cases hr
       ·rename_i h5
        rw[if_neg h5]
        exact zGC J n m _ _ r (by omega) hr
     ·rename_i h3
      rw[if_neg h3]
      exact zGC J n m _ _ r (by omega) hr
theorem zET (J:Jn T X U) {d:Nat} {e:Bool} : ∀(n i:Nat) (acc:List Mk),zBg U d e n (T.length+1+i) acc=(zBg X d e n i acc).map fun r=>(r.1,T.length+1+r.2)
 |0,i,acc=>rfl
 |n+1,i,acc=>by
  have hl:=J.len
  rw[zBg,zBg,J.hi i]
  by_cases h0:X.length≤i
  ·rw[if_pos h0,if_pos (by omega)];rfl
  ·rw[if_neg h0,if_neg (by omega)]
   split
   ·rfl
   ·split
    ·rfl
    ·split
     ·by_cases h3:X.length≤i+1
      ·rw[if_pos h3,if_pos (by omega)];rfl
      ·rw[if_neg h3,if_neg (by omega),show T.length+1+i+1=T.length+1+(i+1)by omega,J.hi (i+1)]
       split
       ·rfl
       ·exact zET J n (i+2) _
     ·exact zET J n (i+1) _
theorem zEl (J:Jn T X U) {d:Nat} {e:Bool} {r:List Mk × Nat} (h:zAu T d e i=some r):zAu U d e i=some r:=by
 have hl:=J.len
 unfold zAu at h ⊢
 split at h
 ·cases h
 ·rename_i h1
  rw[if_neg h1]
  exact zGC J _ _ i [] r (by omega) h
theorem zC9 (J:Jn T X U) (d:Nat) (e:Bool) (i:Nat):zAu U d e (T.length+1+i)=(zAu X d e i).map fun r=>(r.1,T.length+1+r.2):=by
 have hl:=J.len
 unfold zAu
 split
 ·rfl
 ·rw[show U.length - (T.length+1+i)=X.length - i by omega]
  exact zET J _ i []
theorem zHa (J:Jn T X U) {most:Nat} : ∀(n m i v:Nat) (h:Bool),T.length - i≤n→n<m→i≤T.length→zDV U most m i v h=zDV T most n i v h
 |0,m+1,i,v,h,hn,_,hi=>by
  obtain rfl:i=T.length:=by omega
  have hl:=J.len
  rw[show zDV T most 0 T.length v h=(v,h,T.length)from rfl,zDV,if_neg (by omega),J.nl,if_neg (by omega)]
 |n+1,m+1,i,v,h,hn,hm,hi=>by
  have hl:=J.len
  by_cases hlt:i<T.length
  ·rw[zDV,if_neg (by omega),J.lo i hlt,zDV,if_neg (show¬T.length≤i by omega)]
   split
   ·split
    ·exact zHa J n m (i+1) _ _ (by omega) (by omega) (by omega)
    ·exact zHa J n m (i+1) _ _ (by omega) (by omega) (by omega)
   ·rfl
  ·obtain rfl:i=T.length:=by omega
   rw[zDV,if_neg (by omega),J.nl,if_neg (by omega),zDV,if_pos (Nat.le_refl _)]
theorem zFE (J:Jn T X U) {most:Nat} : ∀(n i v:Nat) (h:Bool),zDV U most n (T.length+1+i) v h=((zDV X most n i v h).1,(zDV X most n i v h).2.1,T.length+1+(zDV X most n i v h).2.2)
 |0,i,v,h=>rfl
 |n+1,i,v,h=>by
  have hl:=J.len
  rw[zDV,zDV,J.hi i]
  by_cases h0:X.length≤i
  ·rw[if_pos h0,if_pos (by omega)]
  ·rw[if_neg h0,if_neg (by omega)]
   split
   ·split
    ·exact zFE J n (i+1) _ _
    ·exact zFE J n (i+1) _ _
   ·rfl
theorem zMX (J:Jn T X U) {most:Nat} (hi:i≤T.length):zFD U most i=zFD T most i:=by
 have hl:=J.len
 unfold zFD
 rw[zHa J (T.length - i) (U.length - i) i 0 false (Nat.le_refl _) (by omega) hi]
theorem zIK (J:Jn T X U) (most i:Nat):zFD U most (T.length+1+i)=(zFD X most i).map fun r=>(r.1,T.length+1+r.2):=by
 have hl:=J.len
 unfold zFD
 simp only
 rw[show U.length - (T.length+1+i)=X.length - i by omega,zFE J]
 simp only
 by_cases h:(zDV X most (X.length - i) i 0 false).2.2=i∨(zDV X most (X.length - i) i 0 false).2.1=true
 ·rw[if_pos h,if_pos (h.imp_left fun h=>by omega)];rfl
 ·rw[if_neg h,if_neg (fun h2=>h (h2.imp_left fun h=>by omega))];rfl
end
end
section
section
variable {T X U:List Nat} {i j:Nat} {ere:Bool}
def shR {α:Type} (m:Nat) (f:α→α):Rd (α × Nat)→Rd (α × Nat)
 | .error e=> .error (e.1,m+e.2)
 | .ok r=> .ok (f r.1,m+r.2)
def shC (m:Nat) (c:Cm):Cm:= { c with at_:=m+c.at_ }
theorem zOi (J:Jn T X U) (hi:i≤T.length) (h:(zBe ere T i).2.1=0):zBe ere U i=zBe ere T i:=by
 have hl:=J.len
 by_cases hlt:i<T.length
 ·unfold zBe at h ⊢
  rw[if_neg (show¬T.length≤i by omega)]at h
  rw[if_neg (show¬T.length≤i by omega),if_neg (show¬U.length≤i by omega),J.lo i hlt]
  simp only at h ⊢
  split
  ·rw[zMX J hi]
  ·rename_i h1
   rw[if_neg h1]at h
   split
   ·rfl
   ·rename_i h2
    rw[if_neg h2]at h
    by_cases h3:T.getD i 0=92∧T.length≤i+1
    ·rw[if_pos h3]at h
     simp at h
    ·rw[if_neg h3]at h
     rw[if_neg h3,if_neg (show¬(T.getD i 0=92∧U.length≤i+1)by omega)]
     split
     ·rename_i h4
      rw[if_pos h4]at h
      have hk:(if T.getD i 0=92 then i+1 else i)<T.length:=by split<;>omega
      generalize (if T.getD i 0=92 then i+1 else i)=k at h hk ⊢
      rw[J.lo k hk]
      cases hp:zAu T (T.getD k 0) false (k+1)with
      |none=>rw[hp]at h;simp at h
      |some r=>rw[zEl J hp]
     ·rfl
 ·obtain rfl:i=T.length:=by omega
  unfold zBe
  rw[if_pos (Nat.le_refl _),if_neg (by omega),J.nl]
  rfl
theorem zLr (J:Jn T X U) (i:Nat):zBe ere U (T.length+1+i)=((zBe ere X i).1,(zBe ere X i).2.1,T.length+1+(zBe ere X i).2.2):=by
 have hl:=J.len
 unfold zBe
 rw[J.hi i]
 by_cases h0:X.length≤i
 ·rw[if_pos h0,if_pos (by omega)]
 ·rw[if_neg h0,if_neg (by omega)]
  simp only
  split
  ·rw[zIK J]
   cases zFD X 2147483647 i with
   |none=>rfl
   |some r=>
    simp only[Option.map_some]
    split<;>rfl
  ·split
   ·rfl
   ·by_cases h3:X.getD i 0=92∧X.length≤i+1
    ·rw[if_pos h3,if_pos (show X.getD i 0=92∧U.length≤T.length+1+i+1 by omega)];rfl
    ·rw[if_neg h3,if_neg (show¬(X.getD i 0=92∧U.length≤T.length+1+i+1)by omega)]
     split
     ·have hk:(if X.getD i 0=92 then T.length+1+i+1 else T.length+1+i)=T.length+1+(if X.getD i 0=92 then i+1 else i):=by split<;>rfl
      rw[hk]
      generalize (if X.getD i 0=92 then i+1 else i)=k
      rw[J.hi k,show T.length+1+k+1=T.length+1+(k+1)by omega,zC9 J]
      cases zAu X (X.getD k 0) false (k+1)with
      |none=>rfl
      |some r=>
       obtain⟨l,q⟩:=r
       simp only[Option.map_some]
       split
       ·rfl
       ·cases zAz ere l<;>rfl
     ·rfl
theorem zJ7 (J:Jn T X U) (hi:i≤T.length) {r:Ad × Nat} (h:zEG ere T i= .ok r):zEG ere U i= .ok r∧i≤r.2∧r.2≤T.length:=by
 have hat:=zOj (ere:=ere) hi
 unfold zEG at h ⊢
 simp only at h ⊢
 split at h
 ·cases h
 ·rename_i h0
  have h0':(zBe ere T i).2.1=0:=by omega
  rw[zOi J hi h0',if_neg h0,zEM J (by decide) hat.2]
  refine⟨h,?_⟩
  cases h
  simp only
  split
  ·have:=zA9 zAJ T (zBe ere T i).2.2
   have:=zBn zAJ hat.2
   omega
  ·exact hat
theorem zI0 (J:Jn T X U) (i:Nat):zEG ere U (T.length+1+i)=shR (T.length+1) id (zEG ere X i):=by
 unfold zEG
 simp only
 rw[zLr J]
 simp only
 split
 ·rfl
 ·simp only[shR,id]
  split
  ·rw[zBJ J]
  ·rfl
theorem zIt (J:Jn T X U) {c:Nat} (hc:c≠10) (hi:i≤T.length):zBc U c i=zBc T c i:=by
 have hl:=J.len
 unfold zBc
 by_cases hlt:i<T.length
 ·rw[J.lo i hlt]
  by_cases h:T.getD i 0=c
  ·rw[if_pos ⟨by omega,h⟩,if_pos ⟨hlt,h⟩,zEM J (by decide) (by omega)]
  ·rw[if_neg (fun x=>h x.2),if_neg (fun x=>h x.2)]
 ·obtain rfl:i=T.length:=by omega
  rw[J.nl,if_neg (fun x=>hc x.2.symm),if_neg (by omega)]
theorem zD5 {c k:Nat} (h:zBc T c i=some k):i<T.length∧i+1≤k∧k≤T.length:=by
 unfold zBc at h
 split at h
 ·rename_i h0
  cases h
  have:=zA9 zAJ T (i+1)
  have:=zBn zAJ (show i+1≤T.length by omega)
  omega
 ·cases h
theorem zGW (J:Jn T X U) (c i:Nat):zBc U c (T.length+1+i)=(zBc X c i).map fun k=>T.length+1+k:=by
 have hl:=J.len
 unfold zBc
 rw[J.hi i]
 by_cases h:i<X.length∧X.getD i 0=c
 ·rw[if_pos h,if_pos ⟨by omega,h.2⟩,show T.length+1+i+1=T.length+1+(i+1)by omega,zBJ J];rfl
 ·rw[if_neg h,if_neg (fun x=>h ⟨by omega,x.2⟩)];rfl
theorem zMK (J:Jn T X U) (hi:i≤T.length) {a:Ad} {r:Ad × Nat × Nat} (h:zF6 ere T a i= .ok r):zF6 ere U a i= .ok r∧i≤r.2.2∧r.2.2≤T.length:=by
 unfold zF6 at h ⊢
 split at h
 ·rename_i h0
  rw[if_pos h0]
  cases h
  exact⟨rfl,Nat.le_refl _,hi⟩
 ·rename_i h0
  rw[if_neg h0,zIt J (by decide) hi]
  cases hc:zBc T 44 i with
  |none=>rw[hc]at h;cases h;exact⟨rfl,Nat.le_refl _,hi⟩
  |some k=>
   have hk:=zD5 hc
   rw[hc]at h
   simp only at h ⊢
   cases ha:zEG ere T k with
   |error e=>rw[ha]at h;cases h
   |ok p=>
    obtain⟨h1,h2,h3⟩:=zJ7 J hk.2.2 ha
    rw[ha]at h
    rw[h1]
    obtain⟨b,q⟩:=p
    simp only at h h2 h3 ⊢
    split at h
    ·cases h
    ·rename_i h4
     rw[if_neg h4]
     cases h
     exact⟨rfl,by simp only;omega,h3⟩
theorem zMI (J:Jn T X U) (a:Ad) (i:Nat):zF6 ere U a (T.length+1+i)=(match zF6 ere X a i with| .error e=> .error (e.1,T.length+1+e.2)| .ok r=> .ok (r.1,r.2.1,T.length+1+r.2.2)):=by
 unfold zF6
 split
 ·rfl
 ·rw[zGW J]
  cases zBc X 44 i with
  |none=>rfl
  |some k=>
   simp only[Option.map_some]
   rw[zI0 J]
   cases zEG ere X k with
   |error e=>rfl
   |ok p=>
    simp only[shR,id]
    split<;>rfl
theorem zJg: ∀(n i:Nat) (nt:Bool),i≤T.length→i≤(zIM T n i nt).1∧(zIM T n i nt).1≤T.length
 |0,i,nt,hi=>⟨Nat.le_refl _,hi⟩
 |n+1,i,nt,hi=>by
  rw[zIM]
  cases hc:zBc T 33 i with
  |none=>exact⟨Nat.le_refl _,hi⟩
  |some k=>
   have hk:=zD5 hc
   have:=zJg n k true hk.2.2
   simp only
   omega
theorem zKM (J:Jn T X U): ∀(n m i:Nat) (nt:Bool),T.length - i<n→n≤m→i≤T.length→zIM U m i nt=zIM T n i nt
 |n+1,m+1,i,nt,h,hm,hi=>by
  rw[zIM,zIM,zIt J (by decide) hi]
  cases hc:zBc T 33 i with
  |none=>rfl
  |some k=>
   have hk:=zD5 hc
   exact zKM J n m k true (by omega) (by omega) hk.2.2
theorem zPI (J:Jn T X U) (hi:i≤T.length):zFd U i=zFd T i:=by
 have hl:=J.len
 exact zKM J _ _ i false (by omega) (by omega) hi
theorem zGv (J:Jn T X U): ∀(n i:Nat) (nt:Bool),zIM U n (T.length+1+i) nt=(T.length+1+(zIM X n i nt).1,(zIM X n i nt).2)
 |0,i,nt=>rfl
 |n+1,i,nt=>by
  rw[zIM,zIM,zGW J]
  cases zBc X 33 i with
  |none=>rfl
  |some k=>exact zGv J n k true
theorem zMZ (J:Jn T X U) (i:Nat):zFd U (T.length+1+i)=(T.length+1+(zFd X i).1,(zFd X i).2):=by
 have hl:=J.len
 unfold zFd
 rw[show U.length+1 - (T.length+1+i)=X.length+1 - i by omega]
 exact zGv J _ i false
theorem zLL:zDC 0=none:=rfl
theorem zKR (J:Jn T X U) (hi:i≤T.length) {n:Nat} {r:Cm × Nat} (h:zBy ere T i n= .ok r):
  zBy ere U i n= .ok r∧i≤r.1.at_∧r.1.at_<T.length∧r.2=r.1.at_+1∧T.getD r.1.at_ 0=r.1.nm:=by
 unfold zBy at h ⊢
 cases ha:zEG ere T i with
 |error e=>rw[ha]at h;cases h
 |ok p=>
  obtain⟨h1,h2,h3⟩:=zJ7 J hi ha
  rw[ha]at h
  rw[h1]
  obtain⟨a,k⟩:=p
  simp only at h h2 h3 ⊢
  cases hs:zF6 ere T a k with
  |error e=>rw[hs]at h;cases h
  |ok p=>
   obtain⟨h4,h5,h6⟩:=zMK J h3 hs
   rw[hs]at h
   rw[h4]
   obtain⟨b,many,q⟩:=p
   simp only at h h5 h6 ⊢
   have hq:=zJg (T:=T) (T.length+1 - q) q false h6
   rw[zPI J h6]
   rw[show zIM T (T.length+1 - q) q false=zFd T q from rfl]at hq
   generalize zFd T q=z at h hq ⊢
   have hz:z.1<T.length:=by
    by_cases hz:z.1<T.length
    ·exact hz
    ·rw[show T.getD z.1 0=0 by rw[List.getD_eq_getElem?_getD,List.getElem?_eq_none (by omega)];rfl,zLL]at h
     cases h
   have hl:=J.len
   rw[J.lo _ hz]
   cases hm:zDC (T.getD z.1 0)with
   |none=>rw[hm]at h;cases h
   |some most=>
    rw[hm]at h
    simp only at h ⊢
    split at h
    ·cases h
    ·rename_i h7
     rw[if_neg h7]
     split at h
     ·cases h
     ·rename_i h8
      rw[if_neg h8]
      cases h
      simp only[zJD,if_pos hz,if_pos (show z.1<U.length by omega)]
      refine⟨?_,?_,?_,?_,?_⟩<;>first|trivial|rfl|omega
theorem zLW (J:Jn T X U) {n m:Nat} (hn:n≤m) (i:Nat):(4096≤m∧ ∃p,zBy ere U (T.length+1+i) m= .error (2,p))∨zBy ere U (T.length+1+i) m=shR (T.length+1) (shC (T.length+1)) (zBy ere X i n):=by
 have hl:=J.len
 unfold zBy
 rw[zI0 J]
 cases zEG ere X i with
 |error e=>exact .inr rfl
 |ok p=>
  simp only[shR,id]
  rw[zMI J]
  cases zF6 ere X p.1 p.2 with
  |error e=>exact .inr rfl
  |ok s=>
   simp only
   rw[zMZ J]
   generalize zFd X s.2.2=z
   simp only
   rw[J.hi z.1]
   cases zDC (X.getD z.1 0)with
   |none=>exact .inr rfl
   |some most=>
    simp only
    split
    ·exact .inr rfl
    ·by_cases hm:4096≤m
     ·rw[if_pos hm];exact .inl ⟨hm,_,rfl⟩
     ·rw[if_neg hm,if_neg (by omega)]
      refine .inr ?_
      have:zJD U (T.length+1+z.1)=T.length+1+zJD X z.1:=by
       unfold zJD
       by_cases h:z.1<X.length
       ·rw[if_pos h,if_pos (by omega)];rfl
       ·rw[if_neg h,if_neg (by omega)]
      rw[this]
      rfl
theorem zFR (hi:i≤T.length):i≤zCz T i∧zCz T i≤T.length:=⟨zA9 _ _ _,zBn _ hi⟩
theorem zHP (J:Jn T X U) (hi:i≤T.length):zCz U i=zCz T i:=zEM J (by decide) hi
theorem zF8 (J:Jn T X U) (i:Nat):zCz U (T.length+1+i)=T.length+1+zCz X i:=zBJ J i
theorem zMn (J:Jn T X U) (hU:U=T++10::X) (hi:i≤T.length) (c:Cm):zCL U i c=zCL T i c:=by
 have h1:=zBn zAJ hi
 have h2:=zFR h1
 unfold zCL
 simp only
 rw[zEM J (by decide) hi,zHP J h1,zM7 hU h2.2]
theorem zJq (J:Jn T X U) (hU:U=T++10::X) (i:Nat) (c:Cm):zCL U (T.length+1+i) (shC (T.length+1) c)=shR (T.length+1) (shC (T.length+1)) (zCL X i c):=by
 unfold zCL
 simp only
 rw[zBJ J,zF8 J,zIr hU,show(shC (T.length+1) c).nm=c.nm from rfl]
 by_cases h:c.nm=58∧zBa (zEF X (zAP zAJ X i) (zCz X (zAP zAJ X i)))=[]
 ·rw[if_pos h,if_pos h];rfl
 ·rw[if_neg h,if_neg h];rfl
theorem zKS (J:Jn T X U) (hU:U=T++10::X) (hi:i≤T.length) (c:Cm):zCl U i c=zCl T i c:=by
 have h1:=zBn zAJ hi
 have h2:=zFR h1
 unfold zCl
 simp only
 rw[zEM J (by decide) hi,zHP J h1,zM7 hU h2.2]
theorem zG9 (J:Jn T X U) (hU:U=T++10::X) (i:Nat) (c:Cm):zCl U (T.length+1+i) (shC (T.length+1) c)=shR (T.length+1) (shC (T.length+1)) (zCl X i c):=by
 unfold zCl
 simp only
 rw[zBJ J,zF8 J,zIr hU]
 split<;>rfl
theorem zFm (J:Jn T X U) (hi:i≤T.length) {c c':Cm} {j:Nat} (h:zCf T i c= .ok (c',j)): ∃k,zCf U i c= .ok (c',k)∧Rel T.length j k:=by
 unfold zCf at h ⊢
 simp only at h ⊢
 split at h
 ·cases h
 ·rename_i h0
  have h1:zEy T i=(0,(zEy T i).2):=Prod.ext (by simp only;omega) rfl
  obtain⟨k,h2,h3⟩:=zPW J hi h1
  cases h
  rw[h2]
  exact⟨k,rfl,h3⟩
theorem zFK (J:Jn T X U) (i:Nat) (c:Cm):zCf U (T.length+1+i) (shC (T.length+1) c)=shR (T.length+1) (shC (T.length+1)) (zCf X i c):=by
 unfold zCf
 simp only
 rw[zM3 J]
 simp only
 split<;>rfl
theorem zPD (J:Jn T X U) (hi:i≤T.length) {c c':Cm} {j:Nat} (h:zHr T i c= .ok (c',j)): ∃k,zHr U i c= .ok (c',k)∧Rel T.length j k:=by
 unfold zHr at h ⊢
 cases ht:zDJ T i with
 |none=>rw[ht]at h;cases h
 |some r=>
  obtain⟨t,q⟩:=r
  rw[ht]at h
  cases h
  obtain⟨k,h1,h2⟩:=zNe J hi ht
  rw[h1]
  exact⟨k,rfl,h2⟩
theorem zMR (J:Jn T X U) (i:Nat) (c:Cm):zHr U (T.length+1+i) (shC (T.length+1) c)=shR (T.length+1) (shC (T.length+1)) (zHr X i c):=by
 unfold zHr
 rw[zKr J]
 cases zDJ X i<;>rfl
theorem zKv (J:Jn T X U) {c c':Cm} {j:Nat} (h:zB5 T i c= .ok (c',j)): ∃k,zB5 U i c= .ok (c',k)∧Rel T.length j k:=by
 have hl:=J.len
 unfold zB5 at h ⊢
 split at h
 ·cases h
 ·rename_i h0
  rw[if_neg (by omega),J.lo i (by omega)]
  cases h1:zAu T (T.getD i 0) false (i+1)with
  |none=>rw[h1]at h;cases h
  |some r=>
   obtain⟨l,q⟩:=r
   rw[h1]at h
   rw[zEl J h1]
   simp only at h ⊢
   cases h2:zAu T (T.getD i 0) false q with
   |none=>rw[h2]at h;cases h
   |some r=>
    obtain⟨m,p⟩:=r
    have hp:=zBG h2
    rw[h2]at h
    rw[zEl J h2]
    simp only at h hp ⊢
    cases h3:zD9 l m with
    |none=>rw[h3]at h;cases h
    |some t=>
     rw[h3]at h
     exact zFm J hp.2.1 h
theorem zH2 (J:Jn T X U) (i:Nat) (c:Cm):zB5 U (T.length+1+i) (shC (T.length+1) c)=shR (T.length+1) (shC (T.length+1)) (zB5 X i c):=by
 have hl:=J.len
 unfold zB5
 by_cases h0:X.length≤i
 ·rw[if_pos h0,if_pos (by omega)];rfl
 ·rw[if_neg h0,if_neg (by omega),J.hi i,show T.length+1+i+1=T.length+1+(i+1)by omega,zC9 J]
  cases zAu X (X.getD i 0) false (i+1)with
  |none=>rfl
  |some r=>
   obtain⟨l,q⟩:=r
   simp only[Option.map_some]
   rw[zC9 J]
   cases zAu X (X.getD i 0) false q with
   |none=>rfl
   |some r=>
    obtain⟨m,p⟩:=r
    simp only[Option.map_some]
    cases zD9 l m with
    |none=>rfl
    |some t=>exact zFK J p { c with tb:=t }
def zHl (T:List Nat) (n i:Nat) (c:Cm):Rd (Cm × Nat):=if c.al=true then .error (74,c.at_)else zBb T n (i+1) { c with al:=true }
def zHk (T:List Nat) (n i:Nat) (c:Cm):Rd (Cm × Nat):=if c.pr=true then .error (74,c.at_)else zBb T n (i+1) { c with pr:=true }
def zHm (T:List Nat) (n:Nat) (c:Cm):Option (Nat × Nat)→Rd (Cm × Nat)
 |none=> .error (74,c.at_)
 |some (v,j)=>if c.ct≠0∨v=0 then .error (74,c.at_)else zBb T n j { c with ct:=v }
def zHj (T:List Nat) (i:Nat) (c:Cm):Rd (Cm × Nat):=if c.wr=true then .error (74,c.at_)else zCl T (i+1) { c with wr:=true }
theorem zB9 (T:List Nat) (n i:Nat) (c:Cm):zBb T (n+1) i c=if T.getD i 0=103 then zHl T n i c else if T.getD i 0=112 then zHk T n i c else if 48≤T.getD i 0∧T.getD i 0≤57 then zHm T n c (zFD T 1048576 i)else if T.getD i 0=119 then zHj T i c else zCf T i c:=by
 rw[zBb]
 simp only[zHl,zHk,zHj]
 cases zFD T 1048576 i<;>rfl
theorem zMy (J:Jn T X U) (hU:U=T++10::X) {c':Cm} {j:Nat} (n:Nat): ∀(m i:Nat) (c:Cm),T.length - i<n→n≤m→i≤T.length→zBb T n i c= .ok (c',j)→ ∃k,zBb U m i c= .ok (c',k)∧Rel T.length j k:=by
 induction n with
 |zero=>intro m i c hn;omega
 |succ n ih=>
  intro m i c hn hm hi h
  obtain⟨m,rfl⟩: ∃m',m=m'+1:=⟨m - 1,by omega⟩
  have hl:=J.len
  rw[zB9]at h ⊢
  by_cases hlt:i<T.length
  ·rw[J.lo i hlt]
   by_cases h1:T.getD i 0=103
   ·rw[if_pos h1]at h ⊢
    unfold zHl at h ⊢
    split at h
    ·cases h
    ·rename_i h2
     rw[if_neg h2]
     exact ih m (i+1) _ (by omega) (by omega) (by omega) h
   ·rw[if_neg h1]at h ⊢
    by_cases h2:T.getD i 0=112
    ·rw[if_pos h2]at h ⊢
     unfold zHk at h ⊢
     split at h
     ·cases h
     ·rename_i h3
      rw[if_neg h3]
      exact ih m (i+1) _ (by omega) (by omega) (by omega) h
    ·rw[if_neg h2]at h ⊢
     by_cases h3:48≤T.getD i 0∧T.getD i 0≤57
     ·rw[if_pos h3]at h ⊢
      rw[zMX J hi]
      cases hq:zFD T 1048576 i with
      |none=>rw[hq]at h;cases h
      |some r=>
       obtain⟨v,q⟩:=r
       have hat:=zEV hq hi
       rw[hq]at h
       unfold zHm at h ⊢
       simp only at h hat ⊢
       split at h
       ·cases h
       ·rename_i h4
        rw[if_neg h4]
        exact ih m q _ (by omega) (by omega) (by omega) h
     ·rw[if_neg h3]at h ⊢
      by_cases h4:T.getD i 0=119
      ·rw[if_pos h4]at h ⊢
       unfold zHj at h ⊢
       split at h
       ·cases h
       ·rename_i h5
        rw[if_neg h5,zKS J hU (by omega)]
        exact⟨j,h,.inl rfl⟩
      ·rw[if_neg h4]at h ⊢
       exact zFm J hi h
  ·obtain rfl:i=T.length:=by omega
   rw[show T.getD T.length 0=0 by rw[List.getD_eq_getElem?_getD,List.getElem?_eq_none (Nat.le_refl _)];rfl]at h
   rw[J.nl]
   exact zFm J hi h
theorem zJw (J:Jn T X U) (hU:U=T++10::X) (n:Nat): ∀(i:Nat) (c:Cm),zBb U n (T.length+1+i) (shC (T.length+1) c)=shR (T.length+1) (shC (T.length+1)) (zBb X n i c):=by
 induction n with
 |zero=>intro i c;rfl
 |succ n ih=>
  intro i c
  rw[zB9,zB9,J.hi i]
  by_cases h1:X.getD i 0=103
  ·rw[if_pos h1,if_pos h1]
   unfold zHl
   rw[show(shC (T.length+1) c).al=c.al from rfl]
   split
   ·rfl
   ·exact ih (i+1) { c with al:=true }
  ·rw[if_neg h1,if_neg h1]
   by_cases h2:X.getD i 0=112
   ·rw[if_pos h2,if_pos h2]
    unfold zHk
    rw[show(shC (T.length+1) c).pr=c.pr from rfl]
    split
    ·rfl
    ·exact ih (i+1) { c with pr:=true }
   ·rw[if_neg h2,if_neg h2]
    by_cases h3:48≤X.getD i 0∧X.getD i 0≤57
    ·rw[if_pos h3,if_pos h3,zIK J]
     cases zFD X 1048576 i with
     |none=>rfl
     |some r=>
      obtain⟨v,q⟩:=r
      simp only[Option.map_some]
      unfold zHm
      rw[show(shC (T.length+1) c).ct=c.ct from rfl]
      simp only
      split
      ·rfl
      ·exact ih q { c with ct:=v }
    ·rw[if_neg h3,if_neg h3]
     by_cases h4:X.getD i 0=119
     ·rw[if_pos h4,if_pos h4]
      unfold zHj
      rw[show(shC (T.length+1) c).wr=c.wr from rfl]
      split
      ·rfl
      ·exact zG9 J hU (i+1) { c with wr:=true }
     ·rw[if_neg h4,if_neg h4]
      exact zFK J i c
theorem zLi (J:Jn T X U) (hU:U=T++10::X) {c c':Cm} {j:Nat} (h:zBT ere T i c= .ok (c',j)): ∃k,zBT ere U i c= .ok (c',k)∧Rel T.length j k:=by
 have hl:=J.len
 unfold zBT at h ⊢
 split at h
 ·cases h
 ·rename_i h0
  rw[if_neg (by omega),J.lo i (by omega)]
  cases h1:zAu T (T.getD i 0) false (i+1)with
  |none=>rw[h1]at h;cases h
  |some r=>
   obtain⟨l,q⟩:=r
   rw[h1]at h
   rw[zEl J h1]
   simp only at h ⊢
   cases hr:reS ere l c with
   |error e=>rw[hr]at h;cases h
   |ok re=>
    rw[hr]at h
    simp only at h ⊢
    cases h2:zAu T (T.getD i 0) true q with
    |none=>rw[h2]at h;cases h
    |some r=>
     obtain⟨m,p⟩:=r
     have hp:=zBG h2
     rw[h2]at h
     rw[zEl J h2]
     simp only at h hp ⊢
     cases h3:zGR m with
     |none=>rw[h3]at h;cases h
     |some t=>
      rw[h3]at h
      simp only at h ⊢
      cases h4:zDG T p { c with re:=re,fi:=t } with
      |error e=>rw[h4]at h;cases h
      |ok r=>
       obtain⟨c2,z⟩:=r
       rw[h4]at h
       obtain⟨k,h5,h6⟩:=zMy J hU (T.length+1 - p) (U.length+1 - p) p _ (by omega) (by omega) hp.2.1 h4
       rw[show zDG U p { c with re:=re,fi:=t } = .ok (c2,k)from h5]
       simp only at h ⊢
       split at h
       ·cases h
       ·rename_i h7
        rw[if_neg h7]
        cases h
        exact⟨k,rfl,h6⟩
theorem zIu (J:Jn T X U) (hU:U=T++10::X) (i:Nat) (c:Cm):zBT ere U (T.length+1+i) (shC (T.length+1) c)=shR (T.length+1) (shC (T.length+1)) (zBT ere X i c):=by
 have hl:=J.len
 unfold zBT
 by_cases h0:X.length≤i
 ·rw[if_pos h0,if_pos (by omega)];rfl
 ·rw[if_neg h0,if_neg (by omega),J.hi i,show T.length+1+i+1=T.length+1+(i+1)by omega,zC9 J]
  cases zAu X (X.getD i 0) false (i+1)with
  |none=>rfl
  |some r=>
   obtain⟨l,q⟩:=r
   simp only[Option.map_some]
   have hre:reS ere l (shC (T.length+1) c)=(match reS ere l c with| .error e=> .error (e.1,T.length+1+e.2)| .ok r=> .ok r):=by
    unfold reS
    split
    ·rfl
    ·cases zAz ere l<;>rfl
   rw[hre]
   cases reS ere l c with
   |error e=>rfl
   |ok re=>
    simp only
    rw[zC9 J]
    cases zAu X (X.getD i 0) true q with
    |none=>rfl
    |some r=>
     obtain⟨m,p⟩:=r
     simp only[Option.map_some]
     cases zGR m with
     |none=>rfl
     |some t=>
      simp only
      have hf:zDG U (T.length+1+p) { shC (T.length+1) c with re:=re,fi:=t } =shR (T.length+1) (shC (T.length+1)) (zDG X p { c with re:=re,fi:=t }):=by
       unfold zDG
       rw[show U.length+1 - (T.length+1+p)=X.length+1 - p by omega]
       exact zJw J hU _ p { c with re:=re,fi:=t }
      rw[hf]
      cases zDG X p { c with re:=re,fi:=t } with
      |error e=>rfl
      |ok r=>
       simp only[shR]
       split<;>rfl
theorem zOc (J:Jn T X U) (hU:U=T++10::X) (hi:i≤T.length) {c c':Cm} {j:Nat} (h:zCJ ere T i c= .ok (c',j)): ∃k,zCJ ere U i c= .ok (c',k)∧Rel T.length j k:=by
 unfold zCJ at h ⊢
 split at h
 ·rename_i h1;rw[if_pos h1];cases h;exact⟨_,rfl,.inl rfl⟩
 ·rename_i h1
  rw[if_neg h1]
  split at h
  ·rename_i h1;rw[if_pos h1];exact zLi J hU h
  ·rename_i h1
   rw[if_neg h1]
   split at h
   ·rename_i h1;rw[if_pos h1];exact zKv J h
   ·rename_i h1
    rw[if_neg h1]
    split at h
    ·rename_i h1;rw[if_pos h1,zMn J hU hi];exact⟨_,h,.inl rfl⟩
    ·rename_i h1
     rw[if_neg h1]
     split at h
     ·rename_i h1;rw[if_pos h1,zKS J hU hi];exact⟨_,h,.inl rfl⟩
     ·rename_i h1
      rw[if_neg h1]
      split at h
      ·rename_i h1;rw[if_pos h1];exact zPD J hi h
      ·rename_i h1;rw[if_neg h1];exact zFm J hi h
theorem zLm (J:Jn T X U) (hU:U=T++10::X) (i:Nat) (c:Cm):zCJ ere U (T.length+1+i) (shC (T.length+1) c)=shR (T.length+1) (shC (T.length+1)) (zCJ ere X i c):=by
 unfold zCJ
 rw[show(shC (T.length+1) c).nm=c.nm from rfl]
 split
 ·rfl
 ·split
  ·exact zIu J hU i c
  ·split
   ·exact zH2 J i c
   ·split
    ·exact zJq J hU i c
    ·split
     ·exact zG9 J hU i c
     ·split
      ·exact zMR J i c
      ·exact zFK J i c
end
end
section
open Go.RowKit
def zPo (w:World) (r:Except (Nat × Nat) (List Nd)) (e:Ending) (w':World):Prop:=
 match r with
 | .error (er,i)=>e= .returned (.tuple #[.slice none 0 0,.int .i64 (er:Nat),.int .i64 (i:Nat)])
 | .ok re=> ∃v,e= .returned (.tuple #[v,.int .i64 0,.int .i64 0])∧Nds w' w.heap.size v re
theorem zJh: ∀(re:List Nd) (i j:Nat),i<re.length→j<9→(zJj re)[i*9+j]?=(zAV (re.getD i Nd.zero))[j]?
 |[],i,j,h,_=>by simp at h
 |x::l,0,j,_,hj=>by
  rw[zIO,List.getElem?_append_left (by simp[zAV];omega)]
  simp
 |x::l,i+1,j,h,hj=>by
  rw[zIO,List.getElem?_append_right (by simp[zAV];omega)]
  have:=zJh l i j (by simpa using h) hj
  simpa [zAV,show(i+1)*9+j - 9=i*9+j by omega]using this
theorem Nds.at {w:World} {base:Nat} {v:Value} {re:List Nd} (h:Nds w base v re) (hn:0<re.length) (hl:re.length≤4294967296) (hk: ∀x∈re,x.kids≤re.length): ∃g cp,v= .slice (some ⟨g,0,none⟩) re.length cp∧base≤g∧zHs w g 0 re:=by
 rcases h.2 with ⟨_,h0⟩|⟨g,cp,cur,rfl,hg1,hg2,_⟩
 ·omega
 ·refine⟨g,cp,rfl,hg1,⟨(Array.getElem?_eq_some_iff.1 hg2).1,hl,fun i hi j=>?_,fun x hx=>by have:=hk x hx;omega⟩⟩
  by_cases hj:j<9
  ·left
   rw[World.ownsRow.cellAt h _ (by omega),show 0+i*9+j=i*9+j by omega,zJh re i j hi hj]
  ·right;omega
theorem zCF {tmps:Array Value} {W:World} {b4 b5 b6:Nat} {oa:Option Addr} {n cp:Nat} {e i:Int} (t4:tmps.getD 4 undef= .pointer (some ⟨b4,0,none⟩)) (t5:tmps.getD 5 undef= .pointer (some ⟨b5,0,none⟩)) (t6:tmps.getD 6 undef= .pointer (some ⟨b6,0,none⟩))
  (c4:W.cell? ⟨b4,0,none⟩=some (.slice oa n cp)) (c5:W.cell? ⟨b5,0,none⟩=some (.int .i64 e)) (c6:W.cell? ⟨b6,0,none⟩=some (.int .i64 i)):
  (results Tryz.f144 tmps).run Tryz.prog W= .ok (.tuple #[.slice oa n cp,.int .i64 e,.int .i64 i]) W:=by
 simp only[Array.getD_eq_getD_getElem?]at t4 t5 t6
 simp[results,Tryz.results144,go_sem,t4,t5,t6,c4,c5,c6]
structure zHF (w W:World) (b4 b5 b6:Nat) (x y z:Value):Prop where
 c4:W.cell? ⟨b4,0,none⟩=some x
 c5:W.cell? ⟨b5,0,none⟩=some y
 c6:W.cell? ⟨b6,0,none⟩=some z
 z4:W.frozen? ⟨b4,0,none⟩=false
 z5:W.frozen? ⟨b5,0,none⟩=false
 z6:W.frozen? ⟨b6,0,none⟩=false
 b:Below w.heap.size w W
 l4:w.heap.size≤b4
 l5:b5=b4+1
 l6:b6=b4+1+1
 lt:b4+1+1<W.heap.size
theorem zHF.new (w:World) (x y z:Value):zHF w (((w.alloc (.cells #[x] 29)).alloc (.cells #[y] 25)).alloc (.cells #[z] 3)) w.heap.size (w.heap.size+1) (w.heap.size+1+1) x y z:=by
 have s1:(w.alloc (.cells #[x] 29)).heap.size=w.heap.size+1:=by simp
 have s2:((w.alloc (.cells #[x] 29)).alloc (.cells #[y] 25)).heap.size=w.heap.size+1+1:=by simp
 have h4:(((w.alloc (.cells #[x] 29)).alloc (.cells #[y] 25)).alloc (.cells #[z] 3)).heap[w.heap.size]?=some (.cells #[x] 29 (0,0)):=
  (heap_alloc_old _ _ (by omega)).trans ((heap_alloc_old _ _ (by omega)).trans (heap_alloc_new _ _))
 have h5:(((w.alloc (.cells #[x] 29)).alloc (.cells #[y] 25)).alloc (.cells #[z] 3)).heap[w.heap.size+1]?=some (.cells #[y] 25 (0,0)):=
  (heap_alloc_old _ _ (by omega)).trans (by rw[←s1];exact heap_alloc_new _ _)
 have h6:(((w.alloc (.cells #[x] 29)).alloc (.cells #[y] 25)).alloc (.cells #[z] 3)).heap[w.heap.size+1+1]?=some (.cells #[z] 3 (0,0)):=by
  rw[←s2];exact heap_alloc_new _ _
 exact⟨(cell_of_row _ _ 0 _ _ (0,0) h4).trans rfl,(cell_of_row _ _ 0 _ _ (0,0) h5).trans rfl,(cell_of_row _ _ 0 _ _ (0,0) h6).trans rfl,frozen_of_row _ _ _ _ _ h4,frozen_of_row _ _ _ _ _ h5,frozen_of_row _ _ _ _ _ h6,
  (((Below.refl _ _).alloc (Nat.le_refl _) _).alloc (by omega) _).alloc (by omega) _,Nat.le_refl _,rfl,rfl,by simp⟩
theorem zHF.keep {w W W':World} {b4 b5 b6:Nat} {x y z:Value} (h:zHF w W b4 b5 b6 x y z) (hb: ∀k,k≤b4+1+1→W'.heap[k]?=W.heap[k]?) (hB:Below w.heap.size W W'):zHF w W' b4 b5 b6 x y z:=by
 have e4:=hb b4 (by omega)
 have e5:=hb b5 (by rw[h.l5];omega)
 have e6:=hb b6 (by rw[h.l6];omega)
 exact⟨(World.cell?_of_block (w:=W) (a:=⟨b4,0,none⟩) e4).trans h.c4,(World.cell?_of_block (w:=W) (a:=⟨b5,0,none⟩) e5).trans h.c5,(World.cell?_of_block (w:=W) (a:=⟨b6,0,none⟩) e6).trans h.c6,
  (World.frozen?_of_block (w:=W) (a:=⟨b4,0,none⟩) e4).trans h.z4,(World.frozen?_of_block (w:=W) (a:=⟨b5,0,none⟩) e5).trans h.z5,(World.frozen?_of_block (w:=W) (a:=⟨b6,0,none⟩) e6).trans h.z6,
  h.b.trans hB,h.l4,h.l5,h.l6,Nat.lt_of_lt_of_le h.lt hB.size⟩
theorem zHF.set {w W:World} {b4 b5 b6:Nat} {x y z:Value} (h:zHF w W b4 b5 b6 x y z) (a b c:Value):zHF w (((W.setCell ⟨b4,0,none⟩ a).setCell ⟨b5,0,none⟩ b).setCell ⟨b6,0,none⟩ c) b4 b5 b6 a b c:=by
 obtain⟨c4,c5,c6,z4,z5,z6,hb,l4,rfl,rfl,lt⟩:=h
 refine⟨?_,?_,?_,zAK _ _ _ _ (zAK _ _ _ _ (zAK _ _ _ _ z4)),zAK _ _ _ _ (zAK _ _ _ _ (zAK _ _ _ _ z5)),zAK _ _ _ _ (zAK _ _ _ _ (zAK _ _ _ _ z6)),
  ((hb.setCell l4 _).setCell (by show _≤b4+1;omega) _).setCell (by show _≤b4+1+1;omega) _,l4,rfl,rfl,by simpa using lt⟩
 ·rw[World.cell?_setCell_other _ _ _ _ (by simp only[ne_eq,Addr.mk.injEq,not_and];omega),World.cell?_setCell_other _ _ _ _ (by simp only[ne_eq,Addr.mk.injEq,not_and];omega)]
  exact World.cell?_setCell_same _ _ _ c4
 ·rw[World.cell?_setCell_other _ _ _ _ (by simp only[ne_eq,Addr.mk.injEq,not_and];omega)]
  exact World.cell?_setCell_same _ _ _ ((World.cell?_setCell_other _ _ _ _ (by simp only[ne_eq,Addr.mk.injEq,not_and];omega)).trans c5)
 ·exact World.cell?_setCell_same _ _ _ ((World.cell?_setCell_other _ _ _ _ (by simp only[ne_eq,Addr.mk.injEq,not_and];omega)).trans ((World.cell?_setCell_other _ _ _ _ (by simp only[ne_eq,Addr.mk.injEq,not_and];omega)).trans c6))
theorem zHF.set1 {w W:World} {b4 b5 b6:Nat} {x y z:Value} (h:zHF w W b4 b5 b6 x y z) (a:Value):zHF w (W.setCell ⟨b4,0,none⟩ a) b4 b5 b6 a y z:=by
 obtain⟨c4,c5,c6,z4,z5,z6,hb,l4,rfl,rfl,lt⟩:=h
 exact⟨World.cell?_setCell_same _ _ _ c4,(World.cell?_setCell_other _ _ _ _ (by simp only[ne_eq,Addr.mk.injEq,not_and];omega)).trans c5,(World.cell?_setCell_other _ _ _ _ (by simp only[ne_eq,Addr.mk.injEq,not_and];omega)).trans c6,
  zAK _ _ _ _ z4,zAK _ _ _ _ z5,zAK _ _ _ _ z6,hb.setCell l4 _,l4,rfl,rfl,by simpa using lt⟩
theorem Nds.store {w:World} {base:Nat} {v:Value} {re:List Nd} (h:Nds w base v re) {b:Nat} (hb: ∀g,v.ownBlock=some g→g≠b) (u:Value):Nds (w.setCell ⟨b,0,none⟩ u) base v re:=h.block fun g hg=>Below.heap_setCell _ _ _ _ (hb g hg)
theorem Nds.alloc {w:World} {base:Nat} {v:Value} {re:List Nd} (h:Nds w base v re) (o:Obj):Nds (w.alloc o) base v re:=h.below ((Below.refl _ _).alloc (Nat.le_refl _) _)
theorem zHs.store {w:World} {nb no:Nat} {re:List Nd} (h:zHs w nb no re) {b:Nat} (hb:nb≠b) (u:Value):zHs (w.setCell ⟨b,0,none⟩ u) nb no re:=
 ⟨by simpa [World.setCell]using h.lt,h.len,fun i hi j=>(h.c i hi j).imp (fun e=>(World.cell?_setCell_other _ _ _ _ (by simp only[ne_eq,Addr.mk.injEq,not_and];intro e;exact absurd e.symm hb)).trans e) id,h.k⟩
theorem zHF.alloc {w W:World} {b4 b5 b6:Nat} {x y z:Value} (h:zHF w W b4 b5 b6 x y z) (o:Obj):zHF w (W.alloc o) b4 b5 b6 x y z:=
 h.keep (fun k hk=>Below.heap_alloc _ _ _ (by have:=h.lt;omega)) ((Below.refl _ _).alloc h.b.size _)
theorem zHF.drew {w W:World} {b4 b5 b6:Nat} {x y z:Value} (h:zHF w W b4 b5 b6 x y z):zHF w W.drew b4 b5 b6 x y z:=
 h.keep (fun _ _=>rfl) (Below.refl _ _).drew
theorem zLF {ere:Bool} {L:List Mk} {oa:Option Addr} {cap:Nat} {w:World} (hL:4096<L.length):
  Calls Tryz.prog 144 #[.bool ere,.slice oa L.length cap] w fun e w'=>zPo w (zAz ere L) e w'∧Below w.heap.size w w':=by
 have hL':(4096:Int)<(L.length:Int):=by omega
 have HP:Hid (zAz ere L= .error (2,4096)):=by rw[Hid,zAz,if_pos hL]
 go_enter_defers Tryz.func144,Tryz.ntmps144
 go_wp2_with fail
 have hv:=zHF.new w (.slice none 0 0) (.int .i64 2) (.int .i64 4096)
 exact⟨_,zCF rfl rfl rfl hv.c4 hv.c5 hv.c6,by rw[HP.out];rfl,hv.b⟩
theorem zLE {ere:Bool} {L:List Mk} {oa:Option Addr} {cap:Nat} {w:World} (hL:L.length=0):
  Calls Tryz.prog 144 #[.bool ere,.slice oa L.length cap] w fun e w'=>zPo w (zAz ere L) e w'∧Below w.heap.size w w':=by
 have HP:Hid (zAz ere L= .error (45,0)):=by rw[Hid,zAz,if_neg (by omega),if_pos hL]
 rw[hL]
 clear hL
 go_enter_defers Tryz.func144,Tryz.ntmps144
 go_wp2_with fail
 have hv:=zHF.new w (.slice none 0 0) (.int .i64 45) (.int .i64 0)
 exact⟨_,zCF rfl rfl rfl hv.c4 hv.c5 hv.c6,by rw[HP.out];rfl,hv.b⟩
theorem zLD {ere:Bool} {L:List Mk} {mb mo cap:Nat} {w:World} (hL:0<L.length) (hm:zI7 w mb mo L):
  Calls Tryz.prog 144 #[.bool ere,.slice (some ⟨mb,mo,none⟩) L.length cap] w fun e w'=>zPo w (zAz ere L) e w'∧Below w.heap.size w w':=by
 have hmf: ∀(fn:Fn) (first cap:Array Value) (w:World),(Instr.makeFunc fn first cap).run Tryz.prog w= .ok (.func fn first cap) w:=fun _ _ _ _=>rfl
 have h1: ¬(4096:Int)<(L.length:Int):=by have:=hm.len;omega
 have h2: ¬(L.length:Int)=0:=by omega
 have HP:Hid (zAz ere L=match zBp ere L 64 ⟨0,[]⟩with
  | .no e i=> .error (e,i)
  | .ok re _=>match zCK re 260 0 with
   |some (w,_)=>if 16384<w then .error (48,L.length)else .ok re
   |none=> .error (0,0)):=by rw[Hid,zAz,if_neg (by omega),if_neg (by omega)]<;>rfl
 have HM:=Lib.hid hm
 clear hm
 go_enter_defers Tryz.func144,Tryz.ntmps144
 go_wp2_with fail
 have hv:=zHF.new w (.slice none 0 0) (.int .i64 0) (.int .i64 0)
 revert hv
 generalize ((w.alloc (.cells #[.slice none 0 0] 29)).alloc (.cells #[.int .i64 0] 25)).alloc (.cells #[.int .i64 0] 3)=W3
 intro hv
 have HB3:=Lib.hid hv.b
 refine(zIN ere (HM.out.below hv.b)).mono ?_
 rintro e W4 ⟨rfl,hr4,hb4⟩
 have HV4:=Lib.hid (hv.keep (fun k hk=>hb4.block k (by have:=hv.lt;omega)) (hb4.mono hv.b.size))
 have hlt3:=hv.lt
 clear hv
 obtain⟨rb,hrb⟩: ∃rb,W3.heap.size=rb:=⟨_,rfl⟩
 rw[hrb]at hr4 hb4 hlt3
 have HR4:=Lib.hid hr4
 clear hr4
 go_wp2_with fail
 refine(zMD (Nat.le_refl 64) W4 ⟨0,[]⟩ _ HR4.out).mono ?_
 rintro e W5 ⟨hb5,hp5⟩
 have hV5:=HV4.out.keep (fun k hk=>hb5.block k (by have:=HV4.out.lt;omega) (by omega) (by simp[Value.ownBlock]))
  ⟨hb5.os,hb5.tape,hb5.output,hb5.size,fun k hk=>hb5.block k (by have:=HV4.out.lt;omega) (by omega) (by simp[Value.ownBlock])⟩
 have HV5:=Lib.hid hV5
 cases hs:zBp ere L 64 ⟨0,[]⟩with
 |no er p=>
  have HF:Hid (zAz ere L= .error (er,p)):=by rw[Hid,HP.out,hs]
  rw[hs]at hp5
  simp only[zFY]at hp5
  subst hp5
  clear hV5 hb5 hb4
  go_wp2_with fail
  refine leaves_cons (f:=179) (args:= #[.pointer (some ⟨w.heap.size,0,none⟩),.pointer (some ⟨w.heap.size+1,0,none⟩),.pointer (some ⟨w.heap.size+1+1,0,none⟩)]) (by simp) (by simp[go_sem]) ?_
  refine(zJ4 _ _ _ er p [] W5 HV5.out.c4 HV5.out.c5 HV5.out.c6 HV5.out.z4 HV5.out.z5 HV5.out.z6 (by omega) (by omega) (by omega)).mono ?_
  rintro e u' w'' ⟨rfl,rfl,rfl⟩
  have hve:=((HV5.out.set (.slice none 0 0) (.int .i64 (er:Nat)) (.int .i64 (p:Nat))).alloc (.cells #[.int .i64 (er:Nat),.int .i64 (p:Nat)] 234)).drew
  exact⟨_,zCF rfl rfl rfl hve.c4 hve.c5 hve.c6,by rw[HF.out];rfl,hve.b⟩
 |ok re t=>
  rw[hs]at hp5
  simp only at hp5
  obtain⟨v,ev5,rfl,hr5,hn5,hrow5⟩:=hp5
  have htop:=zC5 hs
  have hgood:=zD2 re _ _ _ _ _ htop
  have hok:=zF2 (fun p hp=>hgood.2.2 p (Nat.zero_le _) hp)
  have hpos:0<re.length:=hgood.1
  have hsm:=zDg HM.out.u 64 (by simp) hs
  have hri:=(zEQ HM.out.u 64 (by simp) hs).le
  obtain⟨wt,hwt⟩:=zBl re _ _ _ _ _ _ htop
  obtain⟨g,cp,rfl,hg1,hnd⟩:=hrow5.nds.at hpos (by simp only at hsm;omega) hok.2
  have HF:Hid (zAz ere L=if 16384<wt then .error (48,L.length)else .ok re):=by rw[Hid,HP.out,hs];simp only[hwt]
  have d4:=hV5.c4
  have y4:=hV5.z4
  have l4:w.heap.size<W5.heap.size:=by have:=hV5.lt;omega
  have HROW:=Lib.hid hrow5
  have HND:=Lib.hid hnd
  clear hV5 hr5 hn5 htop hgood hnd hrow5
  go_wp2_with fail
  have hlw:=HV4.out.lt
  have hg4:g≠w.heap.size:=by omega
  refine(zFs hok.1 260 0 (wt,re.length) _ 0 rfl (HND.out.store hg4 _) hwt).mono ?_
  rintro e W7 ⟨rfl,hb7⟩
  have hV6:=HV5.out.set1 (.slice (some ⟨g,0,none⟩) re.length cp)
  have hV7:=hV6.keep (fun k hk=>hb7.block k (by have:=hV6.lt;omega)) (hb7.mono hV6.b.size)
  have hN7:=((HROW.out.nds.mono HV4.out.b.size).store (b:=w.heap.size) (fun x hx=>by simp only[Value.ownBlock,Option.some.injEq]at hx;omega) (.slice (some ⟨g,0,none⟩) re.length cp)).below hb7
  have HV7:=Lib.hid hV7
  have HN7:=Lib.hid hN7
  have e4:=hV7.c4
  have e5:=hV7.c5
  have e6:=hV7.c6
  have x4:=hV7.z4
  have x5:=hV7.z5
  have x6:=hV7.z6
  have l7:=hV7.lt
  have l71:w.heap.size<W7.heap.size:=by omega
  have l72:w.heap.size+1<W7.heap.size:=by omega
  clear hV6 hV7 hN7 hb7 d4 y4 l4
  by_cases hw:16384<wt
  ·have HE:Hid (zAz ere L= .error (48,L.length)):=by rw[Hid,HF.out,if_pos hw]
   go_wp2_with fail
   refine leaves_cons (f:=179) (args:= #[.pointer (some ⟨w.heap.size,0,none⟩),.pointer (some ⟨w.heap.size+1,0,none⟩),.pointer (some ⟨w.heap.size+1+1,0,none⟩)]) (by simp) (by simp[go_sem]) ?_
   refine(zHC _ _ _ _).mono ?_
   rintro e u' w'' ⟨rfl,rfl,rfl⟩
   have hve:=(HV7.out.set (.slice none 0 0) (.int .i64 48) (.int .i64 (L.length:Nat))).alloc (.cells #[.int .i64 0,.int .i64 0] 234)
   exact⟨_,zCF rfl rfl rfl hve.c4 hve.c5 hve.c6,by rw[HE.out];rfl,hve.b⟩
  ·have HE:Hid (zAz ere L= .ok re):=by rw[Hid,HF.out,if_neg hw]
   go_wp2_with fail
   refine leaves_cons (f:=179) (args:= #[.pointer (some ⟨w.heap.size,0,none⟩),.pointer (some ⟨w.heap.size+1,0,none⟩),.pointer (some ⟨w.heap.size+1+1,0,none⟩)]) (by simp) (by simp[go_sem]) ?_
   refine(zHC _ _ _ _).mono ?_
   rintro e u' w'' ⟨rfl,rfl,rfl⟩
   have hve:=(HV7.out.set (.slice (some ⟨g,0,none⟩) re.length cp) (.int .i64 0) (.int .i64 0)).alloc (.cells #[.int .i64 0,.int .i64 0] 234)
   have n1: ∀x,(Value.slice (some ⟨g,0,none⟩) re.length cp).ownBlock=some x→x≠w.heap.size:=fun x hx=>by simp only[Value.ownBlock,Option.some.injEq]at hx;omega
   have n2: ∀x,(Value.slice (some ⟨g,0,none⟩) re.length cp).ownBlock=some x→x≠w.heap.size+1:=fun x hx=>by simp only[Value.ownBlock,Option.some.injEq]at hx;omega
   have n3: ∀x,(Value.slice (some ⟨g,0,none⟩) re.length cp).ownBlock=some x→x≠w.heap.size+1+1:=fun x hx=>by simp only[Value.ownBlock,Option.some.injEq]at hx;omega
   have hne:=(((HN7.out.store n1 (.slice (some ⟨g,0,none⟩) re.length cp)).store n2 (.int .i64 0)).store n3 (.int .i64 0)).alloc (.cells #[.int .i64 0,.int .i64 0] 234)
   exact⟨_,zCF rfl rfl rfl hve.c4 hve.c5 hve.c6,by rw[HE.out];exact⟨_,rfl,hne⟩,hve.b⟩
theorem zE9 {ere:Bool} {L:List Mk} {oa:Option Addr} {cap:Nat} {w:World} (hm:0<L.length→L.length≤4096→ ∃mb mo,oa=some ⟨mb,mo,none⟩∧zI7 w mb mo L):
  Calls Tryz.prog 144 #[.bool ere,.slice oa L.length cap] w fun e w'=>zPo w (zAz ere L) e w'∧Below w.heap.size w w':=by
 by_cases h1:4096<L.length
 ·exact zLF h1
 ·by_cases h2:L.length=0
  ·exact zLE h2
  ·obtain⟨mb,mo,rfl,h⟩:=hm (by omega) (by omega)
   exact zLD (by omega) h
end
section
def Bad (L:List Mk) (e i:Nat):Prop:=e≠0∧i≤L.length∧(e=40∨e=42∨e=44∨e=46∨e=47→i<L.length)
theorem Bad.mk' {L:List Mk} {e i:Nat} (h0:e≠0) (h:i<L.length):Bad L e i:=⟨h0,Nat.le_of_lt h,fun _=>h⟩
theorem f3 {L:List Mk} {e i:Nat} {f:Nat × Nat} (h:(e,i)=f) (h1:30≤e) (h2:e≤32) (h3:i<L.length):30≤f.1∧f.1≤32∧f.2<L.length:=by
 subst h;exact⟨h1,h2,h3⟩
theorem zIb {L:List Mk} {at0 b:Nat} (ha:at0<L.length) (hb:b<L.length): ∀(n i:Nat) (s:List Nat) (x:Th) (f:Nat × Nat),zC2 L at0 b n i s=(x,some f)→30≤f.1∧f.1≤32∧f.2<L.length
 |0,_,_,_,_,h=>by simp only[zC2,Prod.mk.injEq,Option.some.injEq]at h;exact f3 h.2 (by decide) (by decide) ha
 |n+1,i,s,x,f,h=>by
  unfold zC2 at h
  split at h
  ·split at h
   ·simp only[Prod.mk.injEq,Option.some.injEq]at h;exact f3 h.2 (by decide) (by decide) hb
   ·simp at h
  ·exact zIb ha hb n _ _ _ _ h
theorem zFw {L:List Mk} {at0 b:Nat} {x:Th} {f:Nat × Nat} (ha:at0<L.length) (h:zAl L at0 b=(x,some f)):30≤f.1∧f.1≤32∧f.2<L.length:=by
 unfold zAl at h
 split at h
 ·simp only[Prod.mk.injEq,Option.some.injEq]at h;exact f3 h.2 (by decide) (by decide) ha
 ·rename_i hb
  split at h
  ·unfold zEB at h;exact zIb ha (by omega) _ _ _ _ _ h
  ·split at h
   ·unfold zAk at h
    repeat' (split at h)
    all_goals first
     |(simp only[Prod.mk.injEq,Option.some.injEq]at h;exact f3 h.2 (by decide) (by decide) (by omega))
     |(simp at h;done)
   ·simp at h
theorem zKq {L:List Mk} {at0 b:Nat} {x:Th} (h:zAl L at0 b=(x,none)):b<L.length:=by
 unfold zAl at h
 split at h
 ·simp at h
 ·omega
theorem zLS {L:List Mk} {at0 b:Nat} {fst:Bool} {x:Th} {f:Nat × Nat} (ha:at0<L.length) (h:zAp L at0 b fst=(x,some f)):30≤f.1∧f.1≤32∧f.2<L.length:=by
 unfold zAp at h
 split at h
 ·rename_i hx
  simp only[Prod.mk.injEq,Option.some.injEq]at h
  rw[←h.2]
  exact zFw ha hx
 ·rename_i a hx
  have hb:=zKq hx
  repeat' (split at h)
  all_goals first
   |(simp only[Prod.mk.injEq,Option.some.injEq]at h;first|exact f3 h.2 (by decide) (by decide) ha|exact f3 h.2 (by decide) (by decide) hb)
   |(rename_i hy;simp only[Prod.mk.injEq,Option.some.injEq]at h;rw[←h.2];exact zFw ha hy)
   |(simp at h;done)
theorem zG2 {L:List Mk} {at0:Nat} (ha:at0<L.length): ∀(n:Nat) (c:Cls) (i:Nat) (fst:Bool) (f:Nat × Nat),zA1 L at0 n c i fst= .error f→30≤f.1∧f.1≤32∧f.2<L.length
 |0,_,_,_,_,h=>by simp only[zA1,Except.error.injEq]at h;exact f3 h (by decide) (by decide) ha
 |n+1,c,i,fst,f,h=>by
  unfold zA1 at h
  split at h
  ·cases h
  ·split at h
   ·rename_i hx
    cases h
    exact zLS ha hx
   ·exact zG2 ha n _ _ _ _ h
theorem zLk {L:List Mk} {s:Rst} {e i:Nat} (ha:s.i<L.length) (h:zDW L s= .no e i):Bad L e i:=by
 unfold zDW at h
 split at h
 ·rename_i hx
  cases h
  unfold zA7 at hx
  simp only at hx
  split at hx
  ·rename_i hy
   cases hx
   have:=zG2 ha _ _ _ _ _ hy
   simp only at this
   exact⟨by omega,by omega,fun _=>by omega⟩
  ·cases hx
 ·cases h
theorem zJy {ere:Bool} {L:List Mk} {grp:Rst→Out (List Nd)} {s:Rst} {e i:Nat} (hs:s.i<L.length) (hg:s.i+zAU ere≤L.length→grp s= .no e i→Bad L e i) (h:zAv ere L grp s= .no e i):Bad L e i:=by
 unfold zAv at h
 split at h
 ·cases h;exact Bad.mk' (by decide) hs
 ·rename_i hne
  split at h
  ·cases h;exact Bad.mk' (by decide) hs
  ·simp only at h
   split at h
   ·rename_i he
    have hw:zAU ere=2:=by cases ere<;>simp_all[zAU]
    unfold zBF at h
    split at h
    ·cases h
    ·rename_i hx;cases h;exact hg (by omega) hx
   ·split at h
    ·cases h
    ·split at h
     ·cases h
     ·split at h
      ·split at h
       ·cases h;exact Bad.mk' (by decide) hs
       ·split at h
        ·cases h;exact Bad.mk' (by decide) hs
        ·cases h
      ·cases h;exact Bad.mk' (by decide) hs
theorem zNI {ere first:Bool} {L:List Mk} {grp:Rst→Out (List Nd)} {s:Rst} {e i:Nat} (hs:s.i<L.length) (hg:s.i+zAU ere≤L.length→grp s= .no e i→Bad L e i) (h:zDZ ere first L grp s= .no e i):Bad L e i:=by
 unfold zDZ at h
 simp only at h
 split at h
 ·cases h
 ·split at h
  ·unfold zPf at h;cases h
  ·split at h
   ·exact zLk hs h
   ·split at h
    ·exact zJy hs hg h
    ·split at h
     ·unfold zDs at h;split at h<;>cases h
     ·split at h
      ·unfold zLe at h;split at h<;>cases h
      ·split at h
       ·rename_i he
        have hw:zAU ere=1:=by cases ere<;>simp_all[zAU]
        unfold zBF at h
        split at h
        ·cases h
        ·rename_i hx;cases h;exact hg (by omega) hx
       ·cases h
theorem zIj {ere:Bool} {L:List Mk} {s:Rst} {e i:Nat} (h:zAi ere L s= .no e i):e=43∧i=s.i:=by
 unfold zAi at h
 obtain⟨b,hb⟩: ∃b,b=(if seesAt L (zEW L (s.i+zAU ere)).2 [44]then zEW L ((zEW L (s.i+zAU ere)).2+1)else zEW L (s.i+zAU ere)):=⟨_,rfl⟩
 simp only[←hb]at h
 split at h
 ·cases h;exact⟨rfl,rfl⟩
 ·cases h
theorem zOQ {ere:Bool} {L:List Mk} {s:Rst} {e i:Nat} (hs:s.i≤L.length) (h:zGl ere L s= .no e i):Bad L e i:=by
 unfold zGl at h
 repeat' (split at h)
 all_goals first
  |(cases h;done)
  |(rename_i hx
    cases h
    obtain⟨rfl,rfl⟩:=zIj hx
    exact⟨by decide,hs,fun h=>by omega⟩)
theorem zFj {ere top:Bool} {L:List Mk} {grp:Rst→Out (List Nd)} (hu: ∀i,i<L.length→(zAH L i).b<256) (hg: ∀s re t,s.i+zAU ere≤L.length→grp s= .ok re t→Adv L s t) (hn: ∀s e i,s.i+zAU ere≤L.length→grp s= .no e i→Bad L e i):
  ∀(f:Nat) (all:List Nd) (n:Nat) (lead:Bool) (s:Rst) (e i:Nat),L.length<f+s.i→zFT ere top L grp f all n lead s= .no e i→s.i≤L.length→Bad L e i
 |0,_,_,_,s,_,_,hf,_,hs=>by omega
 |f+1,all,n,lead,s,e,i,hf,h,hs=>by
  unfold zFT at h
  split at h
  ·cases h
  ·rename_i hlt
   split at h
   ·cases h
   ·split at h
    ·split at h
     ·cases h;exact Bad.mk' (by decide) (by omega)
     ·cases h
    ·split at h
     ·cases h;exact Bad.mk' (by decide) (by omega)
     ·split at h
      ·rename_i hx
       cases h
       exact zNI (by omega) (fun hw=>hn s _ _ hw) hx
      ·rename_i re takes u hx
       have h1:=zEv hu (by omega) (fun re t=>hg s re t) hx
       have h1l:=h1.lt
       have h1e:=h1.le
       simp only at h
       split at h
       ·rename_i hr
        simp only[Bool.and_eq_true]at hr
        split at h
        ·rename_i hd
         cases h
         exact zOQ h1e hd
        ·rename_i d v hd
         have h2:=zFo hr.2 hd
         have h2l:=h2.lt
         have h2e:=h2.le
         exact zFj hu hg hn f _ _ _ _ _ _ (by omega) h h2e
       ·exact zFj hu hg hn f _ _ _ _ _ _ (by omega) h h1e
theorem zE0 {ere:Bool} {L:List Mk} {row:Rst→Out (Nat × List Nd)} (hr: ∀s r t,s.i≤L.length→row s= .ok r t→zKA L s t) (hn: ∀s e i,s.i≤L.length→row s= .no e i→Bad L e i):
  ∀(f:Nat) (all:List Nd) (n:Nat) (s:Rst) (e i:Nat),L.length<f+s.i→s.i≤L.length→zBw ere L row f all n s= .no e i→Bad L e i
 |0,_,_,s,_,_,hf,hs,_=>by omega
 |f+1,all,n,s,e,i,hf,hs,h=>by
  unfold zBw at h
  split at h
  ·rename_i hx
   cases h
   exact hn _ _ _ hs hx
  ·rename_i parts r u hx
   have h1:=hr _ _ _ hs hx
   have h1l:=h1.lt
   have h1e:=h1.le
   simp only at h
   split at h
   ·cases h;exact⟨by decide,h1e,fun h=>by omega⟩
   ·split at h
    ·cases h
    ·rename_i hm
     have hm':(ere&&seesAt L u.i [124])=true:=by simpa using hm
     simp only[Bool.and_eq_true]at hm'
     have h2:=zBP (by simp) hm'.2
     simp only[List.length_singleton]at h2
     exact zE0 hr hn f _ _ _ _ _ (by show L.length<f+(u.i+1);omega) h2 h
theorem zG7 {ere:Bool} {L:List Mk} (hu: ∀i,i<L.length→(zAH L i).b<256): ∀(k:Nat) (s:Rst) (e i:Nat),s.i+zAU ere≤L.length→zAX ere L k s= .no e i→Bad L e i
 |0,s,e,i,hs,h=>by
  have hw:=zCq ere
  simp only[zAX,Out.no.injEq]at h
  rw[←h.1,←h.2]
  exact Bad.mk' (by decide) (by omega)
 |k+1,s,e,i,hs,h=>by
  have hw:=zCq ere
  unfold zAX at h
  split at h
  ·cases h;exact Bad.mk' (by decide) (by omega)
  ·split at h
   ·rename_i hx
    cases h
    exact zE0 (fun _ _ _ h0 h=>zC6 hu k h0 h) (fun s e i h0 h=>zFj hu (fun s re t=>zCS hu k s re t) (fun s e i=>zG7 hu k s e i) _ _ _ _ s e i (by omega) h h0) _ _ _ _ _ _ (by omega) (by simpa using hs) hx
   ·split at h
    ·cases h;exact Bad.mk' (by decide) (by omega)
    ·cases h
theorem zK0 {ere:Bool} {L:List Mk} (hu: ∀i,i<L.length→(zAH L i).b<256) (k:Nat) {s:Rst} {e i:Nat} (hs:s.i≤L.length) (h:zBp ere L k s= .no e i):Bad L e i:=
 zE0 (fun _ _ _ h0 h=>zC6 hu k h0 h) (fun s e i h0 h=>zFj hu (fun s re t=>zCS hu k s re t) (fun s e i=>zG7 hu k s e i) _ _ _ _ s e i (by omega) h h0) _ _ _ _ _ _ (by omega) hs h
theorem zD1 {ere:Bool} {L:List Mk} (hu: ∀i,i<L.length→(zAH L i).b<256) {e i:Nat} (h:zAz ere L= .error (e,i)):Bad L e i:=by
 unfold zAz at h
 split at h
 ·cases h;exact⟨by decide,by omega,fun h=>by omega⟩
 ·split at h
  ·cases h;exact⟨by decide,Nat.zero_le _,fun h=>by omega⟩
  ·split at h
   ·rename_i hx
    cases h
    exact zK0 hu 64 (by simp) hx
   ·rename_i re t hx
    obtain⟨wt,hwt⟩:=zBl re _ _ _ _ _ _ (zC5 hx)
    rw[hwt]at h
    simp only at h
    split at h
    ·cases h;exact⟨by decide,Nat.le_refl _,fun h=>by omega⟩
    ·cases h
theorem zMU {ere:Bool} {L:List Mk} {re:List Nd} (h:zAz ere L= .ok re):0<L.length∧L.length≤4096∧ ∃t w,zBp ere L 64 ⟨0,[]⟩= .ok re t∧zCK re 260 0=some (w,re.length)∧w≤16384:=by
 unfold zAz at h
 split at h
 ·cases h
 ·split at h
  ·cases h
  ·split at h
   ·cases h
   ·rename_i re' t hx
    obtain⟨wt,hwt⟩:=zBl re' _ _ _ _ _ _ (zC5 hx)
    rw[hwt]at h
    simp only at h
    split at h
    ·cases h
    ·cases h
     exact⟨by omega,by omega,t,wt,hx,hwt,by omega⟩
theorem zEm {ere:Bool} {L:List Mk} {re:List Nd} (h:zAz ere L= .ok re):shapedN re=true:=by
 obtain⟨_,_,t,w,h1,h2,h3⟩:=zMU h
 rw[shapedN,zC5 h1]
 simp only[h2,decide_true,Bool.true_and]
 simpa using h3
end
section
section
variable {T X U:List Nat} {i j:Nat} {ere:Bool}
theorem zOz (hi:i≤T.length):i≤(zEy T i).2∧(zEy T i).2≤T.length:=by
 have h1:=zA9 zAJ T i
 have h2:=zBn zAJ hi
 unfold zEy
 simp only
 split
 ·exact⟨h1,h2⟩
 ·rename_i h3
  have:zAP zAJ T i<T.length:=by
   by_cases h:T.length≤zAP zAJ T i
   ·exact absurd (.inl h) h3
   ·omega
  split
  ·simp only;omega
  ·exact⟨h1,h2⟩
theorem zHK: ∀(n i:Nat) (acc t:List Nat) (j:Nat),i≤T.length→zB2 T n i acc=some (t,j)→i≤j∧j≤T.length
 |0,i,acc,t,j,hi,h=>by cases h;exact⟨Nat.le_refl _,hi⟩
 |n+1,i,acc,t,j,hi,h=>by
  rw[zB2]at h
  split at h
  ·cases h;exact⟨Nat.le_refl _,hi⟩
  ·split at h
   ·cases h;omega
   ·split at h
    ·split at h
     ·cases h
     ·have:=zHK n (i+2) _ t j (by omega) h;omega
    ·have:=zHK n (i+1) _ t j (by omega) h;omega
theorem zO6 (_hi:i≤T.length) {t:List Nat} (h:zDJ T i=some (t,j)):i≤j∧j≤T.length:=by
 have h1:=zA9 zAJ T i
 unfold zDJ at h
 simp only at h
 split at h
 ·cases h
 ·rename_i h2
  have h3:zAP zAJ T i+3≤T.length:=by
   by_cases h:T.length<zAP zAJ T i+3
   ·exact absurd (.inl h) h2
   ·omega
  have:=zHK _ _ _ _ _ (by omega) h
  omega
def Aft (T:List Nat) (i:Nat) (c c':Cm) (j:Nat):Prop:=c'.nm=c.nm∧c'.at_=c.at_∧i≤j∧j≤T.length
theorem zJo (hi:i≤T.length) {c c':Cm} (h:zCf T i c= .ok (c',j)):Aft T i c c' j:=by
 have h1:=zOz hi
 unfold zCf at h
 simp only at h
 split at h
 ·cases h
 ·cases h;exact⟨rfl,rfl,h1⟩
theorem zM0 (hi:i≤T.length) {c c':Cm} (h:zCl T i c= .ok (c',j)):Aft T i c c' j:=by
 have h1:=zA9 zAJ T i
 have h2:=zFR (zBn zAJ hi)
 unfold zCl at h
 simp only at h
 split at h
 ·cases h;exact⟨rfl,rfl,by omega,h2.2⟩
 ·cases h
theorem zOC (hi:i≤T.length) {c c':Cm} (h:zCL T i c= .ok (c',j)):Aft T i c c' j:=by
 have h1:=zA9 zAJ T i
 have h2:=zFR (zBn zAJ hi)
 unfold zCL at h
 simp only at h
 split at h
 ·cases h
 ·cases h;exact⟨rfl,rfl,by omega,h2.2⟩
theorem zPv (hi:i≤T.length) {c c':Cm} (h:zHr T i c= .ok (c',j)):Aft T i c c' j:=by
 unfold zHr at h
 cases ht:zDJ T i with
 |none=>rw[ht]at h;cases h
 |some r=>
  rw[ht]at h
  cases h
  exact⟨rfl,rfl,zO6 hi ht⟩
theorem zL8 {c c':Cm} (h:zB5 T i c= .ok (c',j)):Aft T i c c' j:=by
 unfold zB5 at h
 split at h
 ·cases h
 ·cases h1:zAu T (T.getD i 0) false (i+1)with
  |none=>rw[h1]at h;cases h
  |some r=>
   have a1:=zBG h1
   rw[h1]at h
   simp only at h
   cases h2:zAu T (T.getD i 0) false r.2 with
   |none=>rw[h2]at h;cases h
   |some q=>
    have a2:=zBG h2
    rw[h2]at h
    simp only at h
    cases h3:zD9 r.1 q.1 with
    |none=>rw[h3]at h;cases h
    |some t=>
     rw[h3]at h
     obtain⟨e1,e2,e3,e4⟩:=zJo a2.2.1 h
     exact⟨e1,e2,by omega,e4⟩
theorem zON (n:Nat): ∀(i:Nat) (c c':Cm) (j:Nat),T.length - i<n→i≤T.length→zBb T n i c= .ok (c',j)→Aft T i c c' j:=by
 induction n with
 |zero=>intro i c c' j hn;omega
 |succ n ih=>
  intro i c c' j hn hi h
  rw[zB9]at h
  have hlt: ∀b,T.getD i 0=b→b≠0→i<T.length:=fun b hb h0=>by
   by_cases hlt:i<T.length
   ·exact hlt
   ·rw[List.getD_eq_getElem?_getD,List.getElem?_eq_none (by omega)]at hb
    exact absurd hb.symm h0
  split at h
  ·rename_i h1
   have:=hlt _ h1 (by decide)
   unfold zHl at h
   split at h
   ·cases h
   ·obtain⟨e1,e2,e3,e4⟩:=ih (i+1) _ c' j (by omega) (by omega) h
    exact⟨e1,e2,by omega,e4⟩
  ·split at h
   ·rename_i h1
    have:=hlt _ h1 (by decide)
    unfold zHk at h
    split at h
    ·cases h
    ·obtain⟨e1,e2,e3,e4⟩:=ih (i+1) _ c' j (by omega) (by omega) h
     exact⟨e1,e2,by omega,e4⟩
   ·split at h
    ·cases hq:zFD T 1048576 i with
     |none=>rw[hq]at h;cases h
     |some r=>
      have hat:=zEV hq hi
      rw[hq]at h
      unfold zHm at h
      simp only at h
      split at h
      ·cases h
      ·obtain⟨e1,e2,e3,e4⟩:=ih r.2 _ c' j (by omega) (by omega) h
       exact⟨e1,e2,by omega,e4⟩
    ·split at h
     ·rename_i h1
      have:=hlt _ h1 (by decide)
      unfold zHj at h
      split at h
      ·cases h
      ·obtain⟨e1,e2,e3,e4⟩:=zM0 (by omega) h
       exact⟨e1,e2,by omega,e4⟩
     ·exact zJo hi h
theorem zNA {c c':Cm} (h:zBT ere T i c= .ok (c',j)):Aft T i c c' j:=by
 unfold zBT at h
 split at h
 ·cases h
 ·cases h1:zAu T (T.getD i 0) false (i+1)with
  |none=>rw[h1]at h;cases h
  |some r=>
   have a1:=zBG h1
   rw[h1]at h
   simp only at h
   cases hr:reS ere r.1 c with
   |error e=>rw[hr]at h;cases h
   |ok re=>
    rw[hr]at h
    simp only at h
    cases h2:zAu T (T.getD i 0) true r.2 with
    |none=>rw[h2]at h;cases h
    |some q=>
     have a2:=zBG h2
     rw[h2]at h
     simp only at h
     cases h3:zGR q.1 with
     |none=>rw[h3]at h;cases h
     |some t=>
      rw[h3]at h
      simp only at h
      cases h4:zDG T q.2 { c with re:=re,fi:=t } with
      |error e=>rw[h4]at h;cases h
      |ok z=>
       obtain⟨e1,e2,e3,e4⟩:=zON (T.length+1 - q.2) q.2 _ z.1 z.2 (by omega) a2.2.1 h4
       rw[h4]at h
       simp only at h
       split at h
       ·cases h
       ·cases h
        exact⟨e1,e2,by omega,e4⟩
theorem zDq (hi:i≤T.length) {c c':Cm} (h:zCJ ere T i c= .ok (c',j)):Aft T i c c' j:=by
 unfold zCJ at h
 split at h
 ·cases h;exact⟨rfl,rfl,Nat.le_refl _,hi⟩
 ·split at h
  ·exact zNA h
  ·split at h
   ·exact zL8 h
   ·split at h
    ·exact zOC hi h
    ·split at h
     ·exact zM0 hi h
     ·split at h
      ·exact zPv hi h
      ·exact zJo hi h
theorem zDm (hi:i≤T.length) {n:Nat} {r:Cm × Nat} (h:zBy ere T i n= .ok r):i≤r.1.at_∧r.1.at_<T.length∧r.2=r.1.at_+1∧T.getD r.1.at_ 0=r.1.nm:=(zKR (Jn.of T []) hi h).2
def zLu (ere:Bool) (T:List Nat) (j:Nat) (l:List Cm) (f:Nat→List Cm→Rd (List Cm)):Rd (List Cm):=
 match zBy ere T j l.length with
 | .error e=> .error e
 | .ok (c,k)=>match zCJ ere T k c with
  | .error e=> .error e
  | .ok (c',q)=>f q (l++[c'])
theorem zGt {l:List Cm} {f g:Nat→List Cm→Rd (List Cm)} (hj:j≤T.length) (h: ∀q m,j<q→q≤T.length→f q m=g q m):zLu ere T j l f=zLu ere T j l g:=by
 unfold zLu
 cases hh:zBy ere T j l.length with
 |error e=>rfl
 |ok r=>
  obtain⟨c,k⟩:=r
  have a1:=zDm hj hh
  simp only at a1 ⊢
  cases hb:zCJ ere T k c with
  |error e=>rfl
  |ok r=>
   obtain⟨c',q⟩:=r
   obtain⟨_,_,e3,e4⟩:=zDq (by omega) hb
   exact h q _ (by omega) e4
theorem zGX (n i:Nat) (l:List Cm):zD8 ere T (n+1) i l=if T.length≤zAP zAh T i then .ok l else if T.getD (zAP zAh T i) 0=35 then zD8 ere T n (zCz T (zAP zAh T i)) l else zLu ere T (zAP zAh T i) l (zD8 ere T n):=rfl
theorem zFS (h:i<T.length) (hb:T.getD i 0=35):i<zCz T i∧zCz T i≤T.length:=by
 have h1:zCz T i=zCz T (i+1):=by
  unfold zCz
  rw[zAR,if_pos ⟨h,by rw[hb];rfl⟩]
 have:=zFR (T:=T) (i:=i+1) (by omega)
 omega
theorem zGY (n:Nat): ∀(m i:Nat) (l:List Cm),T.length - i<n→n≤m→i≤T.length→zD8 ere T m i l=zD8 ere T n i l:=by
 induction n with
 |zero=>intro m i l hn;omega
 |succ n ih=>
  intro m i l hn hm hi
  obtain⟨m,rfl⟩: ∃m',m=m'+1:=⟨m - 1,by omega⟩
  have h1:=zA9 zAh T i
  rw[zGX,zGX]
  generalize zAP zAh T i=q at h1
  by_cases h0:T.length≤q
  ·rw[if_pos h0,if_pos h0]
  ·rw[if_neg h0,if_neg h0]
   by_cases h2:T.getD q 0=35
   ·rw[if_pos h2,if_pos h2]
    have:=zFS (by omega) h2
    exact ih m _ l (by omega) (by omega) this.2
   ·rw[if_neg h2,if_neg h2]
    exact zGt (by omega) fun k s h3 h4=>ih m k s (by omega) (by omega) h4
def zC3 (ere:Bool) (T:List Nat) (i:Nat) (l:List Cm):Rd (List Cm):=zD8 ere T (T.length+1 - i) i l
theorem zAs (hi:i≤T.length) (l:List Cm):zC3 ere T i l=if T.length≤zAP zAh T i then .ok l else if T.getD (zAP zAh T i) 0=35 then zC3 ere T (zCz T (zAP zAh T i)) l else zLu ere T (zAP zAh T i) l (zC3 ere T):=by
 have h1:=zA9 zAh T i
 have e:zC3 ere T i l=zD8 ere T (T.length+1) i l:=(zGY _ _ i l (by omega) (by omega) hi).symm
 rw[e,zGX]
 generalize zAP zAh T i=q at h1
 by_cases h0:T.length≤q
 ·rw[if_pos h0,if_pos h0]
 ·rw[if_neg h0,if_neg h0]
  by_cases h2:T.getD q 0=35
  ·rw[if_pos h2,if_pos h2]
   have:=zFS (by omega) h2
   exact zGY _ _ _ l (by omega) (by omega) this.2
  ·rw[if_neg h2,if_neg h2]
   exact zGt (by omega) fun k s h3 h4=>zGY _ _ k s (by omega) (by omega) h4
theorem zMA (p:Nat→Bool) (T:List Nat) (i:Nat):zAP p T (zAP p T i)=zAP p T i:=by
 rw[zAR]
 by_cases h:zAP p T i<T.length
 ·rw[if_neg (fun h2=>by rw[zH4 p h]at h2;cases h2.2)]
 ·rw[if_neg (fun h2=>h h2.1)]
theorem zHB (hi:i≤T.length) (l:List Cm):zC3 ere T (zAP zAh T i) l=zC3 ere T i l:=by
 rw[zAs hi,zAs (zBn zAh hi),zMA]
theorem zD6 (h:T.length≤65536):zCB ere T=zC3 ere T 0 []:=by unfold zCB zC3;rw[if_neg (by omega),Nat.sub_zero]
theorem zM9 (d:Nat): ∀(i:Nat) (l L:List Cm),T.length - i≤d→i≤T.length→zC3 ere T i l= .ok L→l.length≤L.length:=by
 induction d with
 |zero=>
  intro i l L hd hi h
  have:=zA9 zAh T i
  rw[zAs hi,if_pos (by omega)]at h
  cases h;exact Nat.le_refl _
 |succ d ih=>
  intro i l L hd hi h
  have h1:=zA9 zAh T i
  rw[zAs hi]at h
  generalize zAP zAh T i=q at h h1
  by_cases h0:T.length≤q
  ·rw[if_pos h0]at h;cases h;exact Nat.le_refl _
  ·rw[if_neg h0]at h
   by_cases h2:T.getD q 0=35
   ·rw[if_pos h2]at h
    have:=zFS (by omega) h2
    exact ih _ l L (by omega) this.2 h
   ·rw[if_neg h2]at h
    unfold zLu at h
    cases hh:zBy ere T q l.length with
    |error e=>rw[hh]at h;cases h
    |ok r=>
     obtain⟨c,k⟩:=r
     have a1:=zDm (by omega) hh
     rw[hh]at h
     simp only at h a1
     cases hb:zCJ ere T k c with
     |error e=>rw[hb]at h;cases h
     |ok r=>
      obtain⟨c',z⟩:=r
      obtain⟨_,_,e3,e4⟩:=zDq (by omega) hb
      rw[hb]at h
      have:=ih z _ L (by omega) e4 h
      rw[List.length_append]at this
      omega
theorem zOD (J:Jn T X U) (hU:U=T++10::X) (d:Nat): ∀(i i':Nat) (l L:List Cm),T.length - i≤d→i≤T.length→Rel T.length i i'→zC3 ere T i l= .ok L→zC3 ere U i' l=zC3 ere U (T.length+1) L:=by
 have hl:=J.len
 have fin: ∀(i i':Nat) (l:List Cm),i≤T.length→Rel T.length i i'→T.length≤zAP zAh T i→zC3 ere U i' l=zC3 ere U (T.length+1) l:=by
  intro i i' l hi hr hj
  have e:zAP zAh U i'=T.length+1+zAP zAh X 0:=by
   rcases hr with rfl|⟨rfl,rfl⟩
   ·rw[zHi J _ _ (Nat.le_refl _) hi,if_neg (by omega)]
   ·exact zBJ J 0
  have hi':i'≤U.length:=by rcases hr with rfl|⟨rfl,rfl⟩<;>omega
  rw[←zHB hi',e,←zHB (i:=T.length+1) (by omega),show zAP zAh U (T.length+1)=T.length+1+zAP zAh X 0 from zBJ J 0]
 induction d with
 |zero=>
  intro i i' l L hd hi hr h
  have h1:=zA9 zAh T i
  rw[zAs hi,if_pos (by omega)]at h
  cases h
  exact fin i i' l hi hr (by omega)
 |succ d ih=>
  intro i i' l L hd hi hr h
  by_cases h0:T.length≤zAP zAh T i
  ·rw[zAs hi,if_pos h0]at h
   cases h
   exact fin i i' l hi hr h0
  ·have h1:=zA9 zAh T i
   obtain rfl:i'=i:=by
    rcases hr with h|⟨h,_⟩
    ·exact h
    ·omega
   have e:zAP zAh U i'=zAP zAh T i':=by rw[zHi J _ _ (Nat.le_refl _) hi,if_pos (by omega)]
   rw[zAs hi,if_neg h0]at h
   rw[zAs (T:=U) (by omega),e]
   generalize zAP zAh T i'=q at h h0 h1
   rw[if_neg (by omega),J.lo q (by omega)]
   by_cases h2:T.getD q 0=35
   ·rw[if_pos h2]at h
    have:=zFS (by omega) h2
    rw[if_pos h2,zHP J (by omega)]
    exact ih _ _ l L (by omega) this.2 (.inl rfl) h
   ·rw[if_neg h2]at h
    rw[if_neg h2]
    unfold zLu at h ⊢
    cases hh:zBy ere T q l.length with
    |error e=>rw[hh]at h;cases h
    |ok r=>
     obtain⟨c,k⟩:=r
     have a1:=zDm (by omega) hh
     rw[hh]at h
     rw[(zKR J (by omega) hh).1]
     simp only at h a1 ⊢
     cases hb:zCJ ere T k c with
     |error e=>rw[hb]at h;cases h
     |ok r=>
      obtain⟨c',z⟩:=r
      obtain⟨_,_,e3,e4⟩:=zDq (by omega) hb
      obtain⟨z',h5,h6⟩:=zOc J hU (by omega) hb
      rw[hb]at h
      rw[h5]
      exact ih z z' _ L (by omega) e4 h6 h
def shL (m:Nat) (L:List Cm):Rd (List Cm)→Rd (List Cm)
 | .error e=> .error (e.1,m+e.2)
 | .ok M=> .ok (L++M.map (shC m))
theorem zLQ (J:Jn T X U) (hU:U=T++10::X) (L:List Cm) (d:Nat): ∀(i:Nat) (l:List Cm),X.length - i≤d→i≤X.length→
  ((∃p,zC3 ere U (T.length+1+i) (L++l.map (shC (T.length+1)))= .error (2,p))∧ ∀M,zC3 ere X i l= .ok M→4096<L.length+M.length)∨
   zC3 ere U (T.length+1+i) (L++l.map (shC (T.length+1)))=shL (T.length+1) L (zC3 ere X i l):=by
 have hl:=J.len
 induction d with
 |zero=>
  intro i l hd hi
  have h1:=zA9 zAh X i
  rw[zAs (T:=U) (by omega),zAs hi,zBJ J,if_pos (by omega),if_pos (by omega)]
  exact .inr rfl
 |succ d ih=>
  intro i l hd hi
  have h1:=zA9 zAh X i
  rw[zAs (T:=U) (by omega),zAs hi,zBJ J]
  generalize zAP zAh X i=q at h1
  by_cases h0:X.length≤q
  ·rw[if_pos (by omega),if_pos h0]
   exact .inr rfl
  ·rw[if_neg (by omega),if_neg h0,J.hi q]
   by_cases h2:X.getD q 0=35
   ·rw[if_pos h2,if_pos h2,zF8 J]
    have:=zFS (by omega) h2
    exact ih _ l (by omega) this.2
   ·rw[if_neg h2,if_neg h2]
    unfold zLu
    have hlen:(L++l.map (shC (T.length+1))).length=L.length+l.length:=by simp
    rcases zLW (ere:=ere) J (show l.length≤(L++l.map (shC (T.length+1))).length by omega) q with ⟨h3,p,h4⟩|h4
    ·rw[h4]
     refine .inl ⟨⟨p,rfl⟩,fun M hM=>?_⟩
     cases hh:zBy ere X q l.length with
     |error e=>rw[hh]at hM;cases hM
     |ok r=>
      obtain⟨c,k⟩:=r
      have a1:=zDm (by omega) hh
      rw[hh]at hM
      simp only at hM a1
      cases hb:zCJ ere X k c with
      |error e=>rw[hb]at hM;cases hM
      |ok r=>
       obtain⟨c',z⟩:=r
       obtain⟨_,_,e3,e4⟩:=zDq (by omega) hb
       rw[hb]at hM
       have:=zM9 _ z _ M (Nat.le_refl _) e4 hM
       rw[List.length_append]at this
       simp only[List.length_cons,List.length_nil]at this
       omega
    ·rw[h4]
     cases hh:zBy ere X q l.length with
     |error e=>exact .inr rfl
     |ok r=>
      obtain⟨c,k⟩:=r
      have a1:=zDm (by omega) hh
      simp only[shR]at a1 ⊢
      rw[zLm J hU]
      cases hb:zCJ ere X k c with
      |error e=>exact .inr rfl
      |ok r=>
       obtain⟨c',z⟩:=r
       obtain⟨_,_,e3,e4⟩:=zDq (by omega) hb
       simp only[shR]
       have:=ih z (l++[c']) (by omega) e4
       rw[List.map_append,←List.append_assoc]at this
       exact this
theorem zP3 (h:T.length+X.length<65536) {L:List Cm} (hT:zCB ere T= .ok L):
  ((∃p,zCB ere (T++10::X)= .error (2,p))∧ ∀M,zCB ere X= .ok M→4096<L.length+M.length)∨zCB ere (T++10::X)=shL (T.length+1) L (zCB ere X):=by
 have J:=Jn.of T X
 have hl:=J.len
 rw[zD6 (by omega)]at hT
 rw[zD6 (by omega),zD6 (T:=X) (by omega),zOD J rfl _ 0 0 [] L (Nat.le_refl _) (Nat.zero_le _) (.inl rfl) hT]
 have:=zLQ (ere:=ere) J rfl L _ 0 [] (Nat.le_refl _) (Nat.zero_le _)
 simpa using this
theorem zIg:zBh (T++10::X)=zBh T:=by
 have J:=Jn.of T X
 have h:=zFR (T:=T) (Nat.zero_le _)
 unfold zBh
 rw[zHP J (Nat.zero_le _),List.take_append_of_le_length h.2]
end
end
section
def zAw (a:Ad):Bool:=
 if a.kind=0∨a.kind=2 then a.n==0&&a.re.isEmpty
 else if a.kind=1 then decide (1≤a.n∧a.n≤2147483647)&&a.re.isEmpty
 else if a.kind=3 then a.n==0&&(a.re.isEmpty||shapedN a.re)
 else false
end
section
def zCk (t:List Nat):Bool:=t.all (· !=10)&& !(zAJ (t.getD 0 0))&& !(zAJ (t.getLastD 0))
def zDX (nm:Nat) (wr:Bool) (t:List Nat):Bool:=
 if nm=97∨nm=99∨nm=105 then true
 else if nm=98∨nm=116 then zCk t
 else if nm=58 then !t.isEmpty&&zCk t
 else if nm=114∨nm=119 then zBZ t
 else if nm=115∧wr=true then zBZ t
 else t.isEmpty
def zAS:List Pc→Bool→Bool
 |[],_=>true
 |x::l,t=>if x.k= -1 then !x.t.isEmpty&& !t&&zAS l true else decide (0≤x.k∧x.k≤9)&&x.t.isEmpty&&zAS l false
def zEp (a b:Ad):Nat:=(if a.kind≠0 then 1 else 0)+(if b.kind≠0 then 1 else 0)
def zGx (nt:Bool) (many:Nat):Option Nat→Bool
 |none=>false
 |some most=>decide (many≤most)&& !(decide (most=0)&&nt)
def zJJ (a b:Ad) (nt:Bool) (nm:Nat) (at_:Int) (tx:List Nat) (re:List Nd) (fi:List Pc) (ct:Int) (al pr wr tz:Bool):Bool:=
 zAw a&&zAw b&&zGx nt (zEp a b) (zDC nm)&& !(decide (zEp a b=1)&&decide (a.kind=0))&&decide (0≤at_)&&zDX nm wr tx&&(nm==121||tz)&&
  (if nm=115 then(re.isEmpty||(shapedN re&&decide (zGj fi≤(zCR re:Int))))&&zAS fi false&&decide (0≤ct∧ct≤1048576)
   else re.isEmpty&&fi.isEmpty&&ct==0&& !al&& !pr&& !wr)
def zI8:List Nat:=List.replicate 256 0
def Cm.shaped (c:Cm):Bool:=zJJ c.a c.b c.nt c.nm c.at_ c.tx c.re c.fi c.ct c.al c.pr c.wr (decide (c.tb=zI8))
section
variable {T:List Nat} {i j:Nat} {ere:Bool}
theorem zLs {a:Ad} (hi:i≤T.length) (h:zBe ere T i=(a,0,j)):zAw a=true:=by
 unfold zBe at h
 split at h
 ·cases h;rfl
 ·simp only at h
  split at h
  ·cases hq:zFD T 2147483647 i with
   |none=>rw[hq]at h;simp at h
   |some r=>
    have hat:=zEV hq hi
    rw[hq]at h
    simp only at h
    split at h
    ·simp at h
    ·rename_i h1
     cases h
     simp only[zAw]
     simp
     omega
  ·split at h
   ·cases h;rfl
   ·split at h
    ·simp at h
    ·split at h
     ·generalize (if T.getD i 0=92 then i+1 else i)=k at h
      cases hp:zAu T (T.getD k 0) false (k+1)with
      |none=>rw[hp]at h;simp at h
      |some r=>
       rw[hp]at h
       simp only at h
       split at h
       ·cases h;rfl
       ·cases hr:zAz ere r.1 with
        |error e=>
         rw[hr]at h
         simp only[Prod.mk.injEq]at h
         rw[←h.1]
         rfl
        |ok re=>
         rw[hr]at h
         cases h
         simp[zAw,zEm hr]
     ·cases h;rfl
theorem zI1 {r:Ad × Nat} (hi:i≤T.length) (h:zEG ere T i= .ok r):zAw r.1=true:=by
 unfold zEG at h
 simp only at h
 split at h
 ·cases h
 ·rename_i h0
  cases h
  exact zLs hi (j:=(zBe ere T i).2.2) (Prod.ext rfl (Prod.ext (by simp only;omega) rfl))
theorem zMJ {a:Ad} {r:Ad × Nat × Nat} (h:zF6 ere T a i= .ok r):zAw r.1=true∧zEp a r.1=r.2.1∧ ¬(zEp a r.1=1∧a.kind=0):=by
 unfold zF6 at h
 split at h
 ·rename_i h0
  cases h
  simp[zEp,h0,Ad.zero,zAw]
 ·rename_i h0
  cases hc:zBc T 44 i with
  |none=>
   rw[hc]at h
   cases h
   simp[zEp,h0,Ad.zero,zAw]
  |some k=>
   rw[hc]at h
   simp only at h
   cases ha:zEG ere T k with
   |error e=>rw[ha]at h;cases h
   |ok p=>
    have h1:=zI1 (zD5 hc).2.2 ha
    rw[ha]at h
    simp only at h
    split at h
    ·cases h
    ·rename_i h2
     cases h
     refine⟨h1,by simp[zEp,h0,h2],fun h=>h0 h.2⟩
theorem zLX (hi:i≤T.length) {n:Nat} {c:Cm} {k:Nat} (h:zBy ere T i n= .ok (c,k)):
  n<4096∧c= { Cm.zero with a:=c.a,b:=c.b,nt:=c.nt,nm:=c.nm,at_:=c.at_ } ∧zAw c.a=true∧zAw c.b=true∧zGx c.nt (zEp c.a c.b) (zDC c.nm)=true∧ ¬(zEp c.a c.b=1∧c.a.kind=0):=by
 unfold zBy at h
 cases ha:zEG ere T i with
 |error e=>rw[ha]at h;cases h
 |ok p=>
  have h1:=zI1 hi ha
  rw[ha]at h
  simp only at h
  cases hs:zF6 ere T p.1 p.2 with
  |error e=>rw[hs]at h;cases h
  |ok s=>
   have h2:=zMJ hs
   rw[hs]at h
   simp only at h
   cases hm:zDC (T.getD (zFd T s.2.2).1 0)with
   |none=>rw[hm]at h;cases h
   |some most=>
    rw[hm]at h
    simp only at h
    split at h
    ·cases h
    ·rename_i h3
     split at h
     ·cases h
     ·rename_i h4
      cases h
      refine⟨by omega,rfl,h1,h2.1,?_,h2.2.2⟩
      simp only
      rw[hm,h2.2.1]
      simp only[zGx,Bool.and_eq_true,decide_eq_true_eq,Bool.not_eq_true',Bool.and_eq_false_iff,decide_eq_false_iff_not]
      refine⟨Nat.le_of_not_lt fun h=>h3 (.inl h),?_⟩
      by_cases h5:most=0
      ·right
       cases hq:(zFd T s.2.2).2 with
       |false=>rfl
       |true=>exact absurd (.inr ⟨h5,hq⟩) h3
      ·exact .inl h5
theorem zIk {c c':Cm} (h:zCl T i c= .ok (c',j)):c'= { c with tx:=c'.tx } ∧zBZ c'.tx=true:=by
 unfold zCl at h
 simp only at h
 split at h
 ·rename_i h1;cases h;exact⟨rfl,h1⟩
 ·cases h
theorem zGK {c c':Cm} (h:zCf T i c= .ok (c',j)):c'=c:=by
 unfold zCf at h
 simp only at h
 split at h
 ·cases h
 ·cases h;rfl
theorem zMh {T:List Nat} {i j b:Nat} (h:b∈zEF T i j): ∃k,i≤k∧k<j∧T.getD k 0=b:=by
 unfold zEF at h
 obtain⟨n,hn⟩:=List.getElem?_of_mem h
 obtain⟨hl,hn⟩:=List.getElem?_eq_some_iff.1 hn
 rw[List.length_take,List.length_drop]at hl
 refine⟨i+n,by omega,by omega,?_⟩
 rw[List.getElem_take,List.getElem_drop]at hn
 rw[List.getD_eq_getElem?_getD,List.getElem?_eq_getElem (by omega),hn];rfl
theorem zK4 {b:Nat} (h:b∈zEF T i (zCz T i)):b≠10:=by
 obtain⟨k,h1,h2,rfl⟩:=zMh h
 have:=zNn zAc h1 h2
 simpa [zAc]using this
theorem zHw {b:Nat} {l:List Nat} (h:b∈zBa l):b∈l:=by
 unfold zBa at h
 rw[List.mem_reverse]at h
 have:=(List.dropWhile_sublist zAJ).mem h
 rwa[List.mem_reverse]at this
theorem zEa (l:List Nat):zBa l <+: l:=by
 unfold zBa
 have h:=List.dropWhile_suffix zAJ (l:=l.reverse)
 rw[←List.reverse_prefix,List.reverse_reverse]at h
 exact h
theorem zEE (p:Nat→Bool): ∀(l:List Nat) (x:Nat) (d:List Nat),l.dropWhile p=x::d→p x=false
 |[],x,d,h=>by cases h
 |y::l,x,d,h=>by
  rw[List.dropWhile_cons]at h
  split at h
  ·exact zEE p l x d h
  ·rename_i h1;cases h;simpa using h1
theorem zKm (l:List Nat):zAJ ((zBa l).getLastD 0)=false:=by
 unfold zBa
 cases hd:l.reverse.dropWhile zAJ with
 |nil=>rfl
 |cons x d=>
  rw[List.reverse_cons]
  simpa using zEE zAJ _ _ _ hd
theorem zOS {T:List Nat} {i j:Nat} (h:i<j):(zEF T i j).getD 0 0=T.getD i 0:=by
 unfold zEF
 rw[List.getD_eq_getElem?_getD,List.getElem?_take,if_pos (by omega),List.getElem?_drop,Nat.add_zero,List.getD_eq_getElem?_getD]
theorem zPZ {T:List Nat} {i j:Nat} (h:j≤i):zEF T i j=[]:=by
 unfold zEF
 rw[show j - i=0 by omega];rfl
theorem zLP {c c':Cm} (hi:i≤T.length) (h:zCL T i c= .ok (c',j)):c'= { c with tx:=c'.tx } ∧zCk c'.tx=true∧(c.nm=58→c'.tx≠[]):=by
 have h1:=zBn zAJ hi
 have hst:=zH4 (p:=zAJ) (T:=T) (i:=i)
 unfold zCL at h
 simp only at h
 generalize zAP zAJ T i=q at h h1 hst
 have h2:=zFR h1
 split at h
 ·cases h
 ·rename_i h3
  cases h
  refine⟨rfl,?_,fun h4 h5=>h3 ⟨h4,h5⟩⟩
  simp only[zCk,Bool.and_eq_true,Bool.not_eq_true']
  refine⟨⟨?_,?_⟩,zKm _⟩
  ·rw[List.all_eq_true]
   intro b hb
   have:=zK4 (zHw hb)
   simpa using this
  ·by_cases h4:q<zCz T q
   ·obtain⟨t,ht⟩:=zEa (zEF T q (zCz T q))
    cases hc:zBa (zEF T q (zCz T q))with
    |nil=>rfl
    |cons x d=>
     have e:=zOS (T:=T) h4
     rw[←ht,hc]at e
     have e':x=T.getD q 0:=e
     show zAJ x=false
     rw[e']
     exact hst (by omega)
   ·rw[zPZ (by omega)];rfl
theorem zNy {c c':Cm} (h:zHr T i c= .ok (c',j)):c'= { c with tx:=c'.tx } :=by
 unfold zHr at h
 cases ht:zDJ T i with
 |none=>rw[ht]at h;cases h
 |some r=>rw[ht]at h;cases h;rfl
theorem zJE {c c':Cm} (h:zB5 T i c= .ok (c',j)):c'= { c with tb:=c'.tb } :=by
 unfold zB5 at h
 split at h
 ·cases h
 ·cases h1:zAu T (T.getD i 0) false (i+1)with
  |none=>rw[h1]at h;cases h
  |some r=>
   rw[h1]at h
   simp only at h
   cases h2:zAu T (T.getD i 0) false r.2 with
   |none=>rw[h2]at h;cases h
   |some q=>
    rw[h2]at h
    simp only at h
    cases h3:zD9 r.1 q.1 with
    |none=>rw[h3]at h;cases h
    |some t=>
     rw[h3]at h
     have:=zGK h
     rw[this]
theorem zLa (n:Nat): ∀(i:Nat) (c c':Cm) (j:Nat),i≤T.length→c.wr=false→c.tx=[]→c.ct≤1048576→zBb T n i c= .ok (c',j)→
  c'= { c with al:=c'.al,pr:=c'.pr,wr:=c'.wr,tx:=c'.tx,ct:=c'.ct } ∧c'.ct≤1048576∧((c'.wr=false∧c'.tx=[])∨(c'.wr=true∧zBZ c'.tx=true)):=by
 induction n with
 |zero=>intro i c c' j hi h1 h2 h3 h;cases h;exact⟨rfl,h3,.inl ⟨h1,h2⟩⟩
 |succ n ih=>
  intro i c c' j hi h1 h2 h3 h
  rw[zB9]at h
  have hlt: ∀b,T.getD i 0=b→b≠0→i<T.length:=fun b hb h0=>by
   by_cases hlt:i<T.length
   ·exact hlt
   ·rw[List.getD_eq_getElem?_getD,List.getElem?_eq_none (by omega)]at hb
    exact absurd hb.symm h0
  split at h
  ·rename_i h4
   have:=hlt _ h4 (by decide)
   unfold zHl at h
   split at h
   ·cases h
   ·obtain⟨e1,e2⟩:=ih (i+1) { c with al:=true } c' j (by omega) h1 h2 h3 h
    exact⟨e1,e2⟩
  ·split at h
   ·rename_i h4
    have:=hlt _ h4 (by decide)
    unfold zHk at h
    split at h
    ·cases h
    ·obtain⟨e1,e2⟩:=ih (i+1) { c with pr:=true } c' j (by omega) h1 h2 h3 h
     exact⟨e1,e2⟩
   ·split at h
    ·cases hq:zFD T 1048576 i with
     |none=>rw[hq]at h;cases h
     |some r=>
      have hat:=zEV hq hi
      rw[hq]at h
      unfold zHm at h
      simp only at h
      split at h
      ·cases h
      ·obtain⟨e1,e2⟩:=ih r.2 { c with ct:=r.1 } c' j hat.2.1 h1 h2 hat.2.2 h
       exact⟨e1,e2⟩
    ·split at h
     ·unfold zHj at h
      split at h
      ·cases h
      ·obtain⟨e1,e2⟩:=zIk h
       rw[e1]
       exact⟨rfl,h3,.inr ⟨rfl,e2⟩⟩
     ·have:=zGK h
      subst this
      exact⟨rfl,h3,.inl ⟨h1,h2⟩⟩
def zJp (p:List Pc) (t:Bool):Bool:=match p.getLast? with
 |some x=>decide (x.k= -1)
 |none=>t
theorem zG0 (x:Pc) (l:List Pc) (t u:Bool) (h:u=decide (x.k= -1)):zJp l u=zJp (x::l) t:=by
 subst h
 unfold zJp
 rw[List.getLast?_cons]
 cases l.getLast?<;>rfl
theorem zBK (x:Pc): ∀(p:List Pc) (t:Bool),zAS (p++[x]) t=(zAS p t&&zAS [x] (zJp p t))
 |[],t=>by simp[zAS,zJp]
 |y::l,t=>by
  simp only[List.cons_append,zAS]
  by_cases h:y.k= -1
  ·rw[if_pos h,if_pos h,zBK x l true,zG0 y l t true (by simp[h])]
   simp[zAS,Bool.and_assoc]
  ·rw[if_neg h,if_neg h,zBK x l false,zG0 y l t false (by simp[h])]
   simp[zAS,Bool.and_assoc]
theorem zLO (p:List Pc) (x:Pc) (t:Bool):zJp (p++[x]) t=decide (x.k= -1):=by
 unfold zJp
 rw[List.getLast?_append]
 rfl
theorem zDT {p:List Pc} (h:zAS p false=true) (b:Nat):zAS (zI3 p b) false=true:=by
 unfold zI3
 cases hl:p.getLast? with
 |none=>
  rw[List.getLast?_eq_none_iff]at hl
  subst hl
  rfl
 |some x=>
  obtain⟨q,rfl⟩: ∃q,p=q++[x]:=by
   obtain⟨q,hq⟩:=List.getLast?_eq_some_iff.1 hl
   exact⟨q,hq⟩
  rw[zBK]at h
  simp only[Bool.and_eq_true]at h
  simp only
  split
  ·rename_i h1
   rw[List.dropLast_concat,zBK,h.1]
   have:=h.2
   simp only[zAS,h1,if_true,Bool.and_true,Bool.and_eq_true]at this
   simp[zAS,this.2]
  ·rename_i h1
   rw[zBK,zBK,h.1,h.2,zLO]
   simp[zAS,h1]
theorem zBU: ∀(l:List Mk) (e:Bool) (p q:List Pc),zAS p false=true→zCA l e p=some q→zAS q false=true
 |[],e,p,q,h,hq=>by
  simp only[zCA]at hq
  split at hq
  ·cases hq
  ·cases hq;exact h
 |m::l,true,p,q,h,hq=>by
  simp only[zCA]at hq
  split at hq
  ·rename_i h1
   refine zBU l false _ q ?_ hq
   rw[zBK,h]
   have: ¬((m.b:Int) - 48= -1):=by omega
   simp[zAS,this]
   omega
  ·split at hq
   ·exact zBU l false _ q (zDT h _) hq
   ·exact zBU l false _ q (zDT h _) hq
 |m::l,false,p,q,h,hq=>by
  simp only[zCA]at hq
  split at hq
  ·exact zBU l false _ q (zDT h _) hq
  ·split at hq
   ·refine zBU l false _ q ?_ hq
    rw[zBK,h]
    simp[zAS]
   ·split at hq
    ·exact zBU l true p q h hq
    ·exact zBU l false _ q (zDT h _) hq
theorem zJx {l:List Mk} {p:List Pc} (h:zGR l=some p):zAS p false=true:=zBU l false [] p rfl h
theorem zMQ {l:List Mk} {c:Cm} {re:List Nd} (h:reS ere l c= .ok re):re=[]∨shapedN re=true:=by
 unfold reS at h
 split at h
 ·cases h;exact .inl rfl
 ·cases hp:zAz ere l with
  |error e=>rw[hp]at h;cases h
  |ok r=>rw[hp]at h;cases h;exact .inr (zEm hp)
theorem zJ1 {c c':Cm} (hw:c.wr=false) (ht:c.tx=[]) (hct:c.ct≤1048576) (h:zBT ere T i c= .ok (c',j)):
  c'= { c with re:=c'.re,fi:=c'.fi,al:=c'.al,pr:=c'.pr,wr:=c'.wr,tx:=c'.tx,ct:=c'.ct } ∧c'.ct≤1048576∧((c'.wr=false∧c'.tx=[])∨(c'.wr=true∧zBZ c'.tx=true))∧
   (c'.re=[]∨(shapedN c'.re=true∧zGj c'.fi≤(zCR c'.re:Int)))∧zAS c'.fi false=true:=by
 unfold zBT at h
 split at h
 ·cases h
 ·cases h1:zAu T (T.getD i 0) false (i+1)with
  |none=>rw[h1]at h;cases h
  |some r=>
   rw[h1]at h
   simp only at h
   cases hr:reS ere r.1 c with
   |error e=>rw[hr]at h;cases h
   |ok re=>
    rw[hr]at h
    simp only at h
    cases h2:zAu T (T.getD i 0) true r.2 with
    |none=>rw[h2]at h;cases h
    |some q=>
     have a2:=zBG h2
     rw[h2]at h
     simp only at h
     cases h3:zGR q.1 with
     |none=>rw[h3]at h;cases h
     |some t=>
      rw[h3]at h
      simp only at h
      cases h4:zDG T q.2 { c with re:=re,fi:=t } with
      |error e=>rw[h4]at h;cases h
      |ok z=>
       obtain⟨e1,e2,e3⟩:=zLa _ q.2 { c with re:=re,fi:=t } z.1 z.2 a2.2.1 hw ht hct h4
       rw[h4]at h
       simp only at h
       split at h
       ·cases h
       ·rename_i h5
        cases h
        have er:z.1.re=re:=by rw[e1]
        have ef:z.1.fi=t:=by rw[e1]
        refine⟨?_,e2,e3,?_,by rw[ef];exact zJx h3⟩
        ·rw[er,ef];exact e1
        ·rw[er,ef]
         rcases zMQ hr with h6|h6
         ·exact .inl h6
         ·by_cases h7:re=[]
          ·exact .inl h7
          ·refine .inr ⟨h6,?_⟩
           by_cases h8:(zCR re:Int)<zGj t
           ·exact absurd ⟨h7,h8⟩ h5
           ·omega
theorem zLn {c c':Cm} (hi:i≤T.length) (hc:c= { Cm.zero with a:=c.a,b:=c.b,nt:=c.nt,nm:=c.nm,at_:=c.at_ }) (h1:zAw c.a=true) (h2:zAw c.b=true) (h3:zGx c.nt (zEp c.a c.b) (zDC c.nm)=true) (h4: ¬(zEp c.a c.b=1∧c.a.kind=0))
  (h:zCJ ere T i c= .ok (c',j)):c'.shaped=true:=by
 have hz:decide ((Cm.zero).tb=zI8)=true:=decide_eq_true rfl
 have fin: ∀(tx:List Nat) (re:List Nd) (fi:List Pc) (ct:Nat) (al pr wr:Bool) (tb:List Nat),zDX c.nm wr tx=true→(c.nm=121∨tb=zI8)→
   (if c.nm=115 then(re=[]∨(shapedN re=true∧zGj fi≤(zCR re:Int)))∧zAS fi false=true∧ct≤1048576 else re=[]∧fi=[]∧ct=0∧al=false∧pr=false∧wr=false)→
   (Cm.mk c.a c.b c.nt c.nm c.at_ tx re fi ct al pr wr tb).shaped=true:=by
  intro tx re fi ct al pr wr tb g1 g2 g3
  simp only[Cm.shaped,zJJ,h1,h2,h3,g1,Bool.true_and,Bool.and_eq_true,Bool.not_eq_true',Bool.and_eq_false_iff,decide_eq_false_iff_not,decide_eq_true_eq,Bool.and_true]
  refine⟨⟨⟨Classical.not_and_iff_not_or_not.1 h4,by omega⟩,?_⟩,?_⟩
  ·rcases g2 with g2|g2
   ·simp[g2]
   ·simp[g2]
  ·by_cases h5:c.nm=115
   ·rw[if_pos h5]at g3 ⊢
    simp only[Bool.and_eq_true,Bool.or_eq_true,List.isEmpty_iff,decide_eq_true_eq]
    exact⟨⟨g3.1,g3.2.1⟩,by omega,by omega⟩
   ·rw[if_neg h5]at g3 ⊢
    obtain⟨rfl,rfl,rfl,rfl,rfl,rfl⟩:=g3
    rfl
 have ecm: ∀(x:Cm),Cm.mk x.a x.b x.nt x.nm x.at_ x.tx x.re x.fi x.ct x.al x.pr x.wr x.tb=x:=fun x=>rfl
 have hwr:c.wr=false:=by rw[hc];rfl
 have htx:c.tx=[]:=by rw[hc];rfl
 have hre:c.re=[]:=by rw[hc];rfl
 have hfi:c.fi=[]:=by rw[hc];rfl
 have hct:c.ct=0:=by rw[hc];rfl
 have hal:c.al=false:=by rw[hc];rfl
 have hpr:c.pr=false:=by rw[hc];rfl
 have htb:c.tb=zI8:=by rw[hc];rfl
 unfold zCJ at h
 split at h
 ·rename_i h5
  cases h
  rw[←ecm c]
  refine fin _ _ _ _ _ _ _ _ ?_ (.inr htb) ?_
  ·rw[hwr,htx,h5];rfl
  ·rw[if_neg (by omega)];exact⟨hre,hfi,hct,hal,hpr,hwr⟩
 ·rename_i n1
  split at h
  ·rename_i h5
   obtain⟨e,e2,e3,e4,e5⟩:=zJ1 hwr htx (by omega) h
   rw[e]
   refine fin _ _ _ _ _ _ _ _ ?_ (.inr htb) ?_
   ·rw[h5]
    rcases e3 with ⟨g1,g2⟩|⟨g1,g2⟩
    ·rw[g1,g2];rfl
    ·rw[g1]
     simpa [zDX]using g2
   ·rw[if_pos h5];exact⟨e4,e5,e2⟩
  ·rename_i n2
   split at h
   ·rename_i h5
    have e:=zJE h
    rw[e]
    refine fin _ _ _ _ _ _ _ _ ?_ (.inl h5) ?_
    ·rw[hwr,htx,h5];rfl
    ·rw[if_neg (by omega)];exact⟨hre,hfi,hct,hal,hpr,hwr⟩
   ·rename_i n3
    split at h
    ·rename_i h5
     obtain⟨e,e2,e3⟩:=zLP hi h
     rw[e]
     refine fin _ _ _ _ _ _ _ _ ?_ (.inr htb) ?_
     ·rcases h5 with h5|h5|h5
      ·have:=e3 h5
       simp[zDX,h5,e2,this]
      ·simp[zDX,h5,e2]
      ·simp[zDX,h5,e2]
     ·rw[if_neg (by omega)];exact⟨hre,hfi,hct,hal,hpr,hwr⟩
    ·rename_i n4
     split at h
     ·rename_i h5
      obtain⟨e,e2⟩:=zIk h
      rw[e]
      refine fin _ _ _ _ _ _ _ _ ?_ (.inr htb) ?_
      ·rcases h5 with h5|h5
       ·simp[zDX,h5,e2]
       ·simp[zDX,h5,e2]
      ·rw[if_neg (by omega)];exact⟨hre,hfi,hct,hal,hpr,hwr⟩
     ·rename_i n5
      split at h
      ·rename_i h5
       have e:=zNy h
       rw[e]
       refine fin _ _ _ _ _ _ _ _ ?_ (.inr htb) ?_
       ·simp[zDX,h5]
       ·rw[if_neg (by omega)];exact⟨hre,hfi,hct,hal,hpr,hwr⟩
      ·rename_i n6
       have e:=zGK h
       rw[e,←ecm c]
       refine fin _ _ _ _ _ _ _ _ ?_ (.inr htb) ?_
       ·rw[htx]
        unfold zDX
        rw[if_neg (by omega),if_neg (by omega),if_neg (by omega),if_neg (by omega),if_neg (by omega)];rfl
       ·rw[if_neg n2];exact⟨hre,hfi,hct,hal,hpr,hwr⟩
def zQF (T:List Nat) (i:Nat) (c:Cm):Prop:=c.shaped=true∧c.at_<T.length∧T.getD c.at_ 0=c.nm∧c.at_<i
theorem zL9 (d:Nat): ∀(i:Nat) (l L:List Cm),T.length - i≤d→i≤T.length→l.length≤4096→(∀c∈l,zQF T i c)→l.Pairwise (fun x y=>x.at_<y.at_)→zC3 ere T i l= .ok L→
  L.length≤4096∧(∀c∈L,zQF T T.length c)∧L.Pairwise (fun x y=>x.at_<y.at_):=by
 induction d with
 |zero=>
  intro i l L hd hi h0 h1 h2 h
  have:=zA9 zAh T i
  rw[zAs hi,if_pos (by omega)]at h
  cases h
  exact⟨h0,fun c hc=>⟨(h1 c hc).1,(h1 c hc).2.1,(h1 c hc).2.2.1,(h1 c hc).2.1⟩,h2⟩
 |succ d ih=>
  intro i l L hd hi h0 h1 h2 h
  have hs:=zA9 zAh T i
  rw[zAs hi]at h
  generalize zAP zAh T i=q at h hs
  split at h
  ·cases h
   exact⟨h0,fun c hc=>⟨(h1 c hc).1,(h1 c hc).2.1,(h1 c hc).2.2.1,(h1 c hc).2.1⟩,h2⟩
  ·rename_i hq
   have up: ∀z,i≤z→ ∀c∈l,zQF T z c:=fun z hz c hc=>⟨(h1 c hc).1,(h1 c hc).2.1,(h1 c hc).2.2.1,Nat.lt_of_lt_of_le (h1 c hc).2.2.2 hz⟩
   split at h
   ·rename_i h3
    have hr:=zFS (by omega) h3
    exact ih _ l L (by omega) hr.2 h0 (up _ (by omega)) h2 h
   ·unfold zLu at h
    cases hh:zBy ere T q l.length with
    |error e=>rw[hh]at h;cases h
    |ok r=>
     obtain⟨c,k⟩:=r
     have a1:=zDm (by omega) hh
     obtain⟨g0,g1,g2,g3,g4,g5⟩:=zLX (by omega) hh
     rw[hh]at h
     simp only at h a1
     cases hb:zCJ ere T k c with
     |error e=>rw[hb]at h;cases h
     |ok r=>
      obtain⟨c',z⟩:=r
      obtain⟨e1,e2,e3,e4⟩:=zDq (by omega) hb
      have hsh:=zLn (by omega) g1 g2 g3 g4 g5 hb
      rw[hb]at h
      refine ih z _ L (by omega) e4 (by simp;omega) (fun x hx=>?_) ?_ h
      ·rcases List.mem_append.1 hx with hx|hx
       ·exact up z (by omega) x hx
       ·rw[List.mem_singleton]at hx
        subst hx
        exact⟨hsh,by omega,by rw[e2,e1];exact a1.2.2.2,by omega⟩
      ·rw[List.pairwise_append]
       refine⟨h2,List.pairwise_singleton _ _,fun x hx y hy=>?_⟩
       rw[List.mem_singleton]at hy
       subst hy
       have:=(h1 x hx).2.2.2
       omega
theorem zNk {L:List Cm} (h:zCB ere T= .ok L):T.length≤65536∧L.length≤4096∧(∀c∈L,zQF T T.length c)∧L.Pairwise (fun x y=>x.at_<y.at_):=by
 by_cases hl:65536<T.length
 ·unfold zCB at h;rw[if_pos hl]at h;cases h
 ·rw[zD6 (by omega)]at h
  exact⟨by omega,zL9 _ 0 [] L (Nat.le_refl _) (Nat.zero_le _) (by simp) (fun c hc=>by simp at hc) List.Pairwise.nil h⟩
end
end
section
section
variable {T:List Nat} {ere:Bool}
theorem zKY (hT: ∀b∈T,b<256) (i j:Nat): ∀b∈zEF T i j,b<256:=fun b hb=>hT b (List.drop_subset _ _ (List.take_subset _ _ hb))
theorem zL4 {l:List Nat} (hl: ∀b∈l,b<256): ∀b∈zBa l,b<256:=fun b hb=>by
 unfold zBa at hb
 rw[List.mem_reverse]at hb
 exact hl b (List.mem_reverse.1 ((List.dropWhile_suffix _).subset hb))
theorem zEs (hT: ∀b∈T,b<256) (i:Nat):T.getD i 0<256:=by
 by_cases hj:i<T.length
 ·rw[List.getD_eq_getElem?_getD,List.getElem?_eq_getElem hj];exact hT _ (List.getElem_mem hj)
 ·rw[List.getD_eq_getElem?_getD,List.getElem?_eq_none (by omega)];decide
theorem zFz (hT: ∀b∈T,b<256): ∀(n i:Nat) (acc:List Nat) (r:List Nat × Nat),(∀b∈acc,b<256)→zB2 T n i acc=some r→ ∀b∈r.1,b<256
 |0,i,acc,r,ha,h=>by unfold zB2 at h;cases h;exact ha
 |n+1,i,acc,r,ha,h=>by
  have add: ∀k,∀b∈acc++[T.getD k 0],b<256:=fun k b hb=>by
   rcases List.mem_append.1 hb with hb|hb
   ·exact ha b hb
   ·rw[List.mem_singleton]at hb;rw[hb];exact zEs hT k
  unfold zB2 at h
  split at h
  ·cases h;exact ha
  split at h
  ·cases h;exact ha
  split at h
  ·split at h
   ·cases h
   ·exact zFz hT n _ _ r (add _) h
  ·exact zFz hT n _ _ r (add _) h
theorem zIl (hT: ∀b∈T,b<256) {i q:Nat} {c c':Cm} (h:zCl T i c= .ok (c',q)): ∀b∈c'.tx,b<256:=by
 unfold zCl at h
 simp only at h
 split at h
 ·cases h;exact zKY hT _ _
 ·cases h
theorem zGL {i q:Nat} {c c':Cm} (hc: ∀b∈c.tx,b<256) (h:zCf T i c= .ok (c',q)): ∀b∈c'.tx,b<256:=by
 unfold zCf at h
 simp only at h
 split at h
 ·cases h
 ·cases h;exact hc
theorem zD3 (hT: ∀b∈T,b<256): ∀(n i q:Nat) (c c':Cm),(∀b∈c.tx,b<256)→zBb T n i c= .ok (c',q)→ ∀b∈c'.tx,b<256
 |0,i,q,c,c',hc,h=>by unfold zBb at h;cases h;exact hc
 |n+1,i,q,c,c',hc,h=>by
  unfold zBb at h
  simp only at h
  split at h
  ·split at h
   ·cases h
   ·exact zD3 hT n _ _ _ _ (by exact hc) h
  split at h
  ·split at h
   ·cases h
   ·exact zD3 hT n _ _ _ _ (by exact hc) h
  split at h
  ·split at h
   ·cases h
   ·split at h
    ·cases h
    ·exact zD3 hT n _ _ _ _ (by exact hc) h
  split at h
  ·split at h
   ·cases h
   ·exact zIl hT h
  ·exact zGL (by exact hc) h
theorem zJ2 (hT: ∀b∈T,b<256) {i q:Nat} {c c':Cm} (hc: ∀b∈c.tx,b<256) (h:zBT ere T i c= .ok (c',q)): ∀b∈c'.tx,b<256:=by
 unfold zBT at h
 split at h
 ·cases h
 split at h
 ·cases h
 split at h
 ·cases h
 split at h
 ·cases h
 split at h
 ·cases h
 split at h
 ·cases h
 rename_i hf
 split at h
 ·cases h
 ·cases h;exact zD3 hT _ _ _ _ _ (by exact hc) hf
theorem zKw {i q:Nat} {c c':Cm} (hc: ∀b∈c.tx,b<256) (h:zB5 T i c= .ok (c',q)): ∀b∈c'.tx,b<256:=by
 unfold zB5 at h
 split at h
 ·cases h
 split at h
 ·cases h
 split at h
 ·cases h
 split at h
 ·cases h
 ·exact zGL (by exact hc) h
theorem zNF (hT: ∀b∈T,b<256) {i q:Nat} {c c':Cm} (hc: ∀b∈c.tx,b<256) (h:zCJ ere T i c= .ok (c',q)): ∀b∈c'.tx,b<256:=by
 unfold zCJ at h
 split at h
 ·cases h;exact hc
 split at h
 ·exact zJ2 hT hc h
 split at h
 ·exact zKw hc h
 split at h
 ·unfold zCL at h
  simp only at h
  split at h
  ·cases h
  ·cases h;exact zL4 (zKY hT _ _)
 split at h
 ·exact zIl hT h
 split at h
 ·unfold zHr at h
  split at h
  ·cases h
  ·rename_i ht
   cases h
   unfold zDJ at ht
   simp only at ht
   split at ht
   ·cases ht
   ·exact zFz hT _ _ _ _ (fun b hb=>by cases hb) ht
 ·exact zGL (by exact hc) h
theorem zOH {i n k:Nat} {c:Cm} (h:zBy ere T i n= .ok (c,k)):c.tx=[]:=by
 unfold zBy at h
 split at h
 ·cases h
 split at h
 ·cases h
 simp only at h
 split at h
 ·cases h
 split at h
 ·cases h
 split at h
 ·cases h
 ·cases h;rfl
theorem zGZ (hT: ∀b∈T,b<256): ∀(n i:Nat) (l L:List Cm),(∀c∈l,∀b∈c.tx,b<256)→zD8 ere T n i l= .ok L→ ∀c∈L,∀b∈c.tx,b<256
 |0,i,l,L,hl,h=>by unfold zD8 at h;cases h;exact hl
 |n+1,i,l,L,hl,h=>by
  unfold zD8 at h
  simp only at h
  split at h
  ·cases h;exact hl
  split at h
  ·exact zGZ hT n _ _ L hl h
  split at h
  ·cases h
  rename_i hh
  split at h
  ·cases h
  rename_i hb
  refine zGZ hT n _ _ L (fun c hc=>?_) h
  rcases List.mem_append.1 hc with hc|hc
  ·exact hl c hc
  ·rw[List.mem_singleton]at hc
   subst hc
   exact zNF hT (by rw[zOH hh];intro b hb;cases hb) hb
theorem zOX (hT: ∀b∈T,b<256) {L:List Cm} (h:zCB ere T= .ok L): ∀c∈L,∀b∈c.tx,b<256:=by
 unfold zCB at h
 split at h
 ·cases h
 ·exact zGZ hT _ _ _ _ (fun c hc=>by cases hc) h
end
end
section
def zPS:List Nat:=[35,110,10,49,44,36,33,112,59,115,47,97,47,98,47,50,103]
def zPi:List Nat:=[112,59,112,112]
def zP1:Rd (List Cm)→Bool
 | .ok [x,y]=>x.nm==112&&x.nt&&x.at_==7&&y.ct==2&&y.al
 |_=>false
theorem zPR:zP1 (zCB false zPS)=true:=by decide+kernel
theorem zMm: ∃x y,zCB false zPS= .ok [x,y]∧x.nm=112∧x.nt=true∧x.at_=7∧y.ct=2∧y.al=true:=by
 have h:=zPR
 unfold zP1 at h
 split at h
 ·rename_i x y he
  simp only[Bool.and_eq_true,beq_iff_eq]at h
  exact⟨x,y,he,h.1.1.1.1,h.1.1.1.2,h.1.1.2,h.1.2,h.2⟩
 ·cases h
def zOu:Rd (List Cm)→Bool
 | .error (e,p)=>e==78&&p==3
 |_=>false
theorem zOA:zOu (zCB false zPi)=true:=by decide+kernel
theorem zMl:zCB false zPi= .error (78,3):=by
 have h:=zOA
 unfold zOu at h
 split at h
 ·rename_i e p he
  simp only[Bool.and_eq_true,beq_iff_eq]at h
  rw[he,h.1,h.2]
 ·cases h
theorem zLM:zBh zPS=true:=by decide+kernel
end
section
def Fty (T:List Nat) (e:Nat × Nat):Prop:=e.1≠0∧e.2≤T.length
theorem zMi {L:List Mk} {i:Nat} (h:i<L.length):zAH L i∈L:=by
 simp only[zAH,List.getD_eq_getElem?_getD,List.getElem?_eq_getElem h,Option.getD_some]
 exact List.getElem_mem h
section
variable {T:List Nat} {i j:Nat} {ere:Bool} {e:Nat × Nat}
theorem zNN (hi:i≤T.length) (h:zEG ere T i= .error e):Fty T e:=by
 unfold zEG at h
 simp only at h
 split at h
 ·rename_i h0;cases h;exact⟨h0,hi⟩
 ·cases h
theorem zPB {a:Ad} (h:zF6 ere T a i= .error e):Fty T e:=by
 unfold zF6 at h
 split at h
 ·cases h
 ·cases hc:zBc T 44 i with
  |none=>rw[hc]at h;cases h
  |some k=>
   have hk:=zD5 hc
   rw[hc]at h
   simp only at h
   cases ha:zEG ere T k with
   |error e=>rw[ha]at h;cases h;exact zNN hk.2.2 ha
   |ok p=>
    rw[ha]at h
    simp only at h
    split at h
    ·cases h;exact⟨Nat.succ_ne_zero _,hk.2.2⟩
    ·cases h
theorem zOG {n:Nat} (hi:i≤T.length) (h:zBy ere T i n= .error e):Fty T e:=by
 unfold zBy at h
 cases ha:zEG ere T i with
 |error e=>rw[ha]at h;cases h;exact zNN hi ha
 |ok p=>
  have h1:=zJ7 (Jn.of T []) hi ha
  rw[ha]at h
  simp only at h
  cases hs:zF6 ere T p.1 p.2 with
  |error e=>rw[hs]at h;cases h;exact zPB hs
  |ok s=>
   have h2:=zMK (Jn.of T []) h1.2.2 hs
   have h3:=zJg (T:=T) (T.length+1 - s.2.2) s.2.2 false h2.2.2
   rw[hs]at h
   simp only at h
   cases hm:zDC (T.getD (zFd T s.2.2).1 0)with
   |none=>rw[hm]at h;cases h;exact⟨Nat.succ_ne_zero _,h3.2⟩
   |some most=>
    rw[hm]at h
    simp only at h
    split at h
    ·cases h;exact⟨Nat.succ_ne_zero _,h3.2⟩
    ·split at h
     ·cases h;exact⟨Nat.succ_ne_zero _,h3.2⟩
     ·cases h
theorem zHg {c:Cm} (hi:i≤T.length) (h:zCf T i c= .error e):Fty T e:=by
 unfold zCf at h
 simp only at h
 split at h
 ·rename_i h0;cases h;exact⟨h0,(zOz hi).2⟩
 ·cases h
theorem zKT {c:Cm} (hc:c.at_≤T.length) (h:zCl T i c= .error e):Fty T e:=by
 unfold zCl at h
 simp only at h
 split at h
 ·cases h
 ·cases h;exact⟨Nat.succ_ne_zero _,hc⟩
theorem zMo {c:Cm} (hc:c.at_≤T.length) (h:zCL T i c= .error e):Fty T e:=by
 unfold zCL at h
 simp only at h
 split at h
 ·cases h;exact⟨Nat.succ_ne_zero _,hc⟩
 ·cases h
theorem zPE {c:Cm} (hc:c.at_≤T.length) (h:zHr T i c= .error e):Fty T e:=by
 unfold zHr at h
 cases ht:zDJ T i with
 |none=>rw[ht]at h;cases h;exact⟨Nat.succ_ne_zero _,hc⟩
 |some r=>rw[ht]at h;cases h
theorem zKy {c:Cm} (hc:c.at_≤T.length) (h:zB5 T i c= .error e):Fty T e:=by
 unfold zB5 at h
 split at h
 ·cases h;exact⟨Nat.succ_ne_zero _,hc⟩
 ·cases h1:zAu T (T.getD i 0) false (i+1)with
  |none=>rw[h1]at h;cases h;exact⟨Nat.succ_ne_zero _,hc⟩
  |some r=>
   rw[h1]at h
   simp only at h
   cases h2:zAu T (T.getD i 0) false r.2 with
   |none=>rw[h2]at h;cases h;exact⟨Nat.succ_ne_zero _,hc⟩
   |some q=>
    have a2:=zBG h2
    rw[h2]at h
    simp only at h
    cases h3:zD9 r.1 q.1 with
    |none=>rw[h3]at h;cases h;exact⟨Nat.succ_ne_zero _,hc⟩
    |some t=>
     rw[h3]at h
     exact zHg a2.2.1 h
theorem zMz (n:Nat): ∀(i:Nat) (c:Cm),i≤T.length→c.at_≤T.length→zBb T n i c= .error e→Fty T e:=by
 induction n with
 |zero=>intro i c hi hc h;cases h
 |succ n ih=>
  intro i c hi hc h
  rw[zB9]at h
  have hlt: ∀b,T.getD i 0=b→b≠0→i<T.length:=fun b hb h0=>by
   by_cases hlt:i<T.length
   ·exact hlt
   ·rw[List.getD_eq_getElem?_getD,List.getElem?_eq_none (by omega)]at hb
    exact absurd hb.symm h0
  split at h
  ·rename_i h4
   have:=hlt _ h4 (by decide)
   unfold zHl at h
   split at h
   ·cases h;exact⟨Nat.succ_ne_zero _,hc⟩
   ·exact ih (i+1) _ (by omega) (by exact hc) h
  ·split at h
   ·rename_i h4
    have:=hlt _ h4 (by decide)
    unfold zHk at h
    split at h
    ·cases h;exact⟨Nat.succ_ne_zero _,hc⟩
    ·exact ih (i+1) _ (by omega) (by exact hc) h
   ·split at h
    ·cases hq:zFD T 1048576 i with
     |none=>rw[hq]at h;cases h;exact⟨Nat.succ_ne_zero _,hc⟩
     |some r=>
      have hat:=zEV hq hi
      rw[hq]at h
      unfold zHm at h
      simp only at h
      split at h
      ·cases h;exact⟨Nat.succ_ne_zero _,hc⟩
      ·exact ih r.2 _ hat.2.1 (by exact hc) h
    ·split at h
     ·unfold zHj at h
      split at h
      ·cases h;exact⟨Nat.succ_ne_zero _,hc⟩
      ·exact zKT (c:= { c with wr:=true }) hc h
     ·exact zHg hi h
theorem zLj (hT: ∀j,T.getD j 0<256) {c:Cm} (hc:c.at_≤T.length) (h:zBT ere T i c= .error e):Fty T e:=by
 unfold zBT at h
 split at h
 ·cases h;exact⟨Nat.succ_ne_zero _,hc⟩
 ·cases h1:zAu T (T.getD i 0) false (i+1)with
  |none=>rw[h1]at h;cases h;exact⟨Nat.succ_ne_zero _,hc⟩
  |some r=>
   have hu:=zHT (hT i) hT h1
   rw[h1]at h
   simp only at h
   cases hr:reS ere r.1 c with
   |error e=>
    rw[hr]at h
    cases h
    unfold reS at hr
    split at hr
    ·cases hr
    ·cases hp:zAz ere r.1 with
     |error q=>
      rw[hp]at hr
      cases hr
      exact⟨(zD1 (fun i hi=>hu _ (zMi hi)) hp).1,hc⟩
     |ok re=>rw[hp]at hr;cases hr
   |ok re=>
    rw[hr]at h
    simp only at h
    cases h2:zAu T (T.getD i 0) true r.2 with
    |none=>rw[h2]at h;cases h;exact⟨Nat.succ_ne_zero _,hc⟩
    |some q=>
     have a2:=zBG h2
     rw[h2]at h
     simp only at h
     cases h3:zGR q.1 with
     |none=>rw[h3]at h;cases h;exact⟨Nat.succ_ne_zero _,hc⟩
     |some t=>
      rw[h3]at h
      simp only at h
      cases h4:zDG T q.2 { c with re:=re,fi:=t } with
      |error e=>rw[h4]at h;cases h;exact zMz _ q.2 _ a2.2.1 (by exact hc) h4
      |ok z=>
       rw[h4]at h
       simp only at h
       split at h
       ·cases h;exact⟨Nat.succ_ne_zero _,hc⟩
       ·cases h
theorem zOd (hT: ∀j,T.getD j 0<256) {c:Cm} (hi:i≤T.length) (hc:c.at_≤T.length) (h:zCJ ere T i c= .error e):Fty T e:=by
 unfold zCJ at h
 split at h
 ·cases h
 ·split at h
  ·exact zLj hT hc h
  ·split at h
   ·exact zKy hc h
   ·split at h
    ·exact zMo hc h
    ·split at h
     ·exact zKT hc h
     ·split at h
      ·exact zPE hc h
      ·exact zHg hi h
theorem zPc (hT: ∀j,T.getD j 0<256) (d:Nat): ∀(i:Nat) (l:List Cm),T.length - i≤d→i≤T.length→zC3 ere T i l= .error e→Fty T e:=by
 induction d with
 |zero=>
  intro i l hd hi h
  have:=zA9 zAh T i
  rw[zAs hi,if_pos (by omega)]at h
  cases h
 |succ d ih=>
  intro i l hd hi h
  have hs:=zA9 zAh T i
  rw[zAs hi]at h
  generalize zAP zAh T i=q at h hs
  split at h
  ·cases h
  ·rename_i hq
   split at h
   ·rename_i h3
    have hr:=zFS (by omega) h3
    exact ih _ l (by omega) hr.2 h
   ·unfold zLu at h
    cases hh:zBy ere T q l.length with
    |error e=>rw[hh]at h;cases h;exact zOG (by omega) hh
    |ok r=>
     obtain⟨c,k⟩:=r
     have a1:=zDm (by omega) hh
     rw[hh]at h
     simp only at h a1
     cases hb:zCJ ere T k c with
     |error e=>rw[hb]at h;cases h;exact zOd hT (by omega) (by omega) hb
     |ok r=>
      obtain⟨c',z⟩:=r
      obtain⟨_,_,e3,e4⟩:=zDq (by omega) hb
      rw[hb]at h
      exact ih z _ (by omega) e4 h
theorem zFp (hT: ∀j,T.getD j 0<256) (h:zCB ere T= .error e):Fty T e:=by
 by_cases hl:65536<T.length
 ·unfold zCB at h;rw[if_pos hl]at h;cases h;exact⟨Nat.succ_ne_zero _,by show 65536≤_;omega⟩
 ·rw[zD6 (by omega)]at h
  exact zPc hT _ 0 [] (Nat.le_refl _) (Nat.zero_le _) h
end
end
end Go.Proofs.YtmaagpbjahjmhaaGreatDoor
