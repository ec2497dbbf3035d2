/- Parts: Ro Fa Va Vg Vb Vc Rp Pa Vd Fea Ve Ya. -/
import Derived.Test.YtmaagpbjahjmhaaGreatDoorQ11
import Derived.Test.YtmaagpbjahjmhaaGreatDoorQ12
import Derived.Test.YtmaagpbjahjmhaaGreatDoorQ6
import Derived.Test.YtmaagpbjahjmhaaGreatDoorQ1
set_option maxHeartbeats 1600000
set_option maxRecDepth 100000
namespace Go.Proofs.YtmaagpbjahjmhaaGreatDoor
section
open Go.RowKit
def zPk (re:List Nd) (p:Nat):Prop:= ∃x,re[p]?=some x∧zAf x=true∧x.kids≤re.length
theorem zDb {re:List Nd} {g:Nat→List Bool→Option (Nat × List Bool)} (hg: ∀i en r,g i en=some r→i<r.1∧r.1≤re.length∧ ∀p,i≤p→p<r.1→zPk re p):
  ∀(k i:Nat) (en:List Bool) (r:Nat × List Bool),i≤re.length→zA2 g k i en=some r→i+k≤r.1∧r.1≤re.length∧ ∀p,i≤p→p<r.1→zPk re p
 |0,i,en,r,hi,h=>by simp only[zA2,Option.some.injEq]at h;subst h;exact⟨zQt _,hi,fun p h1 h2=>by simp only at h2;omega⟩
 |k+1,i,en,r,hi,h=>by
  unfold zA2 at h
  split at h
  ·cases h
  ·rename_i j en1 h1
   have h2:=hg _ _ _ h1
   simp only at h2
   have h3:=zDb hg k _ _ _ h2.2.1 h
   refine⟨by omega,h3.2.1,fun p hp1 hp2=>?_⟩
   by_cases hj:p<j
   ·exact h2.2.2 p hp1 hj
   ·exact h3.2.2 p (by omega) hp2
theorem zC6 (re:List Nd): ∀(f g i:Nat) (en:List Bool) (r:Nat × List Bool),zAZ re f g i en=some r→i<r.1∧r.1≤re.length∧ ∀p,i≤p→p<r.1→zPk re p
 |0,_,_,_,_,h=>by simp[zAZ]at h
 |f+1,g,i,en,r,h=>by
  unfold zAZ at h
  split at h
  ·cases h
  ·rename_i n hn
   split at h
   ·cases h
   ·rename_i hgd
    have hgd':zAf n=true:=by simpa using hgd
    have hi:i<re.length:=(zQy.1 hn).1
    have fin: ∀(g':Nat) (en1:List Bool) (r1:Nat × List Bool),zA2 (zAZ re f g') n.kids.toNat (i+1) en1=some r1→i<r1.1∧r1.1≤re.length∧ ∀p,i≤p→p<r1.1→zPk re p:=fun g' en1 r1 hk=>by
     have h1:=zDb (re:=re) (fun i en r=>zC6 re f g' i en r) _ _ _ _ (by omega) hk
     refine⟨by have:=h1.1;omega,h1.2.1,fun p hp1 hp2=>?_⟩
     by_cases he:p=i
     ·subst he
      exact⟨n,hn,hgd',by have:=h1.1;have:=h1.2.1;omega⟩
     ·exact h1.2.2 p (by omega) hp2
    split at h
    ·cases h
    ·split at h
     ·split at h
      ·cases h
      ·split at h
       ·cases h
       ·rename_i hk
        cases h
        have:=fin _ _ _ hk
        exact this
     ·exact fin _ _ _ h
theorem zET {re:List Nd} (h: ∀p,p<re.length→zPk re p):zLk re∧ ∀x∈re,x.kids≤re.length:=by
 have all: ∀x∈re,zAf x=true∧x.kids≤re.length:=fun x hx=>by
  obtain⟨p,hp⟩:=List.mem_iff_getElem?.1 hx
  obtain⟨y,hy,hg⟩:=h p (zQy.1 hp).1
  rw[hp]at hy;cases hy;exact hg
 refine⟨fun x hx h6=>?_,fun x hx=>(all x hx).2⟩
 have:=(all x hx).1
 simp only[zAf,h6,if_true,Bool.and_eq_true,decide_eq_true_eq,Bool.or_eq_true,beq_iff_eq]at this
 omega
def zBN (ere:Bool) (L:List Mk):Except (Nat × Nat) (List Nd):=
 if 4096<L.length then .error (2,4096)
 else if L.length=0 then .error (45,0)
 else match zBt ere L 64 ⟨0,[]⟩with
  | .no e i=> .error (e,i)
  | .ok re _=>match zBc re 260 0 with
   |some (w,_)=>if 16384<w then .error (48,L.length)else .ok re
   |none=> .error (0,0)
end
section
structure Ad where
 kind:Int
 n:Int
 re:List Nd
def Ad.zero:Ad:=⟨0,0,[]⟩
def zCE (ere:Bool) (T:List Nat) (i:Nat):Ad × Nat × Nat:=
 if T.length≤i then(Ad.zero,0,i)
 else
  let b:=T.getD i 0
  if 48≤b∧b≤57 then
   match zHg T 2147483647 i with
   |none=>(Ad.zero,71,i)
   |some (v,j)=>if v=0 then(Ad.zero,71,j)else(⟨1,v,[]⟩,0,j)
  else if b=36 then(⟨2,0,[]⟩,0,i+1)
  else if b=92∧T.length≤i+1 then(Ad.zero,70,i+1)
  else if b=47∨b=92 then
   let k:=if b=92 then i+1 else i
   match zBf T (T.getD k 0) false (k+1)with
   |none=>(Ad.zero,70,k+1)
   |some (l,j)=>
    if l=[]then(⟨3,0,[]⟩,0,j)
    else match zBN ere l with
     | .error e=>(Ad.zero,e.1,j)
     | .ok re=>(⟨3,0,re⟩,0,j)
  else(Ad.zero,0,i)
theorem zOV {ere:Bool} {T:List Nat} {i:Nat} (hi:i≤T.length):i≤(zCE ere T i).2.2∧(zCE ere T i).2.2≤T.length:=by
 unfold zCE
 split
 ·simp only;omega
 ·simp only
  split
  ·split
   ·simp only;omega
   ·rename_i v j h
    have:=zJd h hi
    simp only at this
    split<;>simp only<;>omega
  ·split
   ·simp only;omega
   ·split
    ·simp only;omega
    ·rename_i h1
     split
     ·split
      ·simp only
       split<;>omega
      ·rename_i l j h
       have:=zBr h
       simp only at this
       have hk:i≤(if T.getD i 0=92 then i+1 else i):=by split<;>omega
       split
       ·simp only;omega
       ·split<;>simp only<;>omega
     ·simp only;omega
end
section
def zNa (p:Nat→Bool) (T:List Nat):Nat→Nat→Nat
 |0,i=>i
 |n+1,i=>if i<T.length∧p (T.getD i 0)=true then zNa p T n (i+1)else i
def zAk (p:Nat→Bool) (T:List Nat) (i:Nat):Nat:=zNa p T (T.length - i) i
def zAL (b:Nat):Bool:=b==32||b==9
def zCD (b:Nat):Bool:=b==32||b==9||b==59||b==10
def zAw (b:Nat):Bool:=b !=10
def zDZ (T:List Nat) (i:Nat):Nat:=zAk zAw T i
def zIs (T:List Nat) (i j:Nat):List Nat:=(T.drop i).take (j - i)
def zHd (T:List Nat) (i:Nat):Nat × Nat:=
 let j:=zAk zAL T i
 if T.length≤j∨T.getD j 0=125∨T.getD j 0=35 then(0,j)
 else if T.getD j 0=59∨T.getD j 0=10 then(0,j+1)
 else(78,j)
def zCa (T:List Nat):Nat→Nat→List Nat→Option (List Nat × Nat)
 |0,i,acc=>some (acc,i)
 |n+1,i,acc=>
  if T.length≤i then some (acc,i)
  else if T.getD i 0=10 then some (acc,i+1)
  else if T.getD i 0=92 then
   if T.length≤i+1 then none else zCa T n (i+2) (acc++[T.getD (i+1) 0])
  else zCa T n (i+1) (acc++[T.getD i 0])
def zHn (T:List Nat) (i:Nat):Option (List Nat × Nat):=
 let j:=zAk zAL T i
 if T.length<j+3∨T.getD j 0≠92∨T.getD (j+1) 0≠10 then none else zCa T (T.length - (j+2)) (j+2) []
def zEw:List Mk→Bool→List Nat→Option (List Nat)
 |[],e,acc=>if e then none else some acc
 |m::l,true,acc=>if m.p=false∧m.b=110 then zEw l false (acc++[10])else if m.p=true∨m.b≠92 then none else zEw l false (acc++[m.b])
 |m::l,false,acc=>if m.p=false∧m.b=92 then zEw l true acc else zEw l false (acc++[m.b])
def zJF (l:List Mk):Option (List Nat):=zEw l false []
def zBd:List Nat:=List.range 256
def zPR:List Nat→List Nat→List Nat→List Nat→Option (List Nat)
 |[],_,_,t=>some t
 |b::l,u,s,t=>if b∈s then none else zPR l (u.drop 1) (s++[b]) (t.set b (u.getD 0 0))
def zP2 (f t:List Nat):Option (List Nat):=if f.length=t.length then zPR f t [] zBd else none
def zGe (l m:List Mk):Option (List Nat):=match zJF l,zJF m with
 |some f,some t=>zP2 f t
 |_,_=>none
structure Pc where
 k:Int
 t:List Nat
deriving DecidableEq
def zJ3 (p:List Pc) (b:Nat):List Pc:=match p.getLast? with
 |some x=>if x.k= -1 then p.dropLast++[⟨-1,x.t++[b]⟩]else p++[⟨-1,[b]⟩]
 |none=>p++[⟨-1,[b]⟩]
def zCS:List Mk→Bool→List Pc→Option (List Pc)
 |[],e,p=>if e then none else some p
 |m::l,true,p=>if m.p=false∧49≤m.b∧m.b≤57 then zCS l false (p++[⟨(m.b:Int) - 48,[]⟩])else if m.p=false∧m.b=110 then zCS l false (zJ3 p 10)else zCS l false (zJ3 p m.b)
 |m::l,false,p=>if m.p=true then zCS l false (zJ3 p m.b)else if m.b=38 then zCS l false (p++[⟨0,[]⟩])else if m.b=92 then zCS l true p else zCS l false (zJ3 p m.b)
def zLW (l:List Mk):Option (List Pc):=zCS l false []
def zEf (p:List Pc):Int:=p.foldl (fun n x=>max n x.k) 0
structure Cm where
 a:Ad
 b:Ad
 nt:Bool
 nm:Nat
 at_:Nat
 tx:List Nat
 re:List Nd
 fi:List Pc
 ct:Nat
 al:Bool
 pr:Bool
 wr:Bool
 tb:List Nat
def Cm.zero:Cm:=⟨Ad.zero,Ad.zero,false,0,0,[],[],[],0,false,false,false,List.replicate 256 0⟩
abbrev Rd (α:Type):Type:=Except (Nat × Nat) α
def zCd (b:Nat):Option Nat:=
 if b∈[125,58]then some 0
 else if b∈[61,97,105,113,114]then some 1
 else if b∈[123,98,99,100,68,103,71,104,72,108,110,78,112,80,115,116,119,120,121]then some 2
 else none
def zI0 (ere:Bool) (T:List Nat) (i:Nat):Rd (Ad × Nat):=
 let r:=zCE ere T i
 if r.2.1≠0 then .error (r.2.1,i)else .ok (r.1,if r.1.kind≠0 then zAk zAL T r.2.2 else r.2.2)
def zCF (T:List Nat) (c i:Nat):Option Nat:=if i<T.length∧T.getD i 0=c then some (zAk zAL T (i+1))else none
def zL9 (ere:Bool) (T:List Nat) (a:Ad) (i:Nat):Rd (Ad × Nat × Nat):=
 if a.kind=0 then .ok (Ad.zero,0,i)
 else match zCF T 44 i with
  |none=> .ok (Ad.zero,1,i)
  |some k=>match zI0 ere T k with
   | .error e=> .error e
   | .ok (b,j)=>if b.kind=0 then .error (71,k)else .ok (b,2,j)
def zLm (T:List Nat):Nat→Nat→Bool→Nat × Bool
 |0,i,nt=>(i,nt)
 |n+1,i,nt=>match zCF T 33 i with
  |none=>(i,nt)
  |some k=>zLm T n k true
def zIM (T:List Nat) (i:Nat):Nat × Bool:=zLm T (T.length+1 - i) i false
def zNT (T:List Nat) (i:Nat):Nat:=if i<T.length then i+1 else i
def zEi (ere:Bool) (T:List Nat) (i n:Nat):Rd (Cm × Nat):=
 match zI0 ere T i with
 | .error e=> .error e
 | .ok (a,j)=>match zL9 ere T a j with
  | .error e=> .error e
  | .ok (b,many,k)=>
   let q:=zIM T k
   let nm:=T.getD q.1 0
   match zCd nm with
   |none=> .error (72,q.1)
   |some most=>
    if most<many∨most=0∧q.2=true then .error (71,q.1)
    else if 4096≤n then .error (2,q.1)
    else .ok ({ Cm.zero with a:=a,b:=b,nt:=q.2,nm:=nm,at_:=q.1 },zNT T q.1)
def zBw (l:List Nat):List Nat:=(l.reverse.dropWhile zAL).reverse
def zBS (l:List Nat):Bool:=decide (1≤l.length∧l.length≤64)&&l.all (fun b=>b !=0&&b !=10&&b !=47)&& !(zAL (l.getD 0 0))
def zGx (T:List Nat) (i:Nat) (c:Cm):Rd (Cm × Nat):=
 let j:=zAk zAL T i
 let t:=zBw (zIs T j (zDZ T j))
 if c.nm=58∧t=[]then .error (75,c.at_)else .ok ({ c with tx:=t },zDZ T j)
def zGW (T:List Nat) (i:Nat) (c:Cm):Rd (Cm × Nat):=
 let j:=zAk zAL T i
 let t:=zIs T j (zDZ T j)
 if zBS t then .ok ({ c with tx:=t },zDZ T j)else .error (77,c.at_)
def zGA (T:List Nat) (i:Nat) (c:Cm):Rd (Cm × Nat):=let r:=zHd T i;if r.1≠0 then .error r else .ok (c,r.2)
def zPS (T:List Nat) (i:Nat) (c:Cm):Rd (Cm × Nat):=match zHn T i with
 |none=> .error (73,c.at_)
 |some (t,j)=> .ok ({ c with tx:=t },j)
def zGd (T:List Nat) (i:Nat) (c:Cm):Rd (Cm × Nat):=
 if T.length≤i then .error (70,c.at_)
 else match zBf T (T.getD i 0) false (i+1)with
  |none=> .error (70,c.at_)
  |some (l,j)=>match zBf T (T.getD i 0) false j with
   |none=> .error (70,c.at_)
   |some (m,k)=>match zGe l m with
    |none=> .error (60,c.at_)
    |some t=>zGA T k { c with tb:=t }
def zDB (T:List Nat):Nat→Nat→Cm→Rd (Cm × Nat)
 |0,i,c=> .ok (c,i)
 |n+1,i,c=>
  let b:=T.getD i 0
  if b=103 then if c.al=true then .error (74,c.at_)else zDB T n (i+1) { c with al:=true }
  else if b=112 then if c.pr=true then .error (74,c.at_)else zDB T n (i+1) { c with pr:=true }
  else if 48≤b∧b≤57 then match zHg T 1048576 i with
   |none=> .error (74,c.at_)
   |some (v,j)=>if c.ct≠0∨v=0 then .error (74,c.at_)else zDB T n j { c with ct:=v }
  else if b=119 then if c.wr=true then .error (74,c.at_)else zGW T (i+1) { c with wr:=true }
  else zGA T i c
def zIm (T:List Nat) (i:Nat) (c:Cm):Rd (Cm × Nat):=zDB T (T.length+1 - i) i c
def reS (ere:Bool) (l:List Mk) (c:Cm):Rd (List Nd):=
 if l=[]then .ok []else match zBN ere l with
  | .error e=> .error (e.1,c.at_)
  | .ok re=> .ok re
def zFE (ere:Bool) (T:List Nat) (i:Nat) (c:Cm):Rd (Cm × Nat):=
 if T.length≤i then .error (70,c.at_)
 else match zBf T (T.getD i 0) false (i+1)with
  |none=> .error (70,c.at_)
  |some (l,j)=>match reS ere l c with
   | .error e=> .error e
   | .ok re=>match zBf T (T.getD i 0) true j with
    |none=> .error (70,c.at_)
    |some (m,k)=>match zLW m with
     |none=> .error (61,c.at_)
     |some p=>match zIm T k { c with re:=re,fi:=p } with
      | .error e=> .error e
      | .ok (c',q)=>if re≠[]∧(zBH re:Int)<zEf p then .error (44,c.at_)else .ok (c',q)
def zIv (ere:Bool) (T:List Nat) (i:Nat) (c:Cm):Rd (Cm × Nat):=
 if c.nm=123 then .ok (c,i)
 else if c.nm=115 then zFE ere T i c
 else if c.nm=121 then zGd T i c
 else if c.nm=58∨c.nm=98∨c.nm=116 then zGx T i c
 else if c.nm=114∨c.nm=119 then zGW T i c
 else if c.nm=97∨c.nm=99∨c.nm=105 then zPS T i c
 else zGA T i c
def zGZ (ere:Bool) (T:List Nat):Nat→Nat→List Cm→Rd (List Cm)
 |0,_,l=> .ok l
 |n+1,i,l=>
  let j:=zAk zCD T i
  if T.length≤j then .ok l
  else if T.getD j 0=35 then zGZ ere T n (zDZ T j) l
  else match zEi ere T j l.length with
   | .error e=> .error e
   | .ok (c,k)=>match zIv ere T k c with
    | .error e=> .error e
    | .ok (c',q)=>zGZ ere T n q (l++[c'])
def zFV (ere:Bool) (T:List Nat):Rd (List Cm):=if 65536<T.length then .error (2,65536)else zGZ ere T (T.length+1) 0 []
def zDN (T:List Nat):Bool:=T.take (zDZ T 0)==[35,110]
end
section
open Go.RowKit
section
variable {w:World} {sb:Nat} {b:Nat}
theorem zKn (hc:w.cell? ⟨sb,0,none⟩=some (.string ⟨#[32,9]⟩)) (hb:b<256):
  Calls Tryz.prog 96 #[.int .i32 (b:Nat),.pointer (some ⟨sb,0,none⟩)] w fun e w'=>e= .returned (.bool (zAL b))∧Below w.heap.size w w':=by
 have n0: ∀ty,(Instr.next (.pointer (some ⟨w.heap.size,0,none⟩)) true ty).run Tryz.prog (w.iter ⟨#[32,9]⟩ 0)= .ok (.tuple #[.bool true,.int .i64 0,.int .i32 32]) (w.iter ⟨#[32,9]⟩ 1):=fun ty=>run_next_ascii w ⟨#[32,9]⟩ 0 ty (by decide) (by decide)
 have n1: ∀ty,(Instr.next (.pointer (some ⟨w.heap.size,0,none⟩)) true ty).run Tryz.prog (w.iter ⟨#[32,9]⟩ 1)= .ok (.tuple #[.bool true,.int .i64 1,.int .i32 9]) (w.iter ⟨#[32,9]⟩ 2):=fun ty=>run_next_ascii w ⟨#[32,9]⟩ 1 ty (by decide) (by decide)
 have nn: ∀ty,(Instr.next (.pointer (some ⟨w.heap.size,0,none⟩)) true ty).run Tryz.prog (w.iter ⟨#[32,9]⟩ 2)= .ok (.tuple #[.bool false]) (w.iter ⟨#[32,9]⟩ 2):=fun ty=>run_next_end w ⟨#[32,9]⟩ 2 ty (by decide)
 have HB: ∀k,Below w.heap.size w (w.iter ⟨#[32,9]⟩ k):=fun k=>(zQs _ _).alloc (zQt _) _
 have HBH:=zQr HB
 clear HB
 by_cases h0:b=32
 ·subst h0
  go_enter Tryz.func96,Tryz.ntmps96
  go_wp2_with fail
  refine wp_loop_rounds 1 ?_
  rw[rounds_succ]
  go_wp2_with fail
  go_ret
  exact⟨rfl,HBH.out _⟩
 by_cases h1:b=9
 ·subst h1
  go_enter Tryz.func96,Tryz.ntmps96
  go_wp2_with fail
  refine wp_loop_rounds 2 ?_
  rw[rounds_succ]
  go_wp2_with fail
  rw[rounds_succ]
  go_wp2_with fail
  go_ret
  exact⟨rfl,HBH.out _⟩
 have q0:((32:Int)==(b:Int))=false:=zQx.2 (by omega)
 have q1:((9:Int)==(b:Int))=false:=zQx.2 (by omega)
 have hp:zAL b=false:=by simp[zAL,h0,h1]
 have HP:=zQr hp
 clear hp h0 h1
 go_enter Tryz.func96,Tryz.ntmps96
 go_wp2_with fail
 refine wp_loop_rounds 3 ?_
 rw[rounds_succ]
 go_wp2_with fail
 rw[rounds_succ]
 go_wp2_with fail
 rw[rounds_succ]
 go_wp2_with fail
 go_ret
 exact⟨by rw[HP.out];rfl,HBH.out _⟩
theorem zNR (hc:w.cell? ⟨sb,0,none⟩=some (.string ⟨#[32,9,59,10]⟩)) (hb:b<256):
  Calls Tryz.prog 96 #[.int .i32 (b:Nat),.pointer (some ⟨sb,0,none⟩)] w fun e w'=>e= .returned (.bool (zCD b))∧Below w.heap.size w w':=by
 have n0: ∀ty,(Instr.next (.pointer (some ⟨w.heap.size,0,none⟩)) true ty).run Tryz.prog (w.iter ⟨#[32,9,59,10]⟩ 0)= .ok (.tuple #[.bool true,.int .i64 0,.int .i32 32]) (w.iter ⟨#[32,9,59,10]⟩ 1):=fun ty=>run_next_ascii w ⟨#[32,9,59,10]⟩ 0 ty (by decide) (by decide)
 have n1: ∀ty,(Instr.next (.pointer (some ⟨w.heap.size,0,none⟩)) true ty).run Tryz.prog (w.iter ⟨#[32,9,59,10]⟩ 1)= .ok (.tuple #[.bool true,.int .i64 1,.int .i32 9]) (w.iter ⟨#[32,9,59,10]⟩ 2):=fun ty=>run_next_ascii w ⟨#[32,9,59,10]⟩ 1 ty (by decide) (by decide)
 have n2: ∀ty,(Instr.next (.pointer (some ⟨w.heap.size,0,none⟩)) true ty).run Tryz.prog (w.iter ⟨#[32,9,59,10]⟩ 2)= .ok (.tuple #[.bool true,.int .i64 2,.int .i32 59]) (w.iter ⟨#[32,9,59,10]⟩ 3):=fun ty=>run_next_ascii w ⟨#[32,9,59,10]⟩ 2 ty (by decide) (by decide)
 have n3: ∀ty,(Instr.next (.pointer (some ⟨w.heap.size,0,none⟩)) true ty).run Tryz.prog (w.iter ⟨#[32,9,59,10]⟩ 3)= .ok (.tuple #[.bool true,.int .i64 3,.int .i32 10]) (w.iter ⟨#[32,9,59,10]⟩ 4):=fun ty=>run_next_ascii w ⟨#[32,9,59,10]⟩ 3 ty (by decide) (by decide)
 have nn: ∀ty,(Instr.next (.pointer (some ⟨w.heap.size,0,none⟩)) true ty).run Tryz.prog (w.iter ⟨#[32,9,59,10]⟩ 4)= .ok (.tuple #[.bool false]) (w.iter ⟨#[32,9,59,10]⟩ 4):=fun ty=>run_next_end w ⟨#[32,9,59,10]⟩ 4 ty (by decide)
 have HB: ∀k,Below w.heap.size w (w.iter ⟨#[32,9,59,10]⟩ k):=fun k=>(zQs _ _).alloc (zQt _) _
 have HBH:=zQr HB
 clear HB
 by_cases h0:b=32
 ·subst h0
  go_enter Tryz.func96,Tryz.ntmps96
  go_wp2_with fail
  refine wp_loop_rounds 1 ?_
  rw[rounds_succ]
  go_wp2_with fail
  go_ret
  exact⟨rfl,HBH.out _⟩
 by_cases h1:b=9
 ·subst h1
  go_enter Tryz.func96,Tryz.ntmps96
  go_wp2_with fail
  refine wp_loop_rounds 2 ?_
  rw[rounds_succ]
  go_wp2_with fail
  rw[rounds_succ]
  go_wp2_with fail
  go_ret
  exact⟨rfl,HBH.out _⟩
 by_cases h2:b=59
 ·subst h2
  go_enter Tryz.func96,Tryz.ntmps96
  go_wp2_with fail
  refine wp_loop_rounds 3 ?_
  rw[rounds_succ]
  go_wp2_with fail
  rw[rounds_succ]
  go_wp2_with fail
  rw[rounds_succ]
  go_wp2_with fail
  go_ret
  exact⟨rfl,HBH.out _⟩
 by_cases h3:b=10
 ·subst h3
  go_enter Tryz.func96,Tryz.ntmps96
  go_wp2_with fail
  refine wp_loop_rounds 4 ?_
  rw[rounds_succ]
  go_wp2_with fail
  rw[rounds_succ]
  go_wp2_with fail
  rw[rounds_succ]
  go_wp2_with fail
  rw[rounds_succ]
  go_wp2_with fail
  go_ret
  exact⟨rfl,HBH.out _⟩
 have q0:((32:Int)==(b:Int))=false:=zQx.2 (by omega)
 have q1:((9:Int)==(b:Int))=false:=zQx.2 (by omega)
 have q2:((59:Int)==(b:Int))=false:=zQx.2 (by omega)
 have q3:((10:Int)==(b:Int))=false:=zQx.2 (by omega)
 have hp:zCD b=false:=by simp[zCD,h0,h1,h2,h3]
 have HP:=zQr hp
 clear hp h0 h1 h2 h3
 go_enter Tryz.func96,Tryz.ntmps96
 go_wp2_with fail
 refine wp_loop_rounds 5 ?_
 rw[rounds_succ]
 go_wp2_with fail
 rw[rounds_succ]
 go_wp2_with fail
 rw[rounds_succ]
 go_wp2_with fail
 rw[rounds_succ]
 go_wp2_with fail
 rw[rounds_succ]
 go_wp2_with fail
 go_ret
 exact⟨by rw[HP.out];rfl,HBH.out _⟩
end
end
section
structure Jn (T X U:List Nat):Prop where
 len:U.length=T.length+1+X.length
 lo: ∀k,k<T.length→U.getD k 0=T.getD k 0
 nl:U.getD T.length 0=10
 hi: ∀k,U.getD (T.length+1+k) 0=X.getD k 0
theorem Jn.of (T X:List Nat):Jn T X (T++10::X) where
 len:=by simp;omega
 lo:=fun k hk=>by simp[List.getD_eq_getElem?_getD,List.getElem?_append_left hk]
 nl:=by simp[List.getD_eq_getElem?_getD]
 hi:=fun k=>by
  rw[zQ0,zRD (by omega),show T.length+1+k - T.length=k+1 by omega,List.getElem?_cons_succ,zQ0]
def Rel (n j k:Nat):Prop:=k=j∨(j=n∧k=n+1)
section
variable {T X U:List Nat} {p:Nat→Bool} {i:Nat}
theorem zA0 (p:Nat→Bool) (T:List Nat) (i:Nat):zAk p T i=if i<T.length∧p (T.getD i 0)=true then zAk p T (i+1)else i:=by
 unfold zAk
 by_cases h:i<T.length
 ·rw[show T.length - i=T.length - (i+1)+1 by omega,zNa]
 ·rw[show T.length - i=0 by omega,zNa,if_neg (fun h2=>h h2.1)]
theorem zJ9 (p:Nat→Bool) (T:List Nat): ∀(n i:Nat),T.length - i≤n→i≤zAk p T i
 |0,i,h=>by rw[zA0,if_neg (by omega)];exact zQt _
 |n+1,i,h=>by
  rw[zA0]
  split
  ·have:=zJ9 p T n (i+1) (by omega);omega
  ·exact zQt _
theorem zCY (p:Nat→Bool) (T:List Nat) (i:Nat):i≤zAk p T i:=zJ9 p T _ i (zQt _)
theorem zJ8 (p:Nat→Bool) (T:List Nat): ∀(n i:Nat),T.length - i≤n→i≤T.length→zAk p T i≤T.length
 |0,i,h,hi=>by rw[zA0,if_neg (by omega)];exact hi
 |n+1,i,h,hi=>by
  rw[zA0]
  split
  ·exact zJ8 p T n (i+1) (by omega) (by omega)
  ·exact hi
theorem zCX (p:Nat→Bool) {T:List Nat} {i:Nat} (h:i≤T.length):zAk p T i≤T.length:=zJ8 p T _ i (zQt _) h
theorem zHI (J:Jn T X U) (hp:p 10=false): ∀(n i:Nat),T.length - i≤n→i≤T.length→zAk p U i=zAk p T i
 |0,i,h,hi=>by
  obtain rfl:i=T.length:=by omega
  rw[zA0,J.nl,hp,if_neg (by simp),zA0,if_neg (by omega)]
 |n+1,i,h,hi=>by
  have hl:=J.len
  by_cases hlt:i<T.length
  ·rw[zA0 p U,zA0 p T,J.lo i hlt]
   by_cases hb:p (T.getD i 0)=true
   ·rw[if_pos ⟨by omega,hb⟩,if_pos ⟨hlt,hb⟩]
    exact zHI J hp n (i+1) (by omega) (by omega)
   ·rw[if_neg (fun h=>hb h.2),if_neg (fun h=>hb h.2)]
  ·exact zHI J hp 0 i (by omega) hi
theorem zL1 (J:Jn T X U) (hp:p 10=false) (hi:i≤T.length):zAk p U i=zAk p T i:=zHI J hp _ i (zQt _) hi
theorem zHo (J:Jn T X U): ∀(n m i:Nat) (acc t:List Nat) (j:Nat),T.length - i≤n→n<m→i≤T.length→zCa T n i acc=some (t,j)→ ∃k,zCa U m i acc=some (t,k)∧Rel T.length j k
 |0,m+1,i,acc,t,j,h,_,hi,hr=>by
  obtain rfl:i=T.length:=by omega
  have hl:=J.len
  simp only[zCa,Option.some.injEq,Prod.mk.injEq]at hr
  obtain⟨rfl,rfl⟩:=hr
  rw[zCa,if_neg (by omega),J.nl,if_pos rfl]
  exact⟨_,rfl,.inr ⟨rfl,rfl⟩⟩
 |n+1,m+1,i,acc,t,j,h,hm,hi,hr=>by
  have hl:=J.len
  by_cases hlt:i<T.length
  ·rw[zCa,if_neg (by omega)]at hr
   rw[zCa,if_neg (by omega),J.lo i hlt]
   by_cases h1:T.getD i 0=10
   ·rw[if_pos h1]at hr ⊢
    exact⟨_,hr,.inl rfl⟩
   ·rw[if_neg h1]at hr ⊢
    by_cases h2:T.getD i 0=92
    ·rw[if_pos h2]at hr ⊢
     by_cases h3:T.length≤i+1
     ·rw[if_pos h3]at hr;cases hr
     ·rw[if_neg h3]at hr
      rw[if_neg (by omega),J.lo (i+1) (by omega)]
      exact zHo J n m (i+2) _ t j (by omega) (by omega) (by omega) hr
    ·rw[if_neg h2]at hr ⊢
     exact zHo J n m (i+1) _ t j (by omega) (by omega) (by omega) hr
  ·obtain rfl:i=T.length:=by omega
   rw[zCa,if_pos (zQt _)]at hr
   simp only[Option.some.injEq,Prod.mk.injEq]at hr
   obtain⟨rfl,rfl⟩:=hr
   rw[zCa,if_neg (by omega),J.nl,if_pos rfl]
   exact⟨_,rfl,.inr ⟨rfl,rfl⟩⟩
theorem zF2 (J:Jn T X U) {d:Nat} {e:Bool} : ∀(n m i:Nat) (acc:List Mk) (r:List Mk × Nat),n≤m→zBu T d e n i acc=some r→zBu U d e m i acc=some r
 |0,m,i,acc,r,_,hr=>by cases hr
 |n+1,m+1,i,acc,r,hm,hr=>by
  have hl:=J.len
  rw[zBu]at hr ⊢
  split at hr
  ·cases hr
  ·rename_i h0
   rw[if_neg (by omega),J.lo i (by omega)]
   split at hr
   ·rename_i h1;rw[if_pos h1];exact hr
   ·rename_i h1
    rw[if_neg h1]
    split at hr
    ·cases hr
    ·rename_i h2
     rw[if_neg h2]
     split at hr
     ·rename_i h3
      rw[if_pos h3]
      split at hr
      ·cases hr
      ·rename_i h4
       rw[if_neg (by omega),J.lo (i+1) (by omega)]
       split at hr
       ·cases hr
       ·rename_i h5
        rw[if_neg h5]
        exact zF2 J n m _ _ r (by omega) hr
     ·rename_i h3
      rw[if_neg h3]
      exact zF2 J n m _ _ r (by omega) hr
theorem zNl (J:Jn T X U) {d:Nat} {e:Bool} {r:List Mk × Nat} (h:zBf T d e i=some r):zBf U d e i=some r:=by
 have hl:=J.len
 unfold zBf at h ⊢
 split at h
 ·cases h
 ·rename_i h1
  rw[if_neg h1]
  exact zF2 J _ _ i [] r (by omega) h
theorem zHX (J:Jn T X U) {most:Nat} : ∀(n m i v:Nat) (h:Bool),T.length - i≤n→n<m→i≤T.length→zEL U most m i v h=zEL T most n i v h
 |0,m+1,i,v,h,hn,_,hi=>by
  obtain rfl:i=T.length:=by omega
  have hl:=J.len
  rw[show zEL T most 0 T.length v h=(v,h,T.length)from rfl,zEL,if_neg (by omega),J.nl,if_neg (by omega)]
 |n+1,m+1,i,v,h,hn,hm,hi=>by
  have hl:=J.len
  by_cases hlt:i<T.length
  ·rw[zEL,if_neg (by omega),J.lo i hlt,zEL,if_neg (show¬T.length≤i by omega)]
   split
   ·split
    ·exact zHX J n m (i+1) _ _ (by omega) (by omega) (by omega)
    ·exact zHX J n m (i+1) _ _ (by omega) (by omega) (by omega)
   ·rfl
  ·obtain rfl:i=T.length:=by omega
   rw[zEL,if_neg (by omega),J.nl,if_neg (by omega),zEL,if_pos (zQt _)]
theorem zO2 (J:Jn T X U) {most:Nat} (hi:i≤T.length):zHg U most i=zHg T most i:=by
 have hl:=J.len
 unfold zHg
 rw[zHX J (T.length - i) (U.length - i) i 0 false (zQt _) (by omega) hi]
end
end
section
section
variable {T X U:List Nat} {i j:Nat} {ere:Bool}
theorem zOU (J:Jn T X U) (hi:i≤T.length) (h:(zCE ere T i).2.1=0):zCE ere U i=zCE ere T i:=by
 have hl:=J.len
 by_cases hlt:i<T.length
 ·unfold zCE at h ⊢
  rw[if_neg (show¬T.length≤i by omega)]at h
  rw[if_neg (show¬T.length≤i by omega),if_neg (show¬U.length≤i by omega),J.lo i hlt]
  simp only at h ⊢
  split
  ·rw[zO2 J hi]
  ·rename_i h1
   rw[if_neg h1]at h
   split
   ·rfl
   ·rename_i h2
    rw[if_neg h2]at h
    by_cases h3:T.getD i 0=92∧T.length≤i+1
    ·rw[if_pos h3]at h
     simp at h
    ·rw[if_neg h3]at h
     rw[if_neg h3,if_neg (show¬(T.getD i 0=92∧U.length≤i+1)by omega)]
     split
     ·rename_i h4
      rw[if_pos h4]at h
      have hk:(if T.getD i 0=92 then i+1 else i)<T.length:=by split<;>omega
      generalize (if T.getD i 0=92 then i+1 else i)=k at h hk ⊢
      rw[J.lo k hk]
      cases hp:zBf T (T.getD k 0) false (k+1)with
      |none=>rw[hp]at h;simp at h
      |some r=>rw[zNl J hp]
     ·rfl
 ·obtain rfl:i=T.length:=by omega
  unfold zCE
  rw[if_pos (zQt _),if_neg (by omega),J.nl]
  rfl
theorem zNB (J:Jn T X U) (hi:i≤T.length) {r:Ad × Nat} (h:zI0 ere T i= .ok r):zI0 ere U i= .ok r∧i≤r.2∧r.2≤T.length:=by
 have hat:=zOV (ere:=ere) hi
 unfold zI0 at h ⊢
 simp only at h ⊢
 split at h
 ·cases h
 ·rename_i h0
  have h0':(zCE ere T i).2.1=0:=by omega
  rw[zOU J hi h0',if_neg h0,zL1 J (by decide) hat.2]
  refine⟨h,?_⟩
  cases h
  simp only
  split
  ·have:=zCY zAL T (zCE ere T i).2.2
   have:=zCX zAL hat.2
   omega
  ·exact hat
theorem zIt (J:Jn T X U) {c:Nat} (hc:c≠10) (hi:i≤T.length):zCF U c i=zCF T c i:=by
 have hl:=J.len
 unfold zCF
 by_cases hlt:i<T.length
 ·rw[J.lo i hlt]
  by_cases h:T.getD i 0=c
  ·rw[if_pos ⟨by omega,h⟩,if_pos ⟨hlt,h⟩,zL1 J (by decide) (by omega)]
  ·rw[if_neg (fun x=>h x.2),if_neg (fun x=>h x.2)]
 ·obtain rfl:i=T.length:=by omega
  rw[J.nl,if_neg (fun x=>hc x.2.symm),if_neg (by omega)]
theorem zFf {c k:Nat} (h:zCF T c i=some k):i<T.length∧i+1≤k∧k≤T.length:=by
 unfold zCF at h
 split at h
 ·rename_i h0
  cases h
  have:=zCY zAL T (i+1)
  have:=zCX zAL (show i+1≤T.length by omega)
  omega
 ·cases h
theorem zOv (J:Jn T X U) (hi:i≤T.length) {a:Ad} {r:Ad × Nat × Nat} (h:zL9 ere T a i= .ok r):zL9 ere U a i= .ok r∧i≤r.2.2∧r.2.2≤T.length:=by
 unfold zL9 at h ⊢
 split at h
 ·rename_i h0
  rw[if_pos h0]
  cases h
  exact⟨rfl,zQt _,hi⟩
 ·rename_i h0
  rw[if_neg h0,zIt J (by decide) hi]
  cases hc:zCF T 44 i with
  |none=>rw[hc]at h;cases h;exact⟨rfl,zQt _,hi⟩
  |some k=>
   have hk:=zFf hc
   rw[hc]at h
   simp only at h ⊢
   cases ha:zI0 ere T k with
   |error e=>rw[ha]at h;cases h
   |ok p=>
    obtain⟨h1,h2,h3⟩:=zNB J hk.2.2 ha
    rw[ha]at h
    rw[h1]
    obtain⟨b,q⟩:=p
    simp only at h h2 h3 ⊢
    split at h
    ·cases h
    ·rename_i h4
     rw[if_neg h4]
     cases h
     exact⟨rfl,by simp only;omega,h3⟩
theorem zMO: ∀(n i:Nat) (nt:Bool),i≤T.length→i≤(zLm T n i nt).1∧(zLm T n i nt).1≤T.length
 |0,i,nt,hi=>⟨zQt _,hi⟩
 |n+1,i,nt,hi=>by
  rw[zLm]
  cases hc:zCF T 33 i with
  |none=>exact⟨zQt _,hi⟩
  |some k=>
   have hk:=zFf hc
   have:=zMO n k true hk.2.2
   simp only
   omega
theorem zKJ (J:Jn T X U): ∀(n m i:Nat) (nt:Bool),T.length - i<n→n≤m→i≤T.length→zLm U m i nt=zLm T n i nt
 |n+1,m+1,i,nt,h,hm,hi=>by
  rw[zLm,zLm,zIt J (by decide) hi]
  cases hc:zCF T 33 i with
  |none=>rfl
  |some k=>
   have hk:=zFf hc
   exact zKJ J n m k true (by omega) (by omega) hk.2.2
theorem zO3 (J:Jn T X U) (hi:i≤T.length):zIM U i=zIM T i:=by
 have hl:=J.len
 exact zKJ J _ _ i false (by omega) (by omega) hi
theorem zLK:zCd 0=none:=rfl
theorem zN4 (J:Jn T X U) (hi:i≤T.length) {n:Nat} {r:Cm × Nat} (h:zEi ere T i n= .ok r):
  zEi ere U i n= .ok r∧i≤r.1.at_∧r.1.at_<T.length∧r.2=r.1.at_+1∧T.getD r.1.at_ 0=r.1.nm:=by
 unfold zEi at h ⊢
 cases ha:zI0 ere T i with
 |error e=>rw[ha]at h;cases h
 |ok p=>
  obtain⟨h1,h2,h3⟩:=zNB J hi ha
  rw[ha]at h
  rw[h1]
  obtain⟨a,k⟩:=p
  simp only at h h2 h3 ⊢
  cases hs:zL9 ere T a k with
  |error e=>rw[hs]at h;cases h
  |ok p=>
   obtain⟨h4,h5,h6⟩:=zOv J h3 hs
   rw[hs]at h
   rw[h4]
   obtain⟨b,many,q⟩:=p
   simp only at h h5 h6 ⊢
   have hq:=zMO (T:=T) (T.length+1 - q) q false h6
   rw[zO3 J h6]
   rw[show zLm T (T.length+1 - q) q false=zIM T q from rfl]at hq
   generalize zIM T q=z at h hq ⊢
   have hz:z.1<T.length:=by
    by_cases hz:z.1<T.length
    ·exact hz
    ·rw[show T.getD z.1 0=0 by rw[zQ0,zRR (by omega)];rfl,zLK]at h
     cases h
   have hl:=J.len
   rw[J.lo _ hz]
   cases hm:zCd (T.getD z.1 0)with
   |none=>rw[hm]at h;cases h
   |some most=>
    rw[hm]at h
    simp only at h ⊢
    split at h
    ·cases h
    ·rename_i h7
     rw[if_neg h7]
     split at h
     ·cases h
     ·rename_i h8
      rw[if_neg h8]
      cases h
      simp only[zNT,if_pos hz,if_pos (show z.1<U.length by omega)]
      refine⟨?_,?_,?_,?_,?_⟩<;>first|trivial|rfl|omega
theorem zKE (hi:i≤T.length):i≤zDZ T i∧zDZ T i≤T.length:=⟨zCY _ _ _,zCX _ hi⟩
def zMp (T:List Nat) (n i:Nat) (c:Cm):Rd (Cm × Nat):=if c.al=true then .error (74,c.at_)else zDB T n (i+1) { c with al:=true }
def zMo (T:List Nat) (n i:Nat) (c:Cm):Rd (Cm × Nat):=if c.pr=true then .error (74,c.at_)else zDB T n (i+1) { c with pr:=true }
def zMq (T:List Nat) (n:Nat) (c:Cm):Option (Nat × Nat)→Rd (Cm × Nat)
 |none=> .error (74,c.at_)
 |some (v,j)=>if c.ct≠0∨v=0 then .error (74,c.at_)else zDB T n j { c with ct:=v }
def zMn (T:List Nat) (i:Nat) (c:Cm):Rd (Cm × Nat):=if c.wr=true then .error (74,c.at_)else zGW T (i+1) { c with wr:=true }
theorem zFD (T:List Nat) (n i:Nat) (c:Cm):zDB T (n+1) i c=if T.getD i 0=103 then zMp T n i c else if T.getD i 0=112 then zMo T n i c else if 48≤T.getD i 0∧T.getD i 0≤57 then zMq T n c (zHg T 1048576 i)else if T.getD i 0=119 then zMn T i c else zGA T i c:=by
 rw[zDB]
 simp only[zMp,zMo,zMn]
 cases zHg T 1048576 i<;>rfl
end
end
section
open Go.RowKit
def zPZ (w:World) (r:Except (Nat × Nat) (List Nd)) (e:Ending) (w':World):Prop:=
 match r with
 | .error (er,i)=>e= .returned (.tuple #[.slice none 0 0,.int .i64 (er:Nat),.int .i64 (i:Nat)])
 | .ok re=> ∃v,e= .returned (.tuple #[v,.int .i64 0,.int .i64 0])∧Nds w' w.heap.size v re
theorem zCr: ∀(re:List Nd) (i j:Nat),i<re.length→j<9→(zEp re)[i*9+j]?=(zAT (re.getD i Nd.zero))[j]?
 |[],i,j,h,_=>by simp at h
 |x::l,0,j,_,hj=>by
  rw[zIO,zRC (by simp[zAT];omega)]
  simp
 |x::l,i+1,j,h,hj=>by
  rw[zIO,zRD (by simp[zAT];omega)]
  have:=zCr l i j (by simpa using h) hj
  simpa [zAT,show(i+1)*9+j - 9=i*9+j by omega]using this
theorem Nds.at {w:World} {base:Nat} {v:Value} {re:List Nd} (h:Nds w base v re) (hn:0<re.length) (hl:re.length≤4294967296) (hk: ∀x∈re,x.kids≤re.length): ∃g cp,v= .slice (some ⟨g,0,none⟩) re.length cp∧base≤g∧zGP w g 0 re:=by
 rcases h.2 with ⟨_,h0⟩|⟨g,cp,cur,rfl,hg1,hg2,_⟩
 ·omega
 ·refine⟨g,cp,rfl,hg1,⟨(zQz.1 hg2).1,hl,fun i hi j=>?_,fun x hx=>by have:=hk x hx;omega⟩⟩
  by_cases hj:j<9
  ·left
   rw[zRG h _ (by omega),show 0+i*9+j=i*9+j by omega,zCr re i j hi hj]
  ·right;omega
theorem zB7 {tmps:Array Value} {W:World} {b4 b5 b6:Nat} {oa:Option Addr} {n cp:Nat} {e i:Int} (t4:tmps.getD 4 undef= .pointer (some ⟨b4,0,none⟩)) (t5:tmps.getD 5 undef= .pointer (some ⟨b5,0,none⟩)) (t6:tmps.getD 6 undef= .pointer (some ⟨b6,0,none⟩))
  (c4:W.cell? ⟨b4,0,none⟩=some (.slice oa n cp)) (c5:W.cell? ⟨b5,0,none⟩=some (.int .i64 e)) (c6:W.cell? ⟨b6,0,none⟩=some (.int .i64 i)):
  (results Tryz.f144 tmps).run Tryz.prog W= .ok (.tuple #[.slice oa n cp,.int .i64 e,.int .i64 i]) W:=by
 simp only[Array.getD_eq_getD_getElem?]at t4 t5 t6
 simp[results,Tryz.results144,go_sem,t4,t5,t6,c4,c5,c6]
structure zHD (w W:World) (b4 b5 b6:Nat) (x y z:Value):Prop where
 c4:W.cell? ⟨b4,0,none⟩=some x
 c5:W.cell? ⟨b5,0,none⟩=some y
 c6:W.cell? ⟨b6,0,none⟩=some z
 z4:W.frozen? ⟨b4,0,none⟩=false
 z5:W.frozen? ⟨b5,0,none⟩=false
 z6:W.frozen? ⟨b6,0,none⟩=false
 b:Below w.heap.size w W
 l4:w.heap.size≤b4
 l5:b5=b4+1
 l6:b6=b4+1+1
 lt:b4+1+1<W.heap.size
theorem zHD.new (w:World) (x y z:Value):zHD w (((w.alloc (.cells #[x] 29)).alloc (.cells #[y] 25)).alloc (.cells #[z] 3)) w.heap.size (w.heap.size+1) (w.heap.size+1+1) x y z:=by
 have s1:(w.alloc (.cells #[x] 29)).heap.size=w.heap.size+1:=by simp
 have s2:((w.alloc (.cells #[x] 29)).alloc (.cells #[y] 25)).heap.size=w.heap.size+1+1:=by simp
 have h4:(((w.alloc (.cells #[x] 29)).alloc (.cells #[y] 25)).alloc (.cells #[z] 3)).heap[w.heap.size]?=some (.cells #[x] 29 (0,0)):=
  (zQ5 _ _ (by omega)).trans ((zQ5 _ _ (by omega)).trans (zQ4 _ _))
 have h5:(((w.alloc (.cells #[x] 29)).alloc (.cells #[y] 25)).alloc (.cells #[z] 3)).heap[w.heap.size+1]?=some (.cells #[y] 25 (0,0)):=
  (zQ5 _ _ (by omega)).trans (by rw[←s1];exact zQ4 _ _)
 have h6:(((w.alloc (.cells #[x] 29)).alloc (.cells #[y] 25)).alloc (.cells #[z] 3)).heap[w.heap.size+1+1]?=some (.cells #[z] 3 (0,0)):=by
  rw[←s2];exact zQ4 _ _
 exact⟨(zQ6 _ _ 0 _ _ (0,0) h4).trans rfl,(zQ6 _ _ 0 _ _ (0,0) h5).trans rfl,(zQ6 _ _ 0 _ _ (0,0) h6).trans rfl,frozen_of_row _ _ _ _ _ h4,frozen_of_row _ _ _ _ _ h5,frozen_of_row _ _ _ _ _ h6,
  (((zQs _ _).alloc (zQt _) _).alloc (by omega) _).alloc (by omega) _,zQt _,rfl,rfl,by simp⟩
theorem zHD.keep {w W W':World} {b4 b5 b6:Nat} {x y z:Value} (h:zHD w W b4 b5 b6 x y z) (hb: ∀k,k≤b4+1+1→W'.heap[k]?=W.heap[k]?) (hB:Below w.heap.size W W'):zHD w W' b4 b5 b6 x y z:=by
 have e4:=hb b4 (by omega)
 have e5:=hb b5 (by rw[h.l5];omega)
 have e6:=hb b6 (by rw[h.l6];omega)
 exact⟨(zQv (w:=W) (a:=⟨b4,0,none⟩) e4).trans h.c4,(zQv (w:=W) (a:=⟨b5,0,none⟩) e5).trans h.c5,(zQv (w:=W) (a:=⟨b6,0,none⟩) e6).trans h.c6,
  (zQw (w:=W) (a:=⟨b4,0,none⟩) e4).trans h.z4,(zQw (w:=W) (a:=⟨b5,0,none⟩) e5).trans h.z5,(zQw (w:=W) (a:=⟨b6,0,none⟩) e6).trans h.z6,
  h.b.trans hB,h.l4,h.l5,h.l6,zQu h.lt hB.size⟩
theorem zHD.set {w W:World} {b4 b5 b6:Nat} {x y z:Value} (h:zHD w W b4 b5 b6 x y z) (a b c:Value):zHD w (((W.setCell ⟨b4,0,none⟩ a).setCell ⟨b5,0,none⟩ b).setCell ⟨b6,0,none⟩ c) b4 b5 b6 a b c:=by
 obtain⟨c4,c5,c6,z4,z5,z6,hb,l4,rfl,rfl,lt⟩:=h
 refine⟨?_,?_,?_,zAM _ _ _ _ (zAM _ _ _ _ (zAM _ _ _ _ z4)),zAM _ _ _ _ (zAM _ _ _ _ (zAM _ _ _ _ z5)),zAM _ _ _ _ (zAM _ _ _ _ (zAM _ _ _ _ z6)),
  ((hb.setCell l4 _).setCell (by show _≤b4+1;omega) _).setCell (by show _≤b4+1+1;omega) _,l4,rfl,rfl,by simpa using lt⟩
 ·rw[zQ9 _ _ _ _ (by simp only[ne_eq,Addr.mk.injEq,not_and];omega),zQ9 _ _ _ _ (by simp only[ne_eq,Addr.mk.injEq,not_and];omega)]
  exact zRA _ _ _ c4
 ·rw[zQ9 _ _ _ _ (by simp only[ne_eq,Addr.mk.injEq,not_and];omega)]
  exact zRA _ _ _ ((zQ9 _ _ _ _ (by simp only[ne_eq,Addr.mk.injEq,not_and];omega)).trans c5)
 ·exact zRA _ _ _ ((zQ9 _ _ _ _ (by simp only[ne_eq,Addr.mk.injEq,not_and];omega)).trans ((zQ9 _ _ _ _ (by simp only[ne_eq,Addr.mk.injEq,not_and];omega)).trans c6))
theorem zHD.set1 {w W:World} {b4 b5 b6:Nat} {x y z:Value} (h:zHD w W b4 b5 b6 x y z) (a:Value):zHD w (W.setCell ⟨b4,0,none⟩ a) b4 b5 b6 a y z:=by
 obtain⟨c4,c5,c6,z4,z5,z6,hb,l4,rfl,rfl,lt⟩:=h
 exact⟨zRA _ _ _ c4,(zQ9 _ _ _ _ (by simp only[ne_eq,Addr.mk.injEq,not_and];omega)).trans c5,(zQ9 _ _ _ _ (by simp only[ne_eq,Addr.mk.injEq,not_and];omega)).trans c6,
  zAM _ _ _ _ z4,zAM _ _ _ _ z5,zAM _ _ _ _ z6,hb.setCell l4 _,l4,rfl,rfl,by simpa using lt⟩
theorem Nds.store {w:World} {base:Nat} {v:Value} {re:List Nd} (h:Nds w base v re) {b:Nat} (hb: ∀g,v.ownBlock=some g→g≠b) (u:Value):Nds (w.setCell ⟨b,0,none⟩ u) base v re:=h.block fun g hg=>zQ1 _ _ _ _ (hb g hg)
theorem Nds.alloc {w:World} {base:Nat} {v:Value} {re:List Nd} (h:Nds w base v re) (o:Obj):Nds (w.alloc o) base v re:=h.below ((zQs _ _).alloc (zQt _) _)
theorem zGP.store {w:World} {nb no:Nat} {re:List Nd} (h:zGP w nb no re) {b:Nat} (hb:nb≠b) (u:Value):zGP (w.setCell ⟨b,0,none⟩ u) nb no re:=
 ⟨by simpa [World.setCell]using h.lt,h.len,fun i hi j=>(h.c i hi j).imp (fun e=>(zQ9 _ _ _ _ (by simp only[ne_eq,Addr.mk.injEq,not_and];intro e;exact absurd e.symm hb)).trans e) id,h.k⟩
theorem zHD.alloc {w W:World} {b4 b5 b6:Nat} {x y z:Value} (h:zHD w W b4 b5 b6 x y z) (o:Obj):zHD w (W.alloc o) b4 b5 b6 x y z:=
 h.keep (fun k hk=>Below.heap_alloc _ _ _ (by have:=h.lt;omega)) ((zQs _ _).alloc h.b.size _)
theorem zHD.drew {w W:World} {b4 b5 b6:Nat} {x y z:Value} (h:zHD w W b4 b5 b6 x y z):zHD w W.drew b4 b5 b6 x y z:=
 h.keep (fun _ _=>rfl) (zQs _ _).drew
theorem zLC {ere:Bool} {L:List Mk} {oa:Option Addr} {cap:Nat} {w:World} (hL:4096<L.length):
  Calls Tryz.prog 144 #[.bool ere,.slice oa L.length cap] w fun e w'=>zPZ w (zBN ere L) e w'∧Below w.heap.size w w':=by
 have hL':(4096:Int)<(L.length:Int):=by omega
 have HP:Hid (zBN ere L= .error (2,4096)):=by rw[Hid,zBN,if_pos hL]
 go_enter_defers Tryz.func144,Tryz.ntmps144
 go_wp2_with fail
 have hv:=zHD.new w (.slice none 0 0) (.int .i64 2) (.int .i64 4096)
 exact⟨_,zB7 rfl rfl rfl hv.c4 hv.c5 hv.c6,by rw[HP.out];rfl,hv.b⟩
theorem zLB {ere:Bool} {L:List Mk} {oa:Option Addr} {cap:Nat} {w:World} (hL:L.length=0):
  Calls Tryz.prog 144 #[.bool ere,.slice oa L.length cap] w fun e w'=>zPZ w (zBN ere L) e w'∧Below w.heap.size w w':=by
 have HP:Hid (zBN ere L= .error (45,0)):=by rw[Hid,zBN,if_neg (by omega),if_pos hL]
 rw[hL]
 clear hL
 go_enter_defers Tryz.func144,Tryz.ntmps144
 go_wp2_with fail
 have hv:=zHD.new w (.slice none 0 0) (.int .i64 45) (.int .i64 0)
 exact⟨_,zB7 rfl rfl rfl hv.c4 hv.c5 hv.c6,by rw[HP.out];rfl,hv.b⟩
theorem zLA {ere:Bool} {L:List Mk} {mb mo cap:Nat} {w:World} (hL:0<L.length) (hm:zI4 w mb mo L):
  Calls Tryz.prog 144 #[.bool ere,.slice (some ⟨mb,mo,none⟩) L.length cap] w fun e w'=>zPZ w (zBN ere L) e w'∧Below w.heap.size w w':=by
 have hmf: ∀(fn:Fn) (first cap:Array Value) (w:World),(Instr.makeFunc fn first cap).run Tryz.prog w= .ok (.func fn first cap) w:=fun _ _ _ _=>rfl
 have h1: ¬(4096:Int)<(L.length:Int):=by have:=hm.len;omega
 have h2: ¬(L.length:Int)=0:=by omega
 have HP:Hid (zBN ere L=match zBt ere L 64 ⟨0,[]⟩with
  | .no e i=> .error (e,i)
  | .ok re _=>match zBc re 260 0 with
   |some (w,_)=>if 16384<w then .error (48,L.length)else .ok re
   |none=> .error (0,0)):=by rw[Hid,zBN,if_neg (by omega),if_neg (by omega)]<;>rfl
 have HM:=zQr hm
 clear hm
 go_enter_defers Tryz.func144,Tryz.ntmps144
 go_wp2_with fail
 have hv:=zHD.new w (.slice none 0 0) (.int .i64 0) (.int .i64 0)
 revert hv
 generalize ((w.alloc (.cells #[.slice none 0 0] 29)).alloc (.cells #[.int .i64 0] 25)).alloc (.cells #[.int .i64 0] 3)=W3
 intro hv
 have HB3:=zQr hv.b
 refine(zIN ere (HM.out.below hv.b)).mono ?_
 rintro e W4 ⟨rfl,hr4,hb4⟩
 have HV4:=zQr (hv.keep (fun k hk=>hb4.block k (by have:=hv.lt;omega)) (hb4.mono hv.b.size))
 have hlt3:=hv.lt
 clear hv
 obtain⟨rb,hrb⟩: ∃rb,W3.heap.size=rb:=⟨_,rfl⟩
 rw[hrb]at hr4 hb4 hlt3
 have HR4:=zQr hr4
 clear hr4
 go_wp2_with fail
 refine(zL3 (zQt 64) W4 ⟨0,[]⟩ _ HR4.out).mono ?_
 rintro e W5 ⟨hb5,hp5⟩
 have hV5:=HV4.out.keep (fun k hk=>hb5.block k (by have:=HV4.out.lt;omega) (by omega) (by simp[Value.ownBlock]))
  ⟨hb5.os,hb5.tape,hb5.output,hb5.size,fun k hk=>hb5.block k (by have:=HV4.out.lt;omega) (by omega) (by simp[Value.ownBlock])⟩
 have HV5:=zQr hV5
 cases hs:zBt ere L 64 ⟨0,[]⟩with
 |no er p=>
  have HF:Hid (zBN ere L= .error (er,p)):=by rw[Hid,HP.out,hs]
  rw[hs]at hp5
  simp only[zFP]at hp5
  subst hp5
  clear hV5 hb5 hb4
  go_wp2_with fail
  refine leaves_cons (f:=179) (args:= #[.pointer (some ⟨w.heap.size,0,none⟩),.pointer (some ⟨w.heap.size+1,0,none⟩),.pointer (some ⟨w.heap.size+1+1,0,none⟩)]) (by simp) (by simp[go_sem]) ?_
  refine(zJy _ _ _ er p [] W5 HV5.out.c4 HV5.out.c5 HV5.out.c6 HV5.out.z4 HV5.out.z5 HV5.out.z6 (by omega) (by omega) (by omega)).mono ?_
  rintro e u' w'' ⟨rfl,rfl,rfl⟩
  have hve:=((HV5.out.set (.slice none 0 0) (.int .i64 (er:Nat)) (.int .i64 (p:Nat))).alloc (.cells #[.int .i64 (er:Nat),.int .i64 (p:Nat)] 234)).drew
  exact⟨_,zB7 rfl rfl rfl hve.c4 hve.c5 hve.c6,by rw[HF.out];rfl,hve.b⟩
 |ok re t=>
  rw[hs]at hp5
  simp only at hp5
  obtain⟨v,ev5,rfl,hr5,hn5,hrow5⟩:=hp5
  have htop:=zEt hs
  have hgood:=zC6 re _ _ _ _ _ htop
  have hok:=zET (fun p hp=>hgood.2.2 p (Nat.zero_le _) hp)
  have hpos:0<re.length:=hgood.1
  have hsm:=zDX HM.out.u 64 (by simp) hs
  have hri:=(zEB HM.out.u 64 (by simp) hs).le
  obtain⟨wt,hwt⟩:=zBh re _ _ _ _ _ _ htop
  obtain⟨g,cp,rfl,hg1,hnd⟩:=hrow5.nds.at hpos (by simp only at hsm;omega) hok.2
  have HF:Hid (zBN ere L=if 16384<wt then .error (48,L.length)else .ok re):=by rw[Hid,HP.out,hs];simp only[hwt]
  have d4:=hV5.c4
  have y4:=hV5.z4
  have l4:w.heap.size<W5.heap.size:=by have:=hV5.lt;omega
  have HROW:=zQr hrow5
  have HND:=zQr hnd
  clear hV5 hr5 hn5 htop hgood hnd hrow5
  go_wp2_with fail
  have hlw:=HV4.out.lt
  have hg4:g≠w.heap.size:=by omega
  refine(zFj hok.1 260 0 (wt,re.length) _ 0 rfl (HND.out.store hg4 _) hwt).mono ?_
  rintro e W7 ⟨rfl,hb7⟩
  have hV6:=HV5.out.set1 (.slice (some ⟨g,0,none⟩) re.length cp)
  have hV7:=hV6.keep (fun k hk=>hb7.block k (by have:=hV6.lt;omega)) (hb7.mono hV6.b.size)
  have hN7:=((HROW.out.nds.mono HV4.out.b.size).store (b:=w.heap.size) (fun x hx=>by simp only[Value.ownBlock,Option.some.injEq]at hx;omega) (.slice (some ⟨g,0,none⟩) re.length cp)).below hb7
  have HV7:=zQr hV7
  have HN7:=zQr hN7
  have e4:=hV7.c4
  have e5:=hV7.c5
  have e6:=hV7.c6
  have x4:=hV7.z4
  have x5:=hV7.z5
  have x6:=hV7.z6
  have l7:=hV7.lt
  have l71:w.heap.size<W7.heap.size:=by omega
  have l72:w.heap.size+1<W7.heap.size:=by omega
  clear hV6 hV7 hN7 hb7 d4 y4 l4
  by_cases hw:16384<wt
  ·have HE:Hid (zBN ere L= .error (48,L.length)):=by rw[Hid,HF.out,if_pos hw]
   go_wp2_with fail
   refine leaves_cons (f:=179) (args:= #[.pointer (some ⟨w.heap.size,0,none⟩),.pointer (some ⟨w.heap.size+1,0,none⟩),.pointer (some ⟨w.heap.size+1+1,0,none⟩)]) (by simp) (by simp[go_sem]) ?_
   refine(zHA _ _ _ _).mono ?_
   rintro e u' w'' ⟨rfl,rfl,rfl⟩
   have hve:=(HV7.out.set (.slice none 0 0) (.int .i64 48) (.int .i64 (L.length:Nat))).alloc (.cells #[.int .i64 0,.int .i64 0] 234)
   exact⟨_,zB7 rfl rfl rfl hve.c4 hve.c5 hve.c6,by rw[HE.out];rfl,hve.b⟩
  ·have HE:Hid (zBN ere L= .ok re):=by rw[Hid,HF.out,if_neg hw]
   go_wp2_with fail
   refine leaves_cons (f:=179) (args:= #[.pointer (some ⟨w.heap.size,0,none⟩),.pointer (some ⟨w.heap.size+1,0,none⟩),.pointer (some ⟨w.heap.size+1+1,0,none⟩)]) (by simp) (by simp[go_sem]) ?_
   refine(zHA _ _ _ _).mono ?_
   rintro e u' w'' ⟨rfl,rfl,rfl⟩
   have hve:=(HV7.out.set (.slice (some ⟨g,0,none⟩) re.length cp) (.int .i64 0) (.int .i64 0)).alloc (.cells #[.int .i64 0,.int .i64 0] 234)
   have n1: ∀x,(Value.slice (some ⟨g,0,none⟩) re.length cp).ownBlock=some x→x≠w.heap.size:=fun x hx=>by simp only[Value.ownBlock,Option.some.injEq]at hx;omega
   have n2: ∀x,(Value.slice (some ⟨g,0,none⟩) re.length cp).ownBlock=some x→x≠w.heap.size+1:=fun x hx=>by simp only[Value.ownBlock,Option.some.injEq]at hx;omega
   have n3: ∀x,(Value.slice (some ⟨g,0,none⟩) re.length cp).ownBlock=some x→x≠w.heap.size+1+1:=fun x hx=>by simp only[Value.ownBlock,Option.some.injEq]at hx;omega
   have hne:=(((HN7.out.store n1 (.slice (some ⟨g,0,none⟩) re.length cp)).store n2 (.int .i64 0)).store n3 (.int .i64 0)).alloc (.cells #[.int .i64 0,.int .i64 0] 234)
   exact⟨_,zB7 rfl rfl rfl hve.c4 hve.c5 hve.c6,by rw[HE.out];exact⟨_,rfl,hne⟩,hve.b⟩
theorem zE2 {ere:Bool} {L:List Mk} {oa:Option Addr} {cap:Nat} {w:World} (hm:0<L.length→L.length≤4096→ ∃mb mo,oa=some ⟨mb,mo,none⟩∧zI4 w mb mo L):
  Calls Tryz.prog 144 #[.bool ere,.slice oa L.length cap] w fun e w'=>zPZ w (zBN ere L) e w'∧Below w.heap.size w w':=by
 by_cases h1:4096<L.length
 ·exact zLC h1
 ·by_cases h2:L.length=0
  ·exact zLB h2
  ·obtain⟨mb,mo,rfl,h⟩:=hm (by omega) (by omega)
   exact zLA (by omega) h
end
section
def Bad (L:List Mk) (e i:Nat):Prop:=e≠0∧i≤L.length∧(e=40∨e=42∨e=44∨e=46∨e=47→i<L.length)
theorem Bad.mk' {L:List Mk} {e i:Nat} (h0:e≠0) (h:i<L.length):Bad L e i:=⟨h0,Nat.le_of_lt h,fun _=>h⟩
theorem f3 {L:List Mk} {e i:Nat} {f:Nat × Nat} (h:(e,i)=f) (h1:30≤e) (h2:e≤32) (h3:i<L.length):30≤f.1∧f.1≤32∧f.2<L.length:=by
 subst h;exact⟨h1,h2,h3⟩
theorem zIb {L:List Mk} {at0 b:Nat} (ha:at0<L.length) (hb:b<L.length): ∀(n i:Nat) (s:List Nat) (x:Th) (f:Nat × Nat),zCz L at0 b n i s=(x,some f)→30≤f.1∧f.1≤32∧f.2<L.length
 |0,_,_,_,_,h=>by simp only[zCz,Prod.mk.injEq,Option.some.injEq]at h;exact f3 h.2 (by decide) (by decide) ha
 |n+1,i,s,x,f,h=>by
  unfold zCz at h
  split at h
  ·split at h
   ·simp only[Prod.mk.injEq,Option.some.injEq]at h;exact f3 h.2 (by decide) (by decide) hb
   ·simp at h
  ·exact zIb ha hb n _ _ _ _ h
theorem zFo {L:List Mk} {at0 b:Nat} {x:Th} {f:Nat × Nat} (ha:at0<L.length) (h:zAp L at0 b=(x,some f)):30≤f.1∧f.1≤32∧f.2<L.length:=by
 unfold zAp at h
 split at h
 ·simp only[Prod.mk.injEq,Option.some.injEq]at h;exact f3 h.2 (by decide) (by decide) ha
 ·rename_i hb
  split at h
  ·unfold zDz at h;exact zIb ha (by omega) _ _ _ _ _ h
  ·split at h
   ·unfold zAo at h
    repeat' (split at h)
    all_goals first
     |(simp only[Prod.mk.injEq,Option.some.injEq]at h;exact f3 h.2 (by decide) (by decide) (by omega))
     |(simp at h;done)
   ·simp at h
theorem zKo {L:List Mk} {at0 b:Nat} {x:Th} (h:zAp L at0 b=(x,none)):b<L.length:=by
 unfold zAp at h
 split at h
 ·simp at h
 ·omega
theorem zLP {L:List Mk} {at0 b:Nat} {fst:Bool} {x:Th} {f:Nat × Nat} (ha:at0<L.length) (h:zAt L at0 b fst=(x,some f)):30≤f.1∧f.1≤32∧f.2<L.length:=by
 unfold zAt at h
 split at h
 ·rename_i hx
  simp only[Prod.mk.injEq,Option.some.injEq]at h
  rw[←h.2]
  exact zFo ha hx
 ·rename_i a hx
  have hb:=zKo hx
  repeat' (split at h)
  all_goals first
   |(simp only[Prod.mk.injEq,Option.some.injEq]at h;first|exact f3 h.2 (by decide) (by decide) ha|exact f3 h.2 (by decide) (by decide) hb)
   |(rename_i hy;simp only[Prod.mk.injEq,Option.some.injEq]at h;rw[←h.2];exact zFo ha hy)
   |(simp at h;done)
theorem zG0 {L:List Mk} {at0:Nat} (ha:at0<L.length): ∀(n:Nat) (c:Cls) (i:Nat) (fst:Bool) (f:Nat × Nat),zA1 L at0 n c i fst= .error f→30≤f.1∧f.1≤32∧f.2<L.length
 |0,_,_,_,_,h=>by simp only[zA1,Except.error.injEq]at h;exact f3 h (by decide) (by decide) ha
 |n+1,c,i,fst,f,h=>by
  unfold zA1 at h
  split at h
  ·cases h
  ·split at h
   ·rename_i hx
    cases h
    exact zLP ha hx
   ·exact zG0 ha n _ _ _ _ h
theorem zLe {L:List Mk} {s:Rst} {e i:Nat} (ha:s.i<L.length) (h:zDO L s= .no e i):Bad L e i:=by
 unfold zDO at h
 split at h
 ·rename_i hx
  cases h
  unfold zA9 at hx
  simp only at hx
  split at hx
  ·rename_i hy
   cases hx
   have:=zG0 ha _ _ _ _ _ hy
   simp only at this
   exact⟨by omega,by omega,fun _=>by omega⟩
  ·cases hx
 ·cases h
theorem zJt {ere:Bool} {L:List Mk} {grp:Rst→Out (List Nd)} {s:Rst} {e i:Nat} (hs:s.i<L.length) (hg:s.i+zAY ere≤L.length→grp s= .no e i→Bad L e i) (h:zAy ere L grp s= .no e i):Bad L e i:=by
 unfold zAy at h
 split at h
 ·cases h;exact Bad.mk' (by decide) hs
 ·rename_i hne
  split at h
  ·cases h;exact Bad.mk' (by decide) hs
  ·simp only at h
   split at h
   ·rename_i he
    have hw:zAY ere=2:=by cases ere<;>simp_all[zAY]
    unfold zBF at h
    split at h
    ·cases h
    ·rename_i hx;cases h;exact hg (by omega) hx
   ·split at h
    ·cases h
    ·split at h
     ·cases h
     ·split at h
      ·split at h
       ·cases h;exact Bad.mk' (by decide) hs
       ·split at h
        ·cases h;exact Bad.mk' (by decide) hs
        ·cases h
      ·cases h;exact Bad.mk' (by decide) hs
theorem zM6 {ere first:Bool} {L:List Mk} {grp:Rst→Out (List Nd)} {s:Rst} {e i:Nat} (hs:s.i<L.length) (hg:s.i+zAY ere≤L.length→grp s= .no e i→Bad L e i) (h:zDR ere first L grp s= .no e i):Bad L e i:=by
 unfold zDR at h
 simp only at h
 split at h
 ·cases h
 ·split at h
  ·unfold zPP at h;cases h
  ·split at h
   ·exact zLe hs h
   ·split at h
    ·exact zJt hs hg h
    ·split at h
     ·unfold zDk at h;split at h<;>cases h
     ·split at h
      ·unfold zLa at h;split at h<;>cases h
      ·split at h
       ·rename_i he
        have hw:zAY ere=1:=by cases ere<;>simp_all[zAY]
        unfold zBF at h
        split at h
        ·cases h
        ·rename_i hx;cases h;exact hg (by omega) hx
       ·cases h
theorem zIl {ere:Bool} {L:List Mk} {s:Rst} {e i:Nat} (h:zAl ere L s= .no e i):e=43∧i=s.i:=by
 unfold zAl at h
 obtain⟨b,hb⟩: ∃b,b=(if seesAt L (zEH L (s.i+zAY ere)).2 [44]then zEH L ((zEH L (s.i+zAY ere)).2+1)else zEH L (s.i+zAY ere)):=⟨_,rfl⟩
 simp only[←hb]at h
 split at h
 ·cases h;exact⟨rfl,rfl⟩
 ·cases h
theorem zOE {ere:Bool} {L:List Mk} {s:Rst} {e i:Nat} (hs:s.i≤L.length) (h:zGY ere L s= .no e i):Bad L e i:=by
 unfold zGY at h
 repeat' (split at h)
 all_goals first
  |(cases h;done)
  |(rename_i hx
    cases h
    obtain⟨rfl,rfl⟩:=zIl hx
    exact⟨by decide,hs,fun h=>by omega⟩)
theorem zFZ {ere top:Bool} {L:List Mk} {grp:Rst→Out (List Nd)} (hu: ∀i,i<L.length→(zAI L i).b<256) (hg: ∀s re t,s.i+zAY ere≤L.length→grp s= .ok re t→Adv L s t) (hn: ∀s e i,s.i+zAY ere≤L.length→grp s= .no e i→Bad L e i):
  ∀(f:Nat) (all:List Nd) (n:Nat) (lead:Bool) (s:Rst) (e i:Nat),L.length<f+s.i→zFJ ere top L grp f all n lead s= .no e i→s.i≤L.length→Bad L e i
 |0,_,_,_,s,_,_,hf,_,hs=>by omega
 |f+1,all,n,lead,s,e,i,hf,h,hs=>by
  unfold zFJ at h
  split at h
  ·cases h
  ·rename_i hlt
   split at h
   ·cases h
   ·split at h
    ·split at h
     ·cases h;exact Bad.mk' (by decide) (by omega)
     ·cases h
    ·split at h
     ·cases h;exact Bad.mk' (by decide) (by omega)
     ·split at h
      ·rename_i hx
       cases h
       exact zM6 (by omega) (fun hw=>hn s _ _ hw) hx
      ·rename_i re takes u hx
       have h1:=zEl hu (by omega) (fun re t=>hg s re t) hx
       have h1l:=h1.lt
       have h1e:=h1.le
       simp only at h
       split at h
       ·rename_i hr
        simp only[Bool.and_eq_true]at hr
        split at h
        ·rename_i hd
         cases h
         exact zOE h1e hd
        ·rename_i d v hd
         have h2:=zFe hr.2 hd
         have h2l:=h2.lt
         have h2e:=h2.le
         exact zFZ hu hg hn f _ _ _ _ _ _ (by omega) h h2e
       ·exact zFZ hu hg hn f _ _ _ _ _ _ (by omega) h h1e
theorem zEs {ere:Bool} {L:List Mk} {row:Rst→Out (Nat × List Nd)} (hr: ∀s r t,s.i≤L.length→row s= .ok r t→zJ4 L s t) (hn: ∀s e i,s.i≤L.length→row s= .no e i→Bad L e i):
  ∀(f:Nat) (all:List Nd) (n:Nat) (s:Rst) (e i:Nat),L.length<f+s.i→s.i≤L.length→zBx ere L row f all n s= .no e i→Bad L e i
 |0,_,_,s,_,_,hf,hs,_=>by omega
 |f+1,all,n,s,e,i,hf,hs,h=>by
  unfold zBx at h
  split at h
  ·rename_i hx
   cases h
   exact hn _ _ _ hs hx
  ·rename_i parts r u hx
   have h1:=hr _ _ _ hs hx
   have h1l:=h1.lt
   have h1e:=h1.le
   simp only at h
   split at h
   ·cases h;exact⟨by decide,h1e,fun h=>by omega⟩
   ·split at h
    ·cases h
    ·rename_i hm
     have hm':(ere&&seesAt L u.i [124])=true:=by simpa using hm
     simp only[Bool.and_eq_true]at hm'
     have h2:=zBP (by simp) hm'.2
     simp only[List.length_singleton]at h2
     exact zEs hr hn f _ _ _ _ _ (by show L.length<f+(u.i+1);omega) h2 h
theorem zG5 {ere:Bool} {L:List Mk} (hu: ∀i,i<L.length→(zAI L i).b<256): ∀(k:Nat) (s:Rst) (e i:Nat),s.i+zAY ere≤L.length→zAa ere L k s= .no e i→Bad L e i
 |0,s,e,i,hs,h=>by
  have hw:=zCj ere
  simp only[zAa,Out.no.injEq]at h
  rw[←h.1,←h.2]
  exact Bad.mk' (by decide) (by omega)
 |k+1,s,e,i,hs,h=>by
  have hw:=zCj ere
  unfold zAa at h
  split at h
  ·cases h;exact Bad.mk' (by decide) (by omega)
  ·split at h
   ·rename_i hx
    cases h
    exact zEs (fun _ _ _ h0 h=>zC2 hu k h0 h) (fun s e i h0 h=>zFZ hu (fun s re t=>zCK hu k s re t) (fun s e i=>zG5 hu k s e i) _ _ _ _ s e i (by omega) h h0) _ _ _ _ _ _ (by omega) (by simpa using hs) hx
   ·split at h
    ·cases h;exact Bad.mk' (by decide) (by omega)
    ·cases h
theorem zKu {ere:Bool} {L:List Mk} (hu: ∀i,i<L.length→(zAI L i).b<256) (k:Nat) {s:Rst} {e i:Nat} (hs:s.i≤L.length) (h:zBt ere L k s= .no e i):Bad L e i:=
 zEs (fun _ _ _ h0 h=>zC2 hu k h0 h) (fun s e i h0 h=>zFZ hu (fun s re t=>zCK hu k s re t) (fun s e i=>zG5 hu k s e i) _ _ _ _ s e i (by omega) h h0) _ _ _ _ _ _ (by omega) hs h
theorem zE3 {ere:Bool} {L:List Mk} (hu: ∀i,i<L.length→(zAI L i).b<256) {e i:Nat} (h:zBN ere L= .error (e,i)):Bad L e i:=by
 unfold zBN at h
 split at h
 ·cases h;exact⟨by decide,by omega,fun h=>by omega⟩
 ·split at h
  ·cases h;exact⟨by decide,Nat.zero_le _,fun h=>by omega⟩
  ·split at h
   ·rename_i hx
    cases h
    exact zKu hu 64 (by simp) hx
   ·rename_i re t hx
    obtain⟨wt,hwt⟩:=zBh re _ _ _ _ _ _ (zEt hx)
    rw[hwt]at h
    simp only at h
    split at h
    ·cases h;exact⟨by decide,zQt _,fun h=>by omega⟩
    ·cases h
end
section
section
variable {T X U:List Nat} {i j:Nat} {ere:Bool}
theorem zPw (hi:i≤T.length):i≤(zHd T i).2∧(zHd T i).2≤T.length:=by
 have h1:=zCY zAL T i
 have h2:=zCX zAL hi
 unfold zHd
 simp only
 split
 ·exact⟨h1,h2⟩
 ·rename_i h3
  have:zAk zAL T i<T.length:=by
   by_cases h:T.length≤zAk zAL T i
   ·exact absurd (.inl h) h3
   ·omega
  split
  ·simp only;omega
  ·exact⟨h1,h2⟩
theorem zHH: ∀(n i:Nat) (acc t:List Nat) (j:Nat),i≤T.length→zCa T n i acc=some (t,j)→i≤j∧j≤T.length
 |0,i,acc,t,j,hi,h=>by cases h;exact⟨zQt _,hi⟩
 |n+1,i,acc,t,j,hi,h=>by
  rw[zCa]at h
  split at h
  ·cases h;exact⟨zQt _,hi⟩
  ·split at h
   ·cases h;omega
   ·split at h
    ·split at h
     ·cases h
     ·have:=zHH n (i+2) _ t j (by omega) h;omega
    ·have:=zHH n (i+1) _ t j (by omega) h;omega
theorem zOq (_hi:i≤T.length) {t:List Nat} (h:zHn T i=some (t,j)):i≤j∧j≤T.length:=by
 have h1:=zCY zAL T i
 unfold zHn at h
 simp only at h
 split at h
 ·cases h
 ·rename_i h2
  have h3:zAk zAL T i+3≤T.length:=by
   by_cases h:T.length<zAk zAL T i+3
   ·exact absurd (.inl h) h2
   ·omega
  have:=zHH _ _ _ _ _ (by omega) h
  omega
def Aft (T:List Nat) (i:Nat) (c c':Cm) (j:Nat):Prop:=c'.nm=c.nm∧c'.at_=c.at_∧i≤j∧j≤T.length
theorem zJl (hi:i≤T.length) {c c':Cm} (h:zGA T i c= .ok (c',j)):Aft T i c c' j:=by
 have h1:=zPw hi
 unfold zGA at h
 simp only at h
 split at h
 ·cases h
 ·cases h;exact⟨rfl,rfl,h1⟩
theorem zMr (hi:i≤T.length) {c c':Cm} (h:zGW T i c= .ok (c',j)):Aft T i c c' j:=by
 have h1:=zCY zAL T i
 have h2:=zKE (zCX zAL hi)
 unfold zGW at h
 simp only at h
 split at h
 ·cases h;exact⟨rfl,rfl,by omega,h2.2⟩
 ·cases h
theorem zN1 (hi:i≤T.length) {c c':Cm} (h:zGx T i c= .ok (c',j)):Aft T i c c' j:=by
 have h1:=zCY zAL T i
 have h2:=zKE (zCX zAL hi)
 unfold zGx at h
 simp only at h
 split at h
 ·cases h
 ·cases h;exact⟨rfl,rfl,by omega,h2.2⟩
theorem zPi (hi:i≤T.length) {c c':Cm} (h:zPS T i c= .ok (c',j)):Aft T i c c' j:=by
 unfold zPS at h
 cases ht:zHn T i with
 |none=>rw[ht]at h;cases h
 |some r=>
  rw[ht]at h
  cases h
  exact⟨rfl,rfl,zOq hi ht⟩
theorem zLz {c c':Cm} (h:zGd T i c= .ok (c',j)):Aft T i c c' j:=by
 unfold zGd at h
 split at h
 ·cases h
 ·cases h1:zBf T (T.getD i 0) false (i+1)with
  |none=>rw[h1]at h;cases h
  |some r=>
   have a1:=zBr h1
   rw[h1]at h
   simp only at h
   cases h2:zBf T (T.getD i 0) false r.2 with
   |none=>rw[h2]at h;cases h
   |some q=>
    have a2:=zBr h2
    rw[h2]at h
    simp only at h
    cases h3:zGe r.1 q.1 with
    |none=>rw[h3]at h;cases h
    |some t=>
     rw[h3]at h
     obtain⟨e1,e2,e3,e4⟩:=zJl a2.2.1 h
     exact⟨e1,e2,by omega,e4⟩
theorem zOB (n:Nat): ∀(i:Nat) (c c':Cm) (j:Nat),T.length - i<n→i≤T.length→zDB T n i c= .ok (c',j)→Aft T i c c' j:=by
 induction n with
 |zero=>intro i c c' j hn;omega
 |succ n ih=>
  intro i c c' j hn hi h
  rw[zFD]at h
  have hlt: ∀b,T.getD i 0=b→b≠0→i<T.length:=fun b hb h0=>by
   by_cases hlt:i<T.length
   ·exact hlt
   ·rw[zQ0,zRR (by omega)]at hb
    exact absurd hb.symm h0
  split at h
  ·rename_i h1
   have:=hlt _ h1 (by decide)
   unfold zMp at h
   split at h
   ·cases h
   ·obtain⟨e1,e2,e3,e4⟩:=ih (i+1) _ c' j (by omega) (by omega) h
    exact⟨e1,e2,by omega,e4⟩
  ·split at h
   ·rename_i h1
    have:=hlt _ h1 (by decide)
    unfold zMo at h
    split at h
    ·cases h
    ·obtain⟨e1,e2,e3,e4⟩:=ih (i+1) _ c' j (by omega) (by omega) h
     exact⟨e1,e2,by omega,e4⟩
   ·split at h
    ·cases hq:zHg T 1048576 i with
     |none=>rw[hq]at h;cases h
     |some r=>
      have hat:=zJd hq hi
      rw[hq]at h
      unfold zMq at h
      simp only at h
      split at h
      ·cases h
      ·obtain⟨e1,e2,e3,e4⟩:=ih r.2 _ c' j (by omega) (by omega) h
       exact⟨e1,e2,by omega,e4⟩
    ·split at h
     ·rename_i h1
      have:=hlt _ h1 (by decide)
      unfold zMn at h
      split at h
      ·cases h
      ·obtain⟨e1,e2,e3,e4⟩:=zMr (by omega) h
       exact⟨e1,e2,by omega,e4⟩
     ·exact zJl hi h
theorem zMy {c c':Cm} (h:zFE ere T i c= .ok (c',j)):Aft T i c c' j:=by
 unfold zFE at h
 split at h
 ·cases h
 ·cases h1:zBf T (T.getD i 0) false (i+1)with
  |none=>rw[h1]at h;cases h
  |some r=>
   have a1:=zBr h1
   rw[h1]at h
   simp only at h
   cases hr:reS ere r.1 c with
   |error e=>rw[hr]at h;cases h
   |ok re=>
    rw[hr]at h
    simp only at h
    cases h2:zBf T (T.getD i 0) true r.2 with
    |none=>rw[h2]at h;cases h
    |some q=>
     have a2:=zBr h2
     rw[h2]at h
     simp only at h
     cases h3:zLW q.1 with
     |none=>rw[h3]at h;cases h
     |some t=>
      rw[h3]at h
      simp only at h
      cases h4:zIm T q.2 { c with re:=re,fi:=t } with
      |error e=>rw[h4]at h;cases h
      |ok z=>
       obtain⟨e1,e2,e3,e4⟩:=zOB (T.length+1 - q.2) q.2 _ z.1 z.2 (by omega) a2.2.1 h4
       rw[h4]at h
       simp only at h
       split at h
       ·cases h
       ·cases h
        exact⟨e1,e2,by omega,e4⟩
theorem zM4 (hi:i≤T.length) {c c':Cm} (h:zIv ere T i c= .ok (c',j)):Aft T i c c' j:=by
 unfold zIv at h
 split at h
 ·cases h;exact⟨rfl,rfl,zQt _,hi⟩
 ·split at h
  ·exact zMy h
  ·split at h
   ·exact zLz h
   ·split at h
    ·exact zN1 hi h
    ·split at h
     ·exact zMr hi h
     ·split at h
      ·exact zPi hi h
      ·exact zJl hi h
theorem zMj (hi:i≤T.length) {n:Nat} {r:Cm × Nat} (h:zEi ere T i n= .ok r):i≤r.1.at_∧r.1.at_<T.length∧r.2=r.1.at_+1∧T.getD r.1.at_ 0=r.1.nm:=(zN4 (Jn.of T []) hi h).2
def zO0 (ere:Bool) (T:List Nat) (j:Nat) (l:List Cm) (f:Nat→List Cm→Rd (List Cm)):Rd (List Cm):=
 match zEi ere T j l.length with
 | .error e=> .error e
 | .ok (c,k)=>match zIv ere T k c with
  | .error e=> .error e
  | .ok (c',q)=>f q (l++[c'])
theorem zGq {l:List Cm} {f g:Nat→List Cm→Rd (List Cm)} (hj:j≤T.length) (h: ∀q m,j<q→q≤T.length→f q m=g q m):zO0 ere T j l f=zO0 ere T j l g:=by
 unfold zO0
 cases hh:zEi ere T j l.length with
 |error e=>rfl
 |ok r=>
  obtain⟨c,k⟩:=r
  have a1:=zMj hj hh
  simp only at a1 ⊢
  cases hb:zIv ere T k c with
  |error e=>rfl
  |ok r=>
   obtain⟨c',q⟩:=r
   obtain⟨_,_,e3,e4⟩:=zM4 (by omega) hb
   exact h q _ (by omega) e4
theorem zGL (n i:Nat) (l:List Cm):zGZ ere T (n+1) i l=if T.length≤zAk zCD T i then .ok l else if T.getD (zAk zCD T i) 0=35 then zGZ ere T n (zDZ T (zAk zCD T i)) l else zO0 ere T (zAk zCD T i) l (zGZ ere T n):=rfl
theorem zMB (h:i<T.length) (hb:T.getD i 0=35):i<zDZ T i∧zDZ T i≤T.length:=by
 have h1:zDZ T i=zDZ T (i+1):=by
  unfold zDZ
  rw[zA0,if_pos ⟨h,by rw[hb];rfl⟩]
 have:=zKE (T:=T) (i:=i+1) (by omega)
 omega
theorem zGM (n:Nat): ∀(m i:Nat) (l:List Cm),T.length - i<n→n≤m→i≤T.length→zGZ ere T m i l=zGZ ere T n i l:=by
 induction n with
 |zero=>intro m i l hn;omega
 |succ n ih=>
  intro m i l hn hm hi
  obtain⟨m,rfl⟩: ∃m',m=m'+1:=⟨m - 1,by omega⟩
  have h1:=zCY zCD T i
  rw[zGL,zGL]
  generalize zAk zCD T i=q at h1
  by_cases h0:T.length≤q
  ·rw[if_pos h0,if_pos h0]
  ·rw[if_neg h0,if_neg h0]
   by_cases h2:T.getD q 0=35
   ·rw[if_pos h2,if_pos h2]
    have:=zMB (by omega) h2
    exact ih m _ l (by omega) (by omega) this.2
   ·rw[if_neg h2,if_neg h2]
    exact zGq (by omega) fun k s h3 h4=>ih m k s (by omega) (by omega) h4
def zJx (ere:Bool) (T:List Nat) (i:Nat) (l:List Cm):Rd (List Cm):=zGZ ere T (T.length+1 - i) i l
theorem zLc (hi:i≤T.length) (l:List Cm):zJx ere T i l=if T.length≤zAk zCD T i then .ok l else if T.getD (zAk zCD T i) 0=35 then zJx ere T (zDZ T (zAk zCD T i)) l else zO0 ere T (zAk zCD T i) l (zJx ere T):=by
 have h1:=zCY zCD T i
 have e:zJx ere T i l=zGZ ere T (T.length+1) i l:=(zGM _ _ i l (by omega) (by omega) hi).symm
 rw[e,zGL]
 generalize zAk zCD T i=q at h1
 by_cases h0:T.length≤q
 ·rw[if_pos h0,if_pos h0]
 ·rw[if_neg h0,if_neg h0]
  by_cases h2:T.getD q 0=35
  ·rw[if_pos h2,if_pos h2]
   have:=zMB (by omega) h2
   exact zGM _ _ _ l (by omega) (by omega) this.2
  ·rw[if_neg h2,if_neg h2]
   exact zGq (by omega) fun k s h3 h4=>zGM _ _ k s (by omega) (by omega) h4
theorem zOM (h:T.length≤65536):zFV ere T=zJx ere T 0 []:=by unfold zFV zJx;rw[if_neg (by omega),Nat.sub_zero]
end
end
section
def zAX (a:Ad):Bool:=
 if a.kind=0∨a.kind=2 then a.n==0&&a.re.isEmpty
 else if a.kind=1 then decide (1≤a.n∧a.n≤2147483647)&&a.re.isEmpty
 else if a.kind=3 then a.n==0&&(a.re.isEmpty||shapedN a.re)
 else false
end
section
def zBX (t:List Nat):Bool:=t.all (· !=10)&& !(zAL (t.getD 0 0))&& !(zAL (t.getLastD 0))
def zDu (nm:Nat) (wr:Bool) (t:List Nat):Bool:=
 if nm=97∨nm=99∨nm=105 then true
 else if nm=98∨nm=116 then zBX t
 else if nm=58 then !t.isEmpty&&zBX t
 else if nm=114∨nm=119 then zBS t
 else if nm=115∧wr=true then zBS t
 else t.isEmpty
def zAQ:List Pc→Bool→Bool
 |[],_=>true
 |x::l,t=>if x.k= -1 then !x.t.isEmpty&& !t&&zAQ l true else decide (0≤x.k∧x.k≤9)&&x.t.isEmpty&&zAQ l false
def zFU (a b:Ad):Nat:=(if a.kind≠0 then 1 else 0)+(if b.kind≠0 then 1 else 0)
def zIc (nt:Bool) (many:Nat):Option Nat→Bool
 |none=>false
 |some most=>decide (many≤most)&& !(decide (most=0)&&nt)
def zL4 (a b:Ad) (nt:Bool) (nm:Nat) (at_:Int) (tx:List Nat) (re:List Nd) (fi:List Pc) (ct:Int) (al pr wr tz:Bool):Bool:=
 zAX a&&zAX b&&zIc nt (zFU a b) (zCd nm)&& !(decide (zFU a b=1)&&decide (a.kind=0))&&decide (0≤at_)&&zDu nm wr tx&&(nm==121||tz)&&
  (if nm=115 then(re.isEmpty||(shapedN re&&decide (zEf fi≤(zBH re:Int))))&&zAQ fi false&&decide (0≤ct∧ct≤1048576)
   else re.isEmpty&&fi.isEmpty&&ct==0&& !al&& !pr&& !wr)
def zP9:List Nat:=List.replicate 256 0
def Cm.shaped (c:Cm):Bool:=zL4 c.a c.b c.nt c.nm c.at_ c.tx c.re c.fi c.ct c.al c.pr c.wr (decide (c.tb=zP9))
section
variable {T:List Nat} {i j:Nat} {ere:Bool}
theorem zPC {T:List Nat} {i j b:Nat} (h:b∈zIs T i j): ∃k,i≤k∧k<j∧T.getD k 0=b:=by
 unfold zIs at h
 obtain⟨n,hn⟩:=List.getElem?_of_mem h
 obtain⟨hl,hn⟩:=zQy.1 hn
 rw[List.length_take,List.length_drop]at hl
 refine⟨i+n,by omega,by omega,?_⟩
 rw[List.getElem_take,List.getElem_drop]at hn
 rw[zQ0,zQ8 (by omega),hn];rfl
theorem zLv {b:Nat} {l:List Nat} (h:b∈zBw l):b∈l:=by
 unfold zBw at h
 rw[List.mem_reverse]at h
 have:=(List.dropWhile_sublist zAL).mem h
 rwa[List.mem_reverse]at this
theorem zFl (l:List Nat):zBw l <+: l:=by
 unfold zBw
 have h:=List.dropWhile_suffix zAL (l:=l.reverse)
 rw[←List.reverse_prefix,List.reverse_reverse]at h
 exact h
end
end
section
def zPF:List Nat:=[35,110,10,49,44,36,33,112,59,115,47,97,47,98,47,50,103]
def zPT:List Nat:=[112,59,112,112]
def zPp:Rd (List Cm)→Bool
 | .ok [x,y]=>x.nm==112&&x.nt&&x.at_==7&&y.ct==2&&y.al
 |_=>false
theorem zPE:zPp (zFV false zPF)=true:=by decide+kernel
theorem zMa: ∃x y,zFV false zPF= .ok [x,y]∧x.nm=112∧x.nt=true∧x.at_=7∧y.ct=2∧y.al=true:=by
 have h:=zPE
 unfold zPp at h
 split at h
 ·rename_i x y he
  simp only[Bool.and_eq_true,beq_iff_eq]at h
  exact⟨x,y,he,h.1.1.1.1,h.1.1.1.2,h.1.1.2,h.1.2,h.2⟩
 ·cases h
def zOf:Rd (List Cm)→Bool
 | .error (e,p)=>e==78&&p==3
 |_=>false
theorem zNx:zOf (zFV false zPT)=true:=by decide+kernel
theorem zMZ:zFV false zPT= .error (78,3):=by
 have h:=zNx
 unfold zOf at h
 split at h
 ·rename_i e p he
  simp only[Bool.and_eq_true,beq_iff_eq]at h
  rw[he,h.1,h.2]
 ·cases h
theorem zLM:zDN zPF=true:=by decide+kernel
end
end Go.Proofs.YtmaagpbjahjmhaaGreatDoor
