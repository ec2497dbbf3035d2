/- Parts: Spec Rs Ts. -/
namespace Go.Proofs.YtfcemodgopdkkaaGreatDoor
section
structure Mk where
 b:Nat
 p:Bool
deriving DecidableEq
structure Cls where
 w0:BitVec 64
 w1:BitVec 64
 w2:BitVec 64
 w3:BitVec 64
deriving DecidableEq
def orw (a b:BitVec 64):BitVec 64:=a ||| b
def zKW (a b:BitVec 64):BitVec 64:=a &&& b
def zKn (a:BitVec 64):BitVec 64:= ~~~a
def zL1 (n:Nat):BitVec 64:=1#64 <<< n
def Cls.zero:Cls:=⟨0#64,0#64,0#64,0#64⟩
def Cls.word (c:Cls):Nat→BitVec 64
 |0=>c.w0
 |1=>c.w1
 |2=>c.w2
 |_=>c.w3
def Cls.set (c:Cls) (j:Nat) (v:BitVec 64):Cls:=
 match j with
 |0=> { c with w0:=v }
 |1=> { c with w1:=v }
 |2=> { c with w2:=v }
 |_=> { c with w3:=v }
def Cls.add (c:Cls) (b:Nat):Cls:=c.set (b / 64) (orw (c.word (b / 64)) (zL1 (b % 64)))
def Cls.of (l:List Nat):Cls:=l.foldl Cls.add Cls.zero
def Cls.or (a b:Cls):Cls:=⟨orw a.w0 b.w0,orw a.w1 b.w1,orw a.w2 b.w2,orw a.w3 b.w3⟩
def Cls.and (a b:Cls):Cls:=⟨zKW a.w0 b.w0,zKW a.w1 b.w1,zKW a.w2 b.w2,zKW a.w3 b.w3⟩
def Cls.not (a:Cls):Cls:=⟨zKn a.w0,zKn a.w1,zKn a.w2,zKn a.w3⟩
def Cls.range (lo hi:Nat):Cls:=Cls.of (List.range' lo (hi+1 - lo))
end
section
structure Nd where
 op:Int
 set:Cls
 n:Int
 min:Int
 max:Int
 kids:Int
deriving DecidableEq
def Nd.zero:Nd:=⟨0,Cls.zero,0,0,0,0⟩
def zL6 (c:Cls):Nd:=⟨1,c,0,0,0,0⟩
structure Rst where
 i:Nat
 ended:List Bool
deriving DecidableEq
inductive Out (α:Type) where
 |ok (a:α) (s:Rst)
 |no (e i:Nat)
end
section
def zAf (n:Nd):Int:=if n.op=6 then(if n.max<0 then n.min+1 else max n.max 1)else 1
def zA3 (g:Nat→Option (Int × Nat)):Nat→Int→Nat→Option (Int × Nat)
 |0,sum,to=>some (sum,to)
 |k+1,sum,to=>match g to with
  |none=>none
  |some (w,nx)=>zA3 g k (min (sum+w) 16385) nx
def zAU (re:List Nd):Nat→Nat→Option (Int × Nat)
 |0,_=>none
 |f+1,i=>match re[i]? with
  |none=>none
  |some n=>match zA3 (zAU re f) n.kids.toNat 0 (i+1)with
   |none=>none
   |some (sum,to)=>some (min (zAf n*sum+1) 16385,to)
def zAg (n:Nd):Bool:=
 decide (1≤n.op)&&decide (n.op≤8)
 &&(n.op==1||n.set==Cls.zero)
 &&(n.op==7||n.op==8||n.n==0)
 &&(if n.op=6 then decide (0≤n.min)&&decide (n.min≤255)&&(n.max== -1||decide (n.min≤n.max)&&decide (n.max≤255))else n.min==0&&n.max==0)
 &&(if n.op=6∨n.op=7 then n.kids==1 else if n.op=5 then decide (2≤n.kids)else if n.op=4 then n.kids==0||decide (2≤n.kids)else n.kids==0)
def zAu (g:Nat→List Bool→Option (Nat × List Bool)):Nat→Nat→List Bool→Option (Nat × List Bool)
 |0,i,en=>some (i,en)
 |k+1,i,en=>match g i en with
  |none=>none
  |some (j,en')=>zAu g k j en'
def zAX (re:List Nd):Nat→Nat→Nat→List Bool→Option (Nat × List Bool)
 |0,_,_,_=>none
 |f+1,g,i,en=>match re[i]? with
  |none=>none
  |some n=>
   if !zAg n then none
   else if n.op==8&&(decide (n.n<1)||decide ((en.length:Int)<n.n)|| !en.getD (n.n.toNat - 1) false)then none
   else if n.op=7 then
    if n.n≠(en.length:Int)+1∨255<n.n∨64≤g then none
    else match zAu (zAX re f (g+1)) n.kids.toNat (i+1) (en++[false])with
     |none=>none
     |some (j,en')=>some (j,en'.set en.length true)
   else zAu (zAX re f g) n.kids.toNat (i+1) en
def shapedN (re:List Nd):Bool:=
 match zAX re 260 0 0 []with
 |none=>false
 |some (j,_)=>decide (j=re.length)&&(match zAU re 260 0 with
  |none=>false
  |some (w,_)=>decide (w≤16384))
def zAr (re:List Nd):Nat:=if shapedN re then(re.filter (·.op==7)).length else 0
def zEF (re:List Nd):Bool:=shapedN re&&re.any (·.op==8)
theorem zCK {g:Nat→List Bool→Option (Nat × List Bool)} {h:Nat→Option (Int × Nat)} (hg: ∀i en j en',g i en=some (j,en')→ ∃w,h i=some (w,j)):
  ∀(k i:Nat) (en:List Bool) (j:Nat) (en':List Bool),zAu g k i en=some (j,en')→ ∀sum,∃w,zA3 h k sum i=some (w,j)
 |0,i,en,j,en',he,sum=>by simp only[zAu,Option.some.injEq,Prod.mk.injEq]at he;exact⟨sum,by simp[zA3,he.1]⟩
 |k+1,i,en,j,en',he,sum=>by
  unfold zAu at he
  split at he
  ·cases he
  ·rename_i j1 en1 h1
   obtain⟨w,hw⟩:=hg _ _ _ _ h1
   obtain⟨w2,hw2⟩:=zCK hg k _ _ _ _ he (min (sum+w) 16385)
   exact⟨w2,by simp only[zA3,hw,hw2]⟩
theorem zBA (re:List Nd): ∀(f g i:Nat) (en:List Bool) (j:Nat) (en':List Bool),zAX re f g i en=some (j,en')→ ∃w,zAU re f i=some (w,j)
 |0,_,_,_,_,_,h=>by simp[zAX]at h
 |f+1,g,i,en,j,en',h=>by
  unfold zAX at h
  split at h
  ·cases h
  ·rename_i n hn
   have fin: ∀g' en1 j1 en2,zAu (zAX re f g') n.kids.toNat (i+1) en1=some (j1,en2)→ ∃w,zAU re (f+1) i=some (w,j1):=fun g' en1 j1 en2 hk=>by
    obtain⟨w,hw⟩:=zCK (fun i en j en'=>zBA re f g' i en j en') _ _ _ _ _ hk 0
    exact⟨min (zAf n*w+1) 16385,by simp only[zAU,hn,hw]⟩
   split at h
   ·cases h
   ·split at h
    ·cases h
    ·split at h
     ·split at h
      ·cases h
      ·split at h
       ·cases h
       ·rename_i j1 en1 hk
        cases h
        exact fin _ _ _ _ hk
     ·exact fin _ _ _ _ h
theorem zD4 {g h:Nat→Option (Int × Nat)} (hg: ∀i r,g i=some r→h i=some r): ∀(k:Nat) (sum:Int) (i:Nat) (r:Int × Nat),zA3 g k sum i=some r→zA3 h k sum i=some r
 |0,_,_,_,he=>he
 |k+1,sum,i,r,he=>by
  unfold zA3 at he ⊢
  split at he
  ·cases he
  ·rename_i w nx h1
   rw[hg _ _ h1]
   exact zD4 hg k _ _ _ he
theorem zCM (re:List Nd): ∀(f i:Nat) (r:Int × Nat),zAU re f i=some r→zAU re (f+1) i=some r
 |0,_,_,h=>by simp[zAU]at h
 |f+1,i,r,h=>by
  rw[zAU]at h ⊢
  split at h
  ·cases h
  ·split at h
   ·cases h
   ·rename_i sum to hk
    rw[zD4 (fun i r=>zCM re f i r) _ _ _ _ hk]
    exact h
theorem zBV (re:List Nd) {f g i:Nat} {r:Int × Nat} (hfg:f≤g) (h:zAU re f i=some r):zAU re g i=some r:=by
 induction hfg with
 |refl=>exact h
 |step _ ih=>exact zCM re _ _ _ ih
end
end Go.Proofs.YtfcemodgopdkkaaGreatDoor
