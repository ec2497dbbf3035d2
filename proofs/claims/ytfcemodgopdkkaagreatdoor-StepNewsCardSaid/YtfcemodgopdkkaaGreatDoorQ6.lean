/- Parts: Ro Rp Fa Va Fea Ve. -/
import Derived.Test.YtfcemodgopdkkaaGreatDoorQ3
import Derived.Test.YtfcemodgopdkkaaGreatDoorQ0
import Derived.Test.YtfcemodgopdkkaaGreatDoorQ1
import Derived.WalkMore
import Derived.Deep.LoopGhost
import Derived.Lib.Bytealg
import Derived.Lib.IndexLaws
import Derived.Laws.EntriesVeiled
import Derived.WalkKit
import Derived.StillTail
import Derived.BigQuiet
import Derived.Defers
import Derived.Recover
namespace Go.Proofs.YtfcemodgopdkkaaGreatDoor
section
open Go.RowKit
def zKU (re:List Nd) (p:Nat):Prop:= ∃x,re[p]?=some x∧zAg x=true∧x.kids≤re.length
theorem zB1 {re:List Nd} {g:Nat→List Bool→Option (Nat × List Bool)} (hg: ∀i en r,g i en=some r→i<r.1∧r.1≤re.length∧ ∀p,i≤p→p<r.1→zKU re p):
  ∀(k i:Nat) (en:List Bool) (r:Nat × List Bool),i≤re.length→zAu g k i en=some r→i+k≤r.1∧r.1≤re.length∧ ∀p,i≤p→p<r.1→zKU re p
 |0,i,en,r,hi,h=>by simp only[zAu,Option.some.injEq]at h;subst h;exact⟨zMA _,hi,fun p h1 h2=>by simp only at h2;omega⟩
 |k+1,i,en,r,hi,h=>by
  unfold zAu at h
  split at h
  ·cases h
  ·rename_i j en1 h1
   have h2:=hg _ _ _ h1
   simp only at h2
   have h3:=zB1 hg k _ _ _ h2.2.1 h
   refine⟨by omega,h3.2.1,fun p hp1 hp2=>?_⟩
   by_cases hj:p<j
   ·exact h2.2.2 p hp1 hj
   ·exact h3.2.2 p (by omega) hp2
theorem zCE (re:List Nd): ∀(f g i:Nat) (en:List Bool) (r:Nat × List Bool),zAX re f g i en=some r→i<r.1∧r.1≤re.length∧ ∀p,i≤p→p<r.1→zKU re p
 |0,_,_,_,_,h=>by simp[zAX]at h
 |f+1,g,i,en,r,h=>by
  unfold zAX at h
  split at h
  ·cases h
  ·rename_i n hn
   split at h
   ·cases h
   ·rename_i hgd
    have hgd':zAg n=true:=by simpa using hgd
    have hi:i<re.length:=(zMF.1 hn).1
    have fin: ∀(g':Nat) (en1:List Bool) (r1:Nat × List Bool),zAu (zAX re f g') n.kids.toNat (i+1) en1=some r1→i<r1.1∧r1.1≤re.length∧ ∀p,i≤p→p<r1.1→zKU re p:=fun g' en1 r1 hk=>by
     have h1:=zB1 (re:=re) (fun i en r=>zCE re f g' i en r) _ _ _ _ (by omega) hk
     refine⟨by have:=h1.1;omega,h1.2.1,fun p hp1 hp2=>?_⟩
     by_cases he:p=i
     ·subst he
      exact⟨n,hn,hgd',by have:=h1.1;have:=h1.2.1;omega⟩
     ·exact h1.2.2 p (by omega) hp2
    split at h
    ·cases h
    ·split at h
     ·split at h
      ·cases h
      ·split at h
       ·cases h
       ·rename_i hk
        cases h
        have:=fin _ _ _ hk
        exact this
     ·exact fin _ _ _ h
theorem zDM {re:List Nd} (h: ∀p,p<re.length→zKU re p):zDj re∧ ∀x∈re,x.kids≤re.length:=by
 have all: ∀x∈re,zAg x=true∧x.kids≤re.length:=fun x hx=>by
  obtain⟨p,hp⟩:=List.mem_iff_getElem?.1 hx
  obtain⟨y,hy,hg⟩:=h p (zMF.1 hp).1
  rw[hp]at hy;cases hy;exact hg
 refine⟨fun x hx h6=>?_,fun x hx=>(all x hx).2⟩
 have:=(all x hx).1
 simp only[zAg,h6,if_true,Bool.and_eq_true,decide_eq_true_eq,Bool.or_eq_true,beq_iff_eq]at this
 omega
end
section
open Go.RowKit
theorem zBH: ∀(re:List Nd) (i j:Nat),i<re.length→j<9→(zBb re)[i*9+j]?=(zAY (re.getD i Nd.zero))[j]?
 |[],i,j,h,_=>by simp at h
 |x::l,0,j,_,hj=>by
  rw[zE1,zMT (by simp[zAY];omega)]
  simp
 |x::l,i+1,j,h,hj=>by
  rw[zE1,zMU (by simp[zAY];omega)]
  have:=zBH l i j (by simpa using h) hj
  simpa [zAY,show(i+1)*9+j - 9=i*9+j by omega]using this
theorem Nds.at {w:World} {base:Nat} {v:Value} {re:List Nd} (h:Nds w base v re) (hn:0<re.length) (hl:re.length≤4294967296) (hk: ∀x∈re,x.kids≤re.length): ∃g cp,v= .slice (some ⟨g,0,none⟩) re.length cp∧base≤g∧zCm w g 0 re:=by
 rcases h.2 with ⟨_,h0⟩|⟨g,cp,cur,rfl,hg1,hg2,_⟩
 ·omega
 ·refine⟨g,cp,rfl,hg1,⟨(zMG.1 hg2).1,hl,fun i hi j=>?_,fun x hx=>by have:=hk x hx;omega⟩⟩
  by_cases hj:j<9
  ·left
   rw[zMX h _ (by omega),show 0+i*9+j=i*9+j by omega,zBH re i j hi hj]
  ·right;omega
theorem Nds.store {w:World} {base:Nat} {v:Value} {re:List Nd} (h:Nds w base v re) {b:Nat} (hb: ∀g,v.ownBlock=some g→g≠b) (u:Value):Nds (w.setCell ⟨b,0,none⟩ u) base v re:=h.block fun g hg=>zMI _ _ _ _ (hb g hg)
theorem Nds.alloc {w:World} {base:Nat} {v:Value} {re:List Nd} (h:Nds w base v re) (o:Obj):Nds (w.alloc o) base v re:=h.below ((zL9 _ _).alloc (zMA _) _)
theorem zCm.store {w:World} {nb no:Nat} {re:List Nd} (h:zCm w nb no re) {b:Nat} (hb:nb≠b) (u:Value):zCm (w.setCell ⟨b,0,none⟩ u) nb no re:=
 ⟨by simpa [World.setCell]using h.lt,h.len,fun i hi j=>(h.c i hi j).imp (fun e=>(zMQ _ _ _ _ (by simp only[ne_eq,Addr.mk.injEq,not_and];intro e;exact absurd e.symm hb)).trans e) id,h.k⟩
end
section
structure Ad where
 kind:Int
 n:Int
 re:List Nd
def Ad.zero:Ad:=⟨0,0,[]⟩
end
section
def zAa (b:Nat):Bool:=b==32||b==9
structure Pc where
 k:Int
 t:List Nat
deriving DecidableEq
def zC8 (p:List Pc):Int:=p.foldl (fun n x=>max n x.k) 0
structure Cm where
 a:Ad
 b:Ad
 nt:Bool
 nm:Nat
 at_:Nat
 tx:List Nat
 re:List Nd
 fi:List Pc
 ct:Nat
 al:Bool
 pr:Bool
 wr:Bool
 tb:List Nat
def Cm.zero:Cm:=⟨Ad.zero,Ad.zero,false,0,0,[],[],[],0,false,false,false,List.replicate 256 0⟩
def zCT (b:Nat):Option Nat:=
 if b∈[125,58]then some 0
 else if b∈[61,97,105,113,114]then some 1
 else if b∈[123,98,99,100,68,103,71,104,72,108,110,78,112,80,115,116,119,120,121]then some 2
 else none
def zBv (l:List Nat):List Nat:=(l.reverse.dropWhile zAa).reverse
def zA1 (l:List Nat):Bool:=decide (1≤l.length∧l.length≤64)&&l.all (fun b=>b !=0&&b !=10&&b !=47)&& !(zAa (l.getD 0 0))
end
section
def zAS (a:Ad):Bool:=
 if a.kind=0∨a.kind=2 then a.n==0&&a.re.isEmpty
 else if a.kind=1 then decide (1≤a.n∧a.n≤2147483647)&&a.re.isEmpty
 else if a.kind=3 then a.n==0&&(a.re.isEmpty||shapedN a.re)
 else false
end
section
def zAx (t:List Nat):Bool:=t.all (· !=10)&& !(zAa (t.getD 0 0))&& !(zAa (t.getLastD 0))
def zCe (nm:Nat) (wr:Bool) (t:List Nat):Bool:=
 if nm=97∨nm=99∨nm=105 then true
 else if nm=98∨nm=116 then zAx t
 else if nm=58 then !t.isEmpty&&zAx t
 else if nm=114∨nm=119 then zA1 t
 else if nm=115∧wr=true then zA1 t
 else t.isEmpty
def zAM:List Pc→Bool→Bool
 |[],_=>true
 |x::l,t=>if x.k= -1 then !x.t.isEmpty&& !t&&zAM l true else decide (0≤x.k∧x.k≤9)&&x.t.isEmpty&&zAM l false
def zDA (a b:Ad):Nat:=(if a.kind≠0 then 1 else 0)+(if b.kind≠0 then 1 else 0)
def zE2 (nt:Bool) (many:Nat):Option Nat→Bool
 |none=>false
 |some most=>decide (many≤most)&& !(decide (most=0)&&nt)
def zHw (a b:Ad) (nt:Bool) (nm:Nat) (at_:Int) (tx:List Nat) (re:List Nd) (fi:List Pc) (ct:Int) (al pr wr tz:Bool):Bool:=
 zAS a&&zAS b&&zE2 nt (zDA a b) (zCT nm)&& !(decide (zDA a b=1)&&decide (a.kind=0))&&decide (0≤at_)&&zCe nm wr tx&&(nm==121||tz)&&
  (if nm=115 then(re.isEmpty||(shapedN re&&decide (zC8 fi≤(zAr re:Int))))&&zAM fi false&&decide (0≤ct∧ct≤1048576)
   else re.isEmpty&&fi.isEmpty&&ct==0&& !al&& !pr&& !wr)
def zLJ:List Nat:=List.replicate 256 0
def Cm.shaped (c:Cm):Bool:=zHw c.a c.b c.nt c.nm c.at_ c.tx c.re c.fi c.ct c.al c.pr c.wr (decide (c.tb=zLJ))
section
variable {T:List Nat} {i j:Nat} {ere:Bool}
theorem zHh {b:Nat} {l:List Nat} (h:b∈zBv l):b∈l:=by
 unfold zBv at h
 rw[List.mem_reverse]at h
 have:=(List.dropWhile_sublist zAa).mem h
 rwa[List.mem_reverse]at this
theorem zEW (l:List Nat):zBv l <+: l:=by
 unfold zBv
 have h:=List.dropWhile_suffix zAa (l:=l.reverse)
 rw[←List.reverse_prefix,List.reverse_reverse]at h
 exact h
def zL7 (T:List Nat) (i:Nat) (c:Cm):Prop:=c.shaped=true∧c.at_<T.length∧T.getD c.at_ 0=c.nm∧c.at_<i
end
end
end Go.Proofs.YtfcemodgopdkkaaGreatDoor
