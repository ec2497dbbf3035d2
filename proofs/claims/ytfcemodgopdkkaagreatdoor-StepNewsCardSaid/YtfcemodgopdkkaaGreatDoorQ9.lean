/- Parts: Ba Bb. -/
import Derived.Test.YtfcemodgopdkkaaGreatDoorQ2
import Derived.Laws.OwnMore
namespace Go.Proofs.YtfcemodgopdkkaaGreatDoor
section
open Go.RowKit
theorem zCy {w w':World} {base:Nat} {e:TypeId} {size:Nat} {v:Value} {n:Nat} {xs:List Value} (h:w.ownsRow base e size v n xs) (hb: ∀g,v.ownBlock=some g→w'.heap[g]?=w.heap[g]?):w'.ownsRow base e size v n xs:=by
 refine⟨h.1,?_⟩
 rcases h.2 with hn|⟨g,cap,cur,rfl,hg,hgg,rest⟩
 ·exact .inl hn
 ·exact .inr ⟨g,cap,cur,rfl,hg,(hb g rfl).trans hgg,rest⟩
structure zAb (w w':World) (S:Nat→Prop):Prop where
 os:w'.os=w.os
 tape:w'.tape=w.tape
 output:w'.output=w.output
 size:w.heap.size≤w'.heap.size
 block: ∀k,k<w.heap.size→ ¬S k→w'.heap[k]?=w.heap[k]?
theorem zAb.refl (w:World) (S:Nat→Prop):zAb w w S:=⟨rfl,rfl,rfl,zMA _,fun _ _ _=>rfl⟩
theorem zAb.trans {w w1 w2:World} {S T:Nat→Prop} (h:zAb w w1 S) (h2:zAb w1 w2 T) (hT: ∀k,k<w.heap.size→T k→S k):zAb w w2 S:=
 ⟨h2.os.trans h.os,h2.tape.trans h.tape,h2.output.trans h.output,zMV h.size h2.size,fun k hk hn=>(h2.block k (zMB hk h.size) fun t=>hn (hT k hk t)).trans (h.block k hk hn)⟩
theorem zAb.mono {w w1:World} {S T:Nat→Prop} (h:zAb w w1 S) (hT: ∀k,k<w.heap.size→S k→T k):zAb w w1 T:=
 ⟨h.os,h.tape,h.output,h.size,fun k hk hn=>h.block k hk fun s=>hn (hT k hk s)⟩
theorem zAb.of_grown {w w':World} {row:Option Nat} (h:w.grownBy w' row):zAb w w' (fun k=>some k=row):=⟨h.os,h.tape,h.output,h.size,h.block⟩
theorem zAb.of_below {w w':World} {k:Nat} (h:Below k w w') (S:Nat→Prop) (hS: ∀j,k≤j→j<w.heap.size→S j):zAb w w' S:=
 ⟨h.os,h.tape,h.output,h.size,fun j hj hn=>h.block j (Nat.lt_of_not_le fun hk=>hn (hS j hk hj))⟩
theorem zAb.below {w w':World} {S:Nat→Prop} (h:zAb w w' S) {k:Nat} (hk:k≤w.heap.size) (hS: ∀j,j<k→ ¬S j):Below k w w':=⟨h.os,h.tape,h.output,h.size,fun j hj=>h.block j (by omega) (hS j hj)⟩
theorem zAb.row {w w':World} {S:Nat→Prop} (h:zAb w w' S) {base:Nat} {e:TypeId} {size:Nat} {v:Value} {n:Nat} {xs:List Value} (hv:w.ownsRow base e size v n xs) (hS: ∀b,v.ownBlock=some b→ ¬S b):w'.ownsRow base e size v n xs:=
 zCy hv fun g hg=>h.block g (hv.lt g hg).2 (hS g hg)
theorem zAb.cell {w w':World} {S:Nat→Prop} (h:zAb w w' S) {p:Addr} (hp:p.block<w.heap.size) (hS: ¬S p.block):w'.cell? p=w.cell? p:=zMC (h.block _ hp hS)
theorem zAb.alloc (w:World) (o:Obj) (S:Nat→Prop):zAb w (w.alloc o) S:=⟨rfl,rfl,rfl,by simp,fun k hk _=>zMM w o hk⟩
theorem zAb.drew (w:World) (S:Nat→Prop):zAb w w.drew S:=⟨rfl,rfl,rfl,zMA _,fun _ _ _=>rfl⟩
theorem zAb.setCell (w:World) (p:Addr) (u:Value):zAb w (w.setCell p u) (fun k=>k=p.block):=
 ⟨rfl,rfl,rfl,by simp[World.setCell],fun k hk hn=>by simp[World.setCell,Array.getElem?_modify,Ne.symm hn]⟩
def zEd (xs:List Value) (k:Nat):List Value→List Value
 |[]=>xs
 |u::l=>zEd (xs.set k u) (k+1) l
def zKd (w:World) (g k:Nat):List Value→World
 |[]=>w
 |u::l=>zKd (w.setCell ⟨g,k,none⟩ u) g (k+1) l
theorem zCO: ∀(l xs:List Value) (k:Nat),k+l.length≤xs.length→(zEd xs k l).take (k+l.length)=xs.take k++l
 |[],xs,k,_=>by simp[zEd]
 |u::l,xs,k,h=>by
  simp only[List.length_cons]at h
  rw[zEd,List.length_cons,show k+(l.length+1)=k+1+l.length by omega,zCO l _ _ (by rw[List.length_set];omega),List.take_add_one,List.take_set_of_le (zMA _),List.getElem?_set_self (by omega)]
  simp
theorem zDI: ∀(l:List Value) {w:World} {base:Nat} {e:TypeId} {size g n cap:Nat} {xs:List Value} (k:Nat),w.ownsRow base e size (.slice (some ⟨g,0,none⟩) n cap) n xs→(zKd w g k l).ownsRow base e size (.slice (some ⟨g,0,none⟩) n cap) n (zEd xs k l)
 |[],_,_,_,_,_,_,_,_,_,h=>h
 |u::l,_,_,_,_,_,_,_,_,k,h=>zDI l (k+1) (zMW h k u).1
end
section
open Go.RowKit
section
variable {w0 w w':World} {base:Nat} {e es:TypeId} {size:Nat} {vs:List Value} {ns:List Nat} {f:Nat→Nat→List Value} {gb fld:Nat} {bv:Value} {tag:Nat→Nat} {os ls:List Value} {ov lv:Value}
end
theorem zAI {w:World} {base:Nat} {e:TypeId} {size:Nat} {v:Value} {n:Nat} {xs:List Value} (h:w.ownsRow base e size v n xs): ∃o c,v= .slice o n c:=by
 rcases h.2 with ⟨rfl,rfl⟩|⟨g,cap,_,rfl,_⟩
 ·exact⟨none,0,rfl⟩
 ·exact⟨_,_,rfl⟩
theorem zAZ {w:World} {base:Nat} {e:TypeId} {size:Nat} {o:Option Addr} {n m c:Nat} {xs:List Value} (h:w.ownsRow base e size (.slice o n c) m xs) (hn:0<m):m=n∧ ∃g,o=some ⟨g,0,none⟩∧g<w.heap.size∧(∀j,j<n*size→ ∃u,xs[j]?=some u∧w.cell? ⟨g,j,none⟩=some u)∧ ∀j,w.frozen? ⟨g,j,none⟩=false:=by
 have h0:=h
 rcases h.2 with ⟨_,h1⟩|⟨g,cap,_,h1,_,hg,_⟩
 ·omega
 ·simp only[Value.slice.injEq]at h1
  obtain⟨rfl,rfl,rfl⟩:=h1
  refine⟨rfl,g,rfl,(zMG.1 hg).1,fun j hj=>?_,fun j=>zMY h0 j⟩
  have hl:j<xs.length:=by rw[h0.1];exact hj
  exact⟨xs[j],zMP hl,by rw[zMX h0 j hj,zMP hl]⟩
end
end Go.Proofs.YtfcemodgopdkkaaGreatDoor
