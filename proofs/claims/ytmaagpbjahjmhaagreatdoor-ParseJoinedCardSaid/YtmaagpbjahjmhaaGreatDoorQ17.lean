/- Parts: Ba Bb. -/
import Derived.Test.YtmaagpbjahjmhaaGreatDoorQ6
import Derived.Laws.OwnMore
namespace Go.Proofs.YtmaagpbjahjmhaaGreatDoor
section
open Go.RowKit
theorem zAq {w w':World} {base:Nat} {e:TypeId} {size:Nat} {v:Value} {n:Nat} {xs:List Value} (h:w.ownsRow base e size v n xs) (hb: ∀g,v.ownBlock=some g→w'.heap[g]?=w.heap[g]?):w'.ownsRow base e size v n xs:=by
 refine⟨h.1,?_⟩
 rcases h.2 with hn|⟨g,cap,cur,rfl,hg,hgg,rest⟩
 ·exact .inl hn
 ·exact .inr ⟨g,cap,cur,rfl,hg,(hb g rfl).trans hgg,rest⟩
structure zAQ (w w':World) (S:Nat→Prop):Prop where
 os:w'.os=w.os
 tape:w'.tape=w.tape
 output:w'.output=w.output
 size:w.heap.size≤w'.heap.size
 block: ∀k,k<w.heap.size→ ¬S k→w'.heap[k]?=w.heap[k]?
theorem zAQ.refl (w:World) (S:Nat→Prop):zAQ w w S:=⟨rfl,rfl,rfl,Nat.le_refl _,fun _ _ _=>rfl⟩
theorem zAQ.trans {w w1 w2:World} {S T:Nat→Prop} (h:zAQ w w1 S) (h2:zAQ w1 w2 T) (hT: ∀k,k<w.heap.size→T k→S k):zAQ w w2 S:=
 ⟨h2.os.trans h.os,h2.tape.trans h.tape,h2.output.trans h.output,Nat.le_trans h.size h2.size,fun k hk hn=>(h2.block k (Nat.lt_of_lt_of_le hk h.size) fun t=>hn (hT k hk t)).trans (h.block k hk hn)⟩
theorem zAQ.mono {w w1:World} {S T:Nat→Prop} (h:zAQ w w1 S) (hT: ∀k,k<w.heap.size→S k→T k):zAQ w w1 T:=
 ⟨h.os,h.tape,h.output,h.size,fun k hk hn=>h.block k hk fun s=>hn (hT k hk s)⟩
theorem zAQ.of_below {w w':World} {k:Nat} (h:Below k w w') (S:Nat→Prop) (hS: ∀j,k≤j→j<w.heap.size→S j):zAQ w w' S:=
 ⟨h.os,h.tape,h.output,h.size,fun j hj hn=>h.block j (Nat.lt_of_not_le fun hk=>hn (hS j hk hj))⟩
theorem zAQ.below {w w':World} {S:Nat→Prop} (h:zAQ w w' S) {k:Nat} (hk:k≤w.heap.size) (hS: ∀j,j<k→ ¬S j):Below k w w':=⟨h.os,h.tape,h.output,h.size,fun j hj=>h.block j (by omega) (hS j hj)⟩
theorem zAQ.row {w w':World} {S:Nat→Prop} (h:zAQ w w' S) {base:Nat} {e:TypeId} {size:Nat} {v:Value} {n:Nat} {xs:List Value} (hv:w.ownsRow base e size v n xs) (hS: ∀b,v.ownBlock=some b→ ¬S b):w'.ownsRow base e size v n xs:=
 zAq hv fun g hg=>h.block g (hv.lt g hg).2 (hS g hg)
theorem zAQ.cell {w w':World} {S:Nat→Prop} (h:zAQ w w' S) {p:Addr} (hp:p.block<w.heap.size) (hS: ¬S p.block):w'.cell? p=w.cell? p:=World.cell?_of_block (h.block _ hp hS)
theorem zAQ.alloc (w:World) (o:Obj) (S:Nat→Prop):zAQ w (w.alloc o) S:=⟨rfl,rfl,rfl,by simp,fun k hk _=>heap_alloc_old w o hk⟩
theorem zAQ.drew (w:World) (S:Nat→Prop):zAQ w w.drew S:=⟨rfl,rfl,rfl,Nat.le_refl _,fun _ _ _=>rfl⟩
theorem zAQ.setCell (w:World) (p:Addr) (u:Value):zAQ w (w.setCell p u) (fun k=>k=p.block):=
 ⟨rfl,rfl,rfl,by simp[World.setCell],fun k hk hn=>by simp[World.setCell,Array.getElem?_modify,Ne.symm hn]⟩
def zH8 (xs:List Value) (k:Nat):List Value→List Value
 |[]=>xs
 |u::l=>zH8 (xs.set k u) (k+1) l
def zPq (w:World) (g k:Nat):List Value→World
 |[]=>w
 |u::l=>zPq (w.setCell ⟨g,k,none⟩ u) g (k+1) l
theorem zF4: ∀(l xs:List Value) (k:Nat),k+l.length≤xs.length→(zH8 xs k l).take (k+l.length)=xs.take k++l
 |[],xs,k,_=>by simp[zH8]
 |u::l,xs,k,h=>by
  simp only[List.length_cons]at h
  rw[zH8,List.length_cons,show k+(l.length+1)=k+1+l.length by omega,zF4 l _ _ (by rw[List.length_set];omega),List.take_add_one,List.take_set_of_le (Nat.le_refl _),List.getElem?_set_self (by omega)]
  simp
theorem zH3: ∀(l:List Value) {w:World} {base:Nat} {e:TypeId} {size g n cap:Nat} {xs:List Value} (k:Nat),w.ownsRow base e size (.slice (some ⟨g,0,none⟩) n cap) n xs→(zPq w g k l).ownsRow base e size (.slice (some ⟨g,0,none⟩) n cap) n (zH8 xs k l)
 |[],_,_,_,_,_,_,_,_,_,h=>h
 |u::l,_,_,_,_,_,_,_,_,k,h=>zH3 l (k+1) (World.ownsRow.stored h k u).1
end
section
open Go.RowKit
section
variable {w0 w w':World} {base:Nat} {e es:TypeId} {size:Nat} {vs:List Value} {ns:List Nat} {f:Nat→Nat→List Value} {gb fld:Nat} {bv:Value} {tag:Nat→Nat} {os ls:List Value} {ov lv:Value}
end
theorem zBj {w:World} {base:Nat} {e:TypeId} {size:Nat} {v:Value} {n:Nat} {xs:List Value} (h:w.ownsRow base e size v n xs): ∃o c,v= .slice o n c:=by
 rcases h.2 with ⟨rfl,rfl⟩|⟨g,cap,_,rfl,_⟩
 ·exact⟨none,0,rfl⟩
 ·exact⟨_,_,rfl⟩
theorem zB0 {w:World} {base:Nat} {e:TypeId} {size:Nat} {o:Option Addr} {n m c:Nat} {xs:List Value} (h:w.ownsRow base e size (.slice o n c) m xs) (hn:0<m):m=n∧ ∃g,o=some ⟨g,0,none⟩∧g<w.heap.size∧(∀j,j<n*size→ ∃u,xs[j]?=some u∧w.cell? ⟨g,j,none⟩=some u)∧ ∀j,w.frozen? ⟨g,j,none⟩=false:=by
 have h0:=h
 rcases h.2 with ⟨_,h1⟩|⟨g,cap,_,h1,_,hg,_⟩
 ·omega
 ·simp only[Value.slice.injEq]at h1
  obtain⟨rfl,rfl,rfl⟩:=h1
  refine⟨rfl,g,rfl,(Array.getElem?_eq_some_iff.1 hg).1,fun j hj=>?_,fun j=>World.ownsRow.frozenAt h0 j⟩
  have hl:j<xs.length:=by rw[h0.1];exact hj
  exact⟨xs[j],List.getElem?_eq_getElem hl,by rw[World.ownsRow.cellAt h0 j hj,List.getElem?_eq_getElem hl]⟩
end
end Go.Proofs.YtmaagpbjahjmhaaGreatDoor
