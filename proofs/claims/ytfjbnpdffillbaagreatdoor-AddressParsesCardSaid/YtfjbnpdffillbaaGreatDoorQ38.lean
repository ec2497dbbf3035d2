/- Parts: Ba Bb Bga. -/
import Derived.Test.YtfjbnpdffillbaaGreatDoorQ5
import Derived.Laws.OwnMore
namespace Go.Proofs.YtfjbnpdffillbaaGreatDoor
section
open Go.RowKit
theorem zJC {P:Program} {w w':World} {t ty e:TypeId} {i:TypeInfo} {z:Value} {base size bytes n m c:Nat} {v v':Value} {xs news:List Value} {ad:Addr} (ht:P.underlying t=some (.slice e)) (hi:P.info? e=some i) (hz:i.zero=some z)
  (hsize:i.size=size) (hby:i.bytes=bytes) (hown:w.ownsRow base e size v n xs) (hl:news.length=m*size) (hnews: ∀j u,news[j]?=some u→w.cell? (ad.add j)=some u) (h1: ∀u∈news,u.oneCell'=true)
  (h63:n+m≤maxLen) (hbytes:(n+m)*bytes≤140737488355328) (hr:(Builtin.append_ #[t,t] ty #[v,.slice (some ad) m c]).run P w= .ok v' w'):w'.ownsRow base e size v n xs:=by
 subst hsize
 subst hby
 rcases hown.2 with ⟨rfl,rfl⟩|⟨g,cap,cur,rfl,hbg,hg,hnc,hcm,hcs,htake⟩
 ·have hx:xs=[]:=zQE (by simpa using hown.1)
  subst hx
  exact zPv _ _ _ _
 ·by_cases hroom:n+m≤cap
  ·have hfit:n*i.size+news.length≤cur.size:=by rw[hl,hcs,←Nat.add_mul];exact zQF _ hroom
   have h2:=run_append_room (P:=P) w t ty e i ht hi g n cap cur hg ad m c news hl hnews h1 hroom hfit
   rw[h2]at hr
   simp only[Result.ok.injEq]at hr
   obtain⟨rfl,rfl⟩:=hr
   refine⟨hown.1,.inr ⟨g,cap,_,rfl,hbg,setRow_heap w g cur _ e _ hg,hnc,hcm,?_,?_⟩⟩
   ·simp only[List.size_toArray,List.length_append,List.length_take,List.length_drop,Array.length_toList]
    omega
   ·rw[htake,List.append_assoc,←hown.1]
    exact List.take_left
  ·have holds: ∀j u,xs[j]?=some u→w.cell? ((⟨g,0,none⟩:Addr).add j)=some u:=hown.cells (g:=g) rfl
   have h2:=run_append_grow (P:=P) w t ty e i z ht hi hz ⟨g,0,none⟩ n cap xs hown.1 holds ad m c news hl hnews (by omega) (by simp only[maxLen]at h63;omega) (growslice_fits (by omega) hbytes)
   rw[h2]at hr
   simp only[Result.ok.injEq]at hr
   obtain⟨rfl,rfl⟩:=hr
   exact hown.kept (row:=none) ⟨rfl,rfl,rfl,by simp,fun k hk _=>zPt w.drew _ hk⟩ (by simp[Value.ownBlock])
theorem zDX {P:Program} {w:World} {ops:Array Oper} {rest:List Oper} {o:Oper} {a:Act} {Q:Exit→Act→World→Prop} {t e:TypeId} {size bytes:Nat} {z:Value} (E:ElT P t e size bytes z)
  (hgd:o.guard=none) (s x:Operand) (ho:o.op= .call { callee:= .builtin .append,args:= #[s,x],argTypes:= #[t,t] })
  (base:Nat) {v sv:Value} {n m:Nat} {xs news:List Value} (hs:a.eval s=v) (hown:w.ownsRow base e size v n xs) (hx:a.eval x=sv) {ad:Addr} {c:Nat} (hsv:sv= .slice (some ad) m c) (hnews: ∀j u,news[j]?=some u→w.cell? (ad.add j)=some u)
  (hl:news.length=m*size) (h1: ∀u∈news,u.oneCell'=true) (h63:n+m≤maxLen) (hbytes:(n+m)*bytes≤140737488355328) (hbase:base≤w.heap.size)
  (h: ∀v' w',w'.ownsRow base e size v' (n+m) (xs++news)→w.grownBy w' v.ownBlock→(v'.ownBlock=v.ownBlock∨v'.ownBlock=some w.heap.size)→w'.ownsRow base e size v n xs→wpList P ops Q rest (a.put o.dst v') w'):
  wpList P ops Q (o::rest) a w:=by
 obtain⟨i,hi,hz0,hz1,hz2⟩:=info_parts E.hi
 subst hsv
 refine wpList_plain hgd fun K hK=>?_
 obtain⟨v',w',hr,h2,h3,h4,h5⟩:=run_append_own_at (P:=P) w base t o.type e i z size bytes E.ht hi hz0 hz1 hz2 E.hzs E.hsz v n xs hown ad m c news hl hnews h1 h63 hbytes hbase
 have h6:=zJC E.ht hi hz0 hz1 hz2 hown hl hnews h1 h63 hbytes hr
 unfold Oper.wp execOp
 simp only[ho,resolve,invoke,builtin,Sem.run_bind,Sem.run_pure,Result.andThen_ok,List.map_toArray,List.map_cons,List.map_nil,hs,hx,hr]
 exact hK _ _ (h v' w' h2 h3 h5 h6)
theorem zG6 {w w':World} {base:Nat} {e:TypeId} {size:Nat} {u v:Value} {nu nv:Nat} {xu xs:List Value} (hu:w.ownsRow base e size u nu xu) (hv:w.ownsRow base e size v nv xs) (hv':w'.ownsRow base e size v nv xs)
  (hb:u.ownBlock=v.ownBlock) (hle:nu≤nv) (hsz:0<size):w'.ownsRow base e size u nu xu:=by
 refine⟨hu.1,?_⟩
 rcases hu.2 with h|⟨g,cap,cur,rfl,hbg,hg,hnc,hcm,hcs,htake⟩
 ·exact .inl h
 rcases hv.2 with ⟨rfl,_⟩|⟨g2,cap2,cur2,rfl,hbg2,hg2,hnc2,hcm2,hcs2,htake2⟩
 ·simp[Value.ownBlock]at hb
 rcases hv'.2 with ⟨h,_⟩|⟨g3,cap3,cur3,h,hbg3,hg3,hnc3,hcm3,hcs3,htake3⟩
 ·cases h
 ·simp only[Value.slice.injEq,Option.some.injEq,Addr.mk.injEq,and_true,true_and]at h
  obtain⟨rfl,rfl⟩:=h
  simp only[Value.ownBlock,Option.some.injEq]at hb
  subst hb
  rw[hg]at hg2
  simp only[Option.some.injEq,Obj.cells.injEq,and_true]at hg2
  subst hg2
  have hcap:cap=cap2:=Nat.eq_of_mul_eq_mul_right hsz (hcs.symm.trans hcs2)
  subst hcap
  refine .inr ⟨g,cap,cur3,rfl,hbg,hg3,hnc,hcm,hcs3,?_⟩
  have hm:nu*size≤nv*size:=zQF _ hle
  rw[←htake,show nu*size=min (nu*size) (nv*size)by omega,←List.take_take,←List.take_take,htake3,htake2]
theorem zBs {w w':World} {base:Nat} {e:TypeId} {size:Nat} {v:Value} {n:Nat} {xs:List Value} (h:w.ownsRow base e size v n xs) (hb: ∀g,v.ownBlock=some g→w'.heap[g]?=w.heap[g]?):w'.ownsRow base e size v n xs:=by
 refine⟨h.1,?_⟩
 rcases h.2 with hn|⟨g,cap,cur,rfl,hg,hgg,rest⟩
 ·exact .inl hn
 ·exact .inr ⟨g,cap,cur,rfl,hg,(hb g rfl).trans hgg,rest⟩
structure zCJ (w w':World) (S:Nat→Prop):Prop where
 os:w'.os=w.os
 tape:w'.tape=w.tape
 output:w'.output=w.output
 size:w.heap.size≤w'.heap.size
 block: ∀k,k<w.heap.size→ ¬S k→w'.heap[k]?=w.heap[k]?
theorem zCJ.refl (w:World) (S:Nat→Prop):zCJ w w S:=⟨rfl,rfl,rfl,zPh _,fun _ _ _=>rfl⟩
theorem zCJ.trans {w w1 w2:World} {S T:Nat→Prop} (h:zCJ w w1 S) (h2:zCJ w1 w2 T) (hT: ∀k,k<w.heap.size→T k→S k):zCJ w w2 S:=
 ⟨h2.os.trans h.os,h2.tape.trans h.tape,h2.output.trans h.output,zP2 h.size h2.size,fun k hk hn=>(h2.block k (zPi hk h.size) fun t=>hn (hT k hk t)).trans (h.block k hk hn)⟩
theorem zCJ.mono {w w1:World} {S T:Nat→Prop} (h:zCJ w w1 S) (hT: ∀k,k<w.heap.size→S k→T k):zCJ w w1 T:=
 ⟨h.os,h.tape,h.output,h.size,fun k hk hn=>h.block k hk fun s=>hn (hT k hk s)⟩
theorem zCJ.of_grown {w w':World} {row:Option Nat} (h:w.grownBy w' row):zCJ w w' (fun k=>some k=row):=⟨h.os,h.tape,h.output,h.size,h.block⟩
theorem zCJ.of_below {w w':World} {k:Nat} (h:Below k w w') (S:Nat→Prop) (hS: ∀j,k≤j→j<w.heap.size→S j):zCJ w w' S:=
 ⟨h.os,h.tape,h.output,h.size,fun j hj hn=>h.block j (Nat.lt_of_not_le fun hk=>hn (hS j hk hj))⟩
theorem zCJ.below {w w':World} {S:Nat→Prop} (h:zCJ w w' S) {k:Nat} (hk:k≤w.heap.size) (hS: ∀j,j<k→ ¬S j):Below k w w':=⟨h.os,h.tape,h.output,h.size,fun j hj=>h.block j (by omega) (hS j hj)⟩
theorem zCJ.row {w w':World} {S:Nat→Prop} (h:zCJ w w' S) {base:Nat} {e:TypeId} {size:Nat} {v:Value} {n:Nat} {xs:List Value} (hv:w.ownsRow base e size v n xs) (hS: ∀b,v.ownBlock=some b→ ¬S b):w'.ownsRow base e size v n xs:=
 zBs hv fun g hg=>h.block g (hv.lt g hg).2 (hS g hg)
theorem zCJ.cell {w w':World} {S:Nat→Prop} (h:zCJ w w' S) {p:Addr} (hp:p.block<w.heap.size) (hS: ¬S p.block):w'.cell? p=w.cell? p:=zPj (h.block _ hp hS)
theorem zCJ.alloc (w:World) (o:Obj) (S:Nat→Prop):zCJ w (w.alloc o) S:=⟨rfl,rfl,rfl,by simp,fun k hk _=>zPt w o hk⟩
theorem zCJ.drew (w:World) (S:Nat→Prop):zCJ w w.drew S:=⟨rfl,rfl,rfl,zPh _,fun _ _ _=>rfl⟩
theorem zCJ.setCell (w:World) (p:Addr) (u:Value):zCJ w (w.setCell p u) (fun k=>k=p.block):=
 ⟨rfl,rfl,rfl,by simp[World.setCell],fun k hk hn=>by simp[World.setCell,Array.getElem?_modify,Ne.symm hn]⟩
def Mc (f:Nat→Nat→List Value) (i k:Nat):List Value:=(List.range k).flatMap (f i)
theorem zIJ (f:Nat→Nat→List Value) (i k:Nat):Mc f i (k+1)=Mc f i k++f i k:=by simp[Mc,List.range_succ]
theorem zJI {f:Nat→Nat→List Value} {size:Nat} (hf: ∀i j,(f i j).length=size) (i:Nat): ∀k,(Mc f i k).length=k*size
 |0=>by simp[Mc]
 |k+1=>by rw[zIJ,zPz,zJI hf i k,hf,Nat.succ_mul]
theorem zO5 {f:Nat→Nat→List Value} {size:Nat} (hf: ∀i j,(f i j).length=size) (i:Nat) {k j c:Nat} (hj:j<k) (hc:c<size):(Mc f i k)[j*size+c]?=(f i j)[c]?:=by
 induction k with
 |zero=>omega
 |succ k ih=>
  rw[zIJ]
  have hl:=zJI hf i k
  by_cases hjk:j<k
  ·rw[zP0,ih hjk]
   rw[hl]
   calc j*size+c<j*size+size:=by omega
    _=(j+1)*size:=(Nat.succ_mul _ _).symm
    _≤k*size:=zQF _ hjk
  ·have:j=k:=by omega
   subst this
   rw[zP1 (by omega),hl]
   congr 1
   omega
def zGK (xs:List Value) (k:Nat):List Value→List Value
 |[]=>xs
 |u::l=>zGK (xs.set k u) (k+1) l
def zKl (w:World) (g k:Nat):List Value→World
 |[]=>w
 |u::l=>zKl (w.setCell ⟨g,k,none⟩ u) g (k+1) l
theorem zGJ: ∀(l xs:List Value) (k:Nat),k+l.length≤xs.length→(zGK xs k l).take (k+l.length)=xs.take k++l
 |[],xs,k,_=>by simp[zGK]
 |u::l,xs,k,h=>by
  simp only[List.length_cons]at h
  rw[zGK,List.length_cons,show k+(l.length+1)=k+1+l.length by omega,zGJ l _ _ (by rw[List.length_set];omega),List.take_add_one,List.take_set_of_le (zPh _),List.getElem?_set_self (by omega)]
  simp
theorem zHH: ∀(l:List Value) (w:World) (g k:Nat),zCJ w (zKl w g k l) (fun j=>j=g)
 |[],w,_,_=>zCJ.refl w _
 |u::l,w,g,k=>(zCJ.setCell w ⟨g,k,none⟩ u).trans (zHH l _ g (k+1)) fun _ _ h=>h
theorem zIT: ∀(l:List Value) {w:World} {base:Nat} {e:TypeId} {size g n cap:Nat} {xs:List Value} (k:Nat),w.ownsRow base e size (.slice (some ⟨g,0,none⟩) n cap) n xs→(zKl w g k l).ownsRow base e size (.slice (some ⟨g,0,none⟩) n cap) n (zGK xs k l)
 |[],_,_,_,_,_,_,_,_,_,h=>h
 |u::l,_,_,_,_,_,_,_,_,k,h=>zIT l (k+1) (zP3 h k u).1
structure Bgl (w:World) (base:Nat) (e es:TypeId) (size:Nat) (vs:List Value) (ns:List Nat) (X:Nat→List Value) (gb fld:Nat) (bv:Value):Prop where
 len:ns.length=vs.length
 a: ∀(i:Nat) (v:Value) (n:Nat),vs[i]?=some v→ns[i]?=some n→w.ownsRow base e size v n (X i)
 ap: ∀(i j:Nat) (v u:Value) (b:Nat),vs[i]?=some v→vs[j]?=some u→v.ownBlock=some b→u.ownBlock=some b→i=j
 r:w.ownsRow base es 1 bv vs.length vs
 ra: ∀(i:Nat) (v:Value) (b:Nat),vs[i]?=some v→v.ownBlock=some b→bv.ownBlock≠some b
 c:w.cell? ⟨gb,fld,none⟩=some bv
 cl:gb<w.heap.size
 ca: ∀(i:Nat) (v:Value),vs[i]?=some v→v.ownBlock≠some gb
 rc:bv.ownBlock≠some gb
def Blk (vs:List Value) (b:Nat):Prop:= ∃(i:Nat) (v:Value),vs[i]?=some v∧v.ownBlock=some b
theorem Bgl.kept {w w':World} {base:Nat} {e es:TypeId} {size:Nat} {vs:List Value} {ns:List Nat} {X:Nat→List Value} {gb fld:Nat} {bv:Value} (h:Bgl w base e es size vs ns X gb fld bv) {S:Nat→Prop} (k:zCJ w w' S)
  (hS: ∀b,S b→b<w.heap.size→ ¬Blk vs b∧bv.ownBlock≠some b∧b≠gb):Bgl w' base e es size vs ns X gb fld bv:=
 ⟨h.len,fun i v n hv hn=>k.row (h.a i v n hv hn) fun b hb s=>(hS b s ((h.a i v n hv hn).lt b hb).2).1 ⟨i,v,hv,hb⟩,h.ap,k.row h.r fun b hb s=>(hS b s (h.r.lt b hb).2).2.1 hb,h.ra,
  (k.cell (p:=⟨gb,fld,none⟩) h.cl fun s=>(hS _ s h.cl).2.2 rfl).trans h.c,zPi h.cl k.size,h.ca,h.rc⟩
theorem Bgl.put {w:World} {base:Nat} {e es:TypeId} {size:Nat} {vs:List Value} {ns:List Nat} {X:Nat→List Value} {gb fld:Nat} {bv:Value} (h:Bgl w base e es size vs ns X gb fld bv) {i g n cap:Nat} (hv:vs[i]?=some (.slice (some ⟨g,0,none⟩) n cap)) (hn:ns[i]?=some n) (k:Nat) (l:List Value):
  Bgl (zKl w g k l) base e es size vs ns (fun j=>if j=i then zGK (X i) k l else X j) gb fld bv∧zCJ w (zKl w g k l) (Blk vs):=by
 have hk:=zHH l w g k
 refine⟨⟨h.len,fun j v m hj hm=>?_,h.ap,hk.row h.r fun b hb s=>h.ra i _ b hv (by rw[s];rfl) hb,h.ra,(hk.cell (p:=⟨gb,fld,none⟩) h.cl fun s=>h.ca i _ hv (by have s':gb=g:=s;rw[s'];rfl)).trans h.c,zPi h.cl hk.size,h.ca,h.rc⟩,hk.mono fun b _ s=>⟨i,_,hv,by have s':b=g:=s;rw[s'];rfl⟩⟩
 by_cases hji:j=i
 ·subst hji
  rw[hv]at hj
  rw[hn]at hm
  cases hj
  cases hm
  rw[if_pos rfl]
  exact zIT l k (h.a j _ n hv hn)
 ·rw[if_neg hji]
  exact hk.row (h.a j v m hj hm) fun b hb s=>hji (h.ap j i v _ b hj hv hb (by have s':b=g:=s;rw[s'];rfl))
end
section
open Go.RowKit
def Tg (tag:Nat→Nat) (t:Nat) (v:Value):Prop:= ∀b,v.ownBlock=some b→tag b=t
theorem Tg.nil (tag:Nat→Nat) (t:Nat):Tg tag t (.slice none 0 0):=fun b h=>by simp[Value.ownBlock]at h
def zKk (tag:Nat→Nat) (k t:Nat):Nat→Nat:=fun b=>if b=k then t else tag b
theorem zCS {tag:Nat→Nat} {k t b:Nat} (h:b<k):zKk tag k t b=tag b:=if_neg (by omega)
theorem Tg.up {tag:Nat→Nat} {t:Nat} {v:Value} (h:Tg tag t v) {w:World} {base:Nat} {e:TypeId} {size n:Nat} {xs:List Value} (hv:w.ownsRow base e size v n xs) (s:Nat):Tg (zKk tag w.heap.size s) t v:=
 fun b hb=>(zCS (hv.lt b hb).2).trans (h b hb)
theorem Tg.new {tag:Nat→Nat} {w:World} {t:Nat} {v v':Value} (h:Tg tag t v) (hlt: ∀b,v.ownBlock=some b→b<w.heap.size) (hb:v'.ownBlock=v.ownBlock∨v'.ownBlock=some w.heap.size):Tg (zKk tag w.heap.size t) t v':=fun b hv=>by
 rcases hb with hb|hb
 ·rw[hb]at hv;exact(zCS (hlt b hv)).trans (h b hv)
 ·rw[hb]at hv;cases hv;exact if_pos rfl
structure Gr (w0 w:World) (base:Nat) (e es:TypeId) (size:Nat) (vs:List Value) (ns:List Nat) (f:Nat→Nat→List Value) (gb fld:Nat) (bv:Value) (tag:Nat→Nat) (os ls:List Value) (ov lv:Value):Prop where
 g:Bgl w base e es size vs ns (fun i=>Mc f i (ns.getD i 0)) gb fld bv
 kp:zCJ w0 w (Blk vs)
 tv: ∀i v,vs[i]?=some v→Tg tag i v
 tw: ∀b,b<w0.heap.size→tag b<vs.length→Blk vs b
 tb:Tg tag (vs.length+3) bv
 tg:tag gb=vs.length+3
 ol:os.length≤vs.length
 ll:ls.length≤os.length
 o: ∀i o n,os[i]?=some o→ns[i]?=some n→w.ownsRow base e size o (n+1) (Mc f i (n+1))∧Tg tag i o
 l: ∀i l n,ls[i]?=some l→ns[i]?=some n→w.ownsRow base e size l (n+70) (Mc f i (n+70))∧Tg tag i l
 ov:w.ownsRow w0.heap.size es 1 ov os.length os∧Tg tag (vs.length+1) ov
 lv:w.ownsRow w0.heap.size es 1 lv ls.length ls∧Tg tag (vs.length+2) lv
section
variable {w0 w w':World} {base:Nat} {e es:TypeId} {size:Nat} {vs:List Value} {ns:List Nat} {f:Nat→Nat→List Value} {gb fld:Nat} {bv:Value} {tag:Nat→Nat} {os ls:List Value} {ov lv:Value}
theorem Gr.start (h:Bgl w base e es size vs ns (fun i=>Mc f i (ns.getD i 0)) gb fld bv): ∃tag,Gr w w base e es size vs ns f gb fld bv tag [] [] (.slice none 0 0) (.slice none 0 0):=by
 classical
 have hlt: ∀i v,vs[i]?=some v→i<vs.length:=fun i v hv=>(zPm.1 hv).1
 have htag: ∀i v b (hv:vs[i]?=some v) (hb:v.ownBlock=some b) (hB:Blk vs b),hB.choose=i:=fun i v b hv hb hB=>by
  obtain⟨u,hu,hub⟩:=hB.choose_spec
  exact h.ap _ _ u v b hu hv hub hb
 refine⟨fun b=>if hB:Blk vs b then hB.choose else vs.length+3,h,zCJ.refl _ _,fun i v hv b hb=>?_,fun b _ hb=>?_,fun b hb=>?_,?_,Nat.zero_le _,zPh _,fun i o n ho=>by simp at ho,fun i o n ho=>by simp at ho,⟨zPv _ _ _ _,Tg.nil _ _⟩,⟨zPv _ _ _ _,Tg.nil _ _⟩⟩
 ·have hB:Blk vs b:=⟨i,v,hv,hb⟩
  simp only[dif_pos hB]
  exact htag i v b hv hb hB
 ·by_cases hB:Blk vs b
  ·exact hB
  ·simp only[dif_neg hB]at hb
   omega
 ·have hB: ¬Blk vs b:=fun⟨i,v,hv,hvb⟩=>h.ra i v b hv hvb hb
  simp only[dif_neg hB]
 ·have hB: ¬Blk vs gb:=fun⟨i,v,hv,hvb⟩=>h.ca i v hv hvb
  simp only[dif_neg hB]
theorem Gr.lt (h:Gr w0 w base e es size vs ns f gb fld bv tag os ls ov lv) (o:Obj):Gr w0 (w.alloc o) base e es size vs ns f gb fld bv tag os ls ov lv:=
 have k:=zCJ.alloc w o (fun _=>False)
 ⟨h.g.kept k (fun _ s=>s.elim),h.kp.trans k (fun _ _ s=>s.elim),h.tv,h.tw,h.tb,h.tg,h.ol,h.ll,fun i o n ho hn=>⟨k.row (h.o i o n ho hn).1 fun _ _ s=>s,(h.o i o n ho hn).2⟩,fun i o n ho hn=>⟨k.row (h.l i o n ho hn).1 fun _ _ s=>s,(h.l i o n ho hn).2⟩,
  ⟨k.row h.ov.1 fun _ _ s=>s,h.ov.2⟩,⟨k.row h.lv.1 fun _ _ s=>s,h.lv.2⟩⟩
theorem zHc {l u:Value} {k nu:Nat} {xs xu:List Value} (hsz:0<size) (hl:w.ownsRow base e size l k xs) (hl':w'.ownsRow base e size l k xs) (hg:w.grownBy w' l.ownBlock) (hu:w.ownsRow base e size u nu xu) (hle:nu≤k):w'.ownsRow base e size u nu xu:=by
 by_cases h:u.ownBlock=l.ownBlock
 ·exact zG6 hu hl hl' h hle hsz
 ·exact hu.kept hg (.inr h)
theorem zDk {s t:Nat} {u v:Value} (hu:Tg tag s u) (hv:Tg tag t v) (hst:s≠t):u.ownBlock=none∨u.ownBlock≠v.ownBlock:=by
 cases hb:u.ownBlock with
 |none=>exact .inl rfl
 |some b=>exact .inr fun h=>hst ((hu b hb).symm.trans (hv b h.symm))
theorem Gr.grow (h:Gr w0 w base e es size vs ns f gb fld bv tag os ls ov lv) (hsz:0<size) {i k:Nat} {l l':Value} (hi:i<vs.length) (hils:i=ls.length) (hk:ns.getD i 0≤k) (hko:i<os.length→ns.getD i 0+1≤k) (hl:w.ownsRow base e size l k (Mc f i k)) (ht:Tg tag i l)
  (hgr:w.grownBy w' l.ownBlock) (hb:l'.ownBlock=l.ownBlock∨l'.ownBlock=some w.heap.size) (hold:w'.ownsRow base e size l k (Mc f i k)):
  ∃tag',Gr w0 w' base e es size vs ns f gb fld bv tag' os ls ov lv∧Tg tag' i l':=by
 have hns: ∀j n,ns[j]?=some n→ns.getD j 0=n:=fun j n hj=>by rw[zPo,hj];rfl
 have hvs: ∀j v,vs[j]?=some v→j<vs.length:=fun j v hv=>(zPm.1 hv).1
 have gl:=h.g
 refine⟨zKk tag w.heap.size i,⟨⟨gl.len,fun j v n hv hn=>?_,gl.ap,gl.r.kept hgr (zDk h.tb ht (by omega)),gl.ra,?_,zPi gl.cl hgr.size,gl.ca,gl.rc⟩,h.kp.trans (zCJ.of_grown hgr) fun b hb0 hs=>?_,fun j v hv=>?_,fun b hb0 hs=>?_,
  (h.tb).up gl.r _,(zCS gl.cl).trans h.tg,h.ol,h.ll,fun j o n ho hn=>?_,fun j o n ho hn=>?_,⟨h.ov.1.kept hgr (zDk h.ov.2 ht (by omega)),h.ov.2.up h.ov.1 _⟩,⟨h.lv.1.kept hgr (zDk h.lv.2 ht (by omega)),h.lv.2.up h.lv.1 _⟩⟩,ht.new (fun b hb=>(hl.lt b hb).2) hb⟩
 ·by_cases hji:j=i
  ·subst hji
   exact zHc hsz hl hold hgr (gl.a j v n hv hn) (by rw[←hns j n hn];exact hk)
  ·exact(gl.a j v n hv hn).kept hgr (zDk (h.tv j v hv) ht hji)
 ·refine(zPj (hgr.block _ gl.cl fun hs=>?_)).trans gl.c
  have:=ht gb hs.symm
  have:=h.tg
  omega
 ·have:=ht b hs.symm
  exact h.tw b hb0 (by omega)
 ·cases hn:ns[j]? with
  |none=>rw[zQD,gl.len]at hn;have:=hvs j v hv;omega
  |some n=>exact(h.tv j v hv).up (gl.a j v n hv hn) _
 ·have hlt:b<w.heap.size:=zPi hb0 h.kp.size
  rw[zCS hlt]at hs
  exact h.tw b hb0 hs
 ·obtain⟨h1,h2⟩:=h.o j o n ho hn
  refine⟨?_,h2.up h1 _⟩
  by_cases hji:j=i
  ·subst hji
   exact zHc hsz hl hold hgr h1 (by rw[←hns j n hn];exact hko (zPm.1 ho).1)
  ·exact h1.kept hgr (zDk h2 ht hji)
 ·obtain⟨h1,h2⟩:=h.l j o n ho hn
  refine⟨?_,h2.up h1 _⟩
  have hji:j≠i:=by have:=(zPm.1 ho).1;omega
  exact h1.kept hgr (zDk h2 ht hji)
theorem Gr.one (h:Gr w0 w base e es size vs ns f gb fld bv tag os ls ov lv) {i:Nat} {l ov':Value} (hi:i<vs.length) (hios:i=os.length) (hl:w.ownsRow base e size l (ns.getD i 0+1) (Mc f i (ns.getD i 0+1))) (ht:Tg tag i l)
  (hgr:w.grownBy w' ov.ownBlock) (hb:ov'.ownBlock=ov.ownBlock∨ov'.ownBlock=some w.heap.size) (hnew:w'.ownsRow w0.heap.size es 1 ov' (os.length+1) (os++[l])):
  ∃tag',Gr w0 w' base e es size vs ns f gb fld bv tag' (os++[l]) ls ov' lv∧Tg tag' i l∧w'.ownsRow base e size l (ns.getD i 0+1) (Mc f i (ns.getD i 0+1)):=by
 have hns: ∀j n,ns[j]?=some n→ns.getD j 0=n:=fun j n hj=>by rw[zPo,hj];rfl
 have hvs: ∀j v,vs[j]?=some v→j<vs.length:=fun j v hv=>(zPm.1 hv).1
 have gl:=h.g
 have hto:=h.ov.2
 have hll:=h.ll
 have hol:=h.ol
 have hl2:w'.ownsRow base e size l (ns.getD i 0+1) (Mc f i (ns.getD i 0+1)):=hl.kept hgr (zDk ht hto (by omega))
 refine⟨zKk tag w.heap.size (vs.length+1),⟨⟨gl.len,fun j v n hv hn=>(gl.a j v n hv hn).kept hgr (zDk (h.tv j v hv) hto (by have:=hvs j v hv;omega)),gl.ap,gl.r.kept hgr (zDk h.tb hto (by omega)),gl.ra,?_,zPi gl.cl hgr.size,gl.ca,gl.rc⟩,h.kp.trans (zCJ.of_grown hgr) fun b hb0 hs=>?_,fun j v hv=>?_,fun b hb0 hs=>?_,
  (h.tb).up gl.r _,(zCS gl.cl).trans h.tg,by simp;omega,by simp;omega,fun j o n ho hn=>?_,fun j o n ho hn=>?_,⟨by rw[List.length_append];exact hnew,hto.new (fun b hb=>(h.ov.1.lt b hb).2) hb⟩,⟨h.lv.1.kept hgr (zDk h.lv.2 hto (by omega)),h.lv.2.up h.lv.1 _⟩⟩,ht.up hl _,hl2⟩
 ·refine(zPj (hgr.block _ gl.cl fun hs=>?_)).trans gl.c
  have:=hto gb hs.symm
  have:=h.tg
  omega
 ·have:=(h.ov.1.lt b hs.symm).1
  omega
 ·cases hn:ns[j]? with
  |none=>rw[zQD,gl.len]at hn;have:=hvs j v hv;omega
  |some n=>exact(h.tv j v hv).up (gl.a j v n hv hn) _
 ·have hlt:b<w.heap.size:=zPi hb0 h.kp.size
  rw[zCS hlt]at hs
  exact h.tw b hb0 hs
 ·by_cases hji:j<os.length
  ·rw[zP0 hji]at ho
   obtain⟨h1,h2⟩:=h.o j o n ho hn
   exact⟨h1.kept hgr (zDk h2 hto (by omega)),h2.up h1 _⟩
  ·have hj:j=i:=by have:=(zPm.1 ho).1;simp at this;omega
   subst hj
   rw[zP1 (by omega),show j - os.length=0 by omega]at ho
   simp only[List.getElem?_cons_zero,Option.some.injEq]at ho
   subst ho
   rw[←hns j n hn]
   exact⟨hl2,ht.up hl _⟩
 ·obtain⟨h1,h2⟩:=h.l j o n ho hn
  exact⟨h1.kept hgr (zDk h2 hto (by have:=(zPm.1 ho).1;omega)),h2.up h1 _⟩
theorem Gr.many (h:Gr w0 w base e es size vs ns f gb fld bv tag os ls ov lv) {i:Nat} {l lv':Value} (hi:i<vs.length) (hils:i=ls.length) (hios:i<os.length) (hl:w.ownsRow base e size l (ns.getD i 0+70) (Mc f i (ns.getD i 0+70))) (ht:Tg tag i l)
  (hgr:w.grownBy w' lv.ownBlock) (hb:lv'.ownBlock=lv.ownBlock∨lv'.ownBlock=some w.heap.size) (hnew:w'.ownsRow w0.heap.size es 1 lv' (ls.length+1) (ls++[l])):
  ∃tag',Gr w0 w' base e es size vs ns f gb fld bv tag' os (ls++[l]) ov lv':=by
 have hns: ∀j n,ns[j]?=some n→ns.getD j 0=n:=fun j n hj=>by rw[zPo,hj];rfl
 have hvs: ∀j v,vs[j]?=some v→j<vs.length:=fun j v hv=>(zPm.1 hv).1
 have gl:=h.g
 have hto:=h.lv.2
 have hol:=h.ol
 have hl2:w'.ownsRow base e size l (ns.getD i 0+70) (Mc f i (ns.getD i 0+70)):=hl.kept hgr (zDk ht hto (by omega))
 refine⟨zKk tag w.heap.size (vs.length+2),⟨gl.len,fun j v n hv hn=>(gl.a j v n hv hn).kept hgr (zDk (h.tv j v hv) hto (by have:=hvs j v hv;omega)),gl.ap,gl.r.kept hgr (zDk h.tb hto (by omega)),gl.ra,?_,zPi gl.cl hgr.size,gl.ca,gl.rc⟩,h.kp.trans (zCJ.of_grown hgr) fun b hb0 hs=>?_,fun j v hv=>?_,fun b hb0 hs=>?_,
  (h.tb).up gl.r _,(zCS gl.cl).trans h.tg,h.ol,by simp;omega,fun j o n ho hn=>?_,fun j o n ho hn=>?_,⟨h.ov.1.kept hgr (zDk h.ov.2 hto (by omega)),h.ov.2.up h.ov.1 _⟩,⟨by rw[List.length_append];exact hnew,hto.new (fun b hb=>(h.lv.1.lt b hb).2) hb⟩⟩
 ·refine(zPj (hgr.block _ gl.cl fun hs=>?_)).trans gl.c
  have:=hto gb hs.symm
  have:=h.tg
  omega
 ·have:=(h.lv.1.lt b hs.symm).1
  omega
 ·cases hn:ns[j]? with
  |none=>rw[zQD,gl.len]at hn;have:=hvs j v hv;omega
  |some n=>exact(h.tv j v hv).up (gl.a j v n hv hn) _
 ·have hlt:b<w.heap.size:=zPi hb0 h.kp.size
  rw[zCS hlt]at hs
  exact h.tw b hb0 hs
 ·obtain⟨h1,h2⟩:=h.o j o n ho hn
  exact⟨h1.kept hgr (zDk h2 hto (by have:=(zPm.1 ho).1;omega)),h2.up h1 _⟩
 ·by_cases hji:j<ls.length
  ·rw[zP0 hji]at ho
   obtain⟨h1,h2⟩:=h.l j o n ho hn
   exact⟨h1.kept hgr (zDk h2 hto (by omega)),h2.up h1 _⟩
  ·have hj:j=i:=by have:=(zPm.1 ho).1;simp at this;omega
   subst hj
   rw[zP1 (by omega),show j - ls.length=0 by omega]at ho
   simp only[List.getElem?_cons_zero,Option.some.injEq]at ho
   subst ho
   rw[←hns j n hn]
   exact⟨hl2,ht.up hl _⟩
end
theorem zBJ {w:World} {base:Nat} {e:TypeId} {size:Nat} {v:Value} {n:Nat} {xs:List Value} (h:w.ownsRow base e size v n xs): ∃o c,v= .slice o n c:=by
 rcases h.2 with ⟨rfl,rfl⟩|⟨g,cap,_,rfl,_⟩
 ·exact⟨none,0,rfl⟩
 ·exact⟨_,_,rfl⟩
theorem zF4 {w:World} {base:Nat} {e:TypeId} {size:Nat} {o:Option Addr} {n m c:Nat} {xs:List Value} (h:w.ownsRow base e size (.slice o n c) m xs) (hn:0<m):m=n∧ ∃g,o=some ⟨g,0,none⟩∧g<w.heap.size∧(∀j,j<n*size→ ∃u,xs[j]?=some u∧w.cell? ⟨g,j,none⟩=some u)∧ ∀j,w.frozen? ⟨g,j,none⟩=false:=by
 have h0:=h
 rcases h.2 with ⟨_,h1⟩|⟨g,cap,_,h1,_,hg,_⟩
 ·omega
 ·simp only[Value.slice.injEq]at h1
  obtain⟨rfl,rfl,rfl⟩:=h1
  refine⟨rfl,g,rfl,(zPn.1 hg).1,fun j hj=>?_,fun j=>zP5 h0 j⟩
  have hl:j<xs.length:=by rw[h0.1];exact hj
  exact⟨xs[j],zPw hl,by rw[zP4 h0 j hj,zPw hl]⟩
theorem Bgl.rows {w:World} {base:Nat} {e es:TypeId} {size:Nat} {vs:List Value} {ns:List Nat} {X:Nat→List Value} {gb fld:Nat} {ob:Option Addr} {cb:Nat} (h:Bgl w base e es size vs ns X gb fld (.slice ob vs.length cb)) {d:Nat} (hd:d<vs.length):
  ∃gl,ob=some ⟨gl,0,none⟩∧gl<w.heap.size∧ ∀i v,vs[i]?=some v→w.cell? ⟨gl,i,none⟩=some v:=by
 obtain⟨_,gl,rfl,hl,hc,_⟩:=zF4 h.r (by omega)
 refine⟨gl,rfl,hl,fun i v hv=>?_⟩
 obtain⟨u,hu,hc⟩:=hc i (by rw[Nat.mul_one];exact(zPm.1 hv).1)
 rw[hv]at hu
 cases hu
 exact hc
theorem zMS {f:Nat→Nat→List Value} {size d e n off:Nat} {xs:List Value} (hl:xs.length=n*size) (he:e<n) (ht:xs.take (e*size)=Mc f d e) (ho:off=e*size) (hf:(f d e).length=size):(zGK xs off (f d e)).take ((e+1)*size)=Mc f d (e+1):=by
 subst ho
 have h1:e*size+size≤n*size:=by rw[←Nat.succ_mul];exact zQF _ he
 have h:=zGJ (f d e) xs (e*size) (by rw[hl,hf];exact h1)
 rw[hf,ht]at h
 rw[Nat.succ_mul,h,zIJ]
theorem zNK (w:World) (cs:List Value) (e:TypeId): ∀j u,cs[j]?=some u→(w.alloc (.cells cs.toArray e)).cell? ((⟨w.heap.size,0,none⟩:Addr).add j)=some u:=fun j u hu=>by
 have hadd:(⟨w.heap.size,0,none⟩:Addr).add j=⟨w.heap.size,j,none⟩:=by unfold Addr.add;split<;>simp_all
 rw[hadd,zPu _ _ j _ e (0,0) (zPs w _)]
 simpa using hu
theorem zL8 {w:World} {base:Nat} {e:TypeId} {size:Nat} {v:Value} {n:Nat} {xs:List Value} (h:w.ownsRow base e size v n xs):v.oneCell'=true:=by
 obtain⟨o,c,rfl⟩:=zBJ h
 rfl
theorem zJ0 {w:World} {base:Nat} {el:TypeId} {size:Nat} {f:Nat→Nat→List Value} (hf: ∀i j,(f i j).length=size) {o:Option Addr} {n c d e:Nat} (h:w.ownsRow base el size (.slice o n c) n (Mc f d n)) (he:e<n):
  ∃g,o=some ⟨g,0,none⟩∧g<w.heap.size∧ ∀k off,k<size→off=e*size+k→w.cell? ⟨g,off,none⟩=(f d e)[k]?:=by
 obtain⟨_,g,rfl,hl,hc,_⟩:=zF4 h (by omega)
 refine⟨g,rfl,hl,fun k off hk ho=>?_⟩
 have hb:off<n*size:=by
  have:e*size+size≤n*size:=by rw[←Nat.succ_mul];exact zQF _ he
  omega
 obtain⟨u,hu,hcu⟩:=hc off hb
 rw[ho,zO5 hf d he hk]at hu
 rw[hcu,hu]
theorem zKI {w:World} {base:Nat} {es:TypeId} {o:Option Addr} {n c:Nat} {vs:List Value} (h:w.ownsRow base es 1 (.slice o n c) n vs) {d:Nat} (hd:d<n) {v:Value} (hv:vs[d]?=some v): ∃g,o=some ⟨g,0,none⟩∧g<w.heap.size∧w.cell? ⟨g,d,none⟩=some v:=by
 obtain⟨_,g,rfl,hl,hc,_⟩:=zF4 h (by omega)
 obtain⟨u,hu,hcu⟩:=hc d (by omega)
 rw[hv]at hu
 cases hu
 exact⟨g,rfl,hl,hcu⟩
end
section
open Go.RowKit
def zNw (bb bm bn:Value):Array Value:= #[bb,.slice none 0 0,.slice none 0 0,.slice none 0 0,bm,.slice none 0 0,.slice none 0 0,.slice none 0 0,bn,.slice none 0 0,.slice none 0 0,.slice none 0 0,.slice none 0 0,.slice none 0 0,.slice none 0 0,.slice none 0 0,.slice none 0 0,.slice none 0 0,.slice none 0 0]
def zCZ (w:World) (gb:Nat) (bb bm bn:Value):Prop:=w.heap[gb]?=some (.cells (zNw bb bm bn) 50 (0,0))
theorem zCZ.lt {w:World} {gb:Nat} {bb bm bn:Value} (h:zCZ w gb bb bm bn):gb<w.heap.size:=(zPn.1 h).1
theorem zCZ.cell {w:World} {gb:Nat} {bb bm bn:Value} (h:zCZ w gb bb bm bn) (i:Nat):w.cell? ⟨gb,i,none⟩=(zNw bb bm bn)[i]?:=zPu w gb i _ _ _ h
theorem zCZ.frozen {w:World} {gb:Nat} {bb bm bn:Value} (h:zCZ w gb bb bm bn) (i:Nat):w.frozen? ⟨gb,i,none⟩=false:=by
 simp only[World.frozen?]
 rw[show w.heap[(⟨gb,i,none⟩:Addr).block]?=w.heap[gb]? from rfl,h]
 simp
theorem zCZ.kept {w w':World} {gb:Nat} {bb bm bn:Value} (h:zCZ w gb bb bm bn) {S:Nat→Prop} (k:zCJ w w' S) (hS: ¬S gb):zCZ w' gb bb bm bn:=(k.block gb h.lt hS).trans h
theorem zCZ.new (w:World):zCZ (w.alloc (.cells (zNw (.slice none 0 0) (.slice none 0 0) (.slice none 0 0)) 50)) w.heap.size (.slice none 0 0) (.slice none 0 0) (.slice none 0 0):=zPs w _
theorem zCZ.setB {w:World} {gb:Nat} {bb bm bn:Value} (h:zCZ w gb bb bm bn) (v:Value):zCZ (w.setCell ⟨gb,0,none⟩ v) gb v bm bn:=by
 unfold zCZ at h ⊢
 simp only[World.setCell,Array.getElem?_modify,h,if_true,Option.map_some]
 rfl
theorem zCZ.setN {w:World} {gb:Nat} {bb bm bn:Value} (h:zCZ w gb bb bm bn) (v:Value):zCZ (w.setCell ⟨gb,8,none⟩ v) gb bb bm v:=by
 unfold zCZ at h ⊢
 simp only[World.setCell,Array.getElem?_modify,h,if_true,Option.map_some]
 rfl
end
end Go.Proofs.YtfjbnpdffillbaaGreatDoor
