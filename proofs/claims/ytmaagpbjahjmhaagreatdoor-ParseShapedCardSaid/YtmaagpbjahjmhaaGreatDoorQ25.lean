/- Parts: Te Tf Tga Gta Tgr Ys Ud Iea Uwa. -/
import Derived.Test.YtmaagpbjahjmhaaGreatDoorQ24
import Derived.Test.YtmaagpbjahjmhaaGreatDoorQ13
set_option maxHeartbeats 1600000
set_option maxRecDepth 100000
namespace Go.Proofs.YtmaagpbjahjmhaaGreatDoor
section
open Go.RowKit
structure NdV (w:World) (oa:Option Addr) (re:List Nd):Prop where
 len:re.length≤4294967296
 at_:0<re.length→ ∃nb no,oa=some ⟨nb,no,none⟩∧zGP w nb no re
theorem NdV.below {w w':World} {oa:Option Addr} {re:List Nd} (h:NdV w oa re) (hb:Below w.heap.size w w'):NdV w' oa re:=
 ⟨h.len,fun hp=>by obtain⟨nb,no,h1,h2⟩:=h.at_ hp;exact⟨nb,no,h1,h2.below hb⟩⟩
theorem zA6.toBelow {xb:Nat} {w0 w w':World} (hb:Below w0.heap.size w0 w) (hx:w0.heap.size≤xb) (h:zA6 xb Option.none w w'):Below w0.heap.size w0 w' where
 os:=h.os.trans hb.os
 tape:=h.tape.trans hb.tape
 output:=h.output.trans hb.output
 size:=zRE hb.size h.size
 block:=fun k hk=>(h.block k (zQu hk hb.size) (by omega) (by simp)).trans (hb.block k hk)
theorem zLG {w:World} {xb cap:Nat} {oa:Option Addr} (xl:xb<w.heap.size) (c0:w.cell? ⟨xb,0,none⟩=some (.slice oa 0 cap)) (c1:w.cell? ⟨xb,1,none⟩=some (.int .i64 0)):
  Calls Tryz.prog 112 #[.pointer (some ⟨xb,0,none⟩),.int .i64 0,.int .i64 0] w fun e w'=>e= .returned (.bool false)∧Below w.heap.size w w':=by
 go_enter Tryz.func112,Tryz.ntmps112
 go_wp2_with fail
 refine zAA (X:=none) 28 [([0,1,2,3,4,5,6,7,8,9,10,11,12,13,14,15,16,17,18,19,20,21,22,23,24],25)] [26,27] (by kernel_rfl) (by kernel_rfl) rfl (fun _ _ _ _ _ h=>h) ?_
 simp only[zAK,zAC,zAE,zAD,zAB,List.getD_cons_zero,List.getD_cons_succ,List.drop_succ_cons,List.drop_nil]
 repeat (go_big_quiet_step (fail))
 refine wpQuiet_nil ?_
 go_wp2_with fail
 refine⟨zAJ.refl _,?_⟩
 repeat (go_big_quiet_step (fail))
 refine wpQuiet_nil ?_
 go_wp2_with fail
 go_ret
 exact⟨rfl,(zQs _ _).drew⟩
theorem zC8 (w:World) (oa:Option Addr) (n cap:Nat) (j:Nat):(w.alloc (.cells #[.slice oa n cap,.int .i64 0,.slice none 0 0] 144)).cell? ⟨w.heap.size,j,none⟩=(#[.slice oa n cap,.int .i64 0,.slice none 0 0]:Array Value)[j]?:=
 zQ6 _ _ j _ _ (0,0) (zQ4 w _)
theorem zNv {w:World} {nb no cap:Nat} {re:List Nd} (hn:zGP w nb no re):LkS (w.alloc (.cells #[.slice (some ⟨nb,no,none⟩) re.length cap,.int .i64 0,.slice none 0 0] 144)) w.heap.size (some ⟨nb,no,none⟩) nb no cap re 0 [] (.slice none 0 0) where
 lt:=by simp
 c0:=zC8 _ _ _ _ 0
 c1:=zC8 _ _ _ _ 1
 c2:=zC8 _ _ _ _ 2
 fz:=zAF (zQ4 w _)
 own:=zQ7 _ _ _ _
 nd:=fun _=>⟨rfl,hn.below ((zQs _ _).alloc (zQt _) _)⟩
 nlt:=hn.lt
 len:=hn.len
 at_:=Nat.zero_le _
 el:=by simp
theorem zHv {oa:Option Addr} {cap:Nat} {w:World} :
  Calls Tryz.prog 43 #[.slice oa 0 cap] w fun e w'=>e= .returned (.bool false)∧Below w.heap.size w w':=by
 have hb0:=(zQs w.heap.size w).alloc (zQt _) (.cells #[.slice oa 0 cap,.int .i64 0,.slice none 0 0] 144)
 go_enter Tryz.func43,Tryz.ntmps43
 go_wp2_with fail
 refine(zLG (oa:=oa) (cap:=cap) (by simp) (zC8 w oa 0 cap 0) (zC8 w oa 0 cap 1)).mono ?_;rintro e w1 ⟨rfl,hb1⟩
 have hb:=hb0.trans (hb1.mono hb0.size)
 clear hb1 hb0
 go_wp2_with fail
 go_ret
 exact⟨rfl,hb⟩
theorem zJC {re:List Nd} {nb no cap:Nat} {w:World} (_:0<re.length) (hn:zGP w nb no re):
  Calls Tryz.prog 43 #[.slice (some ⟨nb,no,none⟩) re.length cap] w fun e w'=>e= .returned (.bool (shapedN re))∧Below w.heap.size w w':=by
 have hb0:=(zQs w.heap.size w).alloc (zQt _) (.cells #[.slice (some ⟨nb,no,none⟩) re.length cap,.int .i64 0,.slice none 0 0] 144)
 have HN:=zQr hn
 have nbl:=hn.lt
 have hlen:=hn.len
 have hv:=zQr (zNv (cap:=cap) hn)
 clear hn
 go_enter Tryz.func43,Tryz.ntmps43
 go_wp2_with fail
 refine(zKK 260 0 0 [] _ _ 0 0 (by omega) rfl rfl (by omega) hv.out).mono ?_;rintro e w1 ⟨hb1,hr⟩
 have HB:=zQr (hb1.toBelow hb0 (zQt _))
 clear hb1 hb0 hv
 have HD:=zQr (HN.out.below HB.out)
 cases hq:zAZ re 260 0 0 []with
 |none=>
  have HS:Hid (shapedN re=false):=by rw[Hid,shapedN,hq]
  rw[hq]at hr
  subst hr
  go_wp2_with fail
  go_ret
  exact⟨by rw[HS.out];rfl,HB.out⟩
 |some q=>
  obtain⟨j,en⟩:=q
  rw[hq]at hr
  obtain⟨ev,rfl,hl,_⟩:=hr
  have c1:=hl.c1
  have xl:=hl.lt
  have hj:=hl.at_
  clear hl
  by_cases hjl:j=re.length
  ·obtain⟨W,hw⟩:=zBh re _ _ _ _ _ _ hq
   have HS:Hid (shapedN re=decide (W≤16384)):=by rw[Hid,shapedN,hq,hw];simp[hjl]
   have hok:zLk re:=(zET fun p hp=>(zC6 re _ _ _ _ _ hq).2.2 p (Nat.zero_le _) (by omega)).1
   have HW:=zQr (zFj (cap:=cap) hok 260 0 (W,j) w1 0 rfl HD.out hw)
   subst hjl
   clear hq hw
   go_wp2_with fail
   refine HW.out.mono ?_;rintro e w2 ⟨rfl,hb2⟩
   have HB2:=zQr (HB.out.trans (hb2.mono HB.out.size))
   clear hb2 HW
   go_wp2_with fail
   go_ret
   exact⟨by rw[HS.out];rfl,HB2.out⟩
  ·have HS:Hid (shapedN re=false):=by rw[Hid,shapedN,hq];simp[hjl]
   have hjl':((j:Int) !=(re.length:Int))=true:=by simp;omega
   go_wp2_with fail
   go_ret
   exact⟨by rw[HS.out];rfl,HB.out⟩
theorem zEC {re:List Nd} {oa:Option Addr} {cap:Nat} {w:World} (h:NdV w oa re):
  Calls Tryz.prog 43 #[.slice oa re.length cap] w fun e w'=>e= .returned (.bool (shapedN re))∧Below w.heap.size w w':=by
 by_cases hp:0<re.length
 ·obtain⟨nb,no,rfl,hn⟩:=h.at_ hp
  exact zJC hp hn
 ·have hre:re=[]:=zRP (by omega)
  subst hre
  exact zHv
end
section
open Go.RowKit
def zF8 (L:List Mk):List Value:=L.flatMap fun m=>[.int .u8 (m.b:Nat),.bool m.p]
theorem zEI: ∀L:List Mk,(zF8 L).length=L.length*2
 |[]=>rfl
 |x::l=>by
  have h:=zEI l
  simp only[zF8,List.flatMap_cons,List.length_append,List.length_cons,List.length_nil]at h ⊢
  omega
theorem zJj (a b:List Mk):zF8 (a++b)=zF8 a++zF8 b:=by simp[zF8]
theorem zNs (L:List Mk): ∀u∈zF8 L,u.oneCell'=true:=by
 intro u hu
 simp only[zF8,List.mem_flatMap,List.mem_cons,List.not_mem_nil,or_false]at hu
 obtain⟨x,_,rfl|rfl⟩:=hu<;>rfl
theorem zE7: ∀(L:List Mk) (i:Nat),i<L.length→(zF8 L)[i*2]?=some (.int .u8 ((zAI L i).b:Nat))∧(zF8 L)[i*2+1]?=some (.bool (zAI L i).p)
 |[],i,h=>by simp at h
 |x::l,0,_=>⟨rfl,rfl⟩
 |x::l,i+1,h=>by
  have h1:=zE7 l i (by simpa using h)
  have h2:zF8 (x::l)= .int .u8 (x.b:Nat):: .bool x.p::zF8 l:=rfl
  rw[h2,show(i+1)*2=i*2+1+1 by omega]
  simpa [zAI]using h1
theorem zQk:ElT Tryz.prog 164 166 2 2 (.agg #[.int .u8 0,.bool false]):=⟨Tryz.underlying164,by kernel_rfl,rfl,by decide⟩
def Mks (w:World) (base:Nat) (v:Value) (L:List Mk):Prop:=w.ownsRow base 166 2 v L.length (zF8 L)
theorem Mks.nil (w:World) (base:Nat):Mks w base (.slice none 0 0) []:=zQ7 _ _ _ _
theorem Mks.lt {w:World} {base:Nat} {v:Value} {L:List Mk} (h:Mks w base v L): ∀g,v.ownBlock=some g→base≤g∧g<w.heap.size:=World.ownsRow.lt h
theorem Mks.block {w w':World} {base:Nat} {v:Value} {L:List Mk} (h:Mks w base v L) (hb: ∀g,v.ownBlock=some g→w'.heap[g]?=w.heap[g]?):Mks w' base v L:=zAV h hb
theorem Mks.below {w w':World} {base:Nat} {v:Value} {L:List Mk} (h:Mks w base v L) (hb:Below w.heap.size w w'):Mks w' base v L:=h.block fun g hg=>hb.block g (h.lt g hg).2
theorem zDn {w:World} {ops:Array Oper} {rest:List Oper} {o:Oper} {a:Act} {Q:Exit→Act→World→Prop}
  (hgd:o.guard=none) (s x:Operand) (ho:o.op= .call { callee:= .builtin .append,args:= #[s,x],argTypes:= #[164,164] })
  (base:Nat) {v sv:Value} {xs ys:List Mk} (hs:a.eval s=v) (hown:Mks w base v xs) (hx:a.eval x=sv) (hsrc:Src w sv ys.length (zF8 ys))
  (hb:xs.length+ys.length≤4294967296) (hbase:base≤w.heap.size)
  (h: ∀v' w',Mks w' base v' (xs++ys)→w.grownBy w' v.ownBlock→(v'.ownBlock=v.ownBlock∨v'.ownBlock=some w.heap.size)→wpList Tryz.prog ops Q rest (a.put o.dst v') w'):
  wpList Tryz.prog ops Q (o::rest) a w:=by
 refine zAe zQk hgd s x ho base hs hown hx hsrc (zEI ys) (zNs ys) (by unfold maxLen;omega) (by omega) hbase ?_
 intro v' w' h1 h2 h3
 refine h v' w' ?_ h2 h3
 rw[Mks,zRB,zJj]
 exact h1
theorem Mks.at {w:World} {base:Nat} {v:Value} {L:List Mk} (h:Mks w base v L) (hn:0<L.length) (hl:L.length≤4096) (hu: ∀i,i<L.length→(zAI L i).b<256):
  ∃g cp,v= .slice (some ⟨g,0,none⟩) L.length cp∧base≤g∧zI4 w g 0 L:=by
 rcases h.2 with ⟨_,h0⟩|⟨g,cp,cur,rfl,hg1,hg2,_⟩
 ·omega
 ·have hadd: ∀j,(⟨g,0,none⟩:Addr).add j=⟨g,j,none⟩:=fun j=>by unfold Addr.add;split<;>simp_all
  have hc: ∀j u,(zF8 L)[j]?=some u→w.cell? ⟨g,j,none⟩=some u:=fun j u hu=>by
   rw[←hadd];exact World.ownsRow.cells h rfl j u hu
  refine⟨g,cp,rfl,hg1,⟨(zQz.1 hg2).1,hl,fun i hi=>?_,fun i hi=>?_,hu⟩⟩
  ·rw[Nat.zero_add];exact hc _ _ (zE7 L i hi).1
  ·rw[Nat.zero_add];exact hc _ _ (zE7 L i hi).2
theorem Mks.form {w:World} {base:Nat} {v:Value} {L:List Mk} (h:Mks w base v L): ∃o c,v= .slice o L.length c:=by
 rcases h.2 with ⟨h1,h2⟩|⟨g,cp,_,h1,_⟩
 ·exact⟨none,0,by rw[h1,h2]⟩
 ·exact⟨_,_,h1⟩
theorem zO9 (x y:Nd) (w:World):(binOp .neq 101 (ndV x) (ndV y)).run Tryz.prog w= .ok (.bool (!decide (x=y))) w:=by
 obtain⟨op,⟨x0,x1,x2,x3⟩,xn,xmin,xmax,xk⟩:=x
 obtain⟨oq,⟨y0,y1,y2,y3⟩,yn,ymin,ymax,yk⟩:=y
 rw[ndV,ndV,zOe]
 congr 3
 rw[Bool.eq_iff_iff]
 simp only[Bool.and_eq_true,decide_eq_true_eq,Nd.mk.injEq,Cls.mk.injEq,←BitVec.toNat_inj]
 constructor
 ·intro h
  refine⟨by omega,⟨by omega,by omega,by omega,by omega⟩,by omega,by omega,by omega,by omega⟩
 ·intro h;simp_all
end
section
open Go.RowKit
theorem Nds.toV {w:World} {base:Nat} {v:Value} {re:List Nd} (h:Nds w base v re) (hl:re.length≤4294967296) (hk: ∀x∈re,x.kids≤re.length): ∃oa cp,v= .slice oa re.length cp∧NdV w oa re:=by
 by_cases hn:0<re.length
 ·obtain⟨g,cp,rfl,_,hat⟩:=h.at hn hl hk
  exact⟨_,_,rfl,hl,fun _=>⟨g,0,rfl,hat⟩⟩
 ·rcases h.2 with ⟨rfl,h0⟩|⟨g,cp,cur,rfl,hg1,hg2,_⟩
  ·exact⟨none,0,by rw[h0],hl,fun h=>absurd h hn⟩
  ·exact⟨_,_,rfl,hl,fun h=>absurd h hn⟩
theorem zE9 {L:List Mk} {i:Nat} (h:i<L.length):zAI L i∈L:=by
 simp only[zAI,List.getD_eq_getElem?_getD,List.getElem?_eq_getElem h,Option.getD_some]
 exact List.getElem_mem h
end
section
open Go.RowKit
def NdU (w:World) (oa:Option Addr) (re:List Nd):Prop:=
 0<re.length→ ∃nb no,oa=some ⟨nb,no,none⟩∧nb<w.heap.size∧ ∀i,i<re.length→ ∀j,j<9→w.cell? ⟨nb,no+i*9+j,none⟩=(zAT (re.getD i Nd.zero))[j]?
section
variable {w w':World} {oa ob:Option Addr} {re:List Nd} {ca cb:Nat}
theorem NdU.below (h:NdU w oa re) (hb:Below w.heap.size w w'):NdU w' oa re:=fun hp=>by
 obtain⟨nb,no,h1,h2,h3⟩:=h hp
 exact⟨nb,no,h1,zQu h2 hb.size,fun i hi j hj=>(hb.cell (p:=⟨nb,no+i*9+j,none⟩) h2).trans (h3 i hi j hj)⟩
theorem NdU.cells {nb no:Nat} (h: ∀i,i<re.length→ ∀j,j<9→w.cell? ⟨nb,no+i*9+j,none⟩=(zAT (re.getD i Nd.zero))[j]?) {i:Nat} {x:Nd} (hx:re[i]?=some x):
  w.cell? ⟨nb,no+i*9,none⟩=some (.int .i8 x.op)∧w.cell? ⟨nb,no+i*9+1,none⟩=some (.int .u64 x.set.w0.toNat)∧w.cell? ⟨nb,no+i*9+2,none⟩=some (.int .u64 x.set.w1.toNat)∧w.cell? ⟨nb,no+i*9+3,none⟩=some (.int .u64 x.set.w2.toNat)∧w.cell? ⟨nb,no+i*9+4,none⟩=some (.int .u64 x.set.w3.toNat)∧
  w.cell? ⟨nb,no+i*9+5,none⟩=some (.int .i64 x.n)∧w.cell? ⟨nb,no+i*9+6,none⟩=some (.int .i64 x.min)∧w.cell? ⟨nb,no+i*9+7,none⟩=some (.int .i64 x.max)∧w.cell? ⟨nb,no+i*9+8,none⟩=some (.int .i64 x.kids):=by
 have hi:i<re.length:=(zQy.1 hx).1
 have hg:re.getD i Nd.zero=x:=by simp[List.getD_eq_getElem?_getD,hx]
 have hc: ∀j,j<9→w.cell? ⟨nb,no+i*9+j,none⟩=(zAT x)[j]?:=fun j hj=>by
  rw[←hg];exact h i hi j hj
 exact⟨hc 0 (by decide),hc 1 (by decide),hc 2 (by decide),hc 3 (by decide),hc 4 (by decide),hc 5 (by decide),hc 6 (by decide),hc 7 (by decide),hc 8 (by decide)⟩
theorem Nds.toU {base:Nat} {v:Value} (h:Nds w base v re): ∃oa cp,v= .slice oa re.length cp∧NdU w oa re:=by
 rcases h.2 with ⟨rfl,h0⟩|⟨g,cp,cur,rfl,hg1,hg2,hcp,_⟩
 ·exact⟨none,0,by rw[h0],fun h=>by omega⟩
 ·refine⟨_,_,rfl,fun hn=>⟨g,0,rfl,(zQz.1 hg2).1,fun i hi j hj=>?_⟩⟩
  have hc:=zRG h (i*9+j) (by omega)
  rw[show 0+i*9+j=i*9+j by omega,hc,zCr re i j hi hj]
end
end
section
open Go.RowKit
theorem zGF {re:List Nd} {oa:Option Addr} {cap:Nat} {w:World} (h:NdV w oa re):
  Calls Tryz.prog 45 #[.slice oa re.length cap] w fun e w'=>e= .returned (.int .i64 (zBH re:Nat))∧Below w.heap.size w w':=by
 have hs:=zEC (cap:=cap) h
 have hlen:=h.len
 have HV:=zQr h
 clear h
 cases hsh:shapedN re with
 |false=>
  have HW:Hid (zBH re=0):=by rw[Hid,zBH,hsh];rfl
  rw[hsh]at hs
  have HS:=zQr hs
  clear hs
  go_enter Tryz.func45,Tryz.ntmps45
  go_wp2_with fail
  refine HS.out.mono ?_;rintro e w1 ⟨rfl,hb1⟩
  have HB:=zQr hb1
  clear hb1 HS
  go_wp2_with fail
  go_ret
  exact⟨by rw[HW.out];rfl,HB.out⟩
 |true=>
  have hp:0<re.length:=by
   cases re with
   |nil=>exact absurd hsh (by decide)
   |cons x l=>simp
  have HW:Hid (zBH re=((re.take re.length).filter (·.op==7)).length):=by rw[Hid,zBH,hsh,List.take_length];rfl
  obtain⟨nb,no,rfl,hn⟩:=HV.out.at_ hp
  have HN:=zQr hn
  rw[hsh]at hs
  have HS:=zQr hs
  clear hs hn
  go_enter Tryz.func45,Tryz.ntmps45
  go_wp2_with fail
  refine HS.out.mono ?_;rintro e w1 ⟨rfl,hb1⟩
  have HB:=zQr hb1
  clear hb1 HS
  go_wp2_with fail
  go_loopg [3,10] re.length (fun n cv dv wr=> ∃(d:Nat),dv= .int .i64 (d:Nat)∧n=re.length - d∧d≤re.length∧cv= .int .i64 ((((re.take d).filter (·.op==7)).length:Nat))∧Below w.heap.size w wr)
  case atStart=>exact⟨0,rfl,by omega,by omega,by simp,HB.out⟩
  case round=>
   obtain⟨d,rfl,hg,hd,rfl,hb2⟩:=hrel
   have HG:=zQr hg
   have HB2:=zQr hb2
   have HN2:=HN.out.below hb2
   clear hg hb2
   by_cases hlt:d<re.length
   ·have hlt':(d:Int)<(re.length:Int):=by omega
    obtain⟨x,hx⟩: ∃x,re[d]?=some x:=⟨_,zQ8 hlt⟩
    obtain⟨n0,n1,n2,n3,n4,n5,n6,n7,n8⟩:=HN2.cells hx
    have nbl:=HN2.lt
    have hct:((re.take (d+1)).filter (·.op==7)).length=((re.take d).filter (·.op==7)).length+(if x.op==7 then 1 else 0):=by
     rw[List.take_add_one,hx]
     simp only[Option.toList_some,List.filter_append,List.length_append,List.filter_cons,List.filter_nil]
     split<;>rfl
    have hcl:((re.take d).filter (·.op==7)).length≤d:=zRE (List.length_filter_le _ _) (by simp;omega)
    have HCT:=zQr hct
    clear hct
    obtain⟨op,⟨x0,x1,x2,x3⟩,xn,xmin,xmax,xk⟩:=x
    simp only at n0 n1 n2 n3 n4 n5 n6 n7 n8
    clear hx HN2
    generalize ((re.take d).filter (·.op==7)).length=c at*
    have HB3:=zQr (HB2.out.alloc HB2.out.size (.cells (zAT ⟨op,⟨x0,x1,x2,x3⟩,xn,xmin,xmax,xk⟩) 101))
    clear HB2
    by_cases h7:op=7
    ·subst h7
     go_wp2_with fail
     go_roundg (re.length - (d+1))
     case measure=>have:=HG.out;omega
     case rel=>exact⟨d+1,by go_num,rfl,by omega,by rw[HCT.out];go_num,HB3.out⟩
    ·have h7':(op==7)=false:=by simpa using h7
     go_wp2_with fail
     go_roundg (re.length - (d+1))
     case measure=>have:=HG.out;omega
     case rel=>exact⟨d+1,by go_num,rfl,by omega,by rw[HCT.out,if_neg (by simpa using h7)];go_num,HB3.out⟩
   ·have hlt': ¬(d:Int)<(re.length:Int):=by omega
    have hde:d=re.length:=by omega
    subst hde
    go_wp2_with fail
    go_ret
    exact⟨by rw[HW.out,List.take_length];rfl,HB2.out⟩
end
section
open Go.RowKit
section
variable {w:World} {oa:Option Addr} {cap:Nat} {re:List Nd}
theorem zDf (h: ¬re.length=0):re.isEmpty=false:=by cases re<;>simp_all
theorem zMF {n:Int} (hn: ¬n=0) (_:NdV w oa re):
  Calls Tryz.prog 41 #[.agg #[.int .i8 0,.int .i64 n,.slice oa re.length cap]] w fun e w'=>e= .returned (.bool false)∧Below w.heap.size w w':=by
 have hb0:=(zQs w.heap.size w).alloc (zQt _) (.cells #[.int .i8 0,.int .i64 n,.slice oa re.length cap] 31)
 have HB:=zQr hb0
 clear hb0
 have qn:(n==0)=false:=zQx.2 hn
 go_enter Tryz.func41,Tryz.ntmps41
 go_wp2_with fail
 go_ret
 exact⟨rfl,HB.out⟩
theorem zJQ (_:NdV w oa ([]:List Nd)):
  Calls Tryz.prog 41 #[.agg #[.int .i8 0,.int .i64 0,.slice oa ([]:List Nd).length cap]] w fun e w'=>e= .returned (.bool true)∧Below w.heap.size w w':=by
 have hb0:=(zQs w.heap.size w).alloc (zQt _) (.cells #[.int .i8 0,.int .i64 0,.slice oa ([]:List Nd).length cap] 31)
 have HB:=zQr hb0
 clear hb0
 go_enter Tryz.func41,Tryz.ntmps41
 go_wp2_with fail
 go_ret
 exact⟨rfl,HB.out⟩
theorem zJR (hl: ¬re.length=0) (_:NdV w oa re):
  Calls Tryz.prog 41 #[.agg #[.int .i8 0,.int .i64 0,.slice oa re.length cap]] w fun e w'=>e= .returned (.bool false)∧Below w.heap.size w w':=by
 have hb0:=(zQs w.heap.size w).alloc (zQt _) (.cells #[.int .i8 0,.int .i64 0,.slice oa re.length cap] 31)
 have HB:=zQr hb0
 clear hb0
 have ql:((re.length:Int)==0)=false:=zQx.2 (by omega)
 go_enter Tryz.func41,Tryz.ntmps41
 go_wp2_with fail
 go_ret
 exact⟨rfl,HB.out⟩
theorem zME {n:Int} (hn: ¬n=0) (_:NdV w oa re):
  Calls Tryz.prog 41 #[.agg #[.int .i8 2,.int .i64 n,.slice oa re.length cap]] w fun e w'=>e= .returned (.bool false)∧Below w.heap.size w w':=by
 have hb0:=(zQs w.heap.size w).alloc (zQt _) (.cells #[.int .i8 2,.int .i64 n,.slice oa re.length cap] 31)
 have HB:=zQr hb0
 clear hb0
 have qn:(n==0)=false:=zQx.2 hn
 go_enter Tryz.func41,Tryz.ntmps41
 go_wp2_with fail
 go_ret
 exact⟨rfl,HB.out⟩
theorem zJM (_:NdV w oa ([]:List Nd)):
  Calls Tryz.prog 41 #[.agg #[.int .i8 2,.int .i64 0,.slice oa ([]:List Nd).length cap]] w fun e w'=>e= .returned (.bool true)∧Below w.heap.size w w':=by
 have hb0:=(zQs w.heap.size w).alloc (zQt _) (.cells #[.int .i8 2,.int .i64 0,.slice oa ([]:List Nd).length cap] 31)
 have HB:=zQr hb0
 clear hb0
 go_enter Tryz.func41,Tryz.ntmps41
 go_wp2_with fail
 go_ret
 exact⟨rfl,HB.out⟩
theorem zJN (hl: ¬re.length=0) (_:NdV w oa re):
  Calls Tryz.prog 41 #[.agg #[.int .i8 2,.int .i64 0,.slice oa re.length cap]] w fun e w'=>e= .returned (.bool false)∧Below w.heap.size w w':=by
 have hb0:=(zQs w.heap.size w).alloc (zQt _) (.cells #[.int .i8 2,.int .i64 0,.slice oa re.length cap] 31)
 have HB:=zQr hb0
 clear hb0
 have ql:((re.length:Int)==0)=false:=zQx.2 (by omega)
 go_enter Tryz.func41,Tryz.ntmps41
 go_wp2_with fail
 go_ret
 exact⟨rfl,HB.out⟩
theorem zK4 {n:Int} (hn: ¬1≤n) (_:NdV w oa re):
  Calls Tryz.prog 41 #[.agg #[.int .i8 1,.int .i64 n,.slice oa re.length cap]] w fun e w'=>e= .returned (.bool false)∧Below w.heap.size w w':=by
 have hb0:=(zQs w.heap.size w).alloc (zQt _) (.cells #[.int .i8 1,.int .i64 n,.slice oa re.length cap] 31)
 have HB:=zQr hb0
 clear hb0
 go_enter Tryz.func41,Tryz.ntmps41
 go_wp2_with fail
 go_ret
 exact⟨rfl,HB.out⟩
theorem zK5 {n:Int} (hn:1≤n) (hm: ¬n≤2147483647) (_:NdV w oa re):
  Calls Tryz.prog 41 #[.agg #[.int .i8 1,.int .i64 n,.slice oa re.length cap]] w fun e w'=>e= .returned (.bool false)∧Below w.heap.size w w':=by
 have hb0:=(zQs w.heap.size w).alloc (zQt _) (.cells #[.int .i8 1,.int .i64 n,.slice oa re.length cap] 31)
 have HB:=zQr hb0
 clear hb0
 go_enter Tryz.func41,Tryz.ntmps41
 go_wp2_with fail
 go_ret
 exact⟨rfl,HB.out⟩
theorem zJO {n:Int} (hn:1≤n) (hm:n≤2147483647) (_:NdV w oa ([]:List Nd)):
  Calls Tryz.prog 41 #[.agg #[.int .i8 1,.int .i64 n,.slice oa ([]:List Nd).length cap]] w fun e w'=>e= .returned (.bool true)∧Below w.heap.size w w':=by
 have hb0:=(zQs w.heap.size w).alloc (zQt _) (.cells #[.int .i8 1,.int .i64 n,.slice oa ([]:List Nd).length cap] 31)
 have HB:=zQr hb0
 clear hb0
 go_enter Tryz.func41,Tryz.ntmps41
 go_wp2_with fail
 go_ret
 exact⟨rfl,HB.out⟩
theorem zJP {n:Int} (hn:1≤n) (hm:n≤2147483647) (hl: ¬re.length=0) (_:NdV w oa re):
  Calls Tryz.prog 41 #[.agg #[.int .i8 1,.int .i64 n,.slice oa re.length cap]] w fun e w'=>e= .returned (.bool false)∧Below w.heap.size w w':=by
 have hb0:=(zQs w.heap.size w).alloc (zQt _) (.cells #[.int .i8 1,.int .i64 n,.slice oa re.length cap] 31)
 have HB:=zQr hb0
 clear hb0
 have ql:((re.length:Int)==0)=false:=zQx.2 (by omega)
 go_enter Tryz.func41,Tryz.ntmps41
 go_wp2_with fail
 go_ret
 exact⟨rfl,HB.out⟩
theorem zMD {n:Int} (hn: ¬n=0) (_:NdV w oa re):
  Calls Tryz.prog 41 #[.agg #[.int .i8 3,.int .i64 n,.slice oa re.length cap]] w fun e w'=>e= .returned (.bool false)∧Below w.heap.size w w':=by
 have hb0:=(zQs w.heap.size w).alloc (zQt _) (.cells #[.int .i8 3,.int .i64 n,.slice oa re.length cap] 31)
 have HB:=zQr hb0
 clear hb0
 have qn:(n==0)=false:=zQx.2 hn
 go_enter Tryz.func41,Tryz.ntmps41
 go_wp2_with fail
 go_ret
 exact⟨rfl,HB.out⟩
theorem zJK (_:NdV w oa ([]:List Nd)):
  Calls Tryz.prog 41 #[.agg #[.int .i8 3,.int .i64 0,.slice oa ([]:List Nd).length cap]] w fun e w'=>e= .returned (.bool true)∧Below w.heap.size w w':=by
 have hb0:=(zQs w.heap.size w).alloc (zQt _) (.cells #[.int .i8 3,.int .i64 0,.slice oa ([]:List Nd).length cap] 31)
 have HB:=zQr hb0
 clear hb0
 go_enter Tryz.func41,Tryz.ntmps41
 go_wp2_with fail
 go_ret
 exact⟨rfl,HB.out⟩
theorem zJL (hl: ¬re.length=0) (h:NdV w oa re):
  Calls Tryz.prog 41 #[.agg #[.int .i8 3,.int .i64 0,.slice oa re.length cap]] w fun e w'=>e= .returned (.bool (shapedN re))∧Below w.heap.size w w':=by
 have hb0:=(zQs w.heap.size w).alloc (zQt _) (.cells #[.int .i8 3,.int .i64 0,.slice oa re.length cap] 31)
 have HS:=zQr (zEC (cap:=cap) (h.below hb0))
 have HB:=zQr hb0
 clear hb0 h
 have ql:((re.length:Int)==0)=false:=zQx.2 (by omega)
 go_enter Tryz.func41,Tryz.ntmps41
 go_wp2_with fail
 refine HS.out.mono ?_;rintro e w1 ⟨rfl,hb1⟩
 have HB1:=zQr (HB.out.trans (hb1.mono (by simp)))
 clear hb1
 go_wp2_with fail
 go_ret
 exact⟨rfl,HB1.out⟩
theorem zJJ {k n:Int} (h0: ¬k=0) (h1: ¬k=1) (h2: ¬k=2) (h3: ¬k=3) (_:NdV w oa re):
  Calls Tryz.prog 41 #[.agg #[.int .i8 k,.int .i64 n,.slice oa re.length cap]] w fun e w'=>e= .returned (.bool false)∧Below w.heap.size w w':=by
 have hb0:=(zQs w.heap.size w).alloc (zQt _) (.cells #[.int .i8 k,.int .i64 n,.slice oa re.length cap] 31)
 have HB:=zQr hb0
 clear hb0
 have q0:(k==0)=false:=zQx.2 h0
 have q1:(k==1)=false:=zQx.2 h1
 have q2:(k==2)=false:=zQx.2 h2
 have q3:(k==3)=false:=zQx.2 h3
 go_enter Tryz.func41,Tryz.ntmps41
 go_wp2_with fail
 go_ret
 exact⟨rfl,HB.out⟩
theorem zK3 (k:Int) (n:Int) (h:NdV w oa re):
  Calls Tryz.prog 41 #[.agg #[.int .i8 k,.int .i64 n,.slice oa re.length cap]] w fun e w'=>e= .returned (.bool (zAX ⟨k,n,re⟩))∧Below w.heap.size w w':=by
 by_cases h3:k=3
 ·subst h3
  by_cases hn:n=0
  ·subst hn
   by_cases hl:re.length=0
   ·obtain rfl:=zRP hl
    exact zJK h
   ·rw[show zAX ⟨3,0,re⟩=shapedN re by simp[zAX,zDf hl]]
    exact zJL hl h
  ·rw[show zAX ⟨3,n,re⟩=false by simp[zAX,hn]]
   exact zMD hn h
 by_cases h1:k=1
 ·subst h1
  by_cases hn:1≤n
  ·by_cases hm:n≤2147483647
   ·by_cases hl:re.length=0
    ·obtain rfl:=zRP hl
     rw[show zAX ⟨1,n,[]⟩=true by simp[zAX,hn,hm]]
     exact zJO hn hm h
    ·rw[show zAX ⟨1,n,re⟩=false by simp[zAX,zDf hl]]
     exact zJP hn hm hl h
   ·rw[show zAX ⟨1,n,re⟩=false by simp[zAX,hm]]
    exact zK5 hn hm h
  ·rw[show zAX ⟨1,n,re⟩=false by simp[zAX,hn]]
   exact zK4 hn h
 by_cases h0:k=0
 ·subst h0
  by_cases hn:n=0
  ·subst hn
   by_cases hl:re.length=0
   ·obtain rfl:=zRP hl
    exact zJQ h
   ·rw[show zAX ⟨0,0,re⟩=false by simp[zAX,zDf hl]]
    exact zJR hl h
  ·rw[show zAX ⟨0,n,re⟩=false by simp[zAX,hn]]
   exact zMF hn h
 by_cases h2:k=2
 ·subst h2
  by_cases hn:n=0
  ·subst hn
   by_cases hl:re.length=0
   ·obtain rfl:=zRP hl
    exact zJM h
   ·rw[show zAX ⟨2,0,re⟩=false by simp[zAX,zDf hl]]
    exact zJN hl h
  ·rw[show zAX ⟨2,n,re⟩=false by simp[zAX,hn]]
   exact zME hn h
 rw[show zAX ⟨k,n,re⟩=false by simp[zAX,h0,h1,h2,h3]]
 exact zJJ h0 h1 h2 h3 h
end
end
section
open Go.RowKit
theorem zJI {w:World} {xb cap:Nat} {oa:Option Addr} (xl:xb<w.heap.size) (c0:w.cell? ⟨xb,0,none⟩=some (.slice oa 0 cap)) (c1:w.cell? ⟨xb,1,none⟩=some (.int .i64 0)):
  Calls Tryz.prog 117 #[.pointer (some ⟨xb,0,none⟩),.int .i64 0,.int .i64 0] w fun e w'=>e= .returned (.bool false)∧Below w.heap.size w w':=by
 go_enter Tryz.func117,Tryz.ntmps117
 go_wp2_with fail
 refine zAA (X:=none) 14 [] [0,1,2,3,4,5,6,7,8,9,10,11,12,13] (by kernel_rfl) (by kernel_rfl) rfl (fun _ _ _ _ _ h=>h) ?_
 simp only[zAK,zAC,zAD,zAB,List.getD_cons_zero,List.getD_cons_succ,List.drop_succ_cons,List.drop_nil]
 repeat (go_big_quiet_step (fail))
 refine wpQuiet_nil ?_
 go_wp2_with fail
 go_ret
 exact⟨rfl,(zQs _ _).drew⟩
theorem zCo (w:World) (oa:Option Addr) (n cap:Nat) (j:Nat):(w.alloc (.cells #[.slice oa n cap,.int .i64 0,.slice none 0 0] 154)).cell? ⟨w.heap.size,j,none⟩=(#[.slice oa n cap,.int .i64 0,.slice none 0 0]:Array Value)[j]?:=
 zQ6 _ _ j _ _ (0,0) (zQ4 w _)
theorem zMC {w:World} {nb no cap:Nat} {re:List Nd} (hn:zGP w nb no re):LkS (w.alloc (.cells #[.slice (some ⟨nb,no,none⟩) re.length cap,.int .i64 0,.slice none 0 0] 154)) w.heap.size (some ⟨nb,no,none⟩) nb no cap re 0 [] (.slice none 0 0) where
 lt:=by simp
 c0:=zCo _ _ _ _ 0
 c1:=zCo _ _ _ _ 1
 c2:=zCo _ _ _ _ 2
 fz:=zAF (zQ4 w _)
 own:=zQ7 _ _ _ _
 nd:=fun _=>⟨rfl,hn.below ((zQs _ _).alloc (zQt _) _)⟩
 nlt:=hn.lt
 len:=hn.len
 at_:=Nat.zero_le _
 el:=by simp
theorem zHK {oa:Option Addr} {cap:Nat} {w:World} :
  Calls Tryz.prog 49 #[.slice oa 0 cap] w fun e w'=>e= .returned (.bool false)∧Below w.heap.size w w':=by
 have hb0:=(zQs w.heap.size w).alloc (zQt _) (.cells #[.slice oa 0 cap,.int .i64 0,.slice none 0 0] 154)
 go_enter Tryz.func49,Tryz.ntmps49
 go_wp2_with fail
 refine(zJI (oa:=oa) (cap:=cap) (by simp) (zCo w oa 0 cap 0) (zCo w oa 0 cap 1)).mono ?_;rintro e w1 ⟨rfl,hb1⟩
 have hb:=hb0.trans (hb1.mono hb0.size)
 clear hb1 hb0
 go_wp2_with fail
 go_ret
 exact⟨rfl,hb⟩
theorem zH0 {re:List Nd} {nb no cap:Nat} {w:World} (HOP:Hid (∀x∈re,-128≤x.op∧x.op≤127)) (_:0<re.length) (hn:zGP w nb no re):
  Calls Tryz.prog 49 #[.slice (some ⟨nb,no,none⟩) re.length cap] w fun e w'=>e= .returned (.bool (shapedN re))∧Below w.heap.size w w':=by
 have hb0:=(zQs w.heap.size w).alloc (zQt _) (.cells #[.slice (some ⟨nb,no,none⟩) re.length cap,.int .i64 0,.slice none 0 0] 154)
 have HN:=zQr hn
 have nbl:=hn.lt
 have hlen:=hn.len
 have hv:=zQr (zMC (cap:=cap) hn)
 clear hn
 go_enter Tryz.func49,Tryz.ntmps49
 go_wp2_with fail
 refine(zIA HOP 260 0 0 [] _ _ 0 0 (by omega) rfl rfl (by omega) hv.out).mono ?_;rintro e w1 ⟨hb1,hr⟩
 have HB:=zQr (hb1.toBelow hb0 (zQt _))
 clear hb1 hb0 hv
 have HD:=zQr (HN.out.below HB.out)
 cases hq:zAZ re 260 0 0 []with
 |none=>
  have HS:Hid (shapedN re=false):=by rw[Hid,shapedN,hq]
  rw[hq]at hr
  subst hr
  go_wp2_with fail
  go_ret
  exact⟨by rw[HS.out];rfl,HB.out⟩
 |some q=>
  obtain⟨j,en⟩:=q
  rw[hq]at hr
  obtain⟨ev,rfl,hl,_⟩:=hr
  have c1:=hl.c1
  have xl:=hl.lt
  have hj:=hl.at_
  clear hl
  by_cases hjl:j=re.length
  ·obtain⟨W,hw⟩:=zBh re _ _ _ _ _ _ hq
   have HS:Hid (shapedN re=decide (W≤16384)):=by rw[Hid,shapedN,hq,hw];simp[hjl]
   have hok:zLk re:=(zET fun p hp=>(zC6 re _ _ _ _ _ hq).2.2 p (Nat.zero_le _) (by omega)).1
   have HW:=zQr (zGh (cap:=cap) hok HOP.out 260 0 (W,j) w1 0 rfl HD.out hw)
   subst hjl
   clear hq hw
   go_wp2_with fail
   refine HW.out.mono ?_;rintro e w2 ⟨rfl,hb2⟩
   have HB2:=zQr (HB.out.trans (hb2.mono HB.out.size))
   clear hb2 HW
   go_wp2_with fail
   go_ret
   exact⟨by rw[HS.out];rfl,HB2.out⟩
  ·have HS:Hid (shapedN re=false):=by rw[Hid,shapedN,hq];simp[hjl]
   have hjl':((j:Int) !=(re.length:Int))=true:=by simp;omega
   go_wp2_with fail
   go_ret
   exact⟨by rw[HS.out];rfl,HB.out⟩
theorem zDY {re:List Nd} {oa:Option Addr} {cap:Nat} {w:World} (HOP:Hid (∀x∈re,-128≤x.op∧x.op≤127)) (h:NdV w oa re):
  Calls Tryz.prog 49 #[.slice oa re.length cap] w fun e w'=>e= .returned (.bool (shapedN re))∧Below w.heap.size w w':=by
 by_cases hp:0<re.length
 ·obtain⟨nb,no,rfl,hn⟩:=h.at_ hp
  exact zH0 HOP hp hn
 ·have hre:re=[]:=zRP (by omega)
  subst hre
  exact zHK
end
section
open Go.RowKit
section
variable {w:World} {oa:Option Addr} {cap:Nat} {re:List Nd}
theorem zK0 {n:Int} (hn: ¬n=0) (_:NdV w oa re):
  Calls Tryz.prog 47 #[.agg #[.int .i8 0,.int .i64 n,.slice oa re.length cap]] w fun e w'=>e= .returned (.bool false)∧Below w.heap.size w w':=by
 have hb0:=(zQs w.heap.size w).alloc (zQt _) (.cells #[.int .i8 0,.int .i64 n,.slice oa re.length cap] 31)
 have HB:=zQr hb0
 clear hb0
 have qn:(n==0)=false:=zQx.2 hn
 go_enter Tryz.func47,Tryz.ntmps47
 go_wp2_with fail
 go_ret
 exact⟨rfl,HB.out⟩
theorem zH8 (_:NdV w oa ([]:List Nd)):
  Calls Tryz.prog 47 #[.agg #[.int .i8 0,.int .i64 0,.slice oa ([]:List Nd).length cap]] w fun e w'=>e= .returned (.bool true)∧Below w.heap.size w w':=by
 have hb0:=(zQs w.heap.size w).alloc (zQt _) (.cells #[.int .i8 0,.int .i64 0,.slice oa ([]:List Nd).length cap] 31)
 have HB:=zQr hb0
 clear hb0
 go_enter Tryz.func47,Tryz.ntmps47
 go_wp2_with fail
 go_ret
 exact⟨rfl,HB.out⟩
theorem zH9 (hl: ¬re.length=0) (_:NdV w oa re):
  Calls Tryz.prog 47 #[.agg #[.int .i8 0,.int .i64 0,.slice oa re.length cap]] w fun e w'=>e= .returned (.bool false)∧Below w.heap.size w w':=by
 have hb0:=(zQs w.heap.size w).alloc (zQt _) (.cells #[.int .i8 0,.int .i64 0,.slice oa re.length cap] 31)
 have HB:=zQr hb0
 clear hb0
 have ql:((re.length:Int)==0)=false:=zQx.2 (by omega)
 go_enter Tryz.func47,Tryz.ntmps47
 go_wp2_with fail
 go_ret
 exact⟨rfl,HB.out⟩
theorem zKz {n:Int} (hn: ¬n=0) (_:NdV w oa re):
  Calls Tryz.prog 47 #[.agg #[.int .i8 2,.int .i64 n,.slice oa re.length cap]] w fun e w'=>e= .returned (.bool false)∧Below w.heap.size w w':=by
 have hb0:=(zQs w.heap.size w).alloc (zQt _) (.cells #[.int .i8 2,.int .i64 n,.slice oa re.length cap] 31)
 have HB:=zQr hb0
 clear hb0
 have qn:(n==0)=false:=zQx.2 hn
 go_enter Tryz.func47,Tryz.ntmps47
 go_wp2_with fail
 go_ret
 exact⟨rfl,HB.out⟩
theorem zH4 (_:NdV w oa ([]:List Nd)):
  Calls Tryz.prog 47 #[.agg #[.int .i8 2,.int .i64 0,.slice oa ([]:List Nd).length cap]] w fun e w'=>e= .returned (.bool true)∧Below w.heap.size w w':=by
 have hb0:=(zQs w.heap.size w).alloc (zQt _) (.cells #[.int .i8 2,.int .i64 0,.slice oa ([]:List Nd).length cap] 31)
 have HB:=zQr hb0
 clear hb0
 go_enter Tryz.func47,Tryz.ntmps47
 go_wp2_with fail
 go_ret
 exact⟨rfl,HB.out⟩
theorem zH5 (hl: ¬re.length=0) (_:NdV w oa re):
  Calls Tryz.prog 47 #[.agg #[.int .i8 2,.int .i64 0,.slice oa re.length cap]] w fun e w'=>e= .returned (.bool false)∧Below w.heap.size w w':=by
 have hb0:=(zQs w.heap.size w).alloc (zQt _) (.cells #[.int .i8 2,.int .i64 0,.slice oa re.length cap] 31)
 have HB:=zQr hb0
 clear hb0
 have ql:((re.length:Int)==0)=false:=zQx.2 (by omega)
 go_enter Tryz.func47,Tryz.ntmps47
 go_wp2_with fail
 go_ret
 exact⟨rfl,HB.out⟩
theorem zJG {n:Int} (hn: ¬1≤n) (_:NdV w oa re):
  Calls Tryz.prog 47 #[.agg #[.int .i8 1,.int .i64 n,.slice oa re.length cap]] w fun e w'=>e= .returned (.bool false)∧Below w.heap.size w w':=by
 have hb0:=(zQs w.heap.size w).alloc (zQt _) (.cells #[.int .i8 1,.int .i64 n,.slice oa re.length cap] 31)
 have HB:=zQr hb0
 clear hb0
 go_enter Tryz.func47,Tryz.ntmps47
 go_wp2_with fail
 go_ret
 exact⟨rfl,HB.out⟩
theorem zJH {n:Int} (hn:1≤n) (hm: ¬n≤2147483647) (_:NdV w oa re):
  Calls Tryz.prog 47 #[.agg #[.int .i8 1,.int .i64 n,.slice oa re.length cap]] w fun e w'=>e= .returned (.bool false)∧Below w.heap.size w w':=by
 have hb0:=(zQs w.heap.size w).alloc (zQt _) (.cells #[.int .i8 1,.int .i64 n,.slice oa re.length cap] 31)
 have HB:=zQr hb0
 clear hb0
 go_enter Tryz.func47,Tryz.ntmps47
 go_wp2_with fail
 go_ret
 exact⟨rfl,HB.out⟩
theorem zH6 {n:Int} (hn:1≤n) (hm:n≤2147483647) (_:NdV w oa ([]:List Nd)):
  Calls Tryz.prog 47 #[.agg #[.int .i8 1,.int .i64 n,.slice oa ([]:List Nd).length cap]] w fun e w'=>e= .returned (.bool true)∧Below w.heap.size w w':=by
 have hb0:=(zQs w.heap.size w).alloc (zQt _) (.cells #[.int .i8 1,.int .i64 n,.slice oa ([]:List Nd).length cap] 31)
 have HB:=zQr hb0
 clear hb0
 go_enter Tryz.func47,Tryz.ntmps47
 go_wp2_with fail
 go_ret
 exact⟨rfl,HB.out⟩
theorem zH7 {n:Int} (hn:1≤n) (hm:n≤2147483647) (hl: ¬re.length=0) (_:NdV w oa re):
  Calls Tryz.prog 47 #[.agg #[.int .i8 1,.int .i64 n,.slice oa re.length cap]] w fun e w'=>e= .returned (.bool false)∧Below w.heap.size w w':=by
 have hb0:=(zQs w.heap.size w).alloc (zQt _) (.cells #[.int .i8 1,.int .i64 n,.slice oa re.length cap] 31)
 have HB:=zQr hb0
 clear hb0
 have ql:((re.length:Int)==0)=false:=zQx.2 (by omega)
 go_enter Tryz.func47,Tryz.ntmps47
 go_wp2_with fail
 go_ret
 exact⟨rfl,HB.out⟩
theorem zKy {n:Int} (hn: ¬n=0) (_:NdV w oa re):
  Calls Tryz.prog 47 #[.agg #[.int .i8 3,.int .i64 n,.slice oa re.length cap]] w fun e w'=>e= .returned (.bool false)∧Below w.heap.size w w':=by
 have hb0:=(zQs w.heap.size w).alloc (zQt _) (.cells #[.int .i8 3,.int .i64 n,.slice oa re.length cap] 31)
 have HB:=zQr hb0
 clear hb0
 have qn:(n==0)=false:=zQx.2 hn
 go_enter Tryz.func47,Tryz.ntmps47
 go_wp2_with fail
 go_ret
 exact⟨rfl,HB.out⟩
theorem zH2 (_:NdV w oa ([]:List Nd)):
  Calls Tryz.prog 47 #[.agg #[.int .i8 3,.int .i64 0,.slice oa ([]:List Nd).length cap]] w fun e w'=>e= .returned (.bool true)∧Below w.heap.size w w':=by
 have hb0:=(zQs w.heap.size w).alloc (zQt _) (.cells #[.int .i8 3,.int .i64 0,.slice oa ([]:List Nd).length cap] 31)
 have HB:=zQr hb0
 clear hb0
 go_enter Tryz.func47,Tryz.ntmps47
 go_wp2_with fail
 go_ret
 exact⟨rfl,HB.out⟩
theorem zH3 (HOP:Hid (∀x∈re,-128≤x.op∧x.op≤127)) (hl: ¬re.length=0) (h:NdV w oa re):
  Calls Tryz.prog 47 #[.agg #[.int .i8 3,.int .i64 0,.slice oa re.length cap]] w fun e w'=>e= .returned (.bool (shapedN re))∧Below w.heap.size w w':=by
 have hb0:=(zQs w.heap.size w).alloc (zQt _) (.cells #[.int .i8 3,.int .i64 0,.slice oa re.length cap] 31)
 have HS:=zQr (zDY (cap:=cap) HOP (h.below hb0))
 have HB:=zQr hb0
 clear hb0 h
 have ql:((re.length:Int)==0)=false:=zQx.2 (by omega)
 go_enter Tryz.func47,Tryz.ntmps47
 go_wp2_with fail
 refine HS.out.mono ?_;rintro e w1 ⟨rfl,hb1⟩
 have HB1:=zQr (HB.out.trans (hb1.mono (by simp)))
 clear hb1
 go_wp2_with fail
 go_ret
 exact⟨rfl,HB1.out⟩
theorem zH1 {k n:Int} (h0: ¬k=0) (h1: ¬k=1) (h2: ¬k=2) (h3: ¬k=3) (_:NdV w oa re) (k1: -128≤k) (k2:k≤127):
  Calls Tryz.prog 47 #[.agg #[.int .i8 k,.int .i64 n,.slice oa re.length cap]] w fun e w'=>e= .returned (.bool false)∧Below w.heap.size w w':=by
 have hb0:=(zQs w.heap.size w).alloc (zQt _) (.cells #[.int .i8 k,.int .i64 n,.slice oa re.length cap] 31)
 have HB:=zQr hb0
 clear hb0
 have q0:(k==0)=false:=zQx.2 h0
 have q1:(k==1)=false:=zQx.2 h1
 have q2:(k==2)=false:=zQx.2 h2
 have q3:(k==3)=false:=zQx.2 h3
 go_enter Tryz.func47,Tryz.ntmps47
 go_wp2_with fail
 go_ret
 exact⟨rfl,HB.out⟩
theorem zEF (k:Int) (n:Int) (HOP:Hid (∀x∈re,-128≤x.op∧x.op≤127)) (h:NdV w oa re) (k1: -128≤k) (k2:k≤127):
  Calls Tryz.prog 47 #[.agg #[.int .i8 k,.int .i64 n,.slice oa re.length cap]] w fun e w'=>e= .returned (.bool (zAX ⟨k,n,re⟩))∧Below w.heap.size w w':=by
 by_cases h3:k=3
 ·subst h3
  by_cases hn:n=0
  ·subst hn
   by_cases hl:re.length=0
   ·obtain rfl:=zRP hl
    exact zH2 h
   ·rw[show zAX ⟨3,0,re⟩=shapedN re by simp[zAX,zDf hl]]
    exact zH3 HOP hl h
  ·rw[show zAX ⟨3,n,re⟩=false by simp[zAX,hn]]
   exact zKy hn h
 by_cases h1:k=1
 ·subst h1
  by_cases hn:1≤n
  ·by_cases hm:n≤2147483647
   ·by_cases hl:re.length=0
    ·obtain rfl:=zRP hl
     rw[show zAX ⟨1,n,[]⟩=true by simp[zAX,hn,hm]]
     exact zH6 hn hm h
    ·rw[show zAX ⟨1,n,re⟩=false by simp[zAX,zDf hl]]
     exact zH7 hn hm hl h
   ·rw[show zAX ⟨1,n,re⟩=false by simp[zAX,hm]]
    exact zJH hn hm h
  ·rw[show zAX ⟨1,n,re⟩=false by simp[zAX,hn]]
   exact zJG hn h
 by_cases h0:k=0
 ·subst h0
  by_cases hn:n=0
  ·subst hn
   by_cases hl:re.length=0
   ·obtain rfl:=zRP hl
    exact zH8 h
   ·rw[show zAX ⟨0,0,re⟩=false by simp[zAX,zDf hl]]
    exact zH9 hl h
  ·rw[show zAX ⟨0,n,re⟩=false by simp[zAX,hn]]
   exact zK0 hn h
 by_cases h2:k=2
 ·subst h2
  by_cases hn:n=0
  ·subst hn
   by_cases hl:re.length=0
   ·obtain rfl:=zRP hl
    exact zH4 h
   ·rw[show zAX ⟨2,0,re⟩=false by simp[zAX,zDf hl]]
    exact zH5 hl h
  ·rw[show zAX ⟨2,n,re⟩=false by simp[zAX,hn]]
   exact zKz hn h
 rw[show zAX ⟨k,n,re⟩=false by simp[zAX,h0,h1,h2,h3]]
 exact zH1 h0 h1 h2 h3 h k1 k2
end
end
section
open Go.RowKit
theorem zIB {re:List Nd} {oa:Option Addr} {cap:Nat} {w:World} (HOP:Hid (∀x∈re,-128≤x.op∧x.op≤127)) (h:NdV w oa re):
  Calls Tryz.prog 51 #[.slice oa re.length cap] w fun e w'=>e= .returned (.int .i64 (zBH re:Nat))∧Below w.heap.size w w':=by
 have hs:=zDY (cap:=cap) HOP h
 have hlen:=h.len
 have HV:=zQr h
 clear h
 cases hsh:shapedN re with
 |false=>
  have HW:Hid (zBH re=0):=by rw[Hid,zBH,hsh];rfl
  rw[hsh]at hs
  have HS:=zQr hs
  clear hs
  go_enter Tryz.func51,Tryz.ntmps51
  go_wp2_with fail
  refine HS.out.mono ?_;rintro e w1 ⟨rfl,hb1⟩
  have HB:=zQr hb1
  clear hb1 HS
  go_wp2_with fail
  go_ret
  exact⟨by rw[HW.out];rfl,HB.out⟩
 |true=>
  have hp:0<re.length:=by
   cases re with
   |nil=>exact absurd hsh (by decide)
   |cons x l=>simp
  have HW:Hid (zBH re=((re.take re.length).filter (·.op==7)).length):=by rw[Hid,zBH,hsh,List.take_length];rfl
  obtain⟨nb,no,rfl,hn⟩:=HV.out.at_ hp
  have HN:=zQr hn
  rw[hsh]at hs
  have HS:=zQr hs
  clear hs hn
  go_enter Tryz.func51,Tryz.ntmps51
  go_wp2_with fail
  refine HS.out.mono ?_;rintro e w1 ⟨rfl,hb1⟩
  have HB:=zQr hb1
  clear hb1 HS
  go_wp2_with fail
  go_loopg [3,4] re.length (fun n cv dv wr=> ∃(d:Nat),dv= .int .i64 (d:Nat)∧n=re.length - d∧d≤re.length∧cv= .int .i64 ((((re.take d).filter (·.op==7)).length:Nat))∧Below w.heap.size w wr)
  case atStart=>exact⟨0,rfl,by omega,by omega,by simp,HB.out⟩
  case round=>
   obtain⟨d,rfl,hg,hd,rfl,hb2⟩:=hrel
   have HG:=zQr hg
   have HB2:=zQr hb2
   have HN2:=HN.out.below hb2
   clear hg hb2
   by_cases hlt:d<re.length
   ·have hlt':(d:Int)<(re.length:Int):=by omega
    obtain⟨x,hx⟩: ∃x,re[d]?=some x:=⟨_,zQ8 hlt⟩
    obtain⟨hop1,hop2⟩:=HOP.out x (zRL hx)
    obtain⟨n0,n1,n2,n3,n4,n5,n6,n7,n8⟩:=HN2.cells hx
    have nbl:=HN2.lt
    have hct:((re.take (d+1)).filter (·.op==7)).length=((re.take d).filter (·.op==7)).length+(if x.op==7 then 1 else 0):=by
     rw[List.take_add_one,hx]
     simp only[Option.toList_some,List.filter_append,List.length_append,List.filter_cons,List.filter_nil]
     split<;>rfl
    have hcl:((re.take d).filter (·.op==7)).length≤d:=zRE (List.length_filter_le _ _) (by simp;omega)
    have HCT:=zQr hct
    clear hct
    obtain⟨op,⟨x0,x1,x2,x3⟩,xn,xmin,xmax,xk⟩:=x
    simp only at n0 n1 n2 n3 n4 n5 n6 n7 n8 hop1 hop2
    clear hx HN2
    generalize ((re.take d).filter (·.op==7)).length=c at*
    have HB3:=HB2
    clear HB2
    by_cases h7:op=7
    ·subst h7
     go_wp2_with fail
     go_roundg (re.length - (d+1))
     case measure=>have:=HG.out;omega
     case rel=>exact⟨d+1,by go_num,rfl,by omega,by rw[HCT.out];go_num,HB3.out⟩
    ·have h7':(op==7)=false:=by simpa using h7
     go_wp2_with fail
     go_roundg (re.length - (d+1))
     case measure=>have:=HG.out;omega
     case rel=>exact⟨d+1,by go_num,rfl,by omega,by rw[HCT.out,if_neg (by simpa using h7)];go_num,HB3.out⟩
   ·have hlt': ¬(d:Int)<(re.length:Int):=by omega
    have hde:d=re.length:=by omega
    subst hde
    go_wp2_with fail
    go_ret
    exact⟨by rw[HW.out,List.take_length];rfl,HB2.out⟩
end
end Go.Proofs.YtmaagpbjahjmhaaGreatDoor
