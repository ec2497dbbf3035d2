/- Parts: Te Tf Tga Tgr Ys Gta. -/
import Derived.Test.YtmaagpbjahjmhaaGreatDoorQ27
import Derived.Test.YtmaagpbjahjmhaaGreatDoorQ14
set_option maxHeartbeats 1600000
set_option maxRecDepth 100000
namespace Go.Proofs.YtmaagpbjahjmhaaGreatDoor
section
open Go.RowKit
structure NdV (w:World) (oa:Option Addr) (re:List Nd):Prop where
 len:re.length≤4294967296
 at_:0<re.length→ ∃nb no,oa=some ⟨nb,no,none⟩∧zHs w nb no re
theorem NdV.below {w w':World} {oa:Option Addr} {re:List Nd} (h:NdV w oa re) (hb:Below w.heap.size w w'):NdV w' oa re:=
 ⟨h.len,fun hp=>by obtain⟨nb,no,h1,h2⟩:=h.at_ hp;exact⟨nb,no,h1,h2.below hb⟩⟩
theorem zA8.toBelow {xb:Nat} {w0 w w':World} (hb:Below w0.heap.size w0 w) (hx:w0.heap.size≤xb) (h:zA8 xb Option.none w w'):Below w0.heap.size w0 w' where
 os:=h.os.trans hb.os
 tape:=h.tape.trans hb.tape
 output:=h.output.trans hb.output
 size:=Nat.le_trans hb.size h.size
 block:=fun k hk=>(h.block k (Nat.lt_of_lt_of_le hk hb.size) (by omega) (by simp)).trans (hb.block k hk)
theorem zLH {w:World} {xb cap:Nat} {oa:Option Addr} (xl:xb<w.heap.size) (c0:w.cell? ⟨xb,0,none⟩=some (.slice oa 0 cap)) (c1:w.cell? ⟨xb,1,none⟩=some (.int .i64 0)):
  Calls Tryz.prog 112 #[.pointer (some ⟨xb,0,none⟩),.int .i64 0,.int .i64 0] w fun e w'=>e= .returned (.bool false)∧Below w.heap.size w w':=by
 go_enter Tryz.func112,Tryz.ntmps112
 go_wp2_with fail
 refine zAA (X:=none) 28 [([0,1,2,3,4,5,6,7,8,9,10,11,12,13,14,15,16,17,18,19,20,21,22,23,24],25)] [26,27] (by kernel_rfl) (by kernel_rfl) rfl (fun _ _ _ _ _ h=>h) ?_
 simp only[zAM,zAC,zAE,zAD,zAB,List.getD_cons_zero,List.getD_cons_succ,List.drop_succ_cons,List.drop_nil]
 repeat (go_big_quiet_step (fail))
 refine wpQuiet_nil ?_
 go_wp2_with fail
 refine⟨zAI.refl _,?_⟩
 repeat (go_big_quiet_step (fail))
 refine wpQuiet_nil ?_
 go_wp2_with fail
 go_ret
 exact⟨rfl,(Below.refl _ _).drew⟩
theorem zDD (w:World) (oa:Option Addr) (n cap:Nat) (j:Nat):(w.alloc (.cells #[.slice oa n cap,.int .i64 0,.slice none 0 0] 144)).cell? ⟨w.heap.size,j,none⟩=(#[.slice oa n cap,.int .i64 0,.slice none 0 0]:Array Value)[j]?:=
 cell_of_row _ _ j _ _ (0,0) (heap_alloc_new w _)
theorem zN8 {w:World} {nb no cap:Nat} {re:List Nd} (hn:zHs w nb no re):LkS (w.alloc (.cells #[.slice (some ⟨nb,no,none⟩) re.length cap,.int .i64 0,.slice none 0 0] 144)) w.heap.size (some ⟨nb,no,none⟩) nb no cap re 0 [] (.slice none 0 0) where
 lt:=by simp
 c0:=zDD _ _ _ _ 0
 c1:=zDD _ _ _ _ 1
 c2:=zDD _ _ _ _ 2
 fz:=zAF (heap_alloc_new w _)
 own:=World.ownsRow_nil _ _ _ _
 nd:=fun _=>⟨rfl,hn.below ((Below.refl _ _).alloc (Nat.le_refl _) _)⟩
 nlt:=hn.lt
 len:=hn.len
 at_:=Nat.zero_le _
 el:=by simp
theorem zH6 {oa:Option Addr} {cap:Nat} {w:World} :
  Calls Tryz.prog 43 #[.slice oa 0 cap] w fun e w'=>e= .returned (.bool false)∧Below w.heap.size w w':=by
 have hb0:=(Below.refl w.heap.size w).alloc (Nat.le_refl _) (.cells #[.slice oa 0 cap,.int .i64 0,.slice none 0 0] 144)
 go_enter Tryz.func43,Tryz.ntmps43
 go_wp2_with fail
 refine(zLH (oa:=oa) (cap:=cap) (by simp) (zDD w oa 0 cap 0) (zDD w oa 0 cap 1)).mono ?_;rintro e w1 ⟨rfl,hb1⟩
 have hb:=hb0.trans (hb1.mono hb0.size)
 clear hb1 hb0
 go_wp2_with fail
 go_ret
 exact⟨rfl,hb⟩
theorem zJI {re:List Nd} {nb no cap:Nat} {w:World} (_:0<re.length) (hn:zHs w nb no re):
  Calls Tryz.prog 43 #[.slice (some ⟨nb,no,none⟩) re.length cap] w fun e w'=>e= .returned (.bool (shapedN re))∧Below w.heap.size w w':=by
 have hb0:=(Below.refl w.heap.size w).alloc (Nat.le_refl _) (.cells #[.slice (some ⟨nb,no,none⟩) re.length cap,.int .i64 0,.slice none 0 0] 144)
 have HN:=Lib.hid hn
 have nbl:=hn.lt
 have hlen:=hn.len
 have hv:=Lib.hid (zN8 (cap:=cap) hn)
 clear hn
 go_enter Tryz.func43,Tryz.ntmps43
 go_wp2_with fail
 refine(zKN 260 0 0 [] _ _ 0 0 (by omega) rfl rfl (by omega) hv.out).mono ?_;rintro e w1 ⟨hb1,hr⟩
 have HB:=Lib.hid (hb1.toBelow hb0 (Nat.le_refl _))
 clear hb1 hb0 hv
 have HD:=Lib.hid (HN.out.below HB.out)
 cases hq:zA0 re 260 0 0 []with
 |none=>
  have HS:Hid (shapedN re=false):=by rw[Hid,shapedN,hq]
  rw[hq]at hr
  subst hr
  go_wp2_with fail
  go_ret
  exact⟨by rw[HS.out];rfl,HB.out⟩
 |some q=>
  obtain⟨j,en⟩:=q
  rw[hq]at hr
  obtain⟨ev,rfl,hl,_⟩:=hr
  have c1:=hl.c1
  have xl:=hl.lt
  have hj:=hl.at_
  clear hl
  by_cases hjl:j=re.length
  ·obtain⟨W,hw⟩:=zBl re _ _ _ _ _ _ hq
   have HS:Hid (shapedN re=decide (W≤16384)):=by rw[Hid,shapedN,hq,hw];simp[hjl]
   have hok:zOm re:=(zF2 fun p hp=>(zD2 re _ _ _ _ _ hq).2.2 p (Nat.zero_le _) (by omega)).1
   have HW:=Lib.hid (zFs (cap:=cap) hok 260 0 (W,j) w1 0 rfl HD.out hw)
   subst hjl
   clear hq hw
   go_wp2_with fail
   refine HW.out.mono ?_;rintro e w2 ⟨rfl,hb2⟩
   have HB2:=Lib.hid (HB.out.trans (hb2.mono HB.out.size))
   clear hb2 HW
   go_wp2_with fail
   go_ret
   exact⟨by rw[HS.out];rfl,HB2.out⟩
  ·have HS:Hid (shapedN re=false):=by rw[Hid,shapedN,hq];simp[hjl]
   have hjl':((j:Int) !=(re.length:Int))=true:=by simp;omega
   go_wp2_with fail
   go_ret
   exact⟨by rw[HS.out];rfl,HB.out⟩
theorem zDM {re:List Nd} {oa:Option Addr} {cap:Nat} {w:World} (h:NdV w oa re):
  Calls Tryz.prog 43 #[.slice oa re.length cap] w fun e w'=>e= .returned (.bool (shapedN re))∧Below w.heap.size w w':=by
 by_cases hp:0<re.length
 ·obtain⟨nb,no,rfl,hn⟩:=h.at_ hp
  exact zJI hp hn
 ·have hre:re=[]:=List.eq_nil_of_length_eq_zero (by omega)
  subst hre
  exact zH6
end
section
open Go.RowKit
def zGI (L:List Mk):List Value:=L.flatMap fun m=>[.int .u8 (m.b:Nat),.bool m.p]
theorem zEX: ∀L:List Mk,(zGI L).length=L.length*2
 |[]=>rfl
 |x::l=>by
  have h:=zEX l
  simp only[zGI,List.flatMap_cons,List.length_append,List.length_cons,List.length_nil]at h ⊢
  omega
theorem zJm (a b:List Mk):zGI (a++b)=zGI a++zGI b:=by simp[zGI]
theorem zN5 (L:List Mk): ∀u∈zGI L,u.oneCell'=true:=by
 intro u hu
 simp only[zGI,List.mem_flatMap,List.mem_cons,List.not_mem_nil,or_false]at hu
 obtain⟨x,_,rfl|rfl⟩:=hu<;>rfl
theorem zFG: ∀(L:List Mk) (i:Nat),i<L.length→(zGI L)[i*2]?=some (.int .u8 ((zAH L i).b:Nat))∧(zGI L)[i*2+1]?=some (.bool (zAH L i).p)
 |[],i,h=>by simp at h
 |x::l,0,_=>⟨rfl,rfl⟩
 |x::l,i+1,h=>by
  have h1:=zFG l i (by simpa using h)
  have h2:zGI (x::l)= .int .u8 (x.b:Nat):: .bool x.p::zGI l:=rfl
  rw[h2,show(i+1)*2=i*2+1+1 by omega]
  simpa [zAH]using h1
theorem zQf:ElT Tryz.prog 164 166 2 2 (.agg #[.int .u8 0,.bool false]):=⟨Tryz.underlying164,by kernel_rfl,rfl,by decide⟩
def Mks (w:World) (base:Nat) (v:Value) (L:List Mk):Prop:=w.ownsRow base 166 2 v L.length (zGI L)
theorem Mks.nil (w:World) (base:Nat):Mks w base (.slice none 0 0) []:=World.ownsRow_nil _ _ _ _
theorem Mks.lt {w:World} {base:Nat} {v:Value} {L:List Mk} (h:Mks w base v L): ∀g,v.ownBlock=some g→base≤g∧g<w.heap.size:=World.ownsRow.lt h
theorem Mks.block {w w':World} {base:Nat} {v:Value} {L:List Mk} (h:Mks w base v L) (hb: ∀g,v.ownBlock=some g→w'.heap[g]?=w.heap[g]?):Mks w' base v L:=zAW h hb
theorem Mks.below {w w':World} {base:Nat} {v:Value} {L:List Mk} (h:Mks w base v L) (hb:Below w.heap.size w w'):Mks w' base v L:=h.block fun g hg=>hb.block g (h.lt g hg).2
theorem zDv {w:World} {ops:Array Oper} {rest:List Oper} {o:Oper} {a:Act} {Q:Exit→Act→World→Prop}
  (hgd:o.guard=none) (s x:Operand) (ho:o.op= .call { callee:= .builtin .append,args:= #[s,x],argTypes:= #[164,164] })
  (base:Nat) {v sv:Value} {xs ys:List Mk} (hs:a.eval s=v) (hown:Mks w base v xs) (hx:a.eval x=sv) (hsrc:Src w sv ys.length (zGI ys))
  (hb:xs.length+ys.length≤4294967296) (hbase:base≤w.heap.size)
  (h: ∀v' w',Mks w' base v' (xs++ys)→w.grownBy w' v.ownBlock→(v'.ownBlock=v.ownBlock∨v'.ownBlock=some w.heap.size)→wpList Tryz.prog ops Q rest (a.put o.dst v') w'):
  wpList Tryz.prog ops Q (o::rest) a w:=by
 refine zAa zQf hgd s x ho base hs hown hx hsrc (zEX ys) (zN5 ys) (by unfold maxLen;omega) (by omega) hbase ?_
 intro v' w' h1 h2 h3
 refine h v' w' ?_ h2 h3
 rw[Mks,List.length_append,zJm]
 exact h1
theorem Mks.at {w:World} {base:Nat} {v:Value} {L:List Mk} (h:Mks w base v L) (hn:0<L.length) (hl:L.length≤4096) (hu: ∀i,i<L.length→(zAH L i).b<256):
  ∃g cp,v= .slice (some ⟨g,0,none⟩) L.length cp∧base≤g∧zI7 w g 0 L:=by
 rcases h.2 with ⟨_,h0⟩|⟨g,cp,cur,rfl,hg1,hg2,_⟩
 ·omega
 ·have hadd: ∀j,(⟨g,0,none⟩:Addr).add j=⟨g,j,none⟩:=fun j=>by unfold Addr.add;split<;>simp_all
  have hc: ∀j u,(zGI L)[j]?=some u→w.cell? ⟨g,j,none⟩=some u:=fun j u hu=>by
   rw[←hadd];exact World.ownsRow.cells h rfl j u hu
  refine⟨g,cp,rfl,hg1,⟨(Array.getElem?_eq_some_iff.1 hg2).1,hl,fun i hi=>?_,fun i hi=>?_,hu⟩⟩
  ·rw[Nat.zero_add];exact hc _ _ (zFG L i hi).1
  ·rw[Nat.zero_add];exact hc _ _ (zFG L i hi).2
theorem Mks.form {w:World} {base:Nat} {v:Value} {L:List Mk} (h:Mks w base v L): ∃o c,v= .slice o L.length c:=by
 rcases h.2 with ⟨h1,h2⟩|⟨g,cp,_,h1,_⟩
 ·exact⟨none,0,by rw[h1,h2]⟩
 ·exact⟨_,_,h1⟩
theorem zPO (x y:Nd) (w:World):(binOp .neq 101 (ndV x) (ndV y)).run Tryz.prog w= .ok (.bool (!decide (x=y))) w:=by
 obtain⟨op,⟨x0,x1,x2,x3⟩,xn,xmin,xmax,xk⟩:=x
 obtain⟨oq,⟨y0,y1,y2,y3⟩,yn,ymin,ymax,yk⟩:=y
 rw[ndV,ndV,zOt]
 congr 3
 rw[Bool.eq_iff_iff]
 simp only[Bool.and_eq_true,decide_eq_true_eq,Nd.mk.injEq,Cls.mk.injEq,←BitVec.toNat_inj]
 constructor
 ·intro h
  refine⟨by omega,⟨by omega,by omega,by omega,by omega⟩,by omega,by omega,by omega,by omega⟩
 ·intro h;simp_all
end
section
open Go.RowKit
theorem Nds.toV {w:World} {base:Nat} {v:Value} {re:List Nd} (h:Nds w base v re) (hl:re.length≤4294967296) (hk: ∀x∈re,x.kids≤re.length): ∃oa cp,v= .slice oa re.length cp∧NdV w oa re:=by
 by_cases hn:0<re.length
 ·obtain⟨g,cp,rfl,_,hat⟩:=h.at hn hl hk
  exact⟨_,_,rfl,hl,fun _=>⟨g,0,rfl,hat⟩⟩
 ·rcases h.2 with ⟨rfl,h0⟩|⟨g,cp,cur,rfl,hg1,hg2,_⟩
  ·exact⟨none,0,by rw[h0],hl,fun h=>absurd h hn⟩
  ·exact⟨_,_,rfl,hl,fun h=>absurd h hn⟩
theorem zFI {L:List Mk} {i:Nat} (h:i<L.length):zAH L i∈L:=by
 simp only[zAH,List.getD_eq_getElem?_getD,List.getElem?_eq_getElem h,Option.getD_some]
 exact List.getElem_mem h
end
section
open Go.RowKit
theorem zEY {re:List Nd} {oa:Option Addr} {cap:Nat} {w:World} (h:NdV w oa re):
  Calls Tryz.prog 45 #[.slice oa re.length cap] w fun e w'=>e= .returned (.int .i64 (zCR re:Nat))∧Below w.heap.size w w':=by
 have hs:=zDM (cap:=cap) h
 have hlen:=h.len
 have HV:=Lib.hid h
 clear h
 cases hsh:shapedN re with
 |false=>
  have HW:Hid (zCR re=0):=by rw[Hid,zCR,hsh];rfl
  rw[hsh]at hs
  have HS:=Lib.hid hs
  clear hs
  go_enter Tryz.func45,Tryz.ntmps45
  go_wp2_with fail
  refine HS.out.mono ?_;rintro e w1 ⟨rfl,hb1⟩
  have HB:=Lib.hid hb1
  clear hb1 HS
  go_wp2_with fail
  go_ret
  exact⟨by rw[HW.out];rfl,HB.out⟩
 |true=>
  have hp:0<re.length:=by
   cases re with
   |nil=>exact absurd hsh (by decide)
   |cons x l=>simp
  have HW:Hid (zCR re=((re.take re.length).filter (·.op==7)).length):=by rw[Hid,zCR,hsh,List.take_length];rfl
  obtain⟨nb,no,rfl,hn⟩:=HV.out.at_ hp
  have HN:=Lib.hid hn
  rw[hsh]at hs
  have HS:=Lib.hid hs
  clear hs hn
  go_enter Tryz.func45,Tryz.ntmps45
  go_wp2_with fail
  refine HS.out.mono ?_;rintro e w1 ⟨rfl,hb1⟩
  have HB:=Lib.hid hb1
  clear hb1 HS
  go_wp2_with fail
  go_loopg [3,10] re.length (fun n cv dv wr=> ∃(d:Nat),dv= .int .i64 (d:Nat)∧n=re.length - d∧d≤re.length∧cv= .int .i64 ((((re.take d).filter (·.op==7)).length:Nat))∧Below w.heap.size w wr)
  case atStart=>exact⟨0,rfl,by omega,by omega,by simp,HB.out⟩
  case round=>
   obtain⟨d,rfl,hg,hd,rfl,hb2⟩:=hrel
   have HG:=Lib.hid hg
   have HB2:=Lib.hid hb2
   have HN2:=HN.out.below hb2
   clear hg hb2
   by_cases hlt:d<re.length
   ·have hlt':(d:Int)<(re.length:Int):=by omega
    obtain⟨x,hx⟩: ∃x,re[d]?=some x:=⟨_,List.getElem?_eq_getElem hlt⟩
    obtain⟨n0,n1,n2,n3,n4,n5,n6,n7,n8⟩:=HN2.cells hx
    have nbl:=HN2.lt
    have hct:((re.take (d+1)).filter (·.op==7)).length=((re.take d).filter (·.op==7)).length+(if x.op==7 then 1 else 0):=by
     rw[List.take_add_one,hx]
     simp only[Option.toList_some,List.filter_append,List.length_append,List.filter_cons,List.filter_nil]
     split<;>rfl
    have hcl:((re.take d).filter (·.op==7)).length≤d:=Nat.le_trans (List.length_filter_le _ _) (by simp;omega)
    have HCT:=Lib.hid hct
    clear hct
    obtain⟨op,⟨x0,x1,x2,x3⟩,xn,xmin,xmax,xk⟩:=x
    simp only at n0 n1 n2 n3 n4 n5 n6 n7 n8
    clear hx HN2
    generalize ((re.take d).filter (·.op==7)).length=c at*
    have HB3:=Lib.hid (HB2.out.alloc HB2.out.size (.cells (zAV ⟨op,⟨x0,x1,x2,x3⟩,xn,xmin,xmax,xk⟩) 101))
    clear HB2
    by_cases h7:op=7
    ·subst h7
     go_wp2_with fail
     go_roundg (re.length - (d+1))
     case measure=>have:=HG.out;omega
     case rel=>exact⟨d+1,by go_num,rfl,by omega,by rw[HCT.out];go_num,HB3.out⟩
    ·have h7':(op==7)=false:=by simpa using h7
     go_wp2_with fail
     go_roundg (re.length - (d+1))
     case measure=>have:=HG.out;omega
     case rel=>exact⟨d+1,by go_num,rfl,by omega,by rw[HCT.out,if_neg (by simpa using h7)];go_num,HB3.out⟩
   ·have hlt': ¬(d:Int)<(re.length:Int):=by omega
    have hde:d=re.length:=by omega
    subst hde
    go_wp2_with fail
    go_ret
    exact⟨by rw[HW.out,List.take_length];rfl,HB2.out⟩
end
section
open Go.RowKit
section
variable {w:World} {oa:Option Addr} {cap:Nat} {re:List Nd}
theorem zHn (h: ¬re.length=0):re.isEmpty=false:=by cases re<;>simp_all
theorem zMP {n:Int} (hn: ¬n=0) (_:NdV w oa re):
  Calls Tryz.prog 41 #[.agg #[.int .i8 0,.int .i64 n,.slice oa re.length cap]] w fun e w'=>e= .returned (.bool false)∧Below w.heap.size w w':=by
 have hb0:=(Below.refl w.heap.size w).alloc (Nat.le_refl _) (.cells #[.int .i8 0,.int .i64 n,.slice oa re.length cap] 31)
 have HB:=Lib.hid hb0
 clear hb0
 have qn:(n==0)=false:=beq_eq_false_iff_ne.2 hn
 go_enter Tryz.func41,Tryz.ntmps41
 go_wp2_with fail
 go_ret
 exact⟨rfl,HB.out⟩
theorem zJU (_:NdV w oa ([]:List Nd)):
  Calls Tryz.prog 41 #[.agg #[.int .i8 0,.int .i64 0,.slice oa ([]:List Nd).length cap]] w fun e w'=>e= .returned (.bool true)∧Below w.heap.size w w':=by
 have hb0:=(Below.refl w.heap.size w).alloc (Nat.le_refl _) (.cells #[.int .i8 0,.int .i64 0,.slice oa ([]:List Nd).length cap] 31)
 have HB:=Lib.hid hb0
 clear hb0
 go_enter Tryz.func41,Tryz.ntmps41
 go_wp2_with fail
 go_ret
 exact⟨rfl,HB.out⟩
theorem zJV (hl: ¬re.length=0) (_:NdV w oa re):
  Calls Tryz.prog 41 #[.agg #[.int .i8 0,.int .i64 0,.slice oa re.length cap]] w fun e w'=>e= .returned (.bool false)∧Below w.heap.size w w':=by
 have hb0:=(Below.refl w.heap.size w).alloc (Nat.le_refl _) (.cells #[.int .i8 0,.int .i64 0,.slice oa re.length cap] 31)
 have HB:=Lib.hid hb0
 clear hb0
 have ql:((re.length:Int)==0)=false:=beq_eq_false_iff_ne.2 (by omega)
 go_enter Tryz.func41,Tryz.ntmps41
 go_wp2_with fail
 go_ret
 exact⟨rfl,HB.out⟩
theorem zMO {n:Int} (hn: ¬n=0) (_:NdV w oa re):
  Calls Tryz.prog 41 #[.agg #[.int .i8 2,.int .i64 n,.slice oa re.length cap]] w fun e w'=>e= .returned (.bool false)∧Below w.heap.size w w':=by
 have hb0:=(Below.refl w.heap.size w).alloc (Nat.le_refl _) (.cells #[.int .i8 2,.int .i64 n,.slice oa re.length cap] 31)
 have HB:=Lib.hid hb0
 clear hb0
 have qn:(n==0)=false:=beq_eq_false_iff_ne.2 hn
 go_enter Tryz.func41,Tryz.ntmps41
 go_wp2_with fail
 go_ret
 exact⟨rfl,HB.out⟩
theorem zJQ (_:NdV w oa ([]:List Nd)):
  Calls Tryz.prog 41 #[.agg #[.int .i8 2,.int .i64 0,.slice oa ([]:List Nd).length cap]] w fun e w'=>e= .returned (.bool true)∧Below w.heap.size w w':=by
 have hb0:=(Below.refl w.heap.size w).alloc (Nat.le_refl _) (.cells #[.int .i8 2,.int .i64 0,.slice oa ([]:List Nd).length cap] 31)
 have HB:=Lib.hid hb0
 clear hb0
 go_enter Tryz.func41,Tryz.ntmps41
 go_wp2_with fail
 go_ret
 exact⟨rfl,HB.out⟩
theorem zJR (hl: ¬re.length=0) (_:NdV w oa re):
  Calls Tryz.prog 41 #[.agg #[.int .i8 2,.int .i64 0,.slice oa re.length cap]] w fun e w'=>e= .returned (.bool false)∧Below w.heap.size w w':=by
 have hb0:=(Below.refl w.heap.size w).alloc (Nat.le_refl _) (.cells #[.int .i8 2,.int .i64 0,.slice oa re.length cap] 31)
 have HB:=Lib.hid hb0
 clear hb0
 have ql:((re.length:Int)==0)=false:=beq_eq_false_iff_ne.2 (by omega)
 go_enter Tryz.func41,Tryz.ntmps41
 go_wp2_with fail
 go_ret
 exact⟨rfl,HB.out⟩
theorem zK6 {n:Int} (hn: ¬1≤n) (_:NdV w oa re):
  Calls Tryz.prog 41 #[.agg #[.int .i8 1,.int .i64 n,.slice oa re.length cap]] w fun e w'=>e= .returned (.bool false)∧Below w.heap.size w w':=by
 have hb0:=(Below.refl w.heap.size w).alloc (Nat.le_refl _) (.cells #[.int .i8 1,.int .i64 n,.slice oa re.length cap] 31)
 have HB:=Lib.hid hb0
 clear hb0
 go_enter Tryz.func41,Tryz.ntmps41
 go_wp2_with fail
 go_ret
 exact⟨rfl,HB.out⟩
theorem zK7 {n:Int} (hn:1≤n) (hm: ¬n≤2147483647) (_:NdV w oa re):
  Calls Tryz.prog 41 #[.agg #[.int .i8 1,.int .i64 n,.slice oa re.length cap]] w fun e w'=>e= .returned (.bool false)∧Below w.heap.size w w':=by
 have hb0:=(Below.refl w.heap.size w).alloc (Nat.le_refl _) (.cells #[.int .i8 1,.int .i64 n,.slice oa re.length cap] 31)
 have HB:=Lib.hid hb0
 clear hb0
 go_enter Tryz.func41,Tryz.ntmps41
 go_wp2_with fail
 go_ret
 exact⟨rfl,HB.out⟩
theorem zJS {n:Int} (hn:1≤n) (hm:n≤2147483647) (_:NdV w oa ([]:List Nd)):
  Calls Tryz.prog 41 #[.agg #[.int .i8 1,.int .i64 n,.slice oa ([]:List Nd).length cap]] w fun e w'=>e= .returned (.bool true)∧Below w.heap.size w w':=by
 have hb0:=(Below.refl w.heap.size w).alloc (Nat.le_refl _) (.cells #[.int .i8 1,.int .i64 n,.slice oa ([]:List Nd).length cap] 31)
 have HB:=Lib.hid hb0
 clear hb0
 go_enter Tryz.func41,Tryz.ntmps41
 go_wp2_with fail
 go_ret
 exact⟨rfl,HB.out⟩
theorem zJT {n:Int} (hn:1≤n) (hm:n≤2147483647) (hl: ¬re.length=0) (_:NdV w oa re):
  Calls Tryz.prog 41 #[.agg #[.int .i8 1,.int .i64 n,.slice oa re.length cap]] w fun e w'=>e= .returned (.bool false)∧Below w.heap.size w w':=by
 have hb0:=(Below.refl w.heap.size w).alloc (Nat.le_refl _) (.cells #[.int .i8 1,.int .i64 n,.slice oa re.length cap] 31)
 have HB:=Lib.hid hb0
 clear hb0
 have ql:((re.length:Int)==0)=false:=beq_eq_false_iff_ne.2 (by omega)
 go_enter Tryz.func41,Tryz.ntmps41
 go_wp2_with fail
 go_ret
 exact⟨rfl,HB.out⟩
theorem zMN {n:Int} (hn: ¬n=0) (_:NdV w oa re):
  Calls Tryz.prog 41 #[.agg #[.int .i8 3,.int .i64 n,.slice oa re.length cap]] w fun e w'=>e= .returned (.bool false)∧Below w.heap.size w w':=by
 have hb0:=(Below.refl w.heap.size w).alloc (Nat.le_refl _) (.cells #[.int .i8 3,.int .i64 n,.slice oa re.length cap] 31)
 have HB:=Lib.hid hb0
 clear hb0
 have qn:(n==0)=false:=beq_eq_false_iff_ne.2 hn
 go_enter Tryz.func41,Tryz.ntmps41
 go_wp2_with fail
 go_ret
 exact⟨rfl,HB.out⟩
theorem zJO (_:NdV w oa ([]:List Nd)):
  Calls Tryz.prog 41 #[.agg #[.int .i8 3,.int .i64 0,.slice oa ([]:List Nd).length cap]] w fun e w'=>e= .returned (.bool true)∧Below w.heap.size w w':=by
 have hb0:=(Below.refl w.heap.size w).alloc (Nat.le_refl _) (.cells #[.int .i8 3,.int .i64 0,.slice oa ([]:List Nd).length cap] 31)
 have HB:=Lib.hid hb0
 clear hb0
 go_enter Tryz.func41,Tryz.ntmps41
 go_wp2_with fail
 go_ret
 exact⟨rfl,HB.out⟩
theorem zJP (hl: ¬re.length=0) (h:NdV w oa re):
  Calls Tryz.prog 41 #[.agg #[.int .i8 3,.int .i64 0,.slice oa re.length cap]] w fun e w'=>e= .returned (.bool (shapedN re))∧Below w.heap.size w w':=by
 have hb0:=(Below.refl w.heap.size w).alloc (Nat.le_refl _) (.cells #[.int .i8 3,.int .i64 0,.slice oa re.length cap] 31)
 have HS:=Lib.hid (zDM (cap:=cap) (h.below hb0))
 have HB:=Lib.hid hb0
 clear hb0 h
 have ql:((re.length:Int)==0)=false:=beq_eq_false_iff_ne.2 (by omega)
 go_enter Tryz.func41,Tryz.ntmps41
 go_wp2_with fail
 refine HS.out.mono ?_;rintro e w1 ⟨rfl,hb1⟩
 have HB1:=Lib.hid (HB.out.trans (hb1.mono (by simp)))
 clear hb1
 go_wp2_with fail
 go_ret
 exact⟨rfl,HB1.out⟩
theorem zJN {k n:Int} (h0: ¬k=0) (h1: ¬k=1) (h2: ¬k=2) (h3: ¬k=3) (_:NdV w oa re):
  Calls Tryz.prog 41 #[.agg #[.int .i8 k,.int .i64 n,.slice oa re.length cap]] w fun e w'=>e= .returned (.bool false)∧Below w.heap.size w w':=by
 have hb0:=(Below.refl w.heap.size w).alloc (Nat.le_refl _) (.cells #[.int .i8 k,.int .i64 n,.slice oa re.length cap] 31)
 have HB:=Lib.hid hb0
 clear hb0
 have q0:(k==0)=false:=beq_eq_false_iff_ne.2 h0
 have q1:(k==1)=false:=beq_eq_false_iff_ne.2 h1
 have q2:(k==2)=false:=beq_eq_false_iff_ne.2 h2
 have q3:(k==3)=false:=beq_eq_false_iff_ne.2 h3
 go_enter Tryz.func41,Tryz.ntmps41
 go_wp2_with fail
 go_ret
 exact⟨rfl,HB.out⟩
theorem zK5 (k:Int) (n:Int) (h:NdV w oa re):
  Calls Tryz.prog 41 #[.agg #[.int .i8 k,.int .i64 n,.slice oa re.length cap]] w fun e w'=>e= .returned (.bool (zAw ⟨k,n,re⟩))∧Below w.heap.size w w':=by
 by_cases h3:k=3
 ·subst h3
  by_cases hn:n=0
  ·subst hn
   by_cases hl:re.length=0
   ·obtain rfl:=List.eq_nil_of_length_eq_zero hl
    exact zJO h
   ·rw[show zAw ⟨3,0,re⟩=shapedN re by simp[zAw,zHn hl]]
    exact zJP hl h
  ·rw[show zAw ⟨3,n,re⟩=false by simp[zAw,hn]]
   exact zMN hn h
 by_cases h1:k=1
 ·subst h1
  by_cases hn:1≤n
  ·by_cases hm:n≤2147483647
   ·by_cases hl:re.length=0
    ·obtain rfl:=List.eq_nil_of_length_eq_zero hl
     rw[show zAw ⟨1,n,[]⟩=true by simp[zAw,hn,hm]]
     exact zJS hn hm h
    ·rw[show zAw ⟨1,n,re⟩=false by simp[zAw,zHn hl]]
     exact zJT hn hm hl h
   ·rw[show zAw ⟨1,n,re⟩=false by simp[zAw,hm]]
    exact zK7 hn hm h
  ·rw[show zAw ⟨1,n,re⟩=false by simp[zAw,hn]]
   exact zK6 hn h
 by_cases h0:k=0
 ·subst h0
  by_cases hn:n=0
  ·subst hn
   by_cases hl:re.length=0
   ·obtain rfl:=List.eq_nil_of_length_eq_zero hl
    exact zJU h
   ·rw[show zAw ⟨0,0,re⟩=false by simp[zAw,zHn hl]]
    exact zJV hl h
  ·rw[show zAw ⟨0,n,re⟩=false by simp[zAw,hn]]
   exact zMP hn h
 by_cases h2:k=2
 ·subst h2
  by_cases hn:n=0
  ·subst hn
   by_cases hl:re.length=0
   ·obtain rfl:=List.eq_nil_of_length_eq_zero hl
    exact zJQ h
   ·rw[show zAw ⟨2,0,re⟩=false by simp[zAw,zHn hl]]
    exact zJR hl h
  ·rw[show zAw ⟨2,n,re⟩=false by simp[zAw,hn]]
   exact zMO hn h
 rw[show zAw ⟨k,n,re⟩=false by simp[zAw,h0,h1,h2,h3]]
 exact zJN h0 h1 h2 h3 h
end
end
section
open Go.RowKit
def NdU (w:World) (oa:Option Addr) (re:List Nd):Prop:=
 0<re.length→ ∃nb no,oa=some ⟨nb,no,none⟩∧nb<w.heap.size∧ ∀i,i<re.length→ ∀j,j<9→w.cell? ⟨nb,no+i*9+j,none⟩=(zAV (re.getD i Nd.zero))[j]?
section
variable {w w':World} {oa ob:Option Addr} {re:List Nd} {ca cb:Nat}
theorem NdU.below (h:NdU w oa re) (hb:Below w.heap.size w w'):NdU w' oa re:=fun hp=>by
 obtain⟨nb,no,h1,h2,h3⟩:=h hp
 exact⟨nb,no,h1,Nat.lt_of_lt_of_le h2 hb.size,fun i hi j hj=>(hb.cell (p:=⟨nb,no+i*9+j,none⟩) h2).trans (h3 i hi j hj)⟩
theorem NdU.cells {nb no:Nat} (h: ∀i,i<re.length→ ∀j,j<9→w.cell? ⟨nb,no+i*9+j,none⟩=(zAV (re.getD i Nd.zero))[j]?) {i:Nat} {x:Nd} (hx:re[i]?=some x):
  w.cell? ⟨nb,no+i*9,none⟩=some (.int .i8 x.op)∧w.cell? ⟨nb,no+i*9+1,none⟩=some (.int .u64 x.set.w0.toNat)∧w.cell? ⟨nb,no+i*9+2,none⟩=some (.int .u64 x.set.w1.toNat)∧w.cell? ⟨nb,no+i*9+3,none⟩=some (.int .u64 x.set.w2.toNat)∧w.cell? ⟨nb,no+i*9+4,none⟩=some (.int .u64 x.set.w3.toNat)∧
  w.cell? ⟨nb,no+i*9+5,none⟩=some (.int .i64 x.n)∧w.cell? ⟨nb,no+i*9+6,none⟩=some (.int .i64 x.min)∧w.cell? ⟨nb,no+i*9+7,none⟩=some (.int .i64 x.max)∧w.cell? ⟨nb,no+i*9+8,none⟩=some (.int .i64 x.kids):=by
 have hi:i<re.length:=(List.getElem?_eq_some_iff.1 hx).1
 have hg:re.getD i Nd.zero=x:=by simp[List.getD_eq_getElem?_getD,hx]
 have hc: ∀j,j<9→w.cell? ⟨nb,no+i*9+j,none⟩=(zAV x)[j]?:=fun j hj=>by
  rw[←hg];exact h i hi j hj
 exact⟨hc 0 (by decide),hc 1 (by decide),hc 2 (by decide),hc 3 (by decide),hc 4 (by decide),hc 5 (by decide),hc 6 (by decide),hc 7 (by decide),hc 8 (by decide)⟩
theorem Nds.toU {base:Nat} {v:Value} (h:Nds w base v re): ∃oa cp,v= .slice oa re.length cp∧NdU w oa re:=by
 rcases h.2 with ⟨rfl,h0⟩|⟨g,cp,cur,rfl,hg1,hg2,hcp,_⟩
 ·exact⟨none,0,by rw[h0],fun h=>by omega⟩
 ·refine⟨_,_,rfl,fun hn=>⟨g,0,rfl,(Array.getElem?_eq_some_iff.1 hg2).1,fun i hi j hj=>?_⟩⟩
  have hc:=World.ownsRow.cellAt h (i*9+j) (by omega)
  rw[show 0+i*9+j=i*9+j by omega,hc,zJh re i j hi hj]
end
end
end Go.Proofs.YtmaagpbjahjmhaaGreatDoor
