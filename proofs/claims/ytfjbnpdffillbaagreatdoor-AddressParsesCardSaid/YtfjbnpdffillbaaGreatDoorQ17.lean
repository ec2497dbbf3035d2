/- Parts: Te Tf Tga Ph. -/
import Derived.Test.YtfjbnpdffillbaaGreatDoorQ10
import Derived.Test.YtfjbnpdffillbaaGreatDoorQ16
set_option maxHeartbeats 1600000
set_option maxRecDepth 100000
namespace Go.Proofs.YtfjbnpdffillbaaGreatDoor
section
open Go.RowKit
structure NdV (w:World) (oa:Option Addr) (re:List Nd):Prop where
 len:re.length≤4294967296
 at_:0<re.length→ ∃nb no,oa=some ⟨nb,no,none⟩∧zG1 w nb no re
theorem NdV.below {w w':World} {oa:Option Addr} {re:List Nd} (h:NdV w oa re) (hb:Below w.heap.size w w'):NdV w' oa re:=
 ⟨h.len,fun hp=>by obtain⟨nb,no,h1,h2⟩:=h.at_ hp;exact⟨nb,no,h1,h2.below hb⟩⟩
theorem zAr.toBelow {xb:Nat} {w0 w w':World} (hb:Below w0.heap.size w0 w) (hx:w0.heap.size≤xb) (h:zAr xb Option.none w w'):Below w0.heap.size w0 w' where
 os:=h.os.trans hb.os
 tape:=h.tape.trans hb.tape
 output:=h.output.trans hb.output
 size:=zP2 hb.size h.size
 block:=fun k hk=>(h.block k (zPi hk hb.size) (by omega) (by simp)).trans (hb.block k hk)
theorem zK9 {w:World} {xb cap:Nat} {oa:Option Addr} (xl:xb<w.heap.size) (c0:w.cell? ⟨xb,0,none⟩=some (.slice oa 0 cap)) (c1:w.cell? ⟨xb,1,none⟩=some (.int .i64 0)):
  Calls Tryz.prog 144 #[.pointer (some ⟨xb,0,none⟩),.int .i64 0,.int .i64 0] w fun e w'=>e= .returned (.bool false)∧Below w.heap.size w w':=by
 go_enter Tryz.func144,Tryz.ntmps144
 go_wp2_with fail
 refine zAA (X:=none) 28 [([0,1,2,3,4,5,6,7,8,9,10,11,12,13,14,15,16,17,18,19,20,21,22,23,24],25)] [26,27] (by kernel_rfl) (by kernel_rfl) rfl (fun _ _ _ _ _ h=>h) ?_
 simp only[zAI,zAC,zAF,zAD,zAB,List.getD_cons_zero,List.getD_cons_succ,List.drop_succ_cons,List.drop_nil]
 repeat (go_big_quiet_step (fail))
 refine wpQuiet_nil ?_
 go_wp2_with fail
 refine⟨zAJ.refl _,?_⟩
 repeat (go_big_quiet_step (fail))
 refine wpQuiet_nil ?_
 go_wp2_with fail
 go_ret
 exact⟨rfl,(zPg _ _).drew⟩
theorem zDS (w:World) (oa:Option Addr) (n cap:Nat) (j:Nat):(w.alloc (.cells #[.slice oa n cap,.int .i64 0,.slice none 0 0] 213)).cell? ⟨w.heap.size,j,none⟩=(#[.slice oa n cap,.int .i64 0,.slice none 0 0]:Array Value)[j]?:=
 zPu _ _ j _ _ (0,0) (zPs w _)
theorem zNR {w:World} {nb no cap:Nat} {re:List Nd} (hn:zG1 w nb no re):LkS (w.alloc (.cells #[.slice (some ⟨nb,no,none⟩) re.length cap,.int .i64 0,.slice none 0 0] 213)) w.heap.size (some ⟨nb,no,none⟩) nb no cap re 0 [] (.slice none 0 0) where
 lt:=by simp
 c0:=zDS _ _ _ _ 0
 c1:=zDS _ _ _ _ 1
 c2:=zDS _ _ _ _ 2
 fz:=zAE (zPs w _)
 own:=zPv _ _ _ _
 nd:=fun _=>⟨rfl,hn.below ((zPg _ _).alloc (zPh _) _)⟩
 nlt:=hn.lt
 len:=hn.len
 at_:=Nat.zero_le _
 el:=by simp
theorem zIX {oa:Option Addr} {cap:Nat} {w:World} :
  Calls Tryz.prog 111 #[.slice oa 0 cap] w fun e w'=>e= .returned (.bool false)∧Below w.heap.size w w':=by
 have hb0:=(zPg w.heap.size w).alloc (zPh _) (.cells #[.slice oa 0 cap,.int .i64 0,.slice none 0 0] 213)
 go_enter Tryz.func111,Tryz.ntmps111
 go_wp2_with fail
 refine(zK9 (oa:=oa) (cap:=cap) (by simp) (zDS w oa 0 cap 0) (zDS w oa 0 cap 1)).mono ?_;rintro e w1 ⟨rfl,hb1⟩
 have hb:=hb0.trans (hb1.mono hb0.size)
 clear hb1 hb0
 go_wp2_with fail
 go_ret
 exact⟨rfl,hb⟩
theorem zJV {re:List Nd} {nb no cap:Nat} {w:World} (_:0<re.length) (hn:zG1 w nb no re):
  Calls Tryz.prog 111 #[.slice (some ⟨nb,no,none⟩) re.length cap] w fun e w'=>e= .returned (.bool (shapedN re))∧Below w.heap.size w w':=by
 have hb0:=(zPg w.heap.size w).alloc (zPh _) (.cells #[.slice (some ⟨nb,no,none⟩) re.length cap,.int .i64 0,.slice none 0 0] 213)
 have HN:=zPf hn
 have nbl:=hn.lt
 have hlen:=hn.len
 have hv:=zPf (zNR (cap:=cap) hn)
 clear hn
 go_enter Tryz.func111,Tryz.ntmps111
 go_wp2_with fail
 refine(zKM 260 0 0 [] _ _ 0 0 (by omega) rfl rfl (by omega) hv.out).mono ?_;rintro e w1 ⟨hb1,hr⟩
 have HB:=zPf (hb1.toBelow hb0 (zPh _))
 clear hb1 hb0 hv
 have HD:=zPf (HN.out.below HB.out)
 cases hq:zAi re 260 0 0 []with
 |none=>
  have HS:Hid (shapedN re=false):=by rw[Hid,shapedN,hq]
  rw[hq]at hr
  subst hr
  go_wp2_with fail
  go_ret
  exact⟨by rw[HS.out];rfl,HB.out⟩
 |some q=>
  obtain⟨j,en⟩:=q
  rw[hq]at hr
  obtain⟨ev,rfl,hl,_⟩:=hr
  have c1:=hl.c1
  have xl:=hl.lt
  have hj:=hl.at_
  clear hl
  by_cases hjl:j=re.length
  ·obtain⟨W,hw⟩:=zBa re _ _ _ _ _ _ hq
   have HS:Hid (shapedN re=decide (W≤16384)):=by rw[Hid,shapedN,hq,hw];simp[hjl]
   have hok:zMo re:=(zEj fun p hp=>(zDQ re _ _ _ _ _ hq).2.2 p (Nat.zero_le _) (by omega)).1
   have HW:=zPf (zGA (cap:=cap) hok 260 0 (W,j) w1 0 rfl HD.out hw)
   subst hjl
   clear hq hw
   go_wp2_with fail
   refine HW.out.mono ?_;rintro e w2 ⟨rfl,hb2⟩
   have HB2:=zPf (HB.out.trans (hb2.mono HB.out.size))
   clear hb2 HW
   go_wp2_with fail
   go_ret
   exact⟨by rw[HS.out];rfl,HB2.out⟩
  ·have HS:Hid (shapedN re=false):=by rw[Hid,shapedN,hq];simp[hjl]
   have hjl':((j:Int) !=(re.length:Int))=true:=by simp;omega
   go_wp2_with fail
   go_ret
   exact⟨by rw[HS.out];rfl,HB.out⟩
theorem zGF {re:List Nd} {oa:Option Addr} {cap:Nat} {w:World} (h:NdV w oa re):
  Calls Tryz.prog 111 #[.slice oa re.length cap] w fun e w'=>e= .returned (.bool (shapedN re))∧Below w.heap.size w w':=by
 by_cases hp:0<re.length
 ·obtain⟨nb,no,rfl,hn⟩:=h.at_ hp
  exact zJV hp hn
 ·have hre:re=[]:=zQE (by omega)
  subst hre
  exact zIX
end
section
open Go.RowKit
def zDW (L:List Mk):List Value:=L.flatMap fun m=>[.int .u8 (m.b:Nat),.bool m.p]
theorem zCN: ∀L:List Mk,(zDW L).length=L.length*2
 |[]=>rfl
 |x::l=>by
  have h:=zCN l
  simp only[zDW,List.flatMap_cons,List.length_append,List.length_cons,List.length_nil]at h ⊢
  omega
theorem zJz (a b:List Mk):zDW (a++b)=zDW a++zDW b:=by simp[zDW]
theorem zNN (L:List Mk): ∀u∈zDW L,u.oneCell'=true:=by
 intro u hu
 simp only[zDW,List.mem_flatMap,List.mem_cons,List.not_mem_nil,or_false]at hu
 obtain⟨x,_,rfl|rfl⟩:=hu<;>rfl
theorem zCY: ∀(L:List Mk) (i:Nat),i<L.length→(zDW L)[i*2]?=some (.int .u8 ((zAH L i).b:Nat))∧(zDW L)[i*2+1]?=some (.bool (zAH L i).p)
 |[],i,h=>by simp at h
 |x::l,0,_=>⟨rfl,rfl⟩
 |x::l,i+1,h=>by
  have h1:=zCY l i (by simpa using h)
  have h2:zDW (x::l)= .int .u8 (x.b:Nat):: .bool x.p::zDW l:=rfl
  rw[h2,show(i+1)*2=i*2+1+1 by omega]
  simpa [zAH]using h1
theorem zPT:ElT Tryz.prog 120 131 2 2 (.agg #[.int .u8 0,.bool false]):=⟨Tryz.underlying120,by kernel_rfl,rfl,by decide⟩
def Mks (w:World) (base:Nat) (v:Value) (L:List Mk):Prop:=w.ownsRow base 131 2 v L.length (zDW L)
theorem Mks.nil (w:World) (base:Nat):Mks w base (.slice none 0 0) []:=zPv _ _ _ _
theorem Mks.lt {w:World} {base:Nat} {v:Value} {L:List Mk} (h:Mks w base v L): ∀g,v.ownBlock=some g→base≤g∧g<w.heap.size:=World.ownsRow.lt h
theorem Mks.block {w w':World} {base:Nat} {v:Value} {L:List Mk} (h:Mks w base v L) (hb: ∀g,v.ownBlock=some g→w'.heap[g]?=w.heap[g]?):Mks w' base v L:=zAU h hb
theorem Mks.below {w w':World} {base:Nat} {v:Value} {L:List Mk} (h:Mks w base v L) (hb:Below w.heap.size w w'):Mks w' base v L:=h.block fun g hg=>hb.block g (h.lt g hg).2
theorem zBA {w:World} {ops:Array Oper} {rest:List Oper} {o:Oper} {a:Act} {Q:Exit→Act→World→Prop}
  (hgd:o.guard=none) (s x:Operand) (ho:o.op= .call { callee:= .builtin .append,args:= #[s,x],argTypes:= #[120,120] })
  (base:Nat) {v sv:Value} {xs ys:List Mk} (hs:a.eval s=v) (hown:Mks w base v xs) (hx:a.eval x=sv) (hsrc:Src w sv ys.length (zDW ys))
  (hb:xs.length+ys.length≤4294967296) (hbase:base≤w.heap.size)
  (h: ∀v' w',Mks w' base v' (xs++ys)→w.grownBy w' v.ownBlock→(v'.ownBlock=v.ownBlock∨v'.ownBlock=some w.heap.size)→wpList Tryz.prog ops Q rest (a.put o.dst v') w'):
  wpList Tryz.prog ops Q (o::rest) a w:=by
 refine zAt zPT hgd s x ho base hs hown hx hsrc (zCN ys) (zNN ys) (by unfold maxLen;omega) (by omega) hbase ?_
 intro v' w' h1 h2 h3
 refine h v' w' ?_ h2 h3
 rw[Mks,zPz,zJz]
 exact h1
theorem Mks.at {w:World} {base:Nat} {v:Value} {L:List Mk} (h:Mks w base v L) (hn:0<L.length) (hl:L.length≤4096) (hu: ∀i,i<L.length→(zAH L i).b<256):
  ∃g cp,v= .slice (some ⟨g,0,none⟩) L.length cp∧base≤g∧zE8 w g 0 L:=by
 rcases h.2 with ⟨_,h0⟩|⟨g,cp,cur,rfl,hg1,hg2,_⟩
 ·omega
 ·have hadd: ∀j,(⟨g,0,none⟩:Addr).add j=⟨g,j,none⟩:=fun j=>by unfold Addr.add;split<;>simp_all
  have hc: ∀j u,(zDW L)[j]?=some u→w.cell? ⟨g,j,none⟩=some u:=fun j u hu=>by
   rw[←hadd];exact World.ownsRow.cells h rfl j u hu
  refine⟨g,cp,rfl,hg1,⟨(zPn.1 hg2).1,hl,fun i hi=>?_,fun i hi=>?_,hu⟩⟩
  ·rw[Nat.zero_add];exact hc _ _ (zCY L i hi).1
  ·rw[Nat.zero_add];exact hc _ _ (zCY L i hi).2
theorem Mks.form {w:World} {base:Nat} {v:Value} {L:List Mk} (h:Mks w base v L): ∃o c,v= .slice o L.length c:=by
 rcases h.2 with ⟨h1,h2⟩|⟨g,cp,_,h1,_⟩
 ·exact⟨none,0,by rw[h1,h2]⟩
 ·exact⟨_,_,h1⟩
theorem zOL (x y:Nd) (w:World):(binOp .neq 78 (ndV x) (ndV y)).run Tryz.prog w= .ok (.bool (!decide (x=y))) w:=by
 obtain⟨op,⟨x0,x1,x2,x3⟩,xn,xmin,xmax,xk⟩:=x
 obtain⟨oq,⟨y0,y1,y2,y3⟩,yn,ymin,ymax,yk⟩:=y
 rw[ndV,ndV,zNr]
 congr 3
 rw[Bool.eq_iff_iff]
 simp only[Bool.and_eq_true,decide_eq_true_eq,Nd.mk.injEq,Cls.mk.injEq,←BitVec.toNat_inj]
 constructor
 ·intro h
  refine⟨by omega,⟨by omega,by omega,by omega,by omega⟩,by omega,by omega,by omega,by omega⟩
 ·intro h;simp_all
theorem zN7 {a b:List Nd} {d:Nat} {x y:Nd} (hx:a[d]?=some x) (hy:b[d]?=some y) (h: ¬x=y): ¬a=b:=fun e=>by subst e;rw[hx]at hy;cases hy;exact h rfl
theorem zI3 {a b:List Nd} {oa ob:Option Addr} {ca cb:Nat} {w:World} (ha:NdV w oa a) (hb:NdV w ob b):
  Calls Tryz.prog 56 #[.slice oa a.length ca,.slice ob b.length cb] w fun e w'=>e= .returned (.bool (decide (a=b)))∧Below w.heap.size w w':=by
 have hla:=ha.len
 have hlb:=hb.len
 have HA:=zPf ha
 have HB:=zPf hb
 clear ha hb
 by_cases hl:a.length=b.length
 ·have hl':((a.length:Int) !=(b.length:Int))=false:=by simp[hl]
  rw[←hl]
  rw[←hl]at hlb
  have HL:=zPf hl
  clear hl hl'
  go_enter Tryz.func56,Tryz.ntmps56
  go_wp2_with fail
  go_loopg [5] a.length (fun n iv wr=> ∃d:Nat,iv= .int .i64 (d:Nat)∧n=a.length - d∧d≤a.length∧Hid (a.take d=b.take d)∧Below w.heap.size w wr)
  case atStart=>exact⟨0,rfl,by omega,by omega,rfl,zPg _ _⟩
  case round=>
   obtain⟨d,rfl,hg,hd,HT,hbe⟩:=hrel
   have HG:=zPf hg
   have HBE:=zPf hbe
   clear hg
   by_cases hlt:d<a.length
   ·have hlt':(d:Int)<(a.length:Int):=by omega
    obtain⟨na,oo,rfl,hna⟩:=HA.out.at_ (by omega)
    obtain⟨nb,ob',rfl,hnb⟩:=HB.out.at_ (by have:=HL.out;omega)
    obtain⟨x,hx⟩: ∃x,a[d]?=some x:=⟨_,zPw hlt⟩
    obtain⟨y,hy⟩: ∃y,b[d]?=some y:=⟨_,zPw (by have:=HL.out;omega)⟩
    have hna2:=hna.below hbe
    have hnb2:=hnb.below hbe
    obtain⟨n0,n1,n2,n3,n4,n5,n6,n7,n8⟩:=hna2.cells hx
    obtain⟨m0,m1,m2,m3,m4,m5,m6,m7,m8⟩:=hnb2.cells hy
    have nal:=hna2.lt
    have nbl:=hnb2.lt
    have hq:=zOL x y
    have HX:=zPf hx
    have HY:=zPf hy
    clear hna hnb hna2 hnb2 hbe hx hy
    by_cases hxy:x=y
    ·subst hxy
     rw[show(!decide (x=x))=false by simp]at hq
     have HT1:Hid (a.take (d+1)=b.take (d+1)):=by rw[Hid,List.take_add_one,List.take_add_one,HT.out,HX.out,HY.out]
     obtain⟨op,⟨x0,x1,x2,x3⟩,xn,xmin,xmax,xk⟩:=x
     simp only[ndV]at n0 n1 n2 n3 n4 n5 n6 n7 n8 m0 m1 m2 m3 m4 m5 m6 m7 m8 hq
     go_wp2_with fail
     refine zAA (X:=none) 9 [] [0,1,2,3,4,5,6,7,8] (by kernel_rfl) (by kernel_rfl) rfl (fun _ _ _ _ _ h=>h) ?_
     simp only[zAI,zAC,zAD,zAB,List.getD_cons_zero,List.getD_cons_succ,List.drop_succ_cons,List.drop_nil]
     repeat (go_big_quiet_step (fail))
     refine wpQuiet_nil ?_
     go_wp2_with fail
     go_roundg (a.length - (d+1))
     case measure=>have:=HG.out;omega
     case rel=>exact⟨d+1,by go_num,rfl,by omega,HT1,HBE.out.drew⟩
    ·have HF:Hid (decide (a=b)=false):=by rw[Hid,zPr (zN7 HX.out HY.out hxy)]
     rw[show(!decide (x=y))=true by simpa using hxy]at hq
     obtain⟨op,⟨x0,x1,x2,x3⟩,xn,xmin,xmax,xk⟩:=x
     obtain⟨oq,⟨y0,y1,y2,y3⟩,yn,ymin,ymax,yk⟩:=y
     simp only[ndV]at n0 n1 n2 n3 n4 n5 n6 n7 n8 m0 m1 m2 m3 m4 m5 m6 m7 m8 hq
     clear hxy
     go_wp2_with fail
     refine zAA (X:=none) 9 [] [0,1,2,3,4,5,6,7,8] (by kernel_rfl) (by kernel_rfl) rfl (fun _ _ _ _ _ h=>h) ?_
     simp only[zAI,zAC,zAD,zAB,List.getD_cons_zero,List.getD_cons_succ,List.drop_succ_cons,List.drop_nil]
     repeat (go_big_quiet_step (fail))
     refine wpQuiet_nil ?_
     go_wp2_with fail
     go_ret
     exact⟨by rw[HF.out];rfl,HBE.out.drew⟩
   ·have hlt': ¬(d:Int)<(a.length:Int):=by omega
    have hde:d=a.length:=by omega
    subst hde
    have HF:Hid (decide (a=b)=true):=by
     have h:=HT.out
     rw[List.take_length,HL.out,List.take_length]at h
     rw[Hid,zPq h]
    go_wp2_with fail
    go_ret
    exact⟨by rw[HF.out];rfl,HBE.out⟩
 ·have hl':((a.length:Int) !=(b.length:Int))=true:=by simp;omega
  have HF:Hid (decide (a=b)=false):=by rw[Hid,zPr (fun e=>hl (by rw[e]))]
  go_enter Tryz.func56,Tryz.ntmps56
  go_wp2_with fail
  go_ret
  exact⟨by rw[HF.out];rfl,zPg _ _⟩
end
section
open Go.RowKit
theorem Nds.toV {w:World} {base:Nat} {v:Value} {re:List Nd} (h:Nds w base v re) (hl:re.length≤4294967296) (hk: ∀x∈re,x.kids≤re.length): ∃oa cp,v= .slice oa re.length cp∧NdV w oa re:=by
 by_cases hn:0<re.length
 ·obtain⟨g,cp,rfl,_,hat⟩:=h.at hn hl hk
  exact⟨_,_,rfl,hl,fun _=>⟨g,0,rfl,hat⟩⟩
 ·rcases h.2 with ⟨rfl,h0⟩|⟨g,cp,cur,rfl,hg1,hg2,_⟩
  ·exact⟨none,0,by rw[h0],hl,fun h=>absurd h hn⟩
  ·exact⟨_,_,rfl,hl,fun h=>absurd h hn⟩
theorem zD5 {L:List Mk} {i:Nat} (h:i<L.length):zAH L i∈L:=by
 simp only[zAH,List.getD_eq_getElem?_getD,List.getElem?_eq_getElem h,Option.getD_some]
 exact List.getElem_mem h
end
section
def cnt (l:List Nd):Nat:=(l.filter (·.op==7)).length
theorem zNa {re:List Nd} {d:Nat} {x:Nd} (hx:re[d]?=some x):cnt (re.take (d+1))=cnt (re.take d)+(if x.op=7 then 1 else 0):=by
 unfold cnt
 rw[List.take_add_one,hx]
 simp only[Option.toList_some,List.filter_append,List.length_append,List.filter_cons,List.filter_nil]
 by_cases h:x.op=7
 ·rw[if_pos (by simpa using h),if_pos h];rfl
 ·rw[if_neg (by simpa using h),if_neg h];rfl
theorem zGb {re:List Nd} {g:Nat→List Bool→Option (Nat × List Bool)} (hg: ∀i en r,g i en=some r→r.2.length+cnt (re.take i)=en.length+cnt (re.take r.1)):
  ∀(k i:Nat) (en:List Bool) (r:Nat × List Bool),zAy g k i en=some r→r.2.length+cnt (re.take i)=en.length+cnt (re.take r.1)
 |0,i,en,r,h=>by simp only[zAy,Option.some.injEq]at h;subst h;rfl
 |k+1,i,en,r,h=>by
  unfold zAy at h
  split at h
  ·cases h
  ·rename_i j en1 h1
   have h2:=hg _ _ _ h1
   have h3:=zGb hg k _ _ _ h
   simp only at h2
   omega
theorem zIp (re:List Nd): ∀(f g i:Nat) (en:List Bool) (r:Nat × List Bool),zAi re f g i en=some r→r.2.length+cnt (re.take i)=en.length+cnt (re.take r.1)
 |0,_,_,_,_,h=>by simp[zAi]at h
 |f+1,g,i,en,r,h=>by
  rw[zAi]at h
  split at h
  ·cases h
  ·rename_i x hx
   have hc:=zNa hx
   split at h
   ·cases h
   ·split at h
    ·cases h
    ·split at h
     ·rename_i h7
      rw[if_pos h7]at hc
      split at h
      ·cases h
      ·split at h
       ·cases h
       ·rename_i j en1 hk
        cases h
        have h1:=zGb (fun i en r=>zIp re f (g+1) i en r) _ _ _ _ hk
        simp only[List.length_append,List.length_singleton,List.length_set]at h1 ⊢
        omega
     ·rename_i h7
      rw[if_neg h7]at hc
      have h1:=zGb (fun i en r=>zIp re f g i en r) _ _ _ _ h
      omega
def zOK (re:List Nd) (p:Nat):Prop:= ∃x,re[p]?=some x∧1≤x.op∧x.op≤8∧(x.op=7→0≤x.n∧x.n≤255)
theorem zGZ {re:List Nd} {g:Nat→List Bool→Option (Nat × List Bool)} (hg: ∀i en r,g i en=some r→ ∀p,i≤p→p<r.1→zOK re p): ∀(k i:Nat) (en:List Bool) (r:Nat × List Bool),zAy g k i en=some r→ ∀p,i≤p→p<r.1→zOK re p
 |0,i,en,r,h=>by simp only[zAy,Option.some.injEq]at h;subst h;exact fun p h1 h2=>by simp only at h2;omega
 |k+1,i,en,r,h=>by
  unfold zAy at h
  split at h
  ·cases h
  ·rename_i j en1 h1
   intro p h2 h3
   by_cases hj:p<j
   ·exact hg _ _ _ h1 p h2 hj
   ·exact zGZ hg k _ _ _ h p (by omega) h3
theorem zGV (re:List Nd): ∀(f g i:Nat) (en:List Bool) (r:Nat × List Bool),zAi re f g i en=some r→ ∀p,i≤p→p<r.1→zOK re p
 |0,_,_,_,_,h=>by simp[zAi]at h
 |f+1,g,i,en,r,h=>by
  rw[zAi]at h
  split at h
  ·cases h
  ·rename_i x hx
   split at h
   ·cases h
   ·rename_i hgd
    have hg1:1≤x.op∧x.op≤8:=by
     have:zAl x=true:=by simpa using hgd
     simp only[zAl,Bool.and_eq_true,decide_eq_true_eq]at this
     omega
    split at h
    ·cases h
    ·split at h
     ·rename_i h7
      split at h
      ·cases h
      ·rename_i hc
       split at h
       ·cases h
       ·rename_i j en1 hk
        cases h
        intro p h1 h2
        by_cases he:p=i
        ·subst he;exact⟨x,hx,hg1.1,hg1.2,fun _=>by omega⟩
        ·exact zGZ (fun i en r=>zGV re f (g+1) i en r) _ _ _ _ hk p (by omega) h2
     ·rename_i h7
      intro p h1 h2
      by_cases he:p=i
      ·subst he;exact⟨x,hx,hg1.1,hg1.2,fun h=>absurd h h7⟩
      ·exact zGZ (fun i en r=>zGV re f g i en r) _ _ _ _ h p (by omega) h2
theorem zK7 {ere:Bool} {L:List Mk} (hu: ∀i,i<L.length→(zAH L i).b<256) {re:List Nd} (h:zA5 ere L= .ok re):re.length≤16386∧(∀x∈re,x.kids≤re.length)∧ ∀x∈re,1≤x.op∧x.op≤8∧(x.op=7→0≤x.n∧x.n≤255):=by
 obtain⟨_,h1,t,w,h2,_⟩:=zL7 h
 have hgood:=zDQ re _ _ _ _ _ (zCm h2)
 have hok:=zEj (fun p hp=>hgood.2.2 p (Nat.zero_le _) hp)
 have hsm:=zCT hu 64 (by simp) h2
 have hri:=(zCv hu 64 (by simp) h2).le
 simp only at hsm
 refine⟨by omega,hok.2,fun x hx=>?_⟩
 obtain⟨p,hp⟩:=List.mem_iff_getElem?.1 hx
 obtain⟨y,hy,hr⟩:=zGV re _ _ _ _ _ (zCm h2) p (Nat.zero_le _) (zPm.1 hp).1
 rw[hp]at hy
 cases hy
 exact hr
end
end Go.Proofs.YtfjbnpdffillbaaGreatDoor
