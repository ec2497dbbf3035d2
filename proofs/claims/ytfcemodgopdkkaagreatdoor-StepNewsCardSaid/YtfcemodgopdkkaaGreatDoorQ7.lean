/- Parts: Te Ud Tf Gta Tgr Ys Iea Uwa Xp Xrf. -/
import Derived.Test.YtfcemodgopdkkaaGreatDoorQ5
import Derived.Test.YtfcemodgopdkkaaGreatDoorQ6
set_option maxHeartbeats 1600000
set_option maxRecDepth 100000
namespace Go.Proofs.YtfcemodgopdkkaaGreatDoor
section
open Go.RowKit
structure NdV (w:World) (oa:Option Addr) (re:List Nd):Prop where
 len:re.length≤4294967296
 at_:0<re.length→ ∃nb no,oa=some ⟨nb,no,none⟩∧zCm w nb no re
theorem NdV.below {w w':World} {oa:Option Addr} {re:List Nd} (h:NdV w oa re) (hb:Below w.heap.size w w'):NdV w' oa re:=
 ⟨h.len,fun hp=>by obtain⟨nb,no,h1,h2⟩:=h.at_ hp;exact⟨nb,no,h1,h2.below hb⟩⟩
theorem zBQ.toBelow {xb:Nat} {w0 w w':World} (hb:Below w0.heap.size w0 w) (hx:w0.heap.size≤xb) (h:zBQ xb Option.none w w'):Below w0.heap.size w0 w' where
 os:=h.os.trans hb.os
 tape:=h.tape.trans hb.tape
 output:=h.output.trans hb.output
 size:=zMV hb.size h.size
 block:=fun k hk=>(h.block k (zMB hk hb.size) (by omega) (by simp)).trans (hb.block k hk)
theorem zHE {w:World} {xb cap:Nat} {oa:Option Addr} (xl:xb<w.heap.size) (c0:w.cell? ⟨xb,0,none⟩=some (.slice oa 0 cap)) (c1:w.cell? ⟨xb,1,none⟩=some (.int .i64 0)):
  Calls Tryz.prog 112 #[.pointer (some ⟨xb,0,none⟩),.int .i64 0,.int .i64 0] w fun e w'=>e= .returned (.bool false)∧Below w.heap.size w w':=by
 go_enter Tryz.func112,Tryz.ntmps112
 go_wp2_with fail
 refine zAA (X:=none) 28 [([0,1,2,3,4,5,6,7,8,9,10,11,12,13,14,15,16,17,18,19,20,21,22,23,24],25)] [26,27] (by kernel_rfl) (by kernel_rfl) rfl (fun _ _ _ _ _ h=>h) ?_
 simp only[zAJ,zAC,zAG,zAD,zAB,List.getD_cons_zero,List.getD_cons_succ,List.drop_succ_cons,List.drop_nil]
 repeat (go_big_quiet_step (fail))
 refine wpQuiet_nil ?_
 go_wp2_with fail
 refine⟨zAP.refl _,?_⟩
 repeat (go_big_quiet_step (fail))
 refine wpQuiet_nil ?_
 go_wp2_with fail
 go_ret
 exact⟨rfl,(zL9 _ _).drew⟩
theorem zBk (w:World) (oa:Option Addr) (n cap:Nat) (j:Nat):(w.alloc (.cells #[.slice oa n cap,.int .i64 0,.slice none 0 0] 181)).cell? ⟨w.heap.size,j,none⟩=(#[.slice oa n cap,.int .i64 0,.slice none 0 0]:Array Value)[j]?:=
 zMN _ _ j _ _ (0,0) (zML w _)
theorem zJR {w:World} {nb no cap:Nat} {re:List Nd} (hn:zCm w nb no re):LkS (w.alloc (.cells #[.slice (some ⟨nb,no,none⟩) re.length cap,.int .i64 0,.slice none 0 0] 181)) w.heap.size (some ⟨nb,no,none⟩) nb no cap re 0 [] (.slice none 0 0) where
 lt:=by simp
 c0:=zBk _ _ _ _ 0
 c1:=zBk _ _ _ _ 1
 c2:=zBk _ _ _ _ 2
 fz:=zAm (zML w _)
 own:=zMO _ _ _ _
 nd:=fun _=>⟨rfl,hn.below ((zL9 _ _).alloc (zMA _) _)⟩
 nlt:=hn.lt
 len:=hn.len
 at_:=Nat.zero_le _
 el:=by simp
theorem zEc {oa:Option Addr} {cap:Nat} {w:World} :
  Calls Tryz.prog 64 #[.slice oa 0 cap] w fun e w'=>e= .returned (.bool false)∧Below w.heap.size w w':=by
 have hb0:=(zL9 w.heap.size w).alloc (zMA _) (.cells #[.slice oa 0 cap,.int .i64 0,.slice none 0 0] 181)
 go_enter Tryz.func64,Tryz.ntmps64
 go_wp2_with fail
 refine(zHE (oa:=oa) (cap:=cap) (by simp) (zBk w oa 0 cap 0) (zBk w oa 0 cap 1)).mono ?_;rintro e w1 ⟨rfl,hb1⟩
 have hb:=hb0.trans (hb1.mono hb0.size)
 clear hb1 hb0
 go_wp2_with fail
 go_ret
 exact⟨rfl,hb⟩
theorem zFW {re:List Nd} {nb no cap:Nat} {w:World} (_:0<re.length) (hn:zCm w nb no re):
  Calls Tryz.prog 64 #[.slice (some ⟨nb,no,none⟩) re.length cap] w fun e w'=>e= .returned (.bool (shapedN re))∧Below w.heap.size w w':=by
 have hb0:=(zL9 w.heap.size w).alloc (zMA _) (.cells #[.slice (some ⟨nb,no,none⟩) re.length cap,.int .i64 0,.slice none 0 0] 181)
 have HN:=zL8 hn
 have nbl:=hn.lt
 have hlen:=hn.len
 have hv:=zL8 (zJR (cap:=cap) hn)
 clear hn
 go_enter Tryz.func64,Tryz.ntmps64
 go_wp2_with fail
 refine(zGO 260 0 0 [] _ _ 0 0 (by omega) rfl rfl (by omega) hv.out).mono ?_;rintro e w1 ⟨hb1,hr⟩
 have HB:=zL8 (hb1.toBelow hb0 (zMA _))
 clear hb1 hb0 hv
 have HD:=zL8 (HN.out.below HB.out)
 cases hq:zAX re 260 0 0 []with
 |none=>
  have HS:Hid (shapedN re=false):=by rw[Hid,shapedN,hq]
  rw[hq]at hr
  subst hr
  go_wp2_with fail
  go_ret
  exact⟨by rw[HS.out];rfl,HB.out⟩
 |some q=>
  obtain⟨j,en⟩:=q
  rw[hq]at hr
  obtain⟨ev,rfl,hl,_⟩:=hr
  have c1:=hl.c1
  have xl:=hl.lt
  have hj:=hl.at_
  clear hl
  by_cases hjl:j=re.length
  ·obtain⟨W,hw⟩:=zBA re _ _ _ _ _ _ hq
   have HS:Hid (shapedN re=decide (W≤16384)):=by rw[Hid,shapedN,hq,hw];simp[hjl]
   have hok:zDj re:=(zDM fun p hp=>(zCE re _ _ _ _ _ hq).2.2 p (Nat.zero_le _) (by omega)).1
   have HW:=zL8 (zEV (cap:=cap) hok 260 0 (W,j) w1 0 rfl HD.out hw)
   subst hjl
   clear hq hw
   go_wp2_with fail
   refine HW.out.mono ?_;rintro e w2 ⟨rfl,hb2⟩
   have HB2:=zL8 (HB.out.trans (hb2.mono HB.out.size))
   clear hb2 HW
   go_wp2_with fail
   go_ret
   exact⟨by rw[HS.out];rfl,HB2.out⟩
  ·have HS:Hid (shapedN re=false):=by rw[Hid,shapedN,hq];simp[hjl]
   have hjl':((j:Int) !=(re.length:Int))=true:=by simp;omega
   go_wp2_with fail
   go_ret
   exact⟨by rw[HS.out];rfl,HB.out⟩
theorem zBF {re:List Nd} {oa:Option Addr} {cap:Nat} {w:World} (h:NdV w oa re):
  Calls Tryz.prog 64 #[.slice oa re.length cap] w fun e w'=>e= .returned (.bool (shapedN re))∧Below w.heap.size w w':=by
 by_cases hp:0<re.length
 ·obtain⟨nb,no,rfl,hn⟩:=h.at_ hp
  exact zFW hp hn
 ·have hre:re=[]:=zMg (by omega)
  subst hre
  exact zEc
theorem zER {re:List Nd} {d:Nat} {x:Nd} (p:Nd→Bool) (hx:re[d]?=some x):(re.take (d+1)).any p=((re.take d).any p||p x):=by
 rw[List.take_add_one,hx]
 simp
end
section
open Go.RowKit
theorem zFb {w:World} {xb cap:Nat} {oa:Option Addr} (xl:xb<w.heap.size) (c0:w.cell? ⟨xb,0,none⟩=some (.slice oa 0 cap)) (c1:w.cell? ⟨xb,1,none⟩=some (.int .i64 0)):
  Calls Tryz.prog 227 #[.pointer (some ⟨xb,0,none⟩),.int .i64 0,.int .i64 0] w fun e w'=>e= .returned (.bool false)∧Below w.heap.size w w':=by
 go_enter Tryz.func227,Tryz.ntmps227
 go_wp2_with fail
 refine zAA (X:=none) 14 [] [0,1,2,3,4,5,6,7,8,9,10,11,12,13] (by kernel_rfl) (by kernel_rfl) rfl (fun _ _ _ _ _ h=>h) ?_
 simp only[zAJ,zAC,zAD,zAB,List.getD_cons_zero,List.getD_cons_succ,List.drop_succ_cons,List.drop_nil]
 repeat (go_big_quiet_step (fail))
 refine wpQuiet_nil ?_
 go_wp2_with fail
 go_ret
 exact⟨rfl,(zL9 _ _).drew⟩
theorem zBX (w:World) (oa:Option Addr) (n cap:Nat) (j:Nat):(w.alloc (.cells #[.slice oa n cap,.int .i64 0,.slice none 0 0] 288)).cell? ⟨w.heap.size,j,none⟩=(#[.slice oa n cap,.int .i64 0,.slice none 0 0]:Array Value)[j]?:=
 zMN _ _ j _ _ (0,0) (zML w _)
theorem zHz {w:World} {nb no cap:Nat} {re:List Nd} (hn:zCm w nb no re):LkS (w.alloc (.cells #[.slice (some ⟨nb,no,none⟩) re.length cap,.int .i64 0,.slice none 0 0] 288)) w.heap.size (some ⟨nb,no,none⟩) nb no cap re 0 [] (.slice none 0 0) where
 lt:=by simp
 c0:=zBX _ _ _ _ 0
 c1:=zBX _ _ _ _ 1
 c2:=zBX _ _ _ _ 2
 fz:=zAm (zML w _)
 own:=zMO _ _ _ _
 nd:=fun _=>⟨rfl,hn.below ((zL9 _ _).alloc (zMA _) _)⟩
 nlt:=hn.lt
 len:=hn.len
 at_:=Nat.zero_le _
 el:=by simp
theorem zEC {oa:Option Addr} {cap:Nat} {w:World} :
  Calls Tryz.prog 193 #[.slice oa 0 cap] w fun e w'=>e= .returned (.bool false)∧Below w.heap.size w w':=by
 have hb0:=(zL9 w.heap.size w).alloc (zMA _) (.cells #[.slice oa 0 cap,.int .i64 0,.slice none 0 0] 288)
 go_enter Tryz.func193,Tryz.ntmps193
 go_wp2_with fail
 refine(zFb (oa:=oa) (cap:=cap) (by simp) (zBX w oa 0 cap 0) (zBX w oa 0 cap 1)).mono ?_;rintro e w1 ⟨rfl,hb1⟩
 have hb:=hb0.trans (hb1.mono hb0.size)
 clear hb1 hb0
 go_wp2_with fail
 go_ret
 exact⟨rfl,hb⟩
theorem zEf {re:List Nd} {nb no cap:Nat} {w:World} (HOP:Hid (∀x∈re,-128≤x.op∧x.op≤127)) (_:0<re.length) (hn:zCm w nb no re):
  Calls Tryz.prog 193 #[.slice (some ⟨nb,no,none⟩) re.length cap] w fun e w'=>e= .returned (.bool (shapedN re))∧Below w.heap.size w w':=by
 have hb0:=(zL9 w.heap.size w).alloc (zMA _) (.cells #[.slice (some ⟨nb,no,none⟩) re.length cap,.int .i64 0,.slice none 0 0] 288)
 have HN:=zL8 hn
 have nbl:=hn.lt
 have hlen:=hn.len
 have hv:=zL8 (zHz (cap:=cap) hn)
 clear hn
 go_enter Tryz.func193,Tryz.ntmps193
 go_wp2_with fail
 refine(zEp HOP 260 0 0 [] _ _ 0 0 (by omega) rfl rfl (by omega) hv.out).mono ?_;rintro e w1 ⟨hb1,hr⟩
 have HB:=zL8 (hb1.toBelow hb0 (zMA _))
 clear hb1 hb0 hv
 have HD:=zL8 (HN.out.below HB.out)
 cases hq:zAX re 260 0 0 []with
 |none=>
  have HS:Hid (shapedN re=false):=by rw[Hid,shapedN,hq]
  rw[hq]at hr
  subst hr
  go_wp2_with fail
  go_ret
  exact⟨by rw[HS.out];rfl,HB.out⟩
 |some q=>
  obtain⟨j,en⟩:=q
  rw[hq]at hr
  obtain⟨ev,rfl,hl,_⟩:=hr
  have c1:=hl.c1
  have xl:=hl.lt
  have hj:=hl.at_
  clear hl
  by_cases hjl:j=re.length
  ·obtain⟨W,hw⟩:=zBA re _ _ _ _ _ _ hq
   have HS:Hid (shapedN re=decide (W≤16384)):=by rw[Hid,shapedN,hq,hw];simp[hjl]
   have hok:zDj re:=(zDM fun p hp=>(zCE re _ _ _ _ _ hq).2.2 p (Nat.zero_le _) (by omega)).1
   have HW:=zL8 (zDu (cap:=cap) hok HOP.out 260 0 (W,j) w1 0 rfl HD.out hw)
   subst hjl
   clear hq hw
   go_wp2_with fail
   refine HW.out.mono ?_;rintro e w2 ⟨rfl,hb2⟩
   have HB2:=zL8 (HB.out.trans (hb2.mono HB.out.size))
   clear hb2 HW
   go_wp2_with fail
   go_ret
   exact⟨by rw[HS.out];rfl,HB2.out⟩
  ·have HS:Hid (shapedN re=false):=by rw[Hid,shapedN,hq];simp[hjl]
   have hjl':((j:Int) !=(re.length:Int))=true:=by simp;omega
   go_wp2_with fail
   go_ret
   exact⟨by rw[HS.out];rfl,HB.out⟩
theorem zBz {re:List Nd} {oa:Option Addr} {cap:Nat} {w:World} (HOP:Hid (∀x∈re,-128≤x.op∧x.op≤127)) (h:NdV w oa re):
  Calls Tryz.prog 193 #[.slice oa re.length cap] w fun e w'=>e= .returned (.bool (shapedN re))∧Below w.heap.size w w':=by
 by_cases hp:0<re.length
 ·obtain⟨nb,no,rfl,hn⟩:=h.at_ hp
  exact zEf HOP hp hn
 ·have hre:re=[]:=zMg (by omega)
  subst hre
  exact zEC
end
section
open Go.RowKit
theorem zKF (x y:Nd) (w:World):(binOp .neq 127 (ndV x) (ndV y)).run Tryz.prog w= .ok (.bool (!decide (x=y))) w:=by
 obtain⟨op,⟨x0,x1,x2,x3⟩,xn,xmin,xmax,xk⟩:=x
 obtain⟨oq,⟨y0,y1,y2,y3⟩,yn,ymin,ymax,yk⟩:=y
 rw[ndV,ndV,zJs]
 congr 3
 rw[Bool.eq_iff_iff]
 simp only[Bool.and_eq_true,decide_eq_true_eq,Nd.mk.injEq,Cls.mk.injEq,←BitVec.toNat_inj]
 constructor
 ·intro h
  refine⟨by omega,⟨by omega,by omega,by omega,by omega⟩,by omega,by omega,by omega,by omega⟩
 ·intro h;simp_all
end
section
open Go.RowKit
def NdU (w:World) (oa:Option Addr) (re:List Nd):Prop:=
 0<re.length→ ∃nb no,oa=some ⟨nb,no,none⟩∧nb<w.heap.size∧ ∀i,i<re.length→ ∀j,j<9→w.cell? ⟨nb,no+i*9+j,none⟩=(zAY (re.getD i Nd.zero))[j]?
section
variable {w w':World} {oa ob:Option Addr} {re:List Nd} {ca cb:Nat}
theorem NdU.below (h:NdU w oa re) (hb:Below w.heap.size w w'):NdU w' oa re:=fun hp=>by
 obtain⟨nb,no,h1,h2,h3⟩:=h hp
 exact⟨nb,no,h1,zMB h2 hb.size,fun i hi j hj=>(hb.cell (p:=⟨nb,no+i*9+j,none⟩) h2).trans (h3 i hi j hj)⟩
theorem NdU.cells {nb no:Nat} (h: ∀i,i<re.length→ ∀j,j<9→w.cell? ⟨nb,no+i*9+j,none⟩=(zAY (re.getD i Nd.zero))[j]?) {i:Nat} {x:Nd} (hx:re[i]?=some x):
  w.cell? ⟨nb,no+i*9,none⟩=some (.int .i8 x.op)∧w.cell? ⟨nb,no+i*9+1,none⟩=some (.int .u64 x.set.w0.toNat)∧w.cell? ⟨nb,no+i*9+2,none⟩=some (.int .u64 x.set.w1.toNat)∧w.cell? ⟨nb,no+i*9+3,none⟩=some (.int .u64 x.set.w2.toNat)∧w.cell? ⟨nb,no+i*9+4,none⟩=some (.int .u64 x.set.w3.toNat)∧
  w.cell? ⟨nb,no+i*9+5,none⟩=some (.int .i64 x.n)∧w.cell? ⟨nb,no+i*9+6,none⟩=some (.int .i64 x.min)∧w.cell? ⟨nb,no+i*9+7,none⟩=some (.int .i64 x.max)∧w.cell? ⟨nb,no+i*9+8,none⟩=some (.int .i64 x.kids):=by
 have hi:i<re.length:=(zMF.1 hx).1
 have hg:re.getD i Nd.zero=x:=by simp[List.getD_eq_getElem?_getD,hx]
 have hc: ∀j,j<9→w.cell? ⟨nb,no+i*9+j,none⟩=(zAY x)[j]?:=fun j hj=>by
  rw[←hg];exact h i hi j hj
 exact⟨hc 0 (by decide),hc 1 (by decide),hc 2 (by decide),hc 3 (by decide),hc 4 (by decide),hc 5 (by decide),hc 6 (by decide),hc 7 (by decide),hc 8 (by decide)⟩
theorem Nds.toU {base:Nat} {v:Value} (h:Nds w base v re): ∃oa cp,v= .slice oa re.length cp∧NdU w oa re:=by
 rcases h.2 with ⟨rfl,h0⟩|⟨g,cp,cur,rfl,hg1,hg2,hcp,_⟩
 ·exact⟨none,0,by rw[h0],fun h=>by omega⟩
 ·refine⟨_,_,rfl,fun hn=>⟨g,0,rfl,(zMG.1 hg2).1,fun i hi j hj=>?_⟩⟩
  have hc:=zMX h (i*9+j) (by omega)
  rw[show 0+i*9+j=i*9+j by omega,hc,zBH re i j hi hj]
end
end
section
open Go.RowKit
theorem zDc {re:List Nd} {oa:Option Addr} {cap:Nat} {w:World} (h:NdV w oa re):
  Calls Tryz.prog 66 #[.slice oa re.length cap] w fun e w'=>e= .returned (.int .i64 (zAr re:Nat))∧Below w.heap.size w w':=by
 have hs:=zBF (cap:=cap) h
 have hlen:=h.len
 have HV:=zL8 h
 clear h
 cases hsh:shapedN re with
 |false=>
  have HW:Hid (zAr re=0):=by rw[Hid,zAr,hsh];rfl
  rw[hsh]at hs
  have HS:=zL8 hs
  clear hs
  go_enter Tryz.func66,Tryz.ntmps66
  go_wp2_with fail
  refine HS.out.mono ?_;rintro e w1 ⟨rfl,hb1⟩
  have HB:=zL8 hb1
  clear hb1 HS
  go_wp2_with fail
  go_ret
  exact⟨by rw[HW.out];rfl,HB.out⟩
 |true=>
  have hp:0<re.length:=by
   cases re with
   |nil=>exact absurd hsh (by decide)
   |cons x l=>simp
  have HW:Hid (zAr re=((re.take re.length).filter (·.op==7)).length):=by rw[Hid,zAr,hsh,List.take_length];rfl
  obtain⟨nb,no,rfl,hn⟩:=HV.out.at_ hp
  have HN:=zL8 hn
  rw[hsh]at hs
  have HS:=zL8 hs
  clear hs hn
  go_enter Tryz.func66,Tryz.ntmps66
  go_wp2_with fail
  refine HS.out.mono ?_;rintro e w1 ⟨rfl,hb1⟩
  have HB:=zL8 hb1
  clear hb1 HS
  go_wp2_with fail
  go_loopg [3,10] re.length (fun n cv dv wr=> ∃(d:Nat),dv= .int .i64 (d:Nat)∧n=re.length - d∧d≤re.length∧cv= .int .i64 ((((re.take d).filter (·.op==7)).length:Nat))∧Below w.heap.size w wr)
  case atStart=>exact⟨0,rfl,by omega,by omega,by simp,HB.out⟩
  case round=>
   obtain⟨d,rfl,hg,hd,rfl,hb2⟩:=hrel
   have HG:=zL8 hg
   have HB2:=zL8 hb2
   have HN2:=HN.out.below hb2
   clear hg hb2
   by_cases hlt:d<re.length
   ·have hlt':(d:Int)<(re.length:Int):=by omega
    obtain⟨x,hx⟩: ∃x,re[d]?=some x:=⟨_,zMP hlt⟩
    obtain⟨n0,n1,n2,n3,n4,n5,n6,n7,n8⟩:=HN2.cells hx
    have nbl:=HN2.lt
    have hct:((re.take (d+1)).filter (·.op==7)).length=((re.take d).filter (·.op==7)).length+(if x.op==7 then 1 else 0):=by
     rw[List.take_add_one,hx]
     simp only[Option.toList_some,List.filter_append,List.length_append,List.filter_cons,List.filter_nil]
     split<;>rfl
    have hcl:((re.take d).filter (·.op==7)).length≤d:=zMV (List.length_filter_le _ _) (by simp;omega)
    have HCT:=zL8 hct
    clear hct
    obtain⟨op,⟨x0,x1,x2,x3⟩,xn,xmin,xmax,xk⟩:=x
    simp only at n0 n1 n2 n3 n4 n5 n6 n7 n8
    clear hx HN2
    generalize ((re.take d).filter (·.op==7)).length=c at*
    have HB3:=zL8 (HB2.out.alloc HB2.out.size (.cells (zAY ⟨op,⟨x0,x1,x2,x3⟩,xn,xmin,xmax,xk⟩) 127))
    clear HB2
    by_cases h7:op=7
    ·subst h7
     go_wp2_with fail
     go_roundg (re.length - (d+1))
     case measure=>have:=HG.out;omega
     case rel=>exact⟨d+1,by go_num,rfl,by omega,by rw[HCT.out];go_num,HB3.out⟩
    ·have h7':(op==7)=false:=by simpa using h7
     go_wp2_with fail
     go_roundg (re.length - (d+1))
     case measure=>have:=HG.out;omega
     case rel=>exact⟨d+1,by go_num,rfl,by omega,by rw[HCT.out,if_neg (by simpa using h7)];go_num,HB3.out⟩
   ·have hlt': ¬(d:Int)<(re.length:Int):=by omega
    have hde:d=re.length:=by omega
    subst hde
    go_wp2_with fail
    go_ret
    exact⟨by rw[HW.out,List.take_length];rfl,HB2.out⟩
end
section
open Go.RowKit
section
variable {w:World} {oa:Option Addr} {cap:Nat} {re:List Nd}
theorem zB3 (h: ¬re.length=0):re.isEmpty=false:=by cases re<;>simp_all
theorem zH2 {n:Int} (hn: ¬n=0) (_:NdV w oa re):
  Calls Tryz.prog 106 #[.agg #[.int .i8 0,.int .i64 n,.slice oa re.length cap]] w fun e w'=>e= .returned (.bool false)∧Below w.heap.size w w':=by
 have hb0:=(zL9 w.heap.size w).alloc (zMA _) (.cells #[.int .i8 0,.int .i64 n,.slice oa re.length cap] 66)
 have HB:=zL8 hb0
 clear hb0
 have qn:(n==0)=false:=zME.2 hn
 go_enter Tryz.func106,Tryz.ntmps106
 go_wp2_with fail
 go_ret
 exact⟨rfl,HB.out⟩
theorem zFj (_:NdV w oa ([]:List Nd)):
  Calls Tryz.prog 106 #[.agg #[.int .i8 0,.int .i64 0,.slice oa ([]:List Nd).length cap]] w fun e w'=>e= .returned (.bool true)∧Below w.heap.size w w':=by
 have hb0:=(zL9 w.heap.size w).alloc (zMA _) (.cells #[.int .i8 0,.int .i64 0,.slice oa ([]:List Nd).length cap] 66)
 have HB:=zL8 hb0
 clear hb0
 go_enter Tryz.func106,Tryz.ntmps106
 go_wp2_with fail
 go_ret
 exact⟨rfl,HB.out⟩
theorem zFk (hl: ¬re.length=0) (_:NdV w oa re):
  Calls Tryz.prog 106 #[.agg #[.int .i8 0,.int .i64 0,.slice oa re.length cap]] w fun e w'=>e= .returned (.bool false)∧Below w.heap.size w w':=by
 have hb0:=(zL9 w.heap.size w).alloc (zMA _) (.cells #[.int .i8 0,.int .i64 0,.slice oa re.length cap] 66)
 have HB:=zL8 hb0
 clear hb0
 have ql:((re.length:Int)==0)=false:=zME.2 (by omega)
 go_enter Tryz.func106,Tryz.ntmps106
 go_wp2_with fail
 go_ret
 exact⟨rfl,HB.out⟩
theorem zH1 {n:Int} (hn: ¬n=0) (_:NdV w oa re):
  Calls Tryz.prog 106 #[.agg #[.int .i8 2,.int .i64 n,.slice oa re.length cap]] w fun e w'=>e= .returned (.bool false)∧Below w.heap.size w w':=by
 have hb0:=(zL9 w.heap.size w).alloc (zMA _) (.cells #[.int .i8 2,.int .i64 n,.slice oa re.length cap] 66)
 have HB:=zL8 hb0
 clear hb0
 have qn:(n==0)=false:=zME.2 hn
 go_enter Tryz.func106,Tryz.ntmps106
 go_wp2_with fail
 go_ret
 exact⟨rfl,HB.out⟩
theorem zFf (_:NdV w oa ([]:List Nd)):
  Calls Tryz.prog 106 #[.agg #[.int .i8 2,.int .i64 0,.slice oa ([]:List Nd).length cap]] w fun e w'=>e= .returned (.bool true)∧Below w.heap.size w w':=by
 have hb0:=(zL9 w.heap.size w).alloc (zMA _) (.cells #[.int .i8 2,.int .i64 0,.slice oa ([]:List Nd).length cap] 66)
 have HB:=zL8 hb0
 clear hb0
 go_enter Tryz.func106,Tryz.ntmps106
 go_wp2_with fail
 go_ret
 exact⟨rfl,HB.out⟩
theorem zFg (hl: ¬re.length=0) (_:NdV w oa re):
  Calls Tryz.prog 106 #[.agg #[.int .i8 2,.int .i64 0,.slice oa re.length cap]] w fun e w'=>e= .returned (.bool false)∧Below w.heap.size w w':=by
 have hb0:=(zL9 w.heap.size w).alloc (zMA _) (.cells #[.int .i8 2,.int .i64 0,.slice oa re.length cap] 66)
 have HB:=zL8 hb0
 clear hb0
 have ql:((re.length:Int)==0)=false:=zME.2 (by omega)
 go_enter Tryz.func106,Tryz.ntmps106
 go_wp2_with fail
 go_ret
 exact⟨rfl,HB.out⟩
theorem zG5 {n:Int} (hn: ¬1≤n) (_:NdV w oa re):
  Calls Tryz.prog 106 #[.agg #[.int .i8 1,.int .i64 n,.slice oa re.length cap]] w fun e w'=>e= .returned (.bool false)∧Below w.heap.size w w':=by
 have hb0:=(zL9 w.heap.size w).alloc (zMA _) (.cells #[.int .i8 1,.int .i64 n,.slice oa re.length cap] 66)
 have HB:=zL8 hb0
 clear hb0
 go_enter Tryz.func106,Tryz.ntmps106
 go_wp2_with fail
 go_ret
 exact⟨rfl,HB.out⟩
theorem zG6 {n:Int} (hn:1≤n) (hm: ¬n≤2147483647) (_:NdV w oa re):
  Calls Tryz.prog 106 #[.agg #[.int .i8 1,.int .i64 n,.slice oa re.length cap]] w fun e w'=>e= .returned (.bool false)∧Below w.heap.size w w':=by
 have hb0:=(zL9 w.heap.size w).alloc (zMA _) (.cells #[.int .i8 1,.int .i64 n,.slice oa re.length cap] 66)
 have HB:=zL8 hb0
 clear hb0
 go_enter Tryz.func106,Tryz.ntmps106
 go_wp2_with fail
 go_ret
 exact⟨rfl,HB.out⟩
theorem zFh {n:Int} (hn:1≤n) (hm:n≤2147483647) (_:NdV w oa ([]:List Nd)):
  Calls Tryz.prog 106 #[.agg #[.int .i8 1,.int .i64 n,.slice oa ([]:List Nd).length cap]] w fun e w'=>e= .returned (.bool true)∧Below w.heap.size w w':=by
 have hb0:=(zL9 w.heap.size w).alloc (zMA _) (.cells #[.int .i8 1,.int .i64 n,.slice oa ([]:List Nd).length cap] 66)
 have HB:=zL8 hb0
 clear hb0
 go_enter Tryz.func106,Tryz.ntmps106
 go_wp2_with fail
 go_ret
 exact⟨rfl,HB.out⟩
theorem zFi {n:Int} (hn:1≤n) (hm:n≤2147483647) (hl: ¬re.length=0) (_:NdV w oa re):
  Calls Tryz.prog 106 #[.agg #[.int .i8 1,.int .i64 n,.slice oa re.length cap]] w fun e w'=>e= .returned (.bool false)∧Below w.heap.size w w':=by
 have hb0:=(zL9 w.heap.size w).alloc (zMA _) (.cells #[.int .i8 1,.int .i64 n,.slice oa re.length cap] 66)
 have HB:=zL8 hb0
 clear hb0
 have ql:((re.length:Int)==0)=false:=zME.2 (by omega)
 go_enter Tryz.func106,Tryz.ntmps106
 go_wp2_with fail
 go_ret
 exact⟨rfl,HB.out⟩
theorem zH0 {n:Int} (hn: ¬n=0) (_:NdV w oa re):
  Calls Tryz.prog 106 #[.agg #[.int .i8 3,.int .i64 n,.slice oa re.length cap]] w fun e w'=>e= .returned (.bool false)∧Below w.heap.size w w':=by
 have hb0:=(zL9 w.heap.size w).alloc (zMA _) (.cells #[.int .i8 3,.int .i64 n,.slice oa re.length cap] 66)
 have HB:=zL8 hb0
 clear hb0
 have qn:(n==0)=false:=zME.2 hn
 go_enter Tryz.func106,Tryz.ntmps106
 go_wp2_with fail
 go_ret
 exact⟨rfl,HB.out⟩
theorem zFd (_:NdV w oa ([]:List Nd)):
  Calls Tryz.prog 106 #[.agg #[.int .i8 3,.int .i64 0,.slice oa ([]:List Nd).length cap]] w fun e w'=>e= .returned (.bool true)∧Below w.heap.size w w':=by
 have hb0:=(zL9 w.heap.size w).alloc (zMA _) (.cells #[.int .i8 3,.int .i64 0,.slice oa ([]:List Nd).length cap] 66)
 have HB:=zL8 hb0
 clear hb0
 go_enter Tryz.func106,Tryz.ntmps106
 go_wp2_with fail
 go_ret
 exact⟨rfl,HB.out⟩
theorem zFe (hl: ¬re.length=0) (h:NdV w oa re):
  Calls Tryz.prog 106 #[.agg #[.int .i8 3,.int .i64 0,.slice oa re.length cap]] w fun e w'=>e= .returned (.bool (shapedN re))∧Below w.heap.size w w':=by
 have hb0:=(zL9 w.heap.size w).alloc (zMA _) (.cells #[.int .i8 3,.int .i64 0,.slice oa re.length cap] 66)
 have HS:=zL8 (zBF (cap:=cap) (h.below hb0))
 have HB:=zL8 hb0
 clear hb0 h
 have ql:((re.length:Int)==0)=false:=zME.2 (by omega)
 go_enter Tryz.func106,Tryz.ntmps106
 go_wp2_with fail
 refine HS.out.mono ?_;rintro e w1 ⟨rfl,hb1⟩
 have HB1:=zL8 (HB.out.trans (hb1.mono (by simp)))
 clear hb1
 go_wp2_with fail
 go_ret
 exact⟨rfl,HB1.out⟩
theorem zFc {k n:Int} (h0: ¬k=0) (h1: ¬k=1) (h2: ¬k=2) (h3: ¬k=3) (_:NdV w oa re):
  Calls Tryz.prog 106 #[.agg #[.int .i8 k,.int .i64 n,.slice oa re.length cap]] w fun e w'=>e= .returned (.bool false)∧Below w.heap.size w w':=by
 have hb0:=(zL9 w.heap.size w).alloc (zMA _) (.cells #[.int .i8 k,.int .i64 n,.slice oa re.length cap] 66)
 have HB:=zL8 hb0
 clear hb0
 have q0:(k==0)=false:=zME.2 h0
 have q1:(k==1)=false:=zME.2 h1
 have q2:(k==2)=false:=zME.2 h2
 have q3:(k==3)=false:=zME.2 h3
 go_enter Tryz.func106,Tryz.ntmps106
 go_wp2_with fail
 go_ret
 exact⟨rfl,HB.out⟩
theorem zG4 (k:Int) (n:Int) (h:NdV w oa re):
  Calls Tryz.prog 106 #[.agg #[.int .i8 k,.int .i64 n,.slice oa re.length cap]] w fun e w'=>e= .returned (.bool (zAS ⟨k,n,re⟩))∧Below w.heap.size w w':=by
 by_cases h3:k=3
 ·subst h3
  by_cases hn:n=0
  ·subst hn
   by_cases hl:re.length=0
   ·obtain rfl:=zMg hl
    exact zFd h
   ·rw[show zAS ⟨3,0,re⟩=shapedN re by simp[zAS,zB3 hl]]
    exact zFe hl h
  ·rw[show zAS ⟨3,n,re⟩=false by simp[zAS,hn]]
   exact zH0 hn h
 by_cases h1:k=1
 ·subst h1
  by_cases hn:1≤n
  ·by_cases hm:n≤2147483647
   ·by_cases hl:re.length=0
    ·obtain rfl:=zMg hl
     rw[show zAS ⟨1,n,[]⟩=true by simp[zAS,hn,hm]]
     exact zFh hn hm h
    ·rw[show zAS ⟨1,n,re⟩=false by simp[zAS,zB3 hl]]
     exact zFi hn hm hl h
   ·rw[show zAS ⟨1,n,re⟩=false by simp[zAS,hm]]
    exact zG6 hn hm h
  ·rw[show zAS ⟨1,n,re⟩=false by simp[zAS,hn]]
   exact zG5 hn h
 by_cases h0:k=0
 ·subst h0
  by_cases hn:n=0
  ·subst hn
   by_cases hl:re.length=0
   ·obtain rfl:=zMg hl
    exact zFj h
   ·rw[show zAS ⟨0,0,re⟩=false by simp[zAS,zB3 hl]]
    exact zFk hl h
  ·rw[show zAS ⟨0,n,re⟩=false by simp[zAS,hn]]
   exact zH2 hn h
 by_cases h2:k=2
 ·subst h2
  by_cases hn:n=0
  ·subst hn
   by_cases hl:re.length=0
   ·obtain rfl:=zMg hl
    exact zFf h
   ·rw[show zAS ⟨2,0,re⟩=false by simp[zAS,zB3 hl]]
    exact zFg hl h
  ·rw[show zAS ⟨2,n,re⟩=false by simp[zAS,hn]]
   exact zH1 hn h
 rw[show zAS ⟨k,n,re⟩=false by simp[zAS,h0,h1,h2,h3]]
 exact zFc h0 h1 h2 h3 h
end
end
section
open Go.RowKit
section
variable {w:World} {oa:Option Addr} {cap:Nat} {re:List Nd}
theorem zGz {n:Int} (hn: ¬n=0) (_:NdV w oa re):
  Calls Tryz.prog 191 #[.agg #[.int .i8 0,.int .i64 n,.slice oa re.length cap]] w fun e w'=>e= .returned (.bool false)∧Below w.heap.size w w':=by
 have hb0:=(zL9 w.heap.size w).alloc (zMA _) (.cells #[.int .i8 0,.int .i64 n,.slice oa re.length cap] 66)
 have HB:=zL8 hb0
 clear hb0
 have qn:(n==0)=false:=zME.2 hn
 go_enter Tryz.func191,Tryz.ntmps191
 go_wp2_with fail
 go_ret
 exact⟨rfl,HB.out⟩
theorem zEn (_:NdV w oa ([]:List Nd)):
  Calls Tryz.prog 191 #[.agg #[.int .i8 0,.int .i64 0,.slice oa ([]:List Nd).length cap]] w fun e w'=>e= .returned (.bool true)∧Below w.heap.size w w':=by
 have hb0:=(zL9 w.heap.size w).alloc (zMA _) (.cells #[.int .i8 0,.int .i64 0,.slice oa ([]:List Nd).length cap] 66)
 have HB:=zL8 hb0
 clear hb0
 go_enter Tryz.func191,Tryz.ntmps191
 go_wp2_with fail
 go_ret
 exact⟨rfl,HB.out⟩
theorem zEo (hl: ¬re.length=0) (_:NdV w oa re):
  Calls Tryz.prog 191 #[.agg #[.int .i8 0,.int .i64 0,.slice oa re.length cap]] w fun e w'=>e= .returned (.bool false)∧Below w.heap.size w w':=by
 have hb0:=(zL9 w.heap.size w).alloc (zMA _) (.cells #[.int .i8 0,.int .i64 0,.slice oa re.length cap] 66)
 have HB:=zL8 hb0
 clear hb0
 have ql:((re.length:Int)==0)=false:=zME.2 (by omega)
 go_enter Tryz.func191,Tryz.ntmps191
 go_wp2_with fail
 go_ret
 exact⟨rfl,HB.out⟩
theorem zGy {n:Int} (hn: ¬n=0) (_:NdV w oa re):
  Calls Tryz.prog 191 #[.agg #[.int .i8 2,.int .i64 n,.slice oa re.length cap]] w fun e w'=>e= .returned (.bool false)∧Below w.heap.size w w':=by
 have hb0:=(zL9 w.heap.size w).alloc (zMA _) (.cells #[.int .i8 2,.int .i64 n,.slice oa re.length cap] 66)
 have HB:=zL8 hb0
 clear hb0
 have qn:(n==0)=false:=zME.2 hn
 go_enter Tryz.func191,Tryz.ntmps191
 go_wp2_with fail
 go_ret
 exact⟨rfl,HB.out⟩
theorem zEj (_:NdV w oa ([]:List Nd)):
  Calls Tryz.prog 191 #[.agg #[.int .i8 2,.int .i64 0,.slice oa ([]:List Nd).length cap]] w fun e w'=>e= .returned (.bool true)∧Below w.heap.size w w':=by
 have hb0:=(zL9 w.heap.size w).alloc (zMA _) (.cells #[.int .i8 2,.int .i64 0,.slice oa ([]:List Nd).length cap] 66)
 have HB:=zL8 hb0
 clear hb0
 go_enter Tryz.func191,Tryz.ntmps191
 go_wp2_with fail
 go_ret
 exact⟨rfl,HB.out⟩
theorem zEk (hl: ¬re.length=0) (_:NdV w oa re):
  Calls Tryz.prog 191 #[.agg #[.int .i8 2,.int .i64 0,.slice oa re.length cap]] w fun e w'=>e= .returned (.bool false)∧Below w.heap.size w w':=by
 have hb0:=(zL9 w.heap.size w).alloc (zMA _) (.cells #[.int .i8 2,.int .i64 0,.slice oa re.length cap] 66)
 have HB:=zL8 hb0
 clear hb0
 have ql:((re.length:Int)==0)=false:=zME.2 (by omega)
 go_enter Tryz.func191,Tryz.ntmps191
 go_wp2_with fail
 go_ret
 exact⟨rfl,HB.out⟩
theorem zFY {n:Int} (hn: ¬1≤n) (_:NdV w oa re):
  Calls Tryz.prog 191 #[.agg #[.int .i8 1,.int .i64 n,.slice oa re.length cap]] w fun e w'=>e= .returned (.bool false)∧Below w.heap.size w w':=by
 have hb0:=(zL9 w.heap.size w).alloc (zMA _) (.cells #[.int .i8 1,.int .i64 n,.slice oa re.length cap] 66)
 have HB:=zL8 hb0
 clear hb0
 go_enter Tryz.func191,Tryz.ntmps191
 go_wp2_with fail
 go_ret
 exact⟨rfl,HB.out⟩
theorem zFZ {n:Int} (hn:1≤n) (hm: ¬n≤2147483647) (_:NdV w oa re):
  Calls Tryz.prog 191 #[.agg #[.int .i8 1,.int .i64 n,.slice oa re.length cap]] w fun e w'=>e= .returned (.bool false)∧Below w.heap.size w w':=by
 have hb0:=(zL9 w.heap.size w).alloc (zMA _) (.cells #[.int .i8 1,.int .i64 n,.slice oa re.length cap] 66)
 have HB:=zL8 hb0
 clear hb0
 go_enter Tryz.func191,Tryz.ntmps191
 go_wp2_with fail
 go_ret
 exact⟨rfl,HB.out⟩
theorem zEl {n:Int} (hn:1≤n) (hm:n≤2147483647) (_:NdV w oa ([]:List Nd)):
  Calls Tryz.prog 191 #[.agg #[.int .i8 1,.int .i64 n,.slice oa ([]:List Nd).length cap]] w fun e w'=>e= .returned (.bool true)∧Below w.heap.size w w':=by
 have hb0:=(zL9 w.heap.size w).alloc (zMA _) (.cells #[.int .i8 1,.int .i64 n,.slice oa ([]:List Nd).length cap] 66)
 have HB:=zL8 hb0
 clear hb0
 go_enter Tryz.func191,Tryz.ntmps191
 go_wp2_with fail
 go_ret
 exact⟨rfl,HB.out⟩
theorem zEm {n:Int} (hn:1≤n) (hm:n≤2147483647) (hl: ¬re.length=0) (_:NdV w oa re):
  Calls Tryz.prog 191 #[.agg #[.int .i8 1,.int .i64 n,.slice oa re.length cap]] w fun e w'=>e= .returned (.bool false)∧Below w.heap.size w w':=by
 have hb0:=(zL9 w.heap.size w).alloc (zMA _) (.cells #[.int .i8 1,.int .i64 n,.slice oa re.length cap] 66)
 have HB:=zL8 hb0
 clear hb0
 have ql:((re.length:Int)==0)=false:=zME.2 (by omega)
 go_enter Tryz.func191,Tryz.ntmps191
 go_wp2_with fail
 go_ret
 exact⟨rfl,HB.out⟩
theorem zGx {n:Int} (hn: ¬n=0) (_:NdV w oa re):
  Calls Tryz.prog 191 #[.agg #[.int .i8 3,.int .i64 n,.slice oa re.length cap]] w fun e w'=>e= .returned (.bool false)∧Below w.heap.size w w':=by
 have hb0:=(zL9 w.heap.size w).alloc (zMA _) (.cells #[.int .i8 3,.int .i64 n,.slice oa re.length cap] 66)
 have HB:=zL8 hb0
 clear hb0
 have qn:(n==0)=false:=zME.2 hn
 go_enter Tryz.func191,Tryz.ntmps191
 go_wp2_with fail
 go_ret
 exact⟨rfl,HB.out⟩
theorem zEh (_:NdV w oa ([]:List Nd)):
  Calls Tryz.prog 191 #[.agg #[.int .i8 3,.int .i64 0,.slice oa ([]:List Nd).length cap]] w fun e w'=>e= .returned (.bool true)∧Below w.heap.size w w':=by
 have hb0:=(zL9 w.heap.size w).alloc (zMA _) (.cells #[.int .i8 3,.int .i64 0,.slice oa ([]:List Nd).length cap] 66)
 have HB:=zL8 hb0
 clear hb0
 go_enter Tryz.func191,Tryz.ntmps191
 go_wp2_with fail
 go_ret
 exact⟨rfl,HB.out⟩
theorem zEi (HOP:Hid (∀x∈re,-128≤x.op∧x.op≤127)) (hl: ¬re.length=0) (h:NdV w oa re):
  Calls Tryz.prog 191 #[.agg #[.int .i8 3,.int .i64 0,.slice oa re.length cap]] w fun e w'=>e= .returned (.bool (shapedN re))∧Below w.heap.size w w':=by
 have hb0:=(zL9 w.heap.size w).alloc (zMA _) (.cells #[.int .i8 3,.int .i64 0,.slice oa re.length cap] 66)
 have HS:=zL8 (zBz (cap:=cap) HOP (h.below hb0))
 have HB:=zL8 hb0
 clear hb0 h
 have ql:((re.length:Int)==0)=false:=zME.2 (by omega)
 go_enter Tryz.func191,Tryz.ntmps191
 go_wp2_with fail
 refine HS.out.mono ?_;rintro e w1 ⟨rfl,hb1⟩
 have HB1:=zL8 (HB.out.trans (hb1.mono (by simp)))
 clear hb1
 go_wp2_with fail
 go_ret
 exact⟨rfl,HB1.out⟩
theorem zEg {k n:Int} (h0: ¬k=0) (h1: ¬k=1) (h2: ¬k=2) (h3: ¬k=3) (_:NdV w oa re) (k1: -128≤k) (k2:k≤127):
  Calls Tryz.prog 191 #[.agg #[.int .i8 k,.int .i64 n,.slice oa re.length cap]] w fun e w'=>e= .returned (.bool false)∧Below w.heap.size w w':=by
 have hb0:=(zL9 w.heap.size w).alloc (zMA _) (.cells #[.int .i8 k,.int .i64 n,.slice oa re.length cap] 66)
 have HB:=zL8 hb0
 clear hb0
 have q0:(k==0)=false:=zME.2 h0
 have q1:(k==1)=false:=zME.2 h1
 have q2:(k==2)=false:=zME.2 h2
 have q3:(k==3)=false:=zME.2 h3
 go_enter Tryz.func191,Tryz.ntmps191
 go_wp2_with fail
 go_ret
 exact⟨rfl,HB.out⟩
theorem zCP (k:Int) (n:Int) (HOP:Hid (∀x∈re,-128≤x.op∧x.op≤127)) (h:NdV w oa re) (k1: -128≤k) (k2:k≤127):
  Calls Tryz.prog 191 #[.agg #[.int .i8 k,.int .i64 n,.slice oa re.length cap]] w fun e w'=>e= .returned (.bool (zAS ⟨k,n,re⟩))∧Below w.heap.size w w':=by
 by_cases h3:k=3
 ·subst h3
  by_cases hn:n=0
  ·subst hn
   by_cases hl:re.length=0
   ·obtain rfl:=zMg hl
    exact zEh h
   ·rw[show zAS ⟨3,0,re⟩=shapedN re by simp[zAS,zB3 hl]]
    exact zEi HOP hl h
  ·rw[show zAS ⟨3,n,re⟩=false by simp[zAS,hn]]
   exact zGx hn h
 by_cases h1:k=1
 ·subst h1
  by_cases hn:1≤n
  ·by_cases hm:n≤2147483647
   ·by_cases hl:re.length=0
    ·obtain rfl:=zMg hl
     rw[show zAS ⟨1,n,[]⟩=true by simp[zAS,hn,hm]]
     exact zEl hn hm h
    ·rw[show zAS ⟨1,n,re⟩=false by simp[zAS,zB3 hl]]
     exact zEm hn hm hl h
   ·rw[show zAS ⟨1,n,re⟩=false by simp[zAS,hm]]
    exact zFZ hn hm h
  ·rw[show zAS ⟨1,n,re⟩=false by simp[zAS,hn]]
   exact zFY hn h
 by_cases h0:k=0
 ·subst h0
  by_cases hn:n=0
  ·subst hn
   by_cases hl:re.length=0
   ·obtain rfl:=zMg hl
    exact zEn h
   ·rw[show zAS ⟨0,0,re⟩=false by simp[zAS,zB3 hl]]
    exact zEo hl h
  ·rw[show zAS ⟨0,n,re⟩=false by simp[zAS,hn]]
   exact zGz hn h
 by_cases h2:k=2
 ·subst h2
  by_cases hn:n=0
  ·subst hn
   by_cases hl:re.length=0
   ·obtain rfl:=zMg hl
    exact zEj h
   ·rw[show zAS ⟨2,0,re⟩=false by simp[zAS,zB3 hl]]
    exact zEk hl h
  ·rw[show zAS ⟨2,n,re⟩=false by simp[zAS,hn]]
   exact zGy hn h
 rw[show zAS ⟨k,n,re⟩=false by simp[zAS,h0,h1,h2,h3]]
 exact zEg h0 h1 h2 h3 h k1 k2
end
end
section
open Go.RowKit
theorem zEq {re:List Nd} {oa:Option Addr} {cap:Nat} {w:World} (HOP:Hid (∀x∈re,-128≤x.op∧x.op≤127)) (h:NdV w oa re):
  Calls Tryz.prog 195 #[.slice oa re.length cap] w fun e w'=>e= .returned (.int .i64 (zAr re:Nat))∧Below w.heap.size w w':=by
 have hs:=zBz (cap:=cap) HOP h
 have hlen:=h.len
 have HV:=zL8 h
 clear h
 cases hsh:shapedN re with
 |false=>
  have HW:Hid (zAr re=0):=by rw[Hid,zAr,hsh];rfl
  rw[hsh]at hs
  have HS:=zL8 hs
  clear hs
  go_enter Tryz.func195,Tryz.ntmps195
  go_wp2_with fail
  refine HS.out.mono ?_;rintro e w1 ⟨rfl,hb1⟩
  have HB:=zL8 hb1
  clear hb1 HS
  go_wp2_with fail
  go_ret
  exact⟨by rw[HW.out];rfl,HB.out⟩
 |true=>
  have hp:0<re.length:=by
   cases re with
   |nil=>exact absurd hsh (by decide)
   |cons x l=>simp
  have HW:Hid (zAr re=((re.take re.length).filter (·.op==7)).length):=by rw[Hid,zAr,hsh,List.take_length];rfl
  obtain⟨nb,no,rfl,hn⟩:=HV.out.at_ hp
  have HN:=zL8 hn
  rw[hsh]at hs
  have HS:=zL8 hs
  clear hs hn
  go_enter Tryz.func195,Tryz.ntmps195
  go_wp2_with fail
  refine HS.out.mono ?_;rintro e w1 ⟨rfl,hb1⟩
  have HB:=zL8 hb1
  clear hb1 HS
  go_wp2_with fail
  go_loopg [3,4] re.length (fun n cv dv wr=> ∃(d:Nat),dv= .int .i64 (d:Nat)∧n=re.length - d∧d≤re.length∧cv= .int .i64 ((((re.take d).filter (·.op==7)).length:Nat))∧Below w.heap.size w wr)
  case atStart=>exact⟨0,rfl,by omega,by omega,by simp,HB.out⟩
  case round=>
   obtain⟨d,rfl,hg,hd,rfl,hb2⟩:=hrel
   have HG:=zL8 hg
   have HB2:=zL8 hb2
   have HN2:=HN.out.below hb2
   clear hg hb2
   by_cases hlt:d<re.length
   ·have hlt':(d:Int)<(re.length:Int):=by omega
    obtain⟨x,hx⟩: ∃x,re[d]?=some x:=⟨_,zMP hlt⟩
    obtain⟨hop1,hop2⟩:=HOP.out x (zMc hx)
    obtain⟨n0,n1,n2,n3,n4,n5,n6,n7,n8⟩:=HN2.cells hx
    have nbl:=HN2.lt
    have hct:((re.take (d+1)).filter (·.op==7)).length=((re.take d).filter (·.op==7)).length+(if x.op==7 then 1 else 0):=by
     rw[List.take_add_one,hx]
     simp only[Option.toList_some,List.filter_append,List.length_append,List.filter_cons,List.filter_nil]
     split<;>rfl
    have hcl:((re.take d).filter (·.op==7)).length≤d:=zMV (List.length_filter_le _ _) (by simp;omega)
    have HCT:=zL8 hct
    clear hct
    obtain⟨op,⟨x0,x1,x2,x3⟩,xn,xmin,xmax,xk⟩:=x
    simp only at n0 n1 n2 n3 n4 n5 n6 n7 n8 hop1 hop2
    clear hx HN2
    generalize ((re.take d).filter (·.op==7)).length=c at*
    have HB3:=HB2
    clear HB2
    by_cases h7:op=7
    ·subst h7
     go_wp2_with fail
     go_roundg (re.length - (d+1))
     case measure=>have:=HG.out;omega
     case rel=>exact⟨d+1,by go_num,rfl,by omega,by rw[HCT.out];go_num,HB3.out⟩
    ·have h7':(op==7)=false:=by simpa using h7
     go_wp2_with fail
     go_roundg (re.length - (d+1))
     case measure=>have:=HG.out;omega
     case rel=>exact⟨d+1,by go_num,rfl,by omega,by rw[HCT.out,if_neg (by simpa using h7)];go_num,HB3.out⟩
   ·have hlt': ¬(d:Int)<(re.length:Int):=by omega
    have hde:d=re.length:=by omega
    subst hde
    go_wp2_with fail
    go_ret
    exact⟨by rw[HW.out,List.take_length];rfl,HB2.out⟩
end
section
theorem zGU {re:List Nd} {f:Nat} (hr:zDj re): ∀(k:Nat) (s:Int) (q:Nat) (r:Int × Nat),s≤16385→zA3 (zAU re f) k s q=some r→s≤r.1
 |0,s,q,r,_,h=>by simp only[zA3,Option.some.injEq]at h;subst h;exact Int.le_refl _
 |k+1,s,q,r,hs,h=>by
  unfold zA3 at h
  split at h
  ·cases h
  ·rename_i w nx hx
   have h1:=zAe hr _ _ _ hx
   have h2:=zGU hr k _ _ _ (by omega) h
   simp only at h1
   omega
theorem zEN {re:List Nd} {f:Nat} (hr:zDj re) {k:Nat} {s sm:Int} {q tn:Nat} (hs:0≤s) (h:zA3 (zAU re f) (k+1) s q=some (sm,tn)) (hm:sm≤16384) (hs2:s≤16384):
  ∃w nx,zAU re f q=some (w,nx)∧1≤w∧w≤16384∧q<nx∧nx≤re.length∧nx≤tn∧zA3 (zAU re f) k (s+w) nx=some (sm,tn)∧s+w≤sm:=by
 unfold zA3 at h
 split at h
 ·cases h
 ·rename_i w nx hx
  have h1:=zAe hr _ _ _ hx
  have h2:=zGU hr k _ _ _ (by omega) h
  have h3:=zBg (fun i r h=>zAe hr f i r h) k _ _ _ (by omega) (by omega) h1.2.2.2 h
  simp only at h1 h2 h3
  have e:min (s+w) 16385=s+w:=by omega
  rw[e]at h
  exact⟨w,nx,hx,h1.1,by omega,h1.2.2.1,h1.2.2.2,h3.2.2.1,h,by omega⟩
theorem zDE {re:List Nd} {f:Nat} {s sm:Int} {q tn:Nat} (h:zA3 (zAU re f) 0 s q=some (sm,tn)):sm=s∧tn=q:=by
 simp only[zA3,Option.some.injEq,Prod.mk.injEq]at h
 exact⟨h.1.symm,h.2.symm⟩
theorem zIJ {re:List Nd} {f i tn:Nat} {w:Int} (hr:zDj re) (h:zAU re (f+1) i=some (w,tn)) (hw:w≤16384):
  ∃n sm,re[i]?=some n∧zA3 (zAU re f) n.kids.toNat 0 (i+1)=some (sm,tn)∧0≤sm∧sm≤16384∧zAf n*sm+1=w∧i+1≤tn∧tn≤re.length:=by
 unfold zAU at h
 split at h
 ·cases h
 ·rename_i n hn
  have hi:i<re.length:=(zMF.1 hn).1
  split at h
  ·cases h
  ·rename_i sm nx hk
   have h1:=zBg (re:=re) (fun i r h=>zAe hr f i r h) _ _ _ _ (by omega) (by omega) (by omega) hk
   simp only at h1
   cases h
   have ht:1≤zAf n:=by
    unfold zAf
    split
    ·rename_i h6
     have:=hr n (zMc hn) h6
     split<;>omega
    ·omega
   have hm:sm≤zAf n*sm:=by
    have:=Int.mul_le_mul_of_nonneg_right ht h1.1
    omega
   exact⟨n,sm,hn,hk,h1.1,by omega,by omega,h1.2.2.1,h1.2.2.2⟩
theorem zJH {n:Nd} (h6:n.op=6) (hmin:0≤n.min) (_hmax:n.max= -1∨n.min≤n.max) {w1:Int} (h1:1≤w1) {w:Int} (hw:zAf n*w1+1=w):
  (n.max= -1→n.min*(3*w1 - 2)+(3*w1 - 2)+2≤3*w - 2)∧(n.min≤n.max→n.min*(3*w1 - 2)+(n.max - n.min)*(3*w1 - 2+1)≤3*w - 2):=by
 unfold zAf at hw
 rw[if_pos h6]at hw
 constructor
 ·intro hm
  rw[if_pos (by omega)]at hw
  have e:(n.min+1)*w1=n.min*w1+w1:=by rw[Int.add_mul,Int.one_mul]
  have e2:n.min*(3*w1 - 2)=3*(n.min*w1) - 2*n.min:=by rw[Int.mul_sub,Int.mul_left_comm,Int.mul_comm n.min 2]
  omega
 ·intro hm
  rw[if_neg (by omega)]at hw
  have e2:n.min*(3*w1 - 2)=3*(n.min*w1) - 2*n.min:=by rw[Int.mul_sub,Int.mul_left_comm,Int.mul_comm n.min 2]
  have e3:(n.max - n.min)*(3*w1 - 2+1)=3*(n.max*w1) - 3*(n.min*w1) - n.max+n.min:=by
   rw[show 3*w1 - 2+1=3*w1 - 1 by omega,Int.mul_sub,Int.sub_mul,Int.mul_one,Int.mul_left_comm,Int.mul_left_comm n.min];omega
  have e4:n.max*w1≤max n.max 1*w1:=Int.mul_le_mul_of_nonneg_right (by omega) (by omega)
  omega
end
section
open Go.RowKit
theorem zEu {re:List Nd} {oa:Option Addr} {cap:Nat} {w:World} (h:NdV w oa re):
  Calls Tryz.prog 67 #[.slice oa re.length cap] w fun e w'=>e= .returned (.bool (zEF re))∧Below w.heap.size w w':=by
 have hs:=zBF (cap:=cap) h
 have hlen:=h.len
 have HV:=zL8 h
 clear h
 cases hsh:shapedN re with
 |false=>
  have HW:Hid (zEF re=false):=by rw[Hid,zEF,hsh];rfl
  rw[hsh]at hs
  have HS:=zL8 hs
  clear hs
  go_enter Tryz.func67,Tryz.ntmps67
  go_wp2_with fail
  refine HS.out.mono ?_;rintro e w1 ⟨rfl,hb1⟩
  have HB:=zL8 hb1
  clear hb1 HS
  go_wp2_with fail
  go_ret
  exact⟨by rw[HW.out];rfl,HB.out⟩
 |true=>
  have hp:0<re.length:=by
   cases re with
   |nil=>exact absurd hsh (by decide)
   |cons x l=>simp
  have HW:Hid (zEF re=re.any (·.op==8)):=by rw[Hid,zEF,hsh];rfl
  obtain⟨nb,no,rfl,hn⟩:=HV.out.at_ hp
  have HN:=zL8 hn
  rw[hsh]at hs
  have HS:=zL8 hs
  clear hs hn
  go_enter Tryz.func67,Tryz.ntmps67
  go_wp2_with fail
  refine HS.out.mono ?_;rintro e w1 ⟨rfl,hb1⟩
  have HB:=zL8 hb1
  clear hb1 HS
  go_wp2_with fail
  go_loopg [9] re.length (fun n dv wr=> ∃(d:Nat),dv= .int .i64 (d:Nat)∧n=re.length - d∧d≤re.length∧Hid ((re.take d).any (·.op==8)=false)∧Below w.heap.size w wr)
  case atStart=>exact⟨0,rfl,by omega,by omega,by simp[Hid],HB.out⟩
  case round=>
   obtain⟨d,rfl,hg,hd,HA,hb2⟩:=hrel
   have HG:=zL8 hg
   have HB2:=zL8 hb2
   have HN2:=HN.out.below hb2
   clear hg hb2
   by_cases hlt:d<re.length
   ·have hlt':(d:Int)<(re.length:Int):=by omega
    obtain⟨x,hx⟩: ∃x,re[d]?=some x:=⟨_,zMP hlt⟩
    obtain⟨n0,n1,n2,n3,n4,n5,n6,n7,n8⟩:=HN2.cells hx
    have nbl:=HN2.lt
    have HT:=zL8 (zER (fun n:Nd=>n.op==8) hx)
    have HM:=zL8 (zMc hx)
    obtain⟨op,⟨x0,x1,x2,x3⟩,xn,xmin,xmax,xk⟩:=x
    simp only at n0 n1 n2 n3 n4 n5 n6 n7 n8
    clear hx HN2
    have HB3:=zL8 (HB2.out.alloc HB2.out.size (.cells (zAY ⟨op,⟨x0,x1,x2,x3⟩,xn,xmin,xmax,xk⟩) 127))
    clear HB2
    by_cases h8:op=8
    ·subst h8
     have HF:Hid (zEF re=true):=by rw[Hid,HW.out,List.any_eq_true];exact⟨_,HM.out,rfl⟩
     go_wp2_with fail
     go_ret
     exact⟨by rw[HF.out];rfl,HB3.out⟩
    ·have h8':(op==8)=false:=by simpa using h8
     go_wp2_with fail
     go_roundg (re.length - (d+1))
     case measure=>have:=HG.out;omega
     case rel=>exact⟨d+1,by go_num,rfl,by omega,by rw[Hid,HT.out,HA.out];exact h8',HB3.out⟩
   ·have hlt': ¬(d:Int)<(re.length:Int):=by omega
    have hde:d=re.length:=by omega
    subst hde
    have HF:Hid (zEF re=false):=by have:=HA.out;rw[List.take_length]at this;rw[Hid,HW.out,this]
    go_wp2_with fail
    go_ret
    exact⟨by rw[HF.out];rfl,HB2.out⟩
end
end Go.Proofs.YtfcemodgopdkkaaGreatDoor
