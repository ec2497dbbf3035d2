/- Parts: Vu Vw Vx. -/
import Derived.Test.YtfcemodgopdkkaaGreatDoorQ18
import Derived.Test.YtfcemodgopdkkaaGreatDoorQ19
set_option maxHeartbeats 1600000
set_option maxRecDepth 100000
namespace Go.Proofs.YtfcemodgopdkkaaGreatDoor
section
open Go.RowKit
theorem zIb {R:List Nat} (hu: ∀b∈R,b<256) {d:Nat} (hd:d<256):decide (Lib.indexByte (Lib.bytesOf (R.map fun b:Nat=>(b:Int))) (UInt8.ofNat d)<0)=R.all (· !=d):=by
 have e: ∀R:List Nat,(∀b∈R,b<256)→(-1≤Lib.indexByte (Lib.bytesOf (R.map fun b:Nat=>(b:Int))) (UInt8.ofNat d)∧decide (Lib.indexByte (Lib.bytesOf (R.map fun b:Nat=>(b:Int))) (UInt8.ofNat d)<0)=R.all (· !=d)):=by
  intro R
  induction R with
  |nil=>intro _;exact⟨Lib.indexByte_ge _ _,by simp[Lib.bytesOf,Lib.indexByte]⟩
  |cons x l ih=>
   intro hu
   obtain⟨i1,i2⟩:=ih fun b hb=>hu b (by simp[hb])
   have hx:=hu x (by simp)
   refine⟨Lib.indexByte_ge _ _,?_⟩
   rw[show Lib.bytesOf ((x::l).map fun b:Nat=>(b:Int))=UInt8.ofNat x::Lib.bytesOf (l.map fun b:Nat=>(b:Int))from by simp[Lib.bytesOf]]
   unfold Lib.indexByte
   by_cases hxd:x=d
   ·subst hxd
    rw[if_pos (by simp)]
    simp
   ·have hne: ¬(UInt8.ofNat x==UInt8.ofNat d)=true:=by
     intro h
     have h1:=congrArg UInt8.toNat (eq_of_beq h)
     simp only[UInt8.toNat_ofNat']at h1
     omega
    rw[if_neg hne,List.all_cons,←i2,show(x !=d)=true by simpa using hxd,Bool.true_and]
    by_cases h1:Lib.indexByte (Lib.bytesOf (l.map fun b:Nat=>(b:Int))) (UInt8.ofNat d)= -1
    ·rw[if_pos (by rw[h1];rfl),h1]
    ·rw[if_neg (by simpa using h1)]
     rw[zMK (by omega),zMK (by omega)]
 exact(e R hu).2
theorem zJw {p:Nat→Bool} (h0:p 0=false): ∀l:List Nat,decide ((l.dropWhile p).length=l.length)= !(p (l.getD 0 0))
 |[]=>by simp[h0]
 |x::l=>by
  rw[List.dropWhile_cons,show(x::l).getD 0 0=x from rfl]
  have:=(List.dropWhile_suffix (l:=l) p).length_le
  cases hx:p x with
  |true=>simp;omega
  |false=>simp
def zDG (l:List Nat):List Nat:=(zBv l).dropWhile zAa
theorem zGD (t:List Nat):(zDG t).length≤(zBv t).length:=(List.dropWhile_suffix _).length_le
theorem zHk (t:List Nat):decide ((zDG t).length=t.length)=(!(zAa (t.getD 0 0))&& !(zAa (t.getLastD 0))):=by
 have h1:=(zEW t).length_le
 have h2:=zGD t
 have e1:decide ((zBv t).length=t.length)= !(zAa (t.getLastD 0)):=by
  have:=zJw (p:=zAa) (by decide) t.reverse
  rw[List.length_reverse]at this
  unfold zBv
  rw[List.length_reverse,this]
  congr 2
  rw[List.getLastD_eq_getLast?,zMH,←List.head?_eq_getElem?,List.head?_reverse]
 by_cases h3:(zBv t).length=t.length
 ·have e3:zBv t=t:=(zEW t).eq_of_length h3
  rw[zMJ h3]at e1
  rw[←e1,Bool.and_true]
  unfold zDG
  rw[e3]
  exact zJw (by decide) t
 ·rw[zMK h3]at e1
  rw[←e1,Bool.and_false]
  exact zMK (by omega)
theorem zHg {R:List Nat} (hu: ∀b∈R,b<256):(Lib.trimS (Lib.bytesOf (R.map fun b:Nat=>(b:Int))) [32,9]).length=(zDG R).length:=by
 have e1:Lib.trimRightS (Lib.bytesOf (R.map fun b:Nat=>(b:Int))) [32,9]=Lib.bytesOf ((zBv R).map fun b:Nat=>(b:Int)):=by
  unfold Lib.trimRightS zBv Lib.bytesOf
  rw[List.map_map,←List.map_reverse,zBJ ((fun n:Int=>UInt8.ofNat n.toNat) ∘ fun b:Nat=>(b:Int)) (fun x=>([32,9]:List UInt8).contains x) zAa _ fun x hx=>zCu x (hu x (by simpa using hx))]
  rw[←List.map_reverse,List.map_map]
 unfold Lib.trimS
 rw[e1,zHj fun b hb=>hu b (zHh hb)]
 rfl
section
variable {w w':World} {base:Nat}
theorem zHO {v:Value} {R:List Nat} (h:Bys w base v R) (hu: ∀b∈R,b<256):
  Calls Tryz.prog 177 #[v,.int .u8 10] w fun e w'=>(∃k:Int,e= .returned (.int .i64 k)∧decide (k<0)=R.all (· !=10))∧w'=w:=by
 obtain⟨o,cc,rfl,h1⟩:=h
 rcases h1.2 with ⟨h2,h3⟩|⟨g,cap,cur,h2,hb,hg,hnc,hcm,hcs,ht⟩
 ·injection h2 with a1 a2 a3
  obtain rfl:=zMg a2
  subst a1 a3
  exact(Any.bytes_IndexByte_nil ibn 10 w).mono fun e w' h=>⟨⟨-1,h.1,by decide⟩,h.2⟩
 ·cases h2
  refine(Any.bytes_IndexByte ibn g 0 R.length cc (R.map fun b:Nat=>(b:Int)) 10 w (by simp) fun i hi=>?_).mono fun e w' h=>⟨⟨_,h.1,zIb hu (d:=10) (by decide)⟩,h.2⟩
  obtain⟨_,g',hg',_,hcell,_⟩:=zAZ h1 (by omega)
  cases hg'
  obtain⟨u,hu1,hu2⟩:=hcell i (by omega)
  rw[Nat.zero_add,hu2,←hu1]
  simp[u8s,hi,List.getD_eq_getElem?_getD]
theorem zGk {v:Value} {R:List Nat} (h:Bys w base v R) (hu: ∀b∈R,b<256):
  Calls Tryz.prog 178 #[v,.string ⟨#[32,9]⟩] w fun e w'=>(∃o c,e= .returned (.slice o (zDG R).length c))∧Below w.heap.size w w':=by
 obtain⟨o,cc,rfl,h1⟩:=h
 have hc:=zIA h1
 refine(Any.bytes_Trim_laid zLK (by kernel_rfl) o R.length cc (R.map fun b:Nat=>(b:Int)) ⟨#[32,9]⟩ w (by simp) hc.1 (by have:=hc.2;unfold maxLen at this;omega) ?_ ?_ (by decide) ?_).mono ?_
 ·intro hp
  obtain⟨_,g,rfl,_,hcell,_⟩:=zAZ h1 hp
  refine⟨g,0,rfl,fun i hi=>?_⟩
  obtain⟨u,hu1,hu2⟩:=hcell i (by omega)
  rw[Nat.zero_add,hu2,←hu1]
  simp[u8s,hi,List.getD_eq_getElem?_getD]
 ·intro x hx
  obtain⟨b,hb,rfl⟩:=List.mem_map.1 hx
  have:=hu b hb
  omega
 ·intro j b hb
  match j,hb with
  |0,hb=>cases hb;decide
  |1,hb=>cases hb;decide
 ·rintro e w' ⟨rfl,hb⟩
  rw[show(⟨#[32,9]⟩:ByteArray).data.toList=[32,9]from rfl,zHi hu,zHg hu]
  have h2:=zGD R
  obtain⟨o3,c3,e3⟩:=zHK o (zBv R).length cc ((zBv R).length - (zDG R).length)
  rw[e3,show(zBv R).length - ((zBv R).length - (zDG R).length)=(zDG R).length by omega]
  exact⟨⟨o3,c3,rfl⟩,hb⟩
theorem zE9 {o:Option Addr} {c:Nat} {R:List Nat} (h:Bys w base (.slice o R.length c) R) (hu: ∀b∈R,b<256):
  Calls Tryz.prog 147 #[.slice o R.length c] w fun e w'=>e= .returned (.bool (zAx R))∧Below w.heap.size w w':=by
 have HI:=zL8 (zHO h hu)
 have HT:=zL8 (zGk h hu)
 have HL:Hid (zAx R=(R.all (· !=10)&&decide ((zDG R).length=R.length))):=zL8 (by rw[zHk,←Bool.and_assoc];rfl)
 clear h hu
 go_enter Tryz.func147,Tryz.ntmps147
 go_wp2_with fail
 refine HI.out.mono ?_;rintro e w1 ⟨⟨k,rfl,hk⟩,rfl⟩
 have HK:=zL8 hk
 clear hk HI
 by_cases hn:k<0
 ·have HA:Hid (R.all (· !=10)=true):=zL8 (by rw[←HK.out];exact zMJ hn)
  clear HK
  go_wp2_with fail
  refine HT.out.mono ?_;rintro e w2 ⟨⟨o2,c2,rfl⟩,hb2⟩
  have HB:=zL8 hb2
  clear hb2 HT
  go_wp2_with fail
  go_ret
  refine⟨?_,HB.out⟩
  have e:(((zDG R).length:Int)==(R.length:Int))=decide ((zDG R).length=R.length):=by rw[Bool.eq_iff_iff];simp;omega
  rw[HL.out,HA.out,Bool.true_and,←e]
  rfl
 ·have HA:Hid (R.all (· !=10)=false):=zL8 (by rw[←HK.out];exact zMK hn)
  clear HK
  go_wp2_with fail
  go_ret
  exact⟨by rw[HL.out,HA.out];rfl,zL9 _ _⟩
end
end
section
open Go.RowKit
def ofV (k:Int) (v:Value):Value:=if k= -1 then .iface 214 v else if 0≤k∧k≤9 then .iface 215 (.int .i8 k)else .nilIface
theorem zKC {w:World} {k:Int} {o:Option Addr} {n c:Nat} :
  Calls Tryz.prog 149 #[.agg #[.int .i64 k,.slice o n c]] w fun e w'=>e= .returned (ofV k (.slice o n c))∧Below w.heap.size w w':=by
 have HB:=zL8 ((zL9 w.heap.size w).alloc (zMA _) (.cells #[.int .i64 k,.slice o n c] 73))
 have d0:(w.alloc (.cells #[.int .i64 k,.slice o n c] 73)).cell? ⟨w.heap.size,0,none⟩=some (.int .i64 k):=(zMN _ _ 0 _ _ (0,0) (zML w _)).trans rfl
 have d1:(w.alloc (.cells #[.int .i64 k,.slice o n c] 73)).cell? ⟨w.heap.size,1,none⟩=some (.slice o n c):=(zMN _ _ 1 _ _ (0,0) (zML w _)).trans rfl
 by_cases h1:k= -1
 ·subst h1
  go_enter Tryz.func149,Tryz.ntmps149
  go_upto_region 1 with fail
  obtain⟨W,hW⟩: ∃W,w.alloc (.cells #[.int .i64 (-1),.slice o n c] 73)=W:=⟨_,rfl⟩
  obtain⟨a,ha⟩: ∃a,w.heap.size=a:=⟨_,rfl⟩
  rw[hW]at d0 d1 HB ⊢
  rw[ha]at d0 d1 ⊢
  clear hW ha
  go_wp2_with fail
  go_ret
  exact⟨rfl,HB.out⟩
 ·have q1:(k== -1)=false:=zME.2 h1
  by_cases h2:0≤k∧k≤9
  ·have HV:Hid (ofV k (.slice o n c)= .iface 215 (.int .i8 k)):=zL8 (by unfold ofV;rw[if_neg h1,if_pos h2])
   obtain⟨h3,h4⟩:=h2
   clear h1
   go_enter Tryz.func149,Tryz.ntmps149
   go_upto_region 1 with fail
   obtain⟨W,hW⟩: ∃W,w.alloc (.cells #[.int .i64 k,.slice o n c] 73)=W:=⟨_,rfl⟩
   obtain⟨a,ha⟩: ∃a,w.heap.size=a:=⟨_,rfl⟩
   rw[hW]at d0 d1 HB ⊢
   rw[ha]at d0 d1 ⊢
   clear hW ha
   go_wp2_with fail
   go_ret
   refine⟨?_,HB.out⟩
   rw[HV.out]
   go_num
  ·have HV:Hid (ofV k (.slice o n c)= .nilIface):=zL8 (by unfold ofV;rw[if_neg h1,if_neg h2])
   by_cases h3:0≤k
   ·have h4: ¬k≤9:=fun h=>h2 ⟨h3,h⟩
    clear h1 h2
    go_enter Tryz.func149,Tryz.ntmps149
    go_upto_region 1 with fail
    obtain⟨W,hW⟩: ∃W,w.alloc (.cells #[.int .i64 k,.slice o n c] 73)=W:=⟨_,rfl⟩
    obtain⟨a,ha⟩: ∃a,w.heap.size=a:=⟨_,rfl⟩
    rw[hW]at d0 d1 HB ⊢
    rw[ha]at d0 d1 ⊢
    clear hW ha
    go_wp2_with fail
    go_ret
    exact⟨by rw[HV.out];rfl,HB.out⟩
   ·clear h1 h2
    go_enter Tryz.func149,Tryz.ntmps149
    go_upto_region 1 with fail
    obtain⟨W,hW⟩: ∃W,w.alloc (.cells #[.int .i64 k,.slice o n c] 73)=W:=⟨_,rfl⟩
    obtain⟨a,ha⟩: ∃a,w.heap.size=a:=⟨_,rfl⟩
    rw[hW]at d0 d1 HB ⊢
    rw[ha]at d0 d1 ⊢
    clear hW ha
    go_wp2_with fail
    go_ret
    exact⟨by rw[HV.out];rfl,HB.out⟩
end
section
open Go.RowKit
def PcR (w:World) (oa:Option Addr) (P:List Pc):Prop:=
 0<P.length→ ∃nb no,oa=some ⟨nb,no,none⟩∧nb<w.heap.size∧ ∀i x,P[i]?=some x→w.cell? ⟨nb,no+i*2,none⟩=some (.int .i64 x.k)∧ ∃o c,w.cell? ⟨nb,no+i*2+1,none⟩=some (.slice o x.t.length c)
theorem zJ4 (v:Value): ∀w,(Instr.typeAssert (.iface 214 v) 212 214 true).run Tryz.prog w= .ok (.tuple #[v,.bool true]) w:=fun _=>by kernel_rfl
theorem zIc (v:Value): ∀w,(Instr.typeAssert (.iface 215 v) 212 214 true).run Tryz.prog w= .ok (.tuple #[.slice none 0 0,.bool false]) w:=fun _=>by kernel_rfl
theorem zJX (v:Value): ∀w,(Instr.typeAssert (.iface 215 v) 212 215 true).run Tryz.prog w= .ok (.tuple #[v,.bool true]) w:=fun _=>by kernel_rfl
theorem zKD: ∀w,(Instr.typeAssert .nilIface 212 214 true).run Tryz.prog w= .ok (.tuple #[.slice none 0 0,.bool false]) w:=fun _=>by kernel_rfl
theorem zKE: ∀w,(Instr.typeAssert .nilIface 212 215 true).run Tryz.prog w= .ok (.tuple #[.int .i8 0,.bool false]) w:=fun _=>by kernel_rfl
section
variable {w w':World} {P:List Pc} {oa:Option Addr} {ca:Nat}
theorem PcR.below (h:PcR w oa P) (hb:Below w.heap.size w w'):PcR w' oa P:=fun hp=>by
 obtain⟨nb,no,h1,h2,h3⟩:=h hp
 refine⟨nb,no,h1,zMB h2 hb.size,fun i k hk=>?_⟩
 obtain⟨e1,o,c,e2⟩:=h3 i k hk
 exact⟨(hb.cell (p:=⟨nb,no+i*2,none⟩) h2).trans e1,o,c,(hb.cell (p:=⟨nb,no+i*2+1,none⟩) h2).trans e2⟩
theorem zC2 (hv:PcR w oa P) (hl:P.length≤9223372036854775807):Calls Tryz.prog 109 #[.slice oa P.length ca] w fun e w'=>e= .returned (.bool (zAM P false))∧Below w.heap.size w w':=by
 have HV:=zL8 hv
 clear hv
 go_enter Tryz.func109,Tryz.ntmps109
 go_wp2_with fail
 go_loopg [3,11] P.length (fun gk bv kv wr=> ∃(k:Nat) (b:Bool),bv= .bool b∧kv= .int .i64 (k:Nat)∧gk=P.length - k∧k≤P.length∧Hid (zAM P false=zAM (P.drop k) b)∧Below w.heap.size w wr)
 case atStart=>exact⟨0,false,rfl,rfl,by omega,by omega,rfl,zL9 _ _⟩
 case round=>
 obtain⟨k,b,rfl,rfl,hg,hk,HE,hb⟩:=hrel
 have HG:=zL8 hg
 have HBr:=zL8 hb
 by_cases hlt:k<P.length
 ·have hlt':(k:Int)<(P.length:Int):=by omega
  obtain⟨nb,no,rfl,hml,hcs⟩:=(HV.out.below hb) (by omega)
  obtain⟨z0,o,c,z1⟩:=hcs k P[k] (zMP hlt)
  have HX:Hid (zAM P false=if P[k].k= -1 then !P[k].t.isEmpty&& !b&&zAM (P.drop (k+1)) true else decide (0≤P[k].k∧P[k].k≤9)&&P[k].t.isEmpty&&zAM (P.drop (k+1)) false):=zL8 (by
   rw[HE.out,List.drop_eq_getElem_cons hlt,zAM])
  generalize P[k]=x at z0 z1 HX
  obtain⟨xk,xt⟩:=x
  simp only at z0 z1 HX
  have hba:=(zL9 wr.heap.size wr).alloc (zMA _) (.cells #[.int .i64 xk,.slice o xt.length c] 73)
  have d0:(wr.alloc (.cells #[.int .i64 xk,.slice o xt.length c] 73)).cell? ⟨wr.heap.size,0,none⟩=some (.int .i64 xk):=(zMN _ _ 0 _ _ (0,0) (zML wr _)).trans rfl
  have d1:(wr.alloc (.cells #[.int .i64 xk,.slice o xt.length c] 73)).cell? ⟨wr.heap.size,1,none⟩=some (.slice o xt.length c):=(zMN _ _ 1 _ _ (0,0) (zML wr _)).trans rfl
  have HB1:=zL8 (HBr.out.trans (hba.mono HBr.out.size))
  have hnw:wr.heap.size<(wr.alloc (.cells #[.int .i64 xk,.slice o xt.length c] 73)).heap.size:=by simp
  clear hg hb hcs hba HE
  go_upto_region 5 with fail
  obtain⟨W1,hW1⟩: ∃W,wr.alloc (.cells #[.int .i64 xk,.slice o xt.length c] 73)=W:=⟨_,rfl⟩
  rw[hW1]at d0 d1 HB1 hnw ⊢
  obtain⟨a1,ha1⟩: ∃a,wr.heap.size=a:=⟨_,rfl⟩
  rw[ha1]at d0 d1 hnw ⊢
  clear hW1 ha1 z0 z1 hml
  go_wp2_with fail
  refine(zKC (w:=W1) (k:=xk) (o:=o) (n:=xt.length) (c:=c)).mono ?_;rintro e W2 ⟨rfl,hb2⟩
  have e1:W2.cell? ⟨a1,1,none⟩=some (.slice o xt.length c):=(hb2.cell (p:=⟨a1,1,none⟩) hnw).trans d1
  have HB2:=zL8 (HB1.out.trans (hb2.mono HB1.out.size))
  clear hb2 d0 d1 hnw HB1
  by_cases h1:xk= -1
  ·subst h1
   have HX1:Hid (zAM P false=(!xt.isEmpty&& !b&&zAM (P.drop (k+1)) true)):=zL8 (by rw[HX.out,if_pos rfl])
   have ho:ofV (-1) (.slice o xt.length c)= .iface 214 (.slice o xt.length c):=rfl
   rw[ho]
   have ta:=zJ4 (.slice o xt.length c)
   clear ho HX
   by_cases h2:xt=[]
   ·have q2:((xt.length:Int)==0)=true:=by rw[h2];rfl
    have q3:xt.isEmpty=true:=by rw[h2];rfl
    rw[q3]at HX1
    have HX2:=HX1
    clear HX1 q3 h2
    go_wp2_with fail
    go_ret
    exact⟨by rw[HX2.out];rfl,HB2.out⟩
   ·have q2:((xt.length:Int)==0)=false:=zME.2 fun e=>h2 (zMg (by omega))
    have q3:xt.isEmpty=false:=by cases xt with|nil=>exact absurd rfl h2|cons _ _=>rfl
    rw[q3]at HX1
    have HX2:=HX1
    clear HX1 q3 h2
    cases b with
    |true=>
     go_wp2_with fail
     go_ret
     exact⟨by rw[HX2.out];rfl,HB2.out⟩
    |false=>
     go_wp2_with fail
     go_roundg (P.length - (k+1))
     case measure=>have:=HG.out;omega
     case rel=>exact⟨k+1,true,rfl,by go_num,rfl,by omega,by rw[Hid,HX2.out];rfl,HB2.out⟩
  ·have HX1:Hid (zAM P false=(decide (0≤xk∧xk≤9)&&xt.isEmpty&&zAM (P.drop (k+1)) false)):=zL8 (by rw[HX.out,if_neg h1])
   clear HX
   by_cases h2:0≤xk∧xk≤9
   ·have ho:ofV xk (.slice o xt.length c)= .iface 215 (.int .i8 xk):=by unfold ofV;rw[if_neg h1,if_pos h2]
    rw[ho]
    have HX2:Hid (zAM P false=(xt.isEmpty&&zAM (P.drop (k+1)) false)):=zL8 (by rw[HX1.out,zMJ h2,Bool.true_and])
    have ta:=zIc (.int .i8 xk)
    have tb:=zJX (.int .i8 xk)
    clear ho HX1 h1 h2
    by_cases h3:xt=[]
    ·have q2:((xt.length:Int)==0)=true:=by rw[h3];rfl
     have q3:xt.isEmpty=true:=by rw[h3];rfl
     rw[q3,Bool.true_and]at HX2
     have HX3:=HX2
     clear HX2 q3 h3
     go_wp2_with fail
     go_roundg (P.length - (k+1))
     case measure=>have:=HG.out;omega
     case rel=>exact⟨k+1,false,rfl,by go_num,rfl,by omega,HX3,HB2.out⟩
    ·have q2:((xt.length:Int)==0)=false:=zME.2 fun e=>h3 (zMg (by omega))
     have q3:xt.isEmpty=false:=by cases xt with|nil=>exact absurd rfl h3|cons _ _=>rfl
     rw[q3]at HX2
     have HX3:=HX2
     clear HX2 q3 h3
     go_wp2_with fail
     go_ret
     exact⟨by rw[HX3.out];rfl,HB2.out⟩
   ·have ho:ofV xk (.slice o xt.length c)= .nilIface:=by unfold ofV;rw[if_neg h1,if_neg h2]
    rw[ho]
    have HX2:Hid (zAM P false=false):=zL8 (by rw[HX1.out,zMK h2];rfl)
    have ta:=zKD
    have tb:=zKE
    clear ho HX1 h1 h2
    go_wp2_with fail
    go_ret
    exact⟨by rw[HX2.out];rfl,HB2.out⟩
 ·obtain rfl:k=P.length:=by omega
  have hlt': ¬(P.length:Int)<(P.length:Int):=by omega
  have HT:Hid (zAM P false=true):=zL8 (by rw[HE.out,List.drop_length,zAM])
  clear hlt hg hb HE
  go_wp2_with fail
  go_ret
  exact⟨by rw[HT.out];rfl,HBr.out⟩
end
end
end Go.Proofs.YtfcemodgopdkkaaGreatDoor
