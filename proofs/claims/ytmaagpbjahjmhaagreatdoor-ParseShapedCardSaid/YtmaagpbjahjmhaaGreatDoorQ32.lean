/- Parts: Vu Vw Vx. -/
import Derived.Test.YtmaagpbjahjmhaaGreatDoorQ31
import Derived.Test.YtmaagpbjahjmhaaGreatDoorQ33
set_option maxHeartbeats 1600000
set_option maxRecDepth 100000
namespace Go.Proofs.YtmaagpbjahjmhaaGreatDoor
section
open Go.RowKit
theorem zMi {R:List Nat} (hu: ∀b∈R,b<256) {d:Nat} (hd:d<256):decide (Lib.indexByte (Lib.bytesOf (R.map fun b:Nat=>(b:Int))) (UInt8.ofNat d)<0)=R.all (· !=d):=by
 have e: ∀R:List Nat,(∀b∈R,b<256)→(-1≤Lib.indexByte (Lib.bytesOf (R.map fun b:Nat=>(b:Int))) (UInt8.ofNat d)∧decide (Lib.indexByte (Lib.bytesOf (R.map fun b:Nat=>(b:Int))) (UInt8.ofNat d)<0)=R.all (· !=d)):=by
  intro R
  induction R with
  |nil=>intro _;exact⟨Lib.indexByte_ge _ _,by simp[Lib.bytesOf,Lib.indexByte]⟩
  |cons x l ih=>
   intro hu
   obtain⟨i1,i2⟩:=ih fun b hb=>hu b (by simp[hb])
   have hx:=hu x (by simp)
   refine⟨Lib.indexByte_ge _ _,?_⟩
   rw[show Lib.bytesOf ((x::l).map fun b:Nat=>(b:Int))=UInt8.ofNat x::Lib.bytesOf (l.map fun b:Nat=>(b:Int))from by simp[Lib.bytesOf]]
   unfold Lib.indexByte
   by_cases hxd:x=d
   ·subst hxd
    rw[if_pos (by simp)]
    simp
   ·have hne: ¬(UInt8.ofNat x==UInt8.ofNat d)=true:=by
     intro h
     have h1:=congrArg UInt8.toNat (eq_of_beq h)
     simp only[UInt8.toNat_ofNat']at h1
     omega
    rw[if_neg hne,List.all_cons,←i2,show(x !=d)=true by simpa using hxd,Bool.true_and]
    by_cases h1:Lib.indexByte (Lib.bytesOf (l.map fun b:Nat=>(b:Int))) (UInt8.ofNat d)= -1
    ·rw[if_pos (by rw[h1];rfl),h1]
    ·rw[if_neg (by simpa using h1)]
     rw[zQ3 (by omega),zQ3 (by omega)]
 exact(e R hu).2
theorem zOj {p:Nat→Bool} (h0:p 0=false): ∀l:List Nat,decide ((l.dropWhile p).length=l.length)= !(p (l.getD 0 0))
 |[]=>by simp[h0]
 |x::l=>by
  rw[List.dropWhile_cons,show(x::l).getD 0 0=x from rfl]
  have:=(List.dropWhile_suffix (l:=l) p).length_le
  cases hx:p x with
  |true=>simp;omega
  |false=>simp
def zFm (l:List Nat):List Nat:=(zBw l).dropWhile zAL
theorem zJ5 (t:List Nat):(zFm t).length≤(zBw t).length:=(List.dropWhile_suffix _).length_le
theorem zLw (t:List Nat):decide ((zFm t).length=t.length)=(!(zAL (t.getD 0 0))&& !(zAL (t.getLastD 0))):=by
 have h1:=(zFl t).length_le
 have h2:=zJ5 t
 have e1:decide ((zBw t).length=t.length)= !(zAL (t.getLastD 0)):=by
  have:=zOj (p:=zAL) (by decide) t.reverse
  rw[List.length_reverse]at this
  unfold zBw
  rw[List.length_reverse,this]
  congr 2
  rw[List.getLastD_eq_getLast?,zQ0,←List.head?_eq_getElem?,List.head?_reverse]
 by_cases h3:(zBw t).length=t.length
 ·have e3:zBw t=t:=(zFl t).eq_of_length h3
  rw[zQ2 h3]at e1
  rw[←e1,Bool.and_true]
  unfold zFm
  rw[e3]
  exact zOj (by decide) t
 ·rw[zQ3 h3]at e1
  rw[←e1,Bool.and_false]
  exact zQ3 (by omega)
theorem zLu {R:List Nat} (hu: ∀b∈R,b<256):(Lib.trimS (Lib.bytesOf (R.map fun b:Nat=>(b:Int))) [32,9]).length=(zFm R).length:=by
 have e1:Lib.trimRightS (Lib.bytesOf (R.map fun b:Nat=>(b:Int))) [32,9]=Lib.bytesOf ((zBw R).map fun b:Nat=>(b:Int)):=by
  unfold Lib.trimRightS zBw Lib.bytesOf
  rw[List.map_map,←List.map_reverse,zCM ((fun n:Int=>UInt8.ofNat n.toNat) ∘ fun b:Nat=>(b:Int)) (fun x=>([32,9]:List UInt8).contains x) zAL _ fun x hx=>zFF x (hu x (by simpa using hx))]
  rw[←List.map_reverse,List.map_map]
 unfold Lib.trimS
 rw[e1,zHm fun b hb=>hu b (zLv hb)]
 rfl
section
variable {w w':World} {base:Nat}
theorem zLS {v:Value} {R:List Nat} (h:Bys w base v R) (hu: ∀b∈R,b<256):
  Calls Tryz.prog 150 #[v,.int .u8 10] w fun e w'=>(∃k:Int,e= .returned (.int .i64 k)∧decide (k<0)=R.all (· !=10))∧w'=w:=by
 obtain⟨o,cc,rfl,h1⟩:=h
 rcases h1.2 with ⟨h2,h3⟩|⟨g,cap,cur,h2,hb,hg,hnc,hcm,hcs,ht⟩
 ·injection h2 with a1 a2 a3
  obtain rfl:=zRP a2
  subst a1 a3
  exact(Any.bytes_IndexByte_nil ibn 10 w).mono fun e w' h=>⟨⟨-1,h.1,by decide⟩,h.2⟩
 ·cases h2
  refine(Any.bytes_IndexByte ibn g 0 R.length cc (R.map fun b:Nat=>(b:Int)) 10 w (by simp) fun i hi=>?_).mono fun e w' h=>⟨⟨_,h.1,zMi hu (d:=10) (by decide)⟩,h.2⟩
  obtain⟨_,g',hg',_,hcell,_⟩:=zBW h1 (by omega)
  cases hg'
  obtain⟨u,hu1,hu2⟩:=hcell i (by omega)
  rw[Nat.zero_add,hu2,←hu1]
  simp[u8s,hi,List.getD_eq_getElem?_getD]
theorem zKm {v:Value} {R:List Nat} (h:Bys w base v R) (hu: ∀b∈R,b<256):
  Calls Tryz.prog 156 #[v,.string ⟨#[32,9]⟩] w fun e w'=>(∃o c,e= .returned (.slice o (zFm R).length c))∧Below w.heap.size w w':=by
 obtain⟨o,cc,rfl,h1⟩:=h
 have hc:=zJa h1
 refine(Any.bytes_Trim_laid zQc (by kernel_rfl) o R.length cc (R.map fun b:Nat=>(b:Int)) ⟨#[32,9]⟩ w (by simp) hc.1 (by have:=hc.2;unfold maxLen at this;omega) ?_ ?_ (by decide) ?_).mono ?_
 ·intro hp
  obtain⟨_,g,rfl,_,hcell,_⟩:=zBW h1 hp
  refine⟨g,0,rfl,fun i hi=>?_⟩
  obtain⟨u,hu1,hu2⟩:=hcell i (by omega)
  rw[Nat.zero_add,hu2,←hu1]
  simp[u8s,hi,List.getD_eq_getElem?_getD]
 ·intro x hx
  obtain⟨b,hb,rfl⟩:=List.mem_map.1 hx
  have:=hu b hb
  omega
 ·intro j b hb
  match j,hb with
  |0,hb=>cases hb;decide
  |1,hb=>cases hb;decide
 ·rintro e w' ⟨rfl,hb⟩
  rw[show(⟨#[32,9]⟩:ByteArray).data.toList=[32,9]from rfl,zHl hu,zLu hu]
  have h2:=zJ5 R
  obtain⟨o3,c3,e3⟩:=zGw o (zBw R).length cc ((zBw R).length - (zFm R).length)
  rw[e3,show(zBw R).length - ((zBw R).length - (zFm R).length)=(zFm R).length by omega]
  exact⟨⟨o3,c3,rfl⟩,hb⟩
theorem zIj {o:Option Addr} {c:Nat} {R:List Nat} (h:Bys w base (.slice o R.length c) R) (hu: ∀b∈R,b<256):
  Calls Tryz.prog 110 #[.slice o R.length c] w fun e w'=>e= .returned (.bool (zBX R))∧Below w.heap.size w w':=by
 have HI:=zQr (zLS h hu)
 have HT:=zQr (zKm h hu)
 have HL:Hid (zBX R=(R.all (· !=10)&&decide ((zFm R).length=R.length))):=zQr (by rw[zLw,←Bool.and_assoc];rfl)
 clear h hu
 go_enter Tryz.func110,Tryz.ntmps110
 go_wp2_with fail
 refine HI.out.mono ?_;rintro e w1 ⟨⟨k,rfl,hk⟩,rfl⟩
 have HK:=zQr hk
 clear hk HI
 by_cases hn:k<0
 ·have HA:Hid (R.all (· !=10)=true):=zQr (by rw[←HK.out];exact zQ2 hn)
  clear HK
  go_wp2_with fail
  refine HT.out.mono ?_;rintro e w2 ⟨⟨o2,c2,rfl⟩,hb2⟩
  have HB:=zQr hb2
  clear hb2 HT
  go_wp2_with fail
  go_ret
  refine⟨?_,HB.out⟩
  have e:(((zFm R).length:Int)==(R.length:Int))=decide ((zFm R).length=R.length):=by rw[Bool.eq_iff_iff];simp;omega
  rw[HL.out,HA.out,Bool.true_and,←e]
  rfl
 ·have HA:Hid (R.all (· !=10)=false):=zQr (by rw[←HK.out];exact zQ3 hn)
  clear HK
  go_wp2_with fail
  go_ret
  exact⟨by rw[HL.out,HA.out];rfl,zQs _ _⟩
end
end
section
open Go.RowKit
def ofV (k:Int) (v:Value):Value:=if k= -1 then .iface 150 v else if 0≤k∧k≤9 then .iface 151 (.int .i8 k)else .nilIface
theorem zO1 {w:World} {k:Int} {o:Option Addr} {n c:Nat} :
  Calls Tryz.prog 114 #[.agg #[.int .i64 k,.slice o n c]] w fun e w'=>e= .returned (ofV k (.slice o n c))∧Below w.heap.size w w':=by
 have HB:=zQr ((zQs w.heap.size w).alloc (zQt _) (.cells #[.int .i64 k,.slice o n c] 103))
 have d0:(w.alloc (.cells #[.int .i64 k,.slice o n c] 103)).cell? ⟨w.heap.size,0,none⟩=some (.int .i64 k):=(zQ6 _ _ 0 _ _ (0,0) (zQ4 w _)).trans rfl
 have d1:(w.alloc (.cells #[.int .i64 k,.slice o n c] 103)).cell? ⟨w.heap.size,1,none⟩=some (.slice o n c):=(zQ6 _ _ 1 _ _ (0,0) (zQ4 w _)).trans rfl
 by_cases h1:k= -1
 ·subst h1
  go_enter Tryz.func114,Tryz.ntmps114
  go_upto_region 1 with fail
  obtain⟨W,hW⟩: ∃W,w.alloc (.cells #[.int .i64 (-1),.slice o n c] 103)=W:=⟨_,rfl⟩
  obtain⟨a,ha⟩: ∃a,w.heap.size=a:=⟨_,rfl⟩
  rw[hW]at d0 d1 HB ⊢
  rw[ha]at d0 d1 ⊢
  clear hW ha
  go_wp2_with fail
  go_ret
  exact⟨rfl,HB.out⟩
 ·have q1:(k== -1)=false:=zQx.2 h1
  by_cases h2:0≤k∧k≤9
  ·have HV:Hid (ofV k (.slice o n c)= .iface 151 (.int .i8 k)):=zQr (by unfold ofV;rw[if_neg h1,if_pos h2])
   obtain⟨h3,h4⟩:=h2
   clear h1
   go_enter Tryz.func114,Tryz.ntmps114
   go_upto_region 1 with fail
   obtain⟨W,hW⟩: ∃W,w.alloc (.cells #[.int .i64 k,.slice o n c] 103)=W:=⟨_,rfl⟩
   obtain⟨a,ha⟩: ∃a,w.heap.size=a:=⟨_,rfl⟩
   rw[hW]at d0 d1 HB ⊢
   rw[ha]at d0 d1 ⊢
   clear hW ha
   go_wp2_with fail
   go_ret
   refine⟨?_,HB.out⟩
   rw[HV.out]
   go_num
  ·have HV:Hid (ofV k (.slice o n c)= .nilIface):=zQr (by unfold ofV;rw[if_neg h1,if_neg h2])
   by_cases h3:0≤k
   ·have h4: ¬k≤9:=fun h=>h2 ⟨h3,h⟩
    clear h1 h2
    go_enter Tryz.func114,Tryz.ntmps114
    go_upto_region 1 with fail
    obtain⟨W,hW⟩: ∃W,w.alloc (.cells #[.int .i64 k,.slice o n c] 103)=W:=⟨_,rfl⟩
    obtain⟨a,ha⟩: ∃a,w.heap.size=a:=⟨_,rfl⟩
    rw[hW]at d0 d1 HB ⊢
    rw[ha]at d0 d1 ⊢
    clear hW ha
    go_wp2_with fail
    go_ret
    exact⟨by rw[HV.out];rfl,HB.out⟩
   ·clear h1 h2
    go_enter Tryz.func114,Tryz.ntmps114
    go_upto_region 1 with fail
    obtain⟨W,hW⟩: ∃W,w.alloc (.cells #[.int .i64 k,.slice o n c] 103)=W:=⟨_,rfl⟩
    obtain⟨a,ha⟩: ∃a,w.heap.size=a:=⟨_,rfl⟩
    rw[hW]at d0 d1 HB ⊢
    rw[ha]at d0 d1 ⊢
    clear hW ha
    go_wp2_with fail
    go_ret
    exact⟨by rw[HV.out];rfl,HB.out⟩
end
section
open Go.RowKit
def PcR (w:World) (oa:Option Addr) (P:List Pc):Prop:=
 0<P.length→ ∃nb no,oa=some ⟨nb,no,none⟩∧nb<w.heap.size∧ ∀i x,P[i]?=some x→w.cell? ⟨nb,no+i*2,none⟩=some (.int .i64 x.k)∧ ∃o c,w.cell? ⟨nb,no+i*2+1,none⟩=some (.slice o x.t.length c)
theorem zOr (v:Value): ∀w,(Instr.typeAssert (.iface 150 v) 148 150 true).run Tryz.prog w= .ok (.tuple #[v,.bool true]) w:=fun _=>by kernel_rfl
theorem zMk (v:Value): ∀w,(Instr.typeAssert (.iface 151 v) 148 150 true).run Tryz.prog w= .ok (.tuple #[.slice none 0 0,.bool false]) w:=fun _=>by kernel_rfl
theorem zOA (v:Value): ∀w,(Instr.typeAssert (.iface 151 v) 148 151 true).run Tryz.prog w= .ok (.tuple #[v,.bool true]) w:=fun _=>by kernel_rfl
theorem zO7: ∀w,(Instr.typeAssert .nilIface 148 150 true).run Tryz.prog w= .ok (.tuple #[.slice none 0 0,.bool false]) w:=fun _=>by kernel_rfl
theorem zO8: ∀w,(Instr.typeAssert .nilIface 148 151 true).run Tryz.prog w= .ok (.tuple #[.int .i8 0,.bool false]) w:=fun _=>by kernel_rfl
section
variable {w w':World} {P:List Pc} {oa:Option Addr} {ca:Nat}
theorem PcR.below (h:PcR w oa P) (hb:Below w.heap.size w w'):PcR w' oa P:=fun hp=>by
 obtain⟨nb,no,h1,h2,h3⟩:=h hp
 refine⟨nb,no,h1,zQu h2 hb.size,fun i k hk=>?_⟩
 obtain⟨e1,o,c,e2⟩:=h3 i k hk
 exact⟨(hb.cell (p:=⟨nb,no+i*2,none⟩) h2).trans e1,o,c,(hb.cell (p:=⟨nb,no+i*2+1,none⟩) h2).trans e2⟩
theorem zFO (hv:PcR w oa P) (hl:P.length≤9223372036854775807):Calls Tryz.prog 46 #[.slice oa P.length ca] w fun e w'=>e= .returned (.bool (zAQ P false))∧Below w.heap.size w w':=by
 have HV:=zQr hv
 clear hv
 go_enter Tryz.func46,Tryz.ntmps46
 go_wp2_with fail
 go_loopg [3,11] P.length (fun gk bv kv wr=> ∃(k:Nat) (b:Bool),bv= .bool b∧kv= .int .i64 (k:Nat)∧gk=P.length - k∧k≤P.length∧Hid (zAQ P false=zAQ (P.drop k) b)∧Below w.heap.size w wr)
 case atStart=>exact⟨0,false,rfl,rfl,by omega,by omega,rfl,zQs _ _⟩
 case round=>
 obtain⟨k,b,rfl,rfl,hg,hk,HE,hb⟩:=hrel
 have HG:=zQr hg
 have HBr:=zQr hb
 by_cases hlt:k<P.length
 ·have hlt':(k:Int)<(P.length:Int):=by omega
  obtain⟨nb,no,rfl,hml,hcs⟩:=(HV.out.below hb) (by omega)
  obtain⟨z0,o,c,z1⟩:=hcs k P[k] (zQ8 hlt)
  have HX:Hid (zAQ P false=if P[k].k= -1 then !P[k].t.isEmpty&& !b&&zAQ (P.drop (k+1)) true else decide (0≤P[k].k∧P[k].k≤9)&&P[k].t.isEmpty&&zAQ (P.drop (k+1)) false):=zQr (by
   rw[HE.out,List.drop_eq_getElem_cons hlt,zAQ])
  generalize P[k]=x at z0 z1 HX
  obtain⟨xk,xt⟩:=x
  simp only at z0 z1 HX
  have hba:=(zQs wr.heap.size wr).alloc (zQt _) (.cells #[.int .i64 xk,.slice o xt.length c] 103)
  have d0:(wr.alloc (.cells #[.int .i64 xk,.slice o xt.length c] 103)).cell? ⟨wr.heap.size,0,none⟩=some (.int .i64 xk):=(zQ6 _ _ 0 _ _ (0,0) (zQ4 wr _)).trans rfl
  have d1:(wr.alloc (.cells #[.int .i64 xk,.slice o xt.length c] 103)).cell? ⟨wr.heap.size,1,none⟩=some (.slice o xt.length c):=(zQ6 _ _ 1 _ _ (0,0) (zQ4 wr _)).trans rfl
  have HB1:=zQr (HBr.out.trans (hba.mono HBr.out.size))
  have hnw:wr.heap.size<(wr.alloc (.cells #[.int .i64 xk,.slice o xt.length c] 103)).heap.size:=by simp
  clear hg hb hcs hba HE
  go_upto_region 5 with fail
  obtain⟨W1,hW1⟩: ∃W,wr.alloc (.cells #[.int .i64 xk,.slice o xt.length c] 103)=W:=⟨_,rfl⟩
  rw[hW1]at d0 d1 HB1 hnw ⊢
  obtain⟨a1,ha1⟩: ∃a,wr.heap.size=a:=⟨_,rfl⟩
  rw[ha1]at d0 d1 hnw ⊢
  clear hW1 ha1 z0 z1 hml
  go_wp2_with fail
  refine(zO1 (w:=W1) (k:=xk) (o:=o) (n:=xt.length) (c:=c)).mono ?_;rintro e W2 ⟨rfl,hb2⟩
  have e1:W2.cell? ⟨a1,1,none⟩=some (.slice o xt.length c):=(hb2.cell (p:=⟨a1,1,none⟩) hnw).trans d1
  have HB2:=zQr (HB1.out.trans (hb2.mono HB1.out.size))
  clear hb2 d0 d1 hnw HB1
  by_cases h1:xk= -1
  ·subst h1
   have HX1:Hid (zAQ P false=(!xt.isEmpty&& !b&&zAQ (P.drop (k+1)) true)):=zQr (by rw[HX.out,if_pos rfl])
   have ho:ofV (-1) (.slice o xt.length c)= .iface 150 (.slice o xt.length c):=rfl
   rw[ho]
   have ta:=zOr (.slice o xt.length c)
   clear ho HX
   by_cases h2:xt=[]
   ·have q2:((xt.length:Int)==0)=true:=by rw[h2];rfl
    have q3:xt.isEmpty=true:=by rw[h2];rfl
    rw[q3]at HX1
    have HX2:=HX1
    clear HX1 q3 h2
    go_wp2_with fail
    go_ret
    exact⟨by rw[HX2.out];rfl,HB2.out⟩
   ·have q2:((xt.length:Int)==0)=false:=zQx.2 fun e=>h2 (zRP (by omega))
    have q3:xt.isEmpty=false:=by cases xt with|nil=>exact absurd rfl h2|cons _ _=>rfl
    rw[q3]at HX1
    have HX2:=HX1
    clear HX1 q3 h2
    cases b with
    |true=>
     go_wp2_with fail
     go_ret
     exact⟨by rw[HX2.out];rfl,HB2.out⟩
    |false=>
     go_wp2_with fail
     go_roundg (P.length - (k+1))
     case measure=>have:=HG.out;omega
     case rel=>exact⟨k+1,true,rfl,by go_num,rfl,by omega,by rw[Hid,HX2.out];rfl,HB2.out⟩
  ·have HX1:Hid (zAQ P false=(decide (0≤xk∧xk≤9)&&xt.isEmpty&&zAQ (P.drop (k+1)) false)):=zQr (by rw[HX.out,if_neg h1])
   clear HX
   by_cases h2:0≤xk∧xk≤9
   ·have ho:ofV xk (.slice o xt.length c)= .iface 151 (.int .i8 xk):=by unfold ofV;rw[if_neg h1,if_pos h2]
    rw[ho]
    have HX2:Hid (zAQ P false=(xt.isEmpty&&zAQ (P.drop (k+1)) false)):=zQr (by rw[HX1.out,zQ2 h2,Bool.true_and])
    have ta:=zMk (.int .i8 xk)
    have tb:=zOA (.int .i8 xk)
    clear ho HX1 h1 h2
    by_cases h3:xt=[]
    ·have q2:((xt.length:Int)==0)=true:=by rw[h3];rfl
     have q3:xt.isEmpty=true:=by rw[h3];rfl
     rw[q3,Bool.true_and]at HX2
     have HX3:=HX2
     clear HX2 q3 h3
     go_wp2_with fail
     go_roundg (P.length - (k+1))
     case measure=>have:=HG.out;omega
     case rel=>exact⟨k+1,false,rfl,by go_num,rfl,by omega,HX3,HB2.out⟩
    ·have q2:((xt.length:Int)==0)=false:=zQx.2 fun e=>h3 (zRP (by omega))
     have q3:xt.isEmpty=false:=by cases xt with|nil=>exact absurd rfl h3|cons _ _=>rfl
     rw[q3]at HX2
     have HX3:=HX2
     clear HX2 q3 h3
     go_wp2_with fail
     go_ret
     exact⟨by rw[HX3.out];rfl,HB2.out⟩
   ·have ho:ofV xk (.slice o xt.length c)= .nilIface:=by unfold ofV;rw[if_neg h1,if_neg h2]
    rw[ho]
    have HX2:Hid (zAQ P false=false):=zQr (by rw[HX1.out,zQ3 h2];rfl)
    have ta:=zO7
    have tb:=zO8
    clear ho HX1 h1 h2
    go_wp2_with fail
    go_ret
    exact⟨by rw[HX2.out];rfl,HB2.out⟩
 ·obtain rfl:k=P.length:=by omega
  have hlt': ¬(P.length:Int)<(P.length:Int):=by omega
  have HT:Hid (zAQ P false=true):=zQr (by rw[HE.out,List.drop_length,zAQ])
  clear hlt hg hb HE
  go_wp2_with fail
  go_ret
  exact⟨by rw[HT.out];rfl,HBr.out⟩
end
end
end Go.Proofs.YtmaagpbjahjmhaaGreatDoor
