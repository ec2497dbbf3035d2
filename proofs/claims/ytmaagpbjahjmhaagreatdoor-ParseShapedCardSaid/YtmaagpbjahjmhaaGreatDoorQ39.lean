/- Parts: Yl. -/
import Derived.Test.YtmaagpbjahjmhaaGreatDoorQ13
import Derived.Test.YtmaagpbjahjmhaaGreatDoorQ16
import Derived.Lib.SlBytesConst
import Derived.MapKept
set_option maxHeartbeats 3200000
set_option maxRecDepth 100000
namespace Go.Proofs.YtmaagpbjahjmhaaGreatDoor
open Go.RowKit
def zKT:List (Nat × Nat)→Nat→List MapEntry
 |[],_=>[]
 |p::l,c=>⟨.int .u8 (p.1:Nat),.func (.func p.2) #[] #[],c⟩::zKT l (c+1)
theorem zIo: ∀(l:List (Nat × Nat)) (p:Nat × Nat) (c:Nat),zKT (l++[p]) c=zKT l c++[⟨.int .u8 (p.1:Nat),.func (.func p.2) #[] #[],c+l.length⟩]
 |[],_,_=>rfl
 |q::l,p,c=>by
  simp only[List.cons_append,zKT,zIo l p (c+1),List.length_cons,show c+1+l.length=c+(l.length+1)by omega]
theorem zIp (k:Nat): ∀(l:List (Nat × Nat)) (c i:Nat),(∀p∈l,p.1≠k)→Instr.findNow (.int .u8) (.int .u8 (k:Nat)) (zKT l c) i=some none
 |[],_,_,_=>rfl
 |p::l,c,i,h=>by
  have h1:=h p (by simp)
  have e:((k:Int)==(p.1:Int))=false:=zQx.2 (by omega)
  simp only[zKT,Instr.findNow,Instr.sameNow,if_true,e]
  exact zIp k l (c+1) (i+1) fun q hq=>h q (by simp[hq])
theorem zIn (k:Nat): ∀(l:List (Nat × Nat)) (c i:Nat) (q:Nat × Nat),l.find? (fun p=>p.1==k)=some q→ ∃j,Instr.findNow (.int .u8) (.int .u8 (k:Nat)) (zKT l c) i=some (some (j,.func (.func q.2) #[] #[]))
 |[],_,_,_,h=>by cases h
 |p::l,c,i,q,h=>by
  by_cases h1:p.1=k
  ·rw[List.find?_cons_of_pos (by simpa using h1)]at h
   cases h
   refine⟨i,?_⟩
   have e:((k:Int)==(p.1:Int))=true:=beq_iff_eq.2 (by omega)
   simp only[zKT,Instr.findNow,Instr.sameNow,if_true,e]
  ·rw[List.find?_cons_of_neg (by simpa using h1)]at h
   have e:((k:Int)==(p.1:Int))=false:=zQx.2 (by omega)
   simp only[zKT,Instr.findNow,Instr.sameNow,if_true,e]
   exact zIn k l (c+1) (i+1) q h
def MpS (w:World) (r:Nat) (l:List (Nat × Nat)):Prop:=w.heap[r]?=some (.map (zKT l 0).toArray l.length)
def zG3 (w:World) (r k f:Nat) (l:List (Nat × Nat)):World:= { w with heap:=w.heap.setIfInBounds r (.map (zKT (l++[(k,f)]) 0).toArray (l.length+1)) }
theorem MpS.ins {w:World} {r k f:Nat} {l:List (Nat × Nat)} (h:MpS w r l):MpS (zG3 w r k f l) r (l++[(k,f)]):=by
 have:=(MapKept.heap_set (o':= .map (zKT (l++[(k,f)]) 0).toArray (l.length+1)) h).1
 rw[MpS,zRB]
 exact this
theorem MpS.block {w w':World} {r:Nat} {l:List (Nat × Nat)} (h:MpS w r l) (hb:w'.heap[r]?=w.heap[r]?):MpS w' r l:=hb.trans h
theorem zG2 {w:World} {r k f:Nat} {l:List (Nat × Nat)} (h:MpS w r l) {b:Nat} (hb:b≠r):(zG3 w r k f l).heap[b]?=w.heap[b]?:=(MapKept.heap_set h).2 b hb
theorem zMg {w:World} {r k f:Nat} {l:List (Nat × Nat)} :(zG3 w r k f l).heap.size=w.heap.size:=by simp[zG3]
theorem zBY {B:Nat} {w0 w:World} {r k f:Nat} {l:List (Nat × Nat)} (hb:Below B w0 w) (h:MpS w r l) (hr:B≤r):Below B w0 (zG3 w r k f l):=
 ⟨hb.os,hb.tape,hb.output,zRE hb.size (Nat.le_of_eq zMg.symm),fun k hk=>(zG2 h (by omega)).trans (hb.block k hk)⟩
theorem zMA {w:World} {r k f:Nat} {l:List (Nat × Nat)} (h:MpS w r l) (hn: ∀p∈l,p.1≠k):
  (Instr.mapUpdate 85 (.map (some r)) (.int .u8 (k:Nat)) (.func (.func f) #[] #[])).run Tryz.prog w= .ok () (zG3 w r k f l):=by
 have hf:=zIp k l 0 0 hn
 have hb:w.heap[r]?=some (.map (zKT l 0).toArray l.length):=h
 simp[Instr.mapUpdate,run_underlying Tryz.underlying85,MapKept.run_getObj_map hb,MapKept.run_checkKey Tryz.underlying5 (k:= .int .u8 (k:Nat)) rfl,MapKept.run_findKey Tryz.underlying5 hf,MapKept.run_setObj_map _ hb,Result.andThen,zG3,zIo]
theorem zNf {w:World} {r k:Nat} {l:List (Nat × Nat)} {q:Nat × Nat} (h:MpS w r l) (hq:l.find? (fun p=>p.1==k)=some q):
  (Instr.lookup 85 (.map (some r)) (.int .u8 (k:Nat)) false).run Tryz.prog w= .ok (.func (.func q.2) #[] #[]) w:=by
 obtain⟨j,hf⟩:=zIn k l 0 0 q hq
 have hb:w.heap[r]?=some (.map (zKT l 0).toArray l.length):=h
 simp[Instr.lookup,run_underlying Tryz.underlying85,MapKept.run_getObj_map hb,MapKept.run_checkKey Tryz.underlying5 (k:= .int .u8 (k:Nat)) rfl,MapKept.run_findKey Tryz.underlying5 hf,Result.andThen]
theorem zBI {ops:Array Oper} {rest:List Oper} {op:Oper} {a:Act} {w:World} {Q:Exit→Act→World→Prop} (hgd:op.guard=none) (m k x:Operand) (r kk f:Nat)
  (hop:op.op= .insert 85 m k x∨op.op= .mapUpdate 85 m k x) (hm:a.eval m= .map (some r)) (hk:a.eval k= .int .u8 (kk:Nat)) (hx:a.eval x= .func (.func f) #[] #[]) {l:List (Nat × Nat)} (h:MpS w r l) (hn: ∀p∈l,p.1≠kk)
  {W:World} (hW:zG3 w r kk f l=W) (hc:wpList Tryz.prog ops Q rest (a.put op.dst undef) W):wpList Tryz.prog ops Q (op::rest) a w:=
 wpList_plain hgd fun _ hK=>by
  subst hW
  unfold Oper.wp execOp
  rcases hop with hop|hop
  ·simp only[hop,hm,hk,hx,zMA h hn,Sem.run_bind,Result.andThen_ok]
   exact hK _ _ hc
  ·simp only[hop,hm,hk,hx,zMA h hn,Sem.run_bind,Result.andThen_ok]
   exact hK _ _ hc
theorem zKi {ops:Array Oper} {rest:List Oper} {op:Oper} {a:Act} {w:World} {Q:Exit→Act→World→Prop} (hgd:op.guard=none) (hop:op.op= .makeMap 85 none) {W:World} {r:Nat} (hW:w.alloc (.map #[] 0)=W) (hr:w.heap.size=r)
  (hc:wpList Tryz.prog ops Q rest (a.put op.dst (.map (some r))) W):wpList Tryz.prog ops Q (op::rest) a w:=
 wpList_plain hgd fun _ hK=>by
  subst hW
  subst hr
  unfold Oper.wp execOp
  simp only[hop,Option.map_none,Instr.makeMap,Sem.run_bind,Result.andThen_ok,newObj,Sem.run]
  exact hK _ _ hc
def nmA:List (Nat × Nat):=[(123,87),(58,88),(98,88),(116,88),(114,89),(119,89),(97,90),(99,90),(105,90),(115,91),(121,92)]
def nmB:List Nat:=[125,61,100,68,103,71,104,72,108,110,78,112,80,113,120]
def nmL:List (Nat × Nat):=nmA++nmB.map fun b=>(b,93)
theorem zPo: ∀d,d<15→ ∀p∈nmA++(nmB.take d).map (fun b=>(b,93)),p.1≠nmB.getD d 0:=by decide
theorem zO6: ∀i,i<15→(#[.int .u8 125,.int .u8 61,.int .u8 100,.int .u8 68,.int .u8 103,.int .u8 71,.int .u8 104,.int .u8 72,.int .u8 108,.int .u8 110,.int .u8 78,.int .u8 112,.int .u8 80,.int .u8 113,.int .u8 120]:Array Value)[i]?=some (.int .u8 (nmB.getD i 0:Nat)):=by
 intro i hi
 match i,hi with
 |0,_=>rfl
 |1,_=>rfl
 |2,_=>rfl
 |3,_=>rfl
 |4,_=>rfl
 |5,_=>rfl
 |6,_=>rfl
 |7,_=>rfl
 |8,_=>rfl
 |9,_=>rfl
 |10,_=>rfl
 |11,_=>rfl
 |12,_=>rfl
 |13,_=>rfl
 |14,_=>rfl
def zPV (nm:Nat):Nat:=if nm=123 then 87 else if nm=115 then 91 else if nm=121 then 92 else if nm=58∨nm=98∨nm=116 then 88 else if nm=114∨nm=119 then 89 else if nm=97∨nm=99∨nm=105 then 90 else 93
theorem zO5: ∀nm:Nat,nm<256→zCd nm≠none→nmL.find? (fun p=>p.1==nm)=some (nm,zPV nm):=by decide+kernel
theorem zLJ {w:World} :Calls Tryz.prog 31 #[] w fun e w'=>(∃r,e= .returned (.map (some r))∧w.heap.size≤r∧MpS w' r nmL)∧Below w.heap.size w w':=by
 have H0:Hid (MpS (w.alloc (.map #[] 0)) w.heap.size []):=zQr (zQ4 w _)
 have HB0:=zQr ((zQs w.heap.size w).alloc (zQt _) (.map #[] 0))
 go_enter Tryz.func31,Tryz.ntmps31
 obtain⟨W0,hW0⟩: ∃W,w.alloc (.map #[] 0)=W:=⟨_,rfl⟩
 rw[hW0]at H0 HB0
 have HW0:=zQr hW0
 obtain⟨r,hr⟩: ∃r,w.heap.size=r:=⟨_,rfl⟩
 rw[hr]at H0
 have HRR:=zQr hr
 clear hW0 hr
 obtain⟨W1,hW⟩: ∃W,zG3 W0 r 123 87 []=W:=⟨_,rfl⟩
 have H1:Hid (MpS W1 r [(123,87)]):=zQr (by rw[←hW];exact H0.out.ins (k:=123) (f:=87))
 have HB1:Hid (Below w.heap.size w W1):=zQr (by rw[←hW];exact zBY HB0.out H0.out (Nat.le_of_eq HRR.out))
 have HW1:=zQr hW
 clear hW
 obtain⟨W2,hW⟩: ∃W,zG3 W1 r 58 88 [(123,87)]=W:=⟨_,rfl⟩
 have H2:Hid (MpS W2 r [(123,87),(58,88)]):=zQr (by rw[←hW];exact H1.out.ins (k:=58) (f:=88))
 have HB2:Hid (Below w.heap.size w W2):=zQr (by rw[←hW];exact zBY HB1.out H1.out (Nat.le_of_eq HRR.out))
 have HW2:=zQr hW
 clear hW
 obtain⟨W3,hW⟩: ∃W,zG3 W2 r 98 88 [(123,87),(58,88)]=W:=⟨_,rfl⟩
 have H3:Hid (MpS W3 r [(123,87),(58,88),(98,88)]):=zQr (by rw[←hW];exact H2.out.ins (k:=98) (f:=88))
 have HB3:Hid (Below w.heap.size w W3):=zQr (by rw[←hW];exact zBY HB2.out H2.out (Nat.le_of_eq HRR.out))
 have HW3:=zQr hW
 clear hW
 obtain⟨W4,hW⟩: ∃W,zG3 W3 r 116 88 [(123,87),(58,88),(98,88)]=W:=⟨_,rfl⟩
 have H4:Hid (MpS W4 r [(123,87),(58,88),(98,88),(116,88)]):=zQr (by rw[←hW];exact H3.out.ins (k:=116) (f:=88))
 have HB4:Hid (Below w.heap.size w W4):=zQr (by rw[←hW];exact zBY HB3.out H3.out (Nat.le_of_eq HRR.out))
 have HW4:=zQr hW
 clear hW
 obtain⟨W5,hW⟩: ∃W,zG3 W4 r 114 89 [(123,87),(58,88),(98,88),(116,88)]=W:=⟨_,rfl⟩
 have H5:Hid (MpS W5 r [(123,87),(58,88),(98,88),(116,88),(114,89)]):=zQr (by rw[←hW];exact H4.out.ins (k:=114) (f:=89))
 have HB5:Hid (Below w.heap.size w W5):=zQr (by rw[←hW];exact zBY HB4.out H4.out (Nat.le_of_eq HRR.out))
 have HW5:=zQr hW
 clear hW
 obtain⟨W6,hW⟩: ∃W,zG3 W5 r 119 89 [(123,87),(58,88),(98,88),(116,88),(114,89)]=W:=⟨_,rfl⟩
 have H6:Hid (MpS W6 r [(123,87),(58,88),(98,88),(116,88),(114,89),(119,89)]):=zQr (by rw[←hW];exact H5.out.ins (k:=119) (f:=89))
 have HB6:Hid (Below w.heap.size w W6):=zQr (by rw[←hW];exact zBY HB5.out H5.out (Nat.le_of_eq HRR.out))
 have HW6:=zQr hW
 clear hW
 obtain⟨W7,hW⟩: ∃W,zG3 W6 r 97 90 [(123,87),(58,88),(98,88),(116,88),(114,89),(119,89)]=W:=⟨_,rfl⟩
 have H7:Hid (MpS W7 r [(123,87),(58,88),(98,88),(116,88),(114,89),(119,89),(97,90)]):=zQr (by rw[←hW];exact H6.out.ins (k:=97) (f:=90))
 have HB7:Hid (Below w.heap.size w W7):=zQr (by rw[←hW];exact zBY HB6.out H6.out (Nat.le_of_eq HRR.out))
 have HW7:=zQr hW
 clear hW
 obtain⟨W8,hW⟩: ∃W,zG3 W7 r 99 90 [(123,87),(58,88),(98,88),(116,88),(114,89),(119,89),(97,90)]=W:=⟨_,rfl⟩
 have H8:Hid (MpS W8 r [(123,87),(58,88),(98,88),(116,88),(114,89),(119,89),(97,90),(99,90)]):=zQr (by rw[←hW];exact H7.out.ins (k:=99) (f:=90))
 have HB8:Hid (Below w.heap.size w W8):=zQr (by rw[←hW];exact zBY HB7.out H7.out (Nat.le_of_eq HRR.out))
 have HW8:=zQr hW
 clear hW
 obtain⟨W9,hW⟩: ∃W,zG3 W8 r 105 90 [(123,87),(58,88),(98,88),(116,88),(114,89),(119,89),(97,90),(99,90)]=W:=⟨_,rfl⟩
 have H9:Hid (MpS W9 r [(123,87),(58,88),(98,88),(116,88),(114,89),(119,89),(97,90),(99,90),(105,90)]):=zQr (by rw[←hW];exact H8.out.ins (k:=105) (f:=90))
 have HB9:Hid (Below w.heap.size w W9):=zQr (by rw[←hW];exact zBY HB8.out H8.out (Nat.le_of_eq HRR.out))
 have HW9:=zQr hW
 clear hW
 obtain⟨W10,hW⟩: ∃W,zG3 W9 r 115 91 [(123,87),(58,88),(98,88),(116,88),(114,89),(119,89),(97,90),(99,90),(105,90)]=W:=⟨_,rfl⟩
 have H10:Hid (MpS W10 r [(123,87),(58,88),(98,88),(116,88),(114,89),(119,89),(97,90),(99,90),(105,90),(115,91)]):=zQr (by rw[←hW];exact H9.out.ins (k:=115) (f:=91))
 have HB10:Hid (Below w.heap.size w W10):=zQr (by rw[←hW];exact zBY HB9.out H9.out (Nat.le_of_eq HRR.out))
 have HW10:=zQr hW
 clear hW
 obtain⟨W11,hW⟩: ∃W,zG3 W10 r 121 92 [(123,87),(58,88),(98,88),(116,88),(114,89),(119,89),(97,90),(99,90),(105,90),(115,91)]=W:=⟨_,rfl⟩
 have H11:Hid (MpS W11 r [(123,87),(58,88),(98,88),(116,88),(114,89),(119,89),(97,90),(99,90),(105,90),(115,91),(121,92)]):=zQr (by rw[←hW];exact H10.out.ins (k:=121) (f:=92))
 have HB11:Hid (Below w.heap.size w W11):=zQr (by rw[←hW];exact zBY HB10.out H10.out (Nat.le_of_eq HRR.out))
 have HW11:=zQr hW
 clear hW
 go_upto_region 1 with fail
 go_upto_region 2 with (first|refine zKi rfl rfl HW0.out HRR.out ?_|refine zBI rfl _ _ _ r 123 87 (.inl rfl) rfl rfl rfl H0.out (by decide) HW1.out ?_|refine zBI rfl _ _ _ r 58 88 (.inl rfl) rfl rfl rfl H1.out (by decide) HW2.out ?_|refine zBI rfl _ _ _ r 98 88 (.inl rfl) rfl rfl rfl H2.out (by decide) HW3.out ?_|refine zBI rfl _ _ _ r 116 88 (.inl rfl) rfl rfl rfl H3.out (by decide) HW4.out ?_|refine zBI rfl _ _ _ r 114 89 (.inl rfl) rfl rfl rfl H4.out (by decide) HW5.out ?_|refine zBI rfl _ _ _ r 119 89 (.inl rfl) rfl rfl rfl H5.out (by decide) HW6.out ?_|refine zBI rfl _ _ _ r 97 90 (.inl rfl) rfl rfl rfl H6.out (by decide) HW7.out ?_|refine zBI rfl _ _ _ r 99 90 (.inl rfl) rfl rfl rfl H7.out (by decide) HW8.out ?_|refine zBI rfl _ _ _ r 105 90 (.inl rfl) rfl rfl rfl H8.out (by decide) HW9.out ?_|refine zBI rfl _ _ _ r 115 91 (.inl rfl) rfl rfl rfl H9.out (by decide) HW10.out ?_|refine zBI rfl _ _ _ r 121 92 (.inl rfl) rfl rfl rfl H10.out (by decide) HW11.out ?_)
 have hcv:=Lib.run_convert_bytes_const (P:=Tryz.prog) W11 22 5 #[.int .u8 125,.int .u8 61,.int .u8 100,.int .u8 68,.int .u8 103,.int .u8 71,.int .u8 104,.int .u8 72,.int .u8 108,.int .u8 110,.int .u8 78,.int .u8 112,.int .u8 80,.int .u8 113,.int .u8 120] 15 15 Tryz.underlying22 Tryz.underlying5
 have hM:=H11.out.block (w':=W11.alloc (.cells #[.int .u8 125,.int .u8 61,.int .u8 100,.int .u8 68,.int .u8 103,.int .u8 71,.int .u8 104,.int .u8 72,.int .u8 108,.int .u8 110,.int .u8 78,.int .u8 112,.int .u8 80,.int .u8 113,.int .u8 120] 5 (15,16))) (Below.heap_alloc _ _ _ (zQz.1 H11.out).1)
 have hB:=HB11.out.alloc HB11.out.size (.cells #[.int .u8 125,.int .u8 61,.int .u8 100,.int .u8 68,.int .u8 103,.int .u8 71,.int .u8 104,.int .u8 72,.int .u8 108,.int .u8 110,.int .u8 78,.int .u8 112,.int .u8 80,.int .u8 113,.int .u8 120] 5 (15,16))
 have hC: ∀i,i<15→(W11.alloc (.cells #[.int .u8 125,.int .u8 61,.int .u8 100,.int .u8 68,.int .u8 103,.int .u8 71,.int .u8 104,.int .u8 72,.int .u8 108,.int .u8 110,.int .u8 78,.int .u8 112,.int .u8 80,.int .u8 113,.int .u8 120] 5 (15,16))).cell? ⟨W11.heap.size,i,none⟩=some (.int .u8 (nmB.getD i 0:Nat)):=fun i hi=>(zQ6 _ _ i _ _ (15,16) (zQ4 W11 _)).trans (zO6 i hi)
 have HM:=zQr hM
 have HBB:=zQr hB
 have HC:=zQr hC
 have HRS:=zQr (zQz.1 H11.out).1
 clear hM hB hC
 clear H1 HB1 HW1
 clear H2 HB2 HW2
 clear H3 HB3 HW3
 clear H4 HB4 HW4
 clear H5 HB5 HW5
 clear H6 HB6 HW6
 clear H7 HB7 HW7
 clear H8 HB8 HW8
 clear H9 HB9 HW9
 clear H10 HB10 HW10
 clear H11 HB11 HW11
 clear H0 HB0 HW0
 go_wp2_with fail
 obtain⟨W,hW⟩: ∃W,W11.alloc (.cells #[.int .u8 125,.int .u8 61,.int .u8 100,.int .u8 68,.int .u8 103,.int .u8 71,.int .u8 104,.int .u8 72,.int .u8 108,.int .u8 110,.int .u8 78,.int .u8 112,.int .u8 80,.int .u8 113,.int .u8 120] 5 (15,16))=W:=⟨_,rfl⟩
 rw[hW]at HM HBB HC ⊢
 obtain⟨a,ha⟩: ∃a,W11.heap.size=a:=⟨_,rfl⟩
 rw[ha]at HC HRS ⊢
 clear hW ha hcv
 go_loopg [9] 15 (fun gk iv wr=> ∃d:Nat,iv= .int .i64 (d:Nat)∧gk=15 - d∧d≤15∧MpS wr r (nmA++(nmB.take d).map fun b=>(b,93))∧Hid (∀i,i<15→wr.cell? ⟨a,i,none⟩=some (.int .u8 (nmB.getD i 0:Nat)))∧Below w.heap.size w wr)
 case atStart=>exact⟨0,rfl,by omega,by omega,HM.out,HC,HBB.out⟩
 case round=>
 obtain⟨d,rfl,hg,hd,hm,HCr,hb⟩:=hrel
 have HG:=zQr hg
 have HMr:=zQr hm
 have HBr:=zQr hb
 clear hg hm hb
 by_cases hlt:d<15
 ·have hlt':(d:Int)<15:=by omega
  have hc:=HCr.out d hlt
  have HNW:=zQr (zPo d hlt)
  have hx:nmA++(nmB.take (d+1)).map (fun b=>(b,93))=(nmA++(nmB.take d).map fun b=>(b,93))++[(nmB.getD d 0,93)]:=by
   rw[List.take_add_one,List.map_append,←List.append_assoc,show nmB[d]?=some (nmB.getD d 0)by rw[zQ0,zQ8 (show d<nmB.length from hlt)];rfl]
   rfl
  have HX:=zQr hx
  generalize nmB.getD d 0=x at hc HNW HX
  generalize hl:(nmA++(nmB.take d).map fun b=>(b,93))=l at HNW HX HMr
  obtain⟨W2,hW2⟩: ∃W,zG3 wr r x 93 l=W:=⟨_,rfl⟩
  have HM2:Hid (MpS W2 r (l++[(x,93)])):=zQr (by rw[←hW2];exact HMr.out.ins)
  have HB2:Hid (Below w.heap.size w W2):=zQr (by rw[←hW2];exact zBY HBr.out HMr.out (Nat.le_of_eq HRR.out))
  have HC2:Hid (∀i,i<15→W2.cell? ⟨a,i,none⟩=some (.int .u8 (nmB.getD i 0:Nat))):=zQr (fun i hi=>by
   rw[←hW2]
   exact(zQv (w:=wr) (a:=⟨a,i,none⟩) (zG2 HMr.out (by have:=HRS.out;show a≠r;omega))).trans (HCr.out i hi))
  have HW2:=zQr hW2
  clear hx hW2 hl
  go_wp2_with (refine zBI rfl _ _ _ r x 93 (.inr rfl) rfl rfl rfl HMr.out HNW.out HW2.out ?_)
  go_roundg (15 - (d+1))
  case measure=>have:=HG.out;omega
  case rel=>exact⟨d+1,by go_num,rfl,by omega,by rw[HX.out];exact HM2.out,HC2,HB2.out⟩
 ·obtain rfl:d=15:=by omega
  have hlt': ¬(15:Int)<15:=by omega
  clear hlt
  go_wp2_with fail
  go_ret
  exact⟨⟨r,rfl,Nat.le_of_eq HRR.out,HMr.out⟩,HBr.out⟩
end Go.Proofs.YtmaagpbjahjmhaaGreatDoor
