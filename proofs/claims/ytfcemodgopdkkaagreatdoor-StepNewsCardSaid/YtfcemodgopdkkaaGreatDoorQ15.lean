/- Parts: Hha Hh. -/
import Derived.Test.YtfcemodgopdkkaaGreatDoorQ0
import Derived.Test.YtfcemodgopdkkaaGreatDoorQ12
import Derived.Deep.MidRow
import Derived.ChangeKeysEq
import Derived.Laws.StructEq
set_option maxHeartbeats 3200000
set_option maxRecDepth 100000
namespace Go.Proofs.YtfcemodgopdkkaaGreatDoor
section
open Go.RowKit
theorem zAV {P:Program} {ops:Array Oper} {rest:List Oper} {op:Oper} {a:Act} {w:World} {Q:Exit→Act→World→Prop} (hgd:Region.wanted op (yielded ops a.tmps)=true) (ty:TypeId) (x:Operand) (ho:op.op= .load ty x)
  (b o:Nat) (hx:a.eval x= .pointer (some ⟨b,o,none⟩)) (cs:List Value) (d:TypeDesc) (hc:w.rangeAt b o cs)
  (hu:P.underlying ty=some d) (hd:d.isRow=true) (hi:(P.info? ty).map (·.size)=some cs.length)
  (h:wpList P ops Q rest (a.put op.dst (.agg cs.toArray)) w):wpList P ops Q (op::rest) a w:=
 wpList_step fun _ hK=>by rw[if_pos hgd];exact wp_load_mid ty x ho b o hx cs d hc hu hd hi (hK _ _ h)
theorem zLT (v:Int) (w:World):(Op.equalIn 9999 5 (.int .u8 v) (.int .u8 v)).run Tryz.prog w= .ok true w:=by
 simp[go_sem]
theorem zCs (xs:Array Value) (w:World): ∀is:List Nat,(∀i∈is,∃v,xs[i]?=some (.int .u8 v))→(Op.eqItems 9999 5 1 xs xs is).run Tryz.prog w= .ok true w
 |[],_=>rfl
 |i::is,h=>by
  obtain⟨v,hv⟩:=h i (by simp)
  have hp:(part 5 xs (i*1)).run Tryz.prog w= .ok (.int .u8 v) w:=run_part_plain w (by kernel_rfl) (by rw[Nat.mul_one];exact hv)
  have ih:=zCs xs w is (fun j hj=>h j (by simp[hj]))
  simp only[Op.eqItems,Sem.run_bind,hp,Result.andThen_ok,zLT,Bool.not_true]
  simpa using ih
theorem zGm {xs:Array Value} (h: ∀i,i<256→ ∃v,xs[i]?=some (.int .u8 v)) (w:World):(binOp .eql 69 (.agg xs) (.agg xs)).run Tryz.prog w= .ok (.bool true) w:=by
 obtain⟨i,hi⟩: ∃i,Tryz.prog.info? 5=some i:=Option.isSome_iff_exists.1 (by kernel_rfl)
 rw[run_eql_struct,run_equalIn_array w 9999 _ _ Tryz.underlying69 hi,show Tryz.prog.cellsOf 5=1 by kernel_rfl,zCs xs w _ (fun i hi=>h i (List.mem_range.1 hi))]
 rfl
theorem zGn:(Tryz.prog.info? 69).map (·.size)=some 256:=by kernel_rfl
end
section
open Go.RowKit
theorem zBE.tab {w:World} {b:Nat} {l:List Value} (h:zBE w b l):w.rangeAt b 16 (l.drop 16):=fun j v hv=>by
 rw[h.cell,←hv,List.getElem?_drop]
section
variable {w w':World} {c:Cx} {base:Nat} {L:List Value} {ga gb gt gr gp:Nat}
theorem zHt (h:zBa w base c L ga gb gt gr gp) (hi:zJ1 w c):
  Calls Tryz.prog 92 #[.agg L.toArray] w fun e w'=>e= .returned (.bool true)∧Below w.heap.size w w':=by
 have HC:=zL8 (zBE.new h.cl w)
 have hb1:=(zL9 w.heap.size w).alloc (zMA _) (.cells L.toArray 71)
 have HB:=zL8 hb1
 have H:=zL8 h
 have HW:=zL8 (h.below hb1)
 have HI:=zL8 hi
 clear h hi hb1
 go_enter Tryz.func92,Tryz.ntmps92
 go_upto_region 1 with fail
 obtain⟨W,hW⟩: ∃W,w.alloc (.cells L.toArray 71)=W:=⟨_,rfl⟩
 rw[hW]at HC HB HW ⊢
 clear hW
 have k0:=(HC.out.cell 2).trans H.out.e2
 have kl:=HC.out.lt
 have HX:=zL8 (zCN (l:=c.ra) (n:=c.ra.length) HW.out.a.2 HW.out.a.1 (by have:=HI.out.ci.za;omega))
 go_wp2_with fail
 refine HX.out.mono ?_;rintro e v1 ⟨rfl,hb⟩
 have HC1:=zL8 (HC.out.below hb)
 have HW1:=zL8 (HW.out.below hb)
 have HB1:=zL8 (HB.out.trans (hb.mono HB.out.size))
 clear hb k0 kl HX HC HW HB
 have k0:=(HC1.out.cell 5).trans H.out.e5
 have kl:=HC1.out.lt
 have HX:=zL8 (zCN (l:=c.rb) (n:=c.rb.length) HW1.out.b.2 HW1.out.b.1 (by have:=HI.out.ci.zb;omega))
 go_wp2_with fail
 refine HX.out.mono ?_;rintro e v2 ⟨rfl,hb⟩
 have HC2:=zL8 (HC1.out.below hb)
 have HW2:=zL8 (HW1.out.below hb)
 have HB2:=zL8 (HB1.out.trans (hb.mono HB1.out.size))
 clear hb k0 kl HX HC1 HW1 HB1
 have k0:=(HC2.out.cell 9).trans H.out.e9
 have kl:=HC2.out.lt
 have HX:=zL8 (zDJ HW2.out.t HI.out.tz)
 go_wp2_with fail
 refine HX.out.mono ?_;rintro e v3 ⟨rfl,rfl⟩
 clear k0 kl HX
 have k0:=(HC2.out.cell 10).trans H.out.e10
 have kl:=HC2.out.lt
 have HX:=zL8 (zCN (l:=c.R) (n:=c.R.length) HW2.out.r.2 HW2.out.r.1 (by have:=HI.out.rz;omega))
 go_wp2_with fail
 refine HX.out.mono ?_;rintro e v4 ⟨rfl,hb⟩
 have HC4:=zL8 (HC2.out.below hb)
 have HW4:=zL8 (HW2.out.below hb)
 have HB4:=zL8 (HB2.out.trans (hb.mono HB2.out.size))
 clear hb k0 kl HX HC2 HW2 HB2
 have k0:=(HC4.out.cell 11).trans H.out.e11
 have kl:=HC4.out.lt
 have HX:=zL8 (zEZ HW4.out.p HI.out.p.z)
 go_wp2_with fail
 refine HX.out.mono ?_;rintro e v5 ⟨rfl,hb⟩
 have HC5:=zL8 (HC4.out.below hb)
 have HW5:=zL8 (HW4.out.below hb)
 have HB5:=zL8 (HB4.out.trans (hb.mono HB4.out.size))
 clear hb k0 kl HX HC4 HW4 HB4
 go_wp2_with fail
 go_ret
 exact⟨rfl,HB5.out⟩
end
end
end Go.Proofs.YtfcemodgopdkkaaGreatDoor
