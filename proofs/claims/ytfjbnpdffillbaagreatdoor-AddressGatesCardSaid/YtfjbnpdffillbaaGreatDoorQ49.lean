/- Parts: Hh Hi. -/
import Derived.Test.YtfjbnpdffillbaaGreatDoorQ48
import Derived.Deep.MidRow
import Derived.ChangeKeysEq
import Derived.Laws.StructEq
namespace Go.Proofs.YtfjbnpdffillbaaGreatDoor
open Go.RowKit
theorem wpList_load_mid_g {P:Program} {ops:Array Oper} {rest:List Oper} {op:Oper} {a:Act} {w:World} {Q:Exit→Act→World→Prop} (hgd:Region.wanted op (yielded ops a.tmps)=true) (ty:TypeId) (x:Operand) (ho:op.op= .load ty x)
  (b o:Nat) (hx:a.eval x= .pointer (some ⟨b,o,none⟩)) (cs:List Value) (d:TypeDesc) (hc:w.rangeAt b o cs)
  (hu:P.underlying ty=some d) (hd:d.isRow=true) (hi:(P.info? ty).map (·.size)=some cs.length)
  (h:wpList P ops Q rest (a.put op.dst (.agg cs.toArray)) w):wpList P ops Q (op::rest) a w:=
 wpList_step fun _ hK=>by rw[if_pos hgd];exact wp_load_mid ty x ho b o hx cs d hc hu hd hi (hK _ _ h)
theorem eq_u8 (v:Int) (w:World):(Op.equalIn 9999 5 (.int .u8 v) (.int .u8 v)).run Tryz.prog w= .ok true w:=by
 simp[go_sem]
theorem items_same (xs:Array Value) (w:World): ∀is:List Nat,(∀i∈is,∃v,xs[i]?=some (.int .u8 v))→(Op.eqItems 9999 5 1 xs xs is).run Tryz.prog w= .ok true w
 |[],_=>rfl
 |i::is,h=>by
  obtain⟨v,hv⟩:=h i (by simp)
  have hp:(part 5 xs (i*1)).run Tryz.prog w= .ok (.int .u8 v) w:=run_part_plain w (by kernel_rfl) (by rw[Nat.mul_one];exact hv)
  have ih:=items_same xs w is (fun j hj=>h j (by simp[hj]))
  simp only[Op.eqItems,Sem.run_bind,hp,Result.andThen_ok,eq_u8,Bool.not_true]
  simpa using ih
theorem table_same {xs:Array Value} (h: ∀i,i<256→ ∃v,xs[i]?=some (.int .u8 v)) (w:World):(binOp .eql 89 (.agg xs) (.agg xs)).run Tryz.prog w= .ok (.bool true) w:=by
 obtain⟨i,hi⟩: ∃i,Tryz.prog.info? 5=some i:=Option.isSome_iff_exists.1 (by kernel_rfl)
 rw[run_eql_struct,run_equalIn_array w 9999 _ _ Tryz.underlying89 hi,show Tryz.prog.cellsOf 5=1 by kernel_rfl,items_same xs w _ (fun i hi=>h i (List.mem_range.1 hi))]
 rfl
theorem table_info:(Tryz.prog.info? 89).map (·.size)=some 256:=by kernel_rfl
theorem CmdB.tab {w:World} {b:Nat} {l:List Value} (h:CmdB w b l):w.rangeAt b 16 (l.drop 16):=fun j v hv=>by
 rw[h.cell,←hv,List.getElem?_drop]
section
variable {w w':World} {c:Cx} {base:Nat} {L:List Value} {ga gb gt gr gp:Nat}
set_option maxRecDepth 100000 in
set_option maxHeartbeats 3200000 in
theorem spareCmdU (h:WideC w base c L ga gb gt gr gp) (hi:CxIn w c):
  Calls Tryz.prog 41 #[.agg L.toArray] w fun e w'=>e= .returned (.bool true)∧Below w.heap.size w w':=by
 have HC:=Lib.hid (CmdB.new h.cl w)
 have hb1:=(Below.refl w.heap.size w).alloc (Nat.le_refl _) (.cells L.toArray 91)
 have HB:=Lib.hid hb1
 have H:=Lib.hid h
 have HW:=Lib.hid (h.below hb1)
 have HI:=Lib.hid hi
 clear h hi hb1
 go_enter Tryz.func41,Tryz.ntmps41
 go_upto_region 1 with fail
 obtain⟨W,hW⟩: ∃W,w.alloc (.cells L.toArray 91)=W:=⟨_,rfl⟩
 rw[hW]at HC HB HW ⊢
 clear hW
 have k0:=(HC.out.cell 2).trans H.out.e2
 have kl:=HC.out.lt
 have HX:=Lib.hid (spareNodesU (l:=c.ra) (n:=c.ra.length) HW.out.a.2 HW.out.a.1 (by have:=HI.out.ci.za;omega))
 go_wp2_with fail
 refine HX.out.mono ?_;rintro e v1 ⟨rfl,hb⟩
 have HC1:=Lib.hid (HC.out.below hb)
 have HW1:=Lib.hid (HW.out.below hb)
 have HB1:=Lib.hid (HB.out.trans (hb.mono HB.out.size))
 clear hb k0 kl HX HC HW HB
 have k0:=(HC1.out.cell 5).trans H.out.e5
 have kl:=HC1.out.lt
 have HX:=Lib.hid (spareNodesU (l:=c.rb) (n:=c.rb.length) HW1.out.b.2 HW1.out.b.1 (by have:=HI.out.ci.zb;omega))
 go_wp2_with fail
 refine HX.out.mono ?_;rintro e v2 ⟨rfl,hb⟩
 have HC2:=Lib.hid (HC1.out.below hb)
 have HW2:=Lib.hid (HW1.out.below hb)
 have HB2:=Lib.hid (HB1.out.trans (hb.mono HB1.out.size))
 clear hb k0 kl HX HC1 HW1 HB1
 have k0:=(HC2.out.cell 9).trans H.out.e9
 have kl:=HC2.out.lt
 have HX:=Lib.hid (spareBytesU HW2.out.t HI.out.tz)
 go_wp2_with fail
 refine HX.out.mono ?_;rintro e v3 ⟨rfl,rfl⟩
 clear k0 kl HX
 have k0:=(HC2.out.cell 10).trans H.out.e10
 have kl:=HC2.out.lt
 have HX:=Lib.hid (spareNodesU (l:=c.R) (n:=c.R.length) HW2.out.r.2 HW2.out.r.1 (by have:=HI.out.rz;omega))
 go_wp2_with fail
 refine HX.out.mono ?_;rintro e v4 ⟨rfl,hb⟩
 have HC4:=Lib.hid (HC2.out.below hb)
 have HW4:=Lib.hid (HW2.out.below hb)
 have HB4:=Lib.hid (HB2.out.trans (hb.mono HB2.out.size))
 clear hb k0 kl HX HC2 HW2 HB2
 have k0:=(HC4.out.cell 11).trans H.out.e11
 have kl:=HC4.out.lt
 have HX:=Lib.hid (sparePiecesU HW4.out.p HI.out.p.z)
 go_wp2_with fail
 refine HX.out.mono ?_;rintro e v5 ⟨rfl,hb⟩
 have HC5:=Lib.hid (HC4.out.below hb)
 have HW5:=Lib.hid (HW4.out.below hb)
 have HB5:=Lib.hid (HB4.out.trans (hb.mono HB4.out.size))
 clear hb k0 kl HX HC4 HW4 HB4
 go_wp2_with fail
 go_ret
 exact⟨rfl,HB5.out⟩
set_option maxRecDepth 100000 in
set_option maxHeartbeats 6400000 in
theorem alikeCmdU (h:WideC w base c L ga gb gt gr gp) (hi:CxIn w c):
  Calls Tryz.prog 94 #[.agg L.toArray,.agg c.l.toArray] w fun e w'=>e= .returned (.bool true)∧Below w.heap.size w w':=by
 have hb1:=((Below.refl w.heap.size w).alloc (Nat.le_refl _) (.cells L.toArray 91)).alloc (by simp) (.cells c.l.toArray 91)
 have HC:=Lib.hid ((CmdB.new h.cl w).below ((Below.refl _ _).alloc (Nat.le_refl _) (.cells c.l.toArray 91)))
 have HD:=Lib.hid (CmdB.new hi.ci.cl (w.alloc (.cells L.toArray 91)))
 have hsz:(w.alloc (.cells L.toArray 91)).heap.size=w.heap.size+1:=by simp
 rw[hsz]at HD
 have HB:=Lib.hid hb1
 have HV:=Lib.hid (h.v hi)
 have H:=Lib.hid h
 have HW:=Lib.hid (h.below hb1)
 have HI0:=Lib.hid hi
 have HI:=Lib.hid (hi.below hb1)
 have HTL:=Lib.hid (show L.drop 16=c.l.drop 16 from List.ext_getElem? fun j=>by
  rw[List.getElem?_drop,List.getElem?_drop]
  exact h.same (16+j) (by omega) (by omega) (by omega) (by omega) (by omega))
 have hq:=table_same (xs:=(c.l.drop 16).toArray) (fun i hi2=>by
  obtain⟨v,hv⟩:=hi.ci.x.tab i hi2
  exact⟨v,by rw[List.getElem?_toArray,List.getElem?_drop];exact hv⟩)
 have HTI:Hid ((Tryz.prog.info? 89).map (·.size)=some (c.l.drop 16).length):=Lib.hid (by rw[table_info,List.length_drop,hi.ci.cl.len])
 obtain⟨x7,hx7⟩:=hi.ci.x.c7
 obtain⟨x12,hx12⟩:=hi.ci.x.c12
 obtain⟨x13,hx13⟩:=hi.ci.x.c13
 obtain⟨x14,hx14⟩:=hi.ci.x.c14
 obtain⟨x15,hx15⟩:=hi.ci.x.c15
 have HS:Hid (∀j,j≠2→j≠5→j≠9→j≠10→j≠11→L[j]?=c.l[j]?):=Lib.hid h.same
 have HX7:=Lib.hid hx7
 have HX12:=Lib.hid hx12
 have HX13:=Lib.hid hx13
 have HX14:=Lib.hid hx14
 have HX15:=Lib.hid hx15
 clear h hi hb1 hsz hx7 hx12 hx13 hx14 hx15
 go_enter Tryz.func94,Tryz.ntmps94
 go_upto_region 1 with fail
 obtain⟨W,hW⟩: ∃W,(w.alloc (.cells L.toArray 91)).alloc (.cells c.l.toArray 91)=W:=⟨_,rfl⟩
 rw[hW]at HC HD HB HW HI ⊢
 clear hW
 have a0:=(HC.out.cell 0).trans ((HS.out 0 (by decide) (by decide) (by decide) (by decide) (by decide)).trans HI0.out.ci.a0)
 have b0:=(HD.out.cell 0).trans HI0.out.ci.a0
 have a1:=(HC.out.cell 1).trans ((HS.out 1 (by decide) (by decide) (by decide) (by decide) (by decide)).trans HI0.out.ci.a1)
 have b1:=(HD.out.cell 1).trans HI0.out.ci.a1
 have a2:=(HC.out.cell 2).trans H.out.e2
 have b2:=(HD.out.cell 2).trans HI0.out.ci.a2
 have kl:=HC.out.lt
 have kd:=HD.out.lt
 have HX:=Lib.hid (eqAddrU (ca:=c.ra.length+64) (cb:=c.ca) c.ka c.na (HW.out.a.toU) HI.out.a HI0.out.ci.za)
 go_wp2_with fail
 refine HX.out.mono ?_;rintro e v1 ⟨rfl,hb⟩
 have HC1:=Lib.hid (HC.out.below hb)
 have HD1:=Lib.hid (HD.out.below hb)
 have HW1:=Lib.hid (HW.out.below hb)
 have HI1:=Lib.hid (HI.out.below hb)
 have HB1:=Lib.hid (HB.out.trans (hb.mono HB.out.size))
 clear hb kl kd HX HC HD HW HI HB a0 b0 a1 b1 a2 b2
 have a3:=(HC1.out.cell 3).trans ((HS.out 3 (by decide) (by decide) (by decide) (by decide) (by decide)).trans HI0.out.ci.b0)
 have b3:=(HD1.out.cell 3).trans HI0.out.ci.b0
 have a4:=(HC1.out.cell 4).trans ((HS.out 4 (by decide) (by decide) (by decide) (by decide) (by decide)).trans HI0.out.ci.b1)
 have b4:=(HD1.out.cell 4).trans HI0.out.ci.b1
 have a5:=(HC1.out.cell 5).trans H.out.e5
 have b5:=(HD1.out.cell 5).trans HI0.out.ci.b2
 have kl:=HC1.out.lt
 have kd:=HD1.out.lt
 have HX:=Lib.hid (eqAddrU (ca:=c.rb.length+64) (cb:=c.cb) c.kb c.nb (HW1.out.b.toU) HI1.out.b HI0.out.ci.zb)
 go_wp2_with fail
 refine HX.out.mono ?_;rintro e v2 ⟨rfl,hb⟩
 have HC2:=Lib.hid (HC1.out.below hb)
 have HD2:=Lib.hid (HD1.out.below hb)
 have HW2:=Lib.hid (HW1.out.below hb)
 have HI2:=Lib.hid (HI1.out.below hb)
 have HB2:=Lib.hid (HB1.out.trans (hb.mono HB1.out.size))
 clear hb kl kd HX HC1 HD1 HW1 HI1 HB1 a3 b3 a4 b4 a5 b5
 have a6:=(HC2.out.cell 6).trans ((HS.out 6 (by decide) (by decide) (by decide) (by decide) (by decide)).trans HI0.out.ci.n)
 have b6:=(HD2.out.cell 6).trans HI0.out.ci.n
 have a7:=(HC2.out.cell 7).trans ((HS.out 7 (by decide) (by decide) (by decide) (by decide) (by decide)).trans HX7.out)
 have b7:=(HD2.out.cell 7).trans HX7.out
 have a9:=(HC2.out.cell 9).trans H.out.e9
 have b9:=(HD2.out.cell 9).trans HI0.out.e9
 have kl:=HC2.out.lt
 have kd:=HD2.out.lt
 have HX:=Lib.hid (eqBytesU (ca:=c.T.length+64) (cb:=c.ct) HW2.out.t.btM HI2.out.t HI0.out.tz)
 go_wp2_with fail
 refine HX.out.mono ?_;rintro e v3 ⟨rfl,hb⟩
 have HC3:=Lib.hid (HC2.out.below hb)
 have HD3:=Lib.hid (HD2.out.below hb)
 have HW3:=Lib.hid (HW2.out.below hb)
 have HI3:=Lib.hid (HI2.out.below hb)
 have HB3:=Lib.hid (HB2.out.trans (hb.mono HB2.out.size))
 clear hb kl kd HX HC2 HD2 HW2 HI2 HB2 a6 b6 a7 b7 a9 b9
 have a10:=(HC3.out.cell 10).trans H.out.e10
 have b10:=(HD3.out.cell 10).trans HI0.out.e10
 have kl:=HC3.out.lt
 have kd:=HD3.out.lt
 have HX:=Lib.hid (eqNodesU (ca:=c.R.length+64) (cb:=c.ce) HW3.out.r.toU HI3.out.r HI0.out.rz)
 go_wp2_with fail
 refine HX.out.mono ?_;rintro e v4 ⟨rfl,hb⟩
 have HC4:=Lib.hid (HC3.out.below hb)
 have HD4:=Lib.hid (HD3.out.below hb)
 have HW4:=Lib.hid (HW3.out.below hb)
 have HI4:=Lib.hid (HI3.out.below hb)
 have HB4:=Lib.hid (HB3.out.trans (hb.mono HB3.out.size))
 clear hb kl kd HX HC3 HD3 HW3 HI3 HB3 a10 b10
 have a11:=(HC4.out.cell 11).trans H.out.e11
 have b11:=(HD4.out.cell 11).trans HI0.out.e11
 have kl:=HC4.out.lt
 have kd:=HD4.out.lt
 have HX:=Lib.hid (eqPiecesU (ca:=c.cp) HW4.out.p HI4.out.p)
 go_wp2_with fail
 refine HX.out.mono ?_;rintro e v5 ⟨rfl,hb⟩
 have HC5:=Lib.hid (HC4.out.below hb)
 have HD5:=Lib.hid (HD4.out.below hb)
 have HW5:=Lib.hid (HW4.out.below hb)
 have HI5:=Lib.hid (HI4.out.below hb)
 have HB5:=Lib.hid (HB4.out.trans (hb.mono HB4.out.size))
 clear hb kl kd HX HC4 HD4 HW4 HI4 HB4 a11 b11
 have a12:=(HC5.out.cell 12).trans ((HS.out 12 (by decide) (by decide) (by decide) (by decide) (by decide)).trans HX12.out)
 have b12:=(HD5.out.cell 12).trans HX12.out
 have a13:=(HC5.out.cell 13).trans ((HS.out 13 (by decide) (by decide) (by decide) (by decide) (by decide)).trans HX13.out)
 have b13:=(HD5.out.cell 13).trans HX13.out
 have a14:=(HC5.out.cell 14).trans ((HS.out 14 (by decide) (by decide) (by decide) (by decide) (by decide)).trans HX14.out)
 have b14:=(HD5.out.cell 14).trans HX14.out
 have a15:=(HC5.out.cell 15).trans ((HS.out 15 (by decide) (by decide) (by decide) (by decide) (by decide)).trans HX15.out)
 have b15:=(HD5.out.cell 15).trans HX15.out
 have kl:=HC5.out.lt
 have kd:=HD5.out.lt
 have HT1:=Lib.hid HC5.out.tab
 have HT2:=Lib.hid HD5.out.tab
 rw[HTL.out]at HT1
 go_wp2_with (first|refine wpList_load_mid_g (by kernel_rfl) 89 _ rfl w.heap.size 16 rfl _ _ HT1.out Tryz.underlying89 rfl HTI.out ?_|refine wpList_load_mid_g (by kernel_rfl) 89 _ rfl (w.heap.size+1) 16 rfl _ _ HT2.out Tryz.underlying89 rfl HTI.out ?_)
 go_ret
 exact⟨rfl,HB5.out⟩
end
end Go.Proofs.YtfjbnpdffillbaaGreatDoor
namespace Go.Proofs.YtfjbnpdffillbaaGreatDoor
open Go.RowKit
theorem CmdB.row0 {w:World} {b:Nat} {l:List Value} (h:CmdB w b l):w.rangeAt b 0 l:=fun j v hv=>by rw[h.cell,Nat.zero_add,←hv]
section
variable {w w':World} {c:Cx} {base:Nat} {L:List Value} {ga gb gt gr gp:Nat}
set_option maxRecDepth 100000 in
set_option maxHeartbeats 3200000 in
theorem eqCmdU (h:WideC w base c L ga gb gt gr gp) (hi:CxIn w c):
  Calls Tryz.prog 40 #[.agg L.toArray,.agg c.l.toArray] w fun e w'=>e= .returned (.bool true)∧Below w.heap.size w w':=by
 have hb1:=((Below.refl w.heap.size w).alloc (Nat.le_refl _) (.cells L.toArray 91)).alloc (by simp) (.cells c.l.toArray 91)
 have HC:=Lib.hid ((CmdB.new h.cl w).below ((Below.refl _ _).alloc (Nat.le_refl _) (.cells c.l.toArray 91)))
 have HD:=Lib.hid (CmdB.new hi.ci.cl (w.alloc (.cells L.toArray 91)))
 have hsz:(w.alloc (.cells L.toArray 91)).heap.size=w.heap.size+1:=by simp
 rw[hsz]at HD
 have HB:=Lib.hid hb1
 have HX:=Lib.hid (alikeCmdU (h.below hb1) (hi.below hb1))
 obtain⟨x8,hx8⟩:=hi.ci.x.c8
 have HX8:=Lib.hid hx8
 have HX9:=Lib.hid ((h.same 8 (by decide) (by decide) (by decide) (by decide) (by decide)).trans hx8)
 have HI1:Hid ((Tryz.prog.info? 91).map (·.size)=some L.length):=Lib.hid (by rw[cmd_info,h.cl.len])
 have HI2:Hid ((Tryz.prog.info? 91).map (·.size)=some c.l.length):=Lib.hid (by rw[cmd_info,hi.ci.cl.len])
 clear h hi hb1 hsz hx8
 go_enter Tryz.func40,Tryz.ntmps40
 go_upto_region 1 with fail
 obtain⟨W,hW⟩: ∃W,(w.alloc (.cells L.toArray 91)).alloc (.cells c.l.toArray 91)=W:=⟨_,rfl⟩
 rw[hW]at HC HD HB HX ⊢
 clear hW
 have HR1:=Lib.hid HC.out.row0
 have HR2:=Lib.hid HD.out.row0
 have a8:=(HC.out.cell 8).trans HX9.out
 have b8:=(HD.out.cell 8).trans HX8.out
 have kl:=HC.out.lt
 have kd:=HD.out.lt
 go_wp2_with (first|refine wpList_load_mid_g (by kernel_rfl) 91 _ rfl w.heap.size 0 rfl _ _ HR1.out Tryz.underlying91 rfl HI1.out ?_|refine wpList_load_mid_g (by kernel_rfl) 91 _ rfl (w.heap.size+1) 0 rfl _ _ HR2.out Tryz.underlying91 rfl HI2.out ?_)
 refine HX.out.mono ?_;rintro e v1 ⟨rfl,hb⟩
 have HB1:=Lib.hid (HB.out.trans (hb.mono HB.out.size))
 clear hb a8 b8 kl kd
 go_wp2_with fail
 go_ret
 exact⟨rfl,HB1.out⟩
end
end Go.Proofs.YtfjbnpdffillbaaGreatDoor
