/- Parts: Hh Hi. -/
import Derived.Test.YtmaagpbjahjmhaaGreatDoorQ45
import Derived.Test.YtmaagpbjahjmhaaGreatDoorQ38
set_option maxHeartbeats 6400000
set_option maxRecDepth 100000
namespace Go.Proofs.YtmaagpbjahjmhaaGreatDoor
section
open Go.RowKit
theorem zCV.tab {w:World} {b:Nat} {l:List Value} (h:zCV w b l):w.rangeAt b 16 (l.drop 16):=fun j v hv=>by
 rw[h.cell,←hv,List.getElem?_drop]
section
variable {w w':World} {c:Cx} {base:Nat} {L:List Value} {ga gb gt gr gp:Nat}
theorem zL0 (h:zEn w base c L ga gb gt gr gp) (hi:zNJ w c):
  Calls Tryz.prog 15 #[.agg L.toArray] w fun e w'=>e= .returned (.bool true)∧Below w.heap.size w w':=by
 have HC:=zQr (zCV.new h.cl w)
 have hb1:=(zQs w.heap.size w).alloc (zQt _) (.cells L.toArray 36)
 have HB:=zQr hb1
 have H:=zQr h
 have HW:=zQr (h.below hb1)
 have HI:=zQr hi
 clear h hi hb1
 go_enter Tryz.func15,Tryz.ntmps15
 go_upto_region 1 with fail
 obtain⟨W,hW⟩: ∃W,w.alloc (.cells L.toArray 36)=W:=⟨_,rfl⟩
 rw[hW]at HC HB HW ⊢
 clear hW
 have k0:=(HC.out.cell 2).trans H.out.e2
 have kl:=HC.out.lt
 have HX:=zQr (zD7 (l:=c.ra) (n:=c.ra.length) HW.out.a.2 HW.out.a.1 (by have:=HI.out.ci.za;omega))
 go_wp2_with fail
 refine HX.out.mono ?_;rintro e v1 ⟨rfl,hb⟩
 have HC1:=zQr (HC.out.below hb)
 have HW1:=zQr (HW.out.below hb)
 have HB1:=zQr (HB.out.trans (hb.mono HB.out.size))
 clear hb k0 kl HX HC HW HB
 have k0:=(HC1.out.cell 5).trans H.out.e5
 have kl:=HC1.out.lt
 have HX:=zQr (zD7 (l:=c.rb) (n:=c.rb.length) HW1.out.b.2 HW1.out.b.1 (by have:=HI.out.ci.zb;omega))
 go_wp2_with fail
 refine HX.out.mono ?_;rintro e v2 ⟨rfl,hb⟩
 have HC2:=zQr (HC1.out.below hb)
 have HW2:=zQr (HW1.out.below hb)
 have HB2:=zQr (HB1.out.trans (hb.mono HB1.out.size))
 clear hb k0 kl HX HC1 HW1 HB1
 have k0:=(HC2.out.cell 9).trans H.out.e9
 have kl:=HC2.out.lt
 have HX:=zQr (zFr HW2.out.t HI.out.tz)
 go_wp2_with fail
 refine HX.out.mono ?_;rintro e v3 ⟨rfl,rfl⟩
 clear k0 kl HX
 have k0:=(HC2.out.cell 10).trans H.out.e10
 have kl:=HC2.out.lt
 have HX:=zQr (zD7 (l:=c.R) (n:=c.R.length) HW2.out.r.2 HW2.out.r.1 (by have:=HI.out.rz;omega))
 go_wp2_with fail
 refine HX.out.mono ?_;rintro e v4 ⟨rfl,hb⟩
 have HC4:=zQr (HC2.out.below hb)
 have HW4:=zQr (HW2.out.below hb)
 have HB4:=zQr (HB2.out.trans (hb.mono HB2.out.size))
 clear hb k0 kl HX HC2 HW2 HB2
 have k0:=(HC4.out.cell 11).trans H.out.e11
 have kl:=HC4.out.lt
 have HX:=zQr (zHs HW4.out.p HI.out.p.z)
 go_wp2_with fail
 refine HX.out.mono ?_;rintro e v5 ⟨rfl,hb⟩
 have HC5:=zQr (HC4.out.below hb)
 have HW5:=zQr (HW4.out.below hb)
 have HB5:=zQr (HB4.out.trans (hb.mono HB4.out.size))
 clear hb k0 kl HX HC4 HW4 HB4
 go_wp2_with fail
 go_ret
 exact⟨rfl,HB5.out⟩
theorem zNA (h:zEn w base c L ga gb gt gr gp) (hi:zNJ w c):
  Calls Tryz.prog 37 #[.agg L.toArray,.agg c.l.toArray] w fun e w'=>e= .returned (.bool true)∧Below w.heap.size w w':=by
 have hb1:=((zQs w.heap.size w).alloc (zQt _) (.cells L.toArray 36)).alloc (by simp) (.cells c.l.toArray 36)
 have HC:=zQr ((zCV.new h.cl w).below ((zQs _ _).alloc (zQt _) (.cells c.l.toArray 36)))
 have HD:=zQr (zCV.new hi.ci.cl (w.alloc (.cells L.toArray 36)))
 have hsz:(w.alloc (.cells L.toArray 36)).heap.size=w.heap.size+1:=by simp
 rw[hsz]at HD
 have HB:=zQr hb1
 have H:=zQr h
 have HW:=zQr (h.below hb1)
 have HI0:=zQr hi
 have HI:=zQr (hi.below hb1)
 have HTL:=zQr (show L.drop 16=c.l.drop 16 from List.ext_getElem? fun j=>by
  rw[List.getElem?_drop,List.getElem?_drop]
  exact h.same (16+j) (by omega) (by omega) (by omega) (by omega) (by omega))
 have hq:=zKq (xs:=(c.l.drop 16).toArray) (fun i hi2=>by
  obtain⟨v,hv⟩:=hi.ci.x.tab i hi2
  exact⟨v,by rw[List.getElem?_toArray,List.getElem?_drop];exact hv⟩)
 have HTI:Hid ((Tryz.prog.info? 34).map (·.size)=some (c.l.drop 16).length):=zQr (by rw[zKr,List.length_drop,hi.ci.cl.len])
 obtain⟨x7,hx7⟩:=hi.ci.x.c7
 obtain⟨x12,hx12⟩:=hi.ci.x.c12
 obtain⟨x13,hx13⟩:=hi.ci.x.c13
 obtain⟨x14,hx14⟩:=hi.ci.x.c14
 obtain⟨x15,hx15⟩:=hi.ci.x.c15
 have HS:Hid (∀j,j≠2→j≠5→j≠9→j≠10→j≠11→L[j]?=c.l[j]?):=zQr h.same
 have HX7:=zQr hx7
 have HX12:=zQr hx12
 have HX13:=zQr hx13
 have HX14:=zQr hx14
 have HX15:=zQr hx15
 clear h hi hb1 hsz hx7 hx12 hx13 hx14 hx15
 go_enter Tryz.func37,Tryz.ntmps37
 go_upto_region 1 with fail
 obtain⟨W,hW⟩: ∃W,(w.alloc (.cells L.toArray 36)).alloc (.cells c.l.toArray 36)=W:=⟨_,rfl⟩
 rw[hW]at HC HD HB HW HI ⊢
 clear hW
 have a0:=(HC.out.cell 0).trans ((HS.out 0 (by decide) (by decide) (by decide) (by decide) (by decide)).trans HI0.out.ci.a0)
 have b0:=(HD.out.cell 0).trans HI0.out.ci.a0
 have a1:=(HC.out.cell 1).trans ((HS.out 1 (by decide) (by decide) (by decide) (by decide) (by decide)).trans HI0.out.ci.a1)
 have b1:=(HD.out.cell 1).trans HI0.out.ci.a1
 have a2:=(HC.out.cell 2).trans H.out.e2
 have b2:=(HD.out.cell 2).trans HI0.out.ci.a2
 have kl:=HC.out.lt
 have kd:=HD.out.lt
 have HX:=zQr (zMt (ca:=c.ra.length+64) (cb:=c.ca) c.ka c.na (HW.out.a.toU) HI.out.a HI0.out.ci.za)
 go_wp2_with fail
 refine HX.out.mono ?_;rintro e v1 ⟨rfl,hb⟩
 have HC1:=zQr (HC.out.below hb)
 have HD1:=zQr (HD.out.below hb)
 have HW1:=zQr (HW.out.below hb)
 have HI1:=zQr (HI.out.below hb)
 have HB1:=zQr (HB.out.trans (hb.mono HB.out.size))
 clear hb kl kd HX HC HD HW HI HB a0 b0 a1 b1 a2 b2
 have a3:=(HC1.out.cell 3).trans ((HS.out 3 (by decide) (by decide) (by decide) (by decide) (by decide)).trans HI0.out.ci.b0)
 have b3:=(HD1.out.cell 3).trans HI0.out.ci.b0
 have a4:=(HC1.out.cell 4).trans ((HS.out 4 (by decide) (by decide) (by decide) (by decide) (by decide)).trans HI0.out.ci.b1)
 have b4:=(HD1.out.cell 4).trans HI0.out.ci.b1
 have a5:=(HC1.out.cell 5).trans H.out.e5
 have b5:=(HD1.out.cell 5).trans HI0.out.ci.b2
 have kl:=HC1.out.lt
 have kd:=HD1.out.lt
 have HX:=zQr (zMt (ca:=c.rb.length+64) (cb:=c.cb) c.kb c.nb (HW1.out.b.toU) HI1.out.b HI0.out.ci.zb)
 go_wp2_with fail
 refine HX.out.mono ?_;rintro e v2 ⟨rfl,hb⟩
 have HC2:=zQr (HC1.out.below hb)
 have HD2:=zQr (HD1.out.below hb)
 have HW2:=zQr (HW1.out.below hb)
 have HI2:=zQr (HI1.out.below hb)
 have HB2:=zQr (HB1.out.trans (hb.mono HB1.out.size))
 clear hb kl kd HX HC1 HD1 HW1 HI1 HB1 a3 b3 a4 b4 a5 b5
 have a6:=(HC2.out.cell 6).trans ((HS.out 6 (by decide) (by decide) (by decide) (by decide) (by decide)).trans HI0.out.ci.n)
 have b6:=(HD2.out.cell 6).trans HI0.out.ci.n
 have a7:=(HC2.out.cell 7).trans ((HS.out 7 (by decide) (by decide) (by decide) (by decide) (by decide)).trans HX7.out)
 have b7:=(HD2.out.cell 7).trans HX7.out
 have a9:=(HC2.out.cell 9).trans H.out.e9
 have b9:=(HD2.out.cell 9).trans HI0.out.e9
 have kl:=HC2.out.lt
 have kd:=HD2.out.lt
 have HX:=zQr (zKS (ca:=c.T.length+64) (cb:=c.ct) HW2.out.t.btM HI2.out.t HI0.out.tz)
 go_wp2_with fail
 refine HX.out.mono ?_;rintro e v3 ⟨rfl,hb⟩
 have HC3:=zQr (HC2.out.below hb)
 have HD3:=zQr (HD2.out.below hb)
 have HW3:=zQr (HW2.out.below hb)
 have HI3:=zQr (HI2.out.below hb)
 have HB3:=zQr (HB2.out.trans (hb.mono HB2.out.size))
 clear hb kl kd HX HC2 HD2 HW2 HI2 HB2 a6 b6 a7 b7 a9 b9
 have a10:=(HC3.out.cell 10).trans H.out.e10
 have b10:=(HD3.out.cell 10).trans HI0.out.e10
 have kl:=HC3.out.lt
 have kd:=HD3.out.lt
 have HX:=zQr (zKR (ca:=c.R.length+64) (cb:=c.ce) HW3.out.r.toU HI3.out.r HI0.out.rz)
 go_wp2_with fail
 refine HX.out.mono ?_;rintro e v4 ⟨rfl,hb⟩
 have HC4:=zQr (HC3.out.below hb)
 have HD4:=zQr (HD3.out.below hb)
 have HW4:=zQr (HW3.out.below hb)
 have HI4:=zQr (HI3.out.below hb)
 have HB4:=zQr (HB3.out.trans (hb.mono HB3.out.size))
 clear hb kl kd HX HC3 HD3 HW3 HI3 HB3 a10 b10
 have a11:=(HC4.out.cell 11).trans H.out.e11
 have b11:=(HD4.out.cell 11).trans HI0.out.e11
 have kl:=HC4.out.lt
 have kd:=HD4.out.lt
 have HX:=zQr (zMs (ca:=c.cp) HW4.out.p HI4.out.p)
 go_wp2_with fail
 refine HX.out.mono ?_;rintro e v5 ⟨rfl,hb⟩
 have HC5:=zQr (HC4.out.below hb)
 have HD5:=zQr (HD4.out.below hb)
 have HW5:=zQr (HW4.out.below hb)
 have HI5:=zQr (HI4.out.below hb)
 have HB5:=zQr (HB4.out.trans (hb.mono HB4.out.size))
 clear hb kl kd HX HC4 HD4 HW4 HI4 HB4 a11 b11
 have a12:=(HC5.out.cell 12).trans ((HS.out 12 (by decide) (by decide) (by decide) (by decide) (by decide)).trans HX12.out)
 have b12:=(HD5.out.cell 12).trans HX12.out
 have a13:=(HC5.out.cell 13).trans ((HS.out 13 (by decide) (by decide) (by decide) (by decide) (by decide)).trans HX13.out)
 have b13:=(HD5.out.cell 13).trans HX13.out
 have a14:=(HC5.out.cell 14).trans ((HS.out 14 (by decide) (by decide) (by decide) (by decide) (by decide)).trans HX14.out)
 have b14:=(HD5.out.cell 14).trans HX14.out
 have a15:=(HC5.out.cell 15).trans ((HS.out 15 (by decide) (by decide) (by decide) (by decide) (by decide)).trans HX15.out)
 have b15:=(HD5.out.cell 15).trans HX15.out
 have kl:=HC5.out.lt
 have kd:=HD5.out.lt
 have HT1:=zQr HC5.out.tab
 have HT2:=zQr HD5.out.tab
 rw[HTL.out]at HT1
 go_wp2_with (first|refine zAi (by kernel_rfl) 34 _ rfl w.heap.size 16 rfl _ _ HT1.out Tryz.underlying34 rfl HTI.out ?_|refine zAi (by kernel_rfl) 34 _ rfl (w.heap.size+1) 16 rfl _ _ HT2.out Tryz.underlying34 rfl HTI.out ?_)
 go_ret
 exact⟨rfl,HB5.out⟩
end
end
section
open Go.RowKit
theorem zCV.row0 {w:World} {b:Nat} {l:List Value} (h:zCV w b l):w.rangeAt b 0 l:=fun j v hv=>by rw[h.cell,Nat.zero_add,←hv]
section
variable {w w':World} {c:Cx} {base:Nat} {L:List Value} {ga gb gt gr gp:Nat}
theorem zPv (h:zEn w base c L ga gb gt gr gp) (hi:zNJ w c):
  Calls Tryz.prog 9 #[.agg L.toArray,.agg c.l.toArray] w fun e w'=>e= .returned (.bool true)∧Below w.heap.size w w':=by
 have hb1:=((zQs w.heap.size w).alloc (zQt _) (.cells L.toArray 36)).alloc (by simp) (.cells c.l.toArray 36)
 have HC:=zQr ((zCV.new h.cl w).below ((zQs _ _).alloc (zQt _) (.cells c.l.toArray 36)))
 have HD:=zQr (zCV.new hi.ci.cl (w.alloc (.cells L.toArray 36)))
 have hsz:(w.alloc (.cells L.toArray 36)).heap.size=w.heap.size+1:=by simp
 rw[hsz]at HD
 have HB:=zQr hb1
 have HX:=zQr (zNA (h.below hb1) (hi.below hb1))
 obtain⟨x8,hx8⟩:=hi.ci.x.c8
 have HX8:=zQr hx8
 have HX9:=zQr ((h.same 8 (by decide) (by decide) (by decide) (by decide) (by decide)).trans hx8)
 have HI1:Hid ((Tryz.prog.info? 36).map (·.size)=some L.length):=zQr (by rw[zCe,h.cl.len])
 have HI2:Hid ((Tryz.prog.info? 36).map (·.size)=some c.l.length):=zQr (by rw[zCe,hi.ci.cl.len])
 clear h hi hb1 hsz hx8
 go_enter Tryz.func9,Tryz.ntmps9
 go_upto_region 1 with fail
 obtain⟨W,hW⟩: ∃W,(w.alloc (.cells L.toArray 36)).alloc (.cells c.l.toArray 36)=W:=⟨_,rfl⟩
 rw[hW]at HC HD HB HX ⊢
 clear hW
 have HR1:=zQr HC.out.row0
 have HR2:=zQr HD.out.row0
 have a8:=(HC.out.cell 8).trans HX9.out
 have b8:=(HD.out.cell 8).trans HX8.out
 have kl:=HC.out.lt
 have kd:=HD.out.lt
 go_wp2_with (first|refine zAi (by kernel_rfl) 36 _ rfl w.heap.size 0 rfl _ _ HR1.out Tryz.underlying36 rfl HI1.out ?_|refine zAi (by kernel_rfl) 36 _ rfl (w.heap.size+1) 0 rfl _ _ HR2.out Tryz.underlying36 rfl HI2.out ?_)
 refine HX.out.mono ?_;rintro e v1 ⟨rfl,hb⟩
 have HB1:=zQr (HB.out.trans (hb.mono HB.out.size))
 clear hb a8 b8 kl kd
 go_wp2_with fail
 go_ret
 exact⟨rfl,HB1.out⟩
end
end
end Go.Proofs.YtmaagpbjahjmhaaGreatDoor
