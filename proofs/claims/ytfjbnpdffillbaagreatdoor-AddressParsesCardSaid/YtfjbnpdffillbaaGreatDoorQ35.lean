/- Parts: Fs. -/
import Derived.Test.YtfjbnpdffillbaaGreatDoorQ31
import Derived.Test.YtfjbnpdffillbaaGreatDoorQ33
import Derived.Test.YtfjbnpdffillbaaGreatDoorQ30
import Derived.Test.YtfjbnpdffillbaaGreatDoorQ16
import Derived.Test.YtfjbnpdffillbaaGreatDoorQ34
import Derived.Test.YtfjbnpdffillbaaGreatDoorQ26
import Derived.Lib.SlBytesConst
set_option maxHeartbeats 6400000
set_option maxRecDepth 100000
namespace Go.Proofs.YtfjbnpdffillbaaGreatDoor
open Go.RowKit
theorem zN6: ∀c,c<128→Lib.indexByte zO6.data.toList (((c:Nat):Int).toNat.toUInt8)=zNo c:=by decide+kernel
theorem zHr {c:Nat} (h:c<128):zOZ c:=fun w=>by
 refine(shl.strings_IndexRune_ascii zO6 c w (by omega) (by omega)).mono ?_
 rintro e w' ⟨rfl,rfl⟩
 exact⟨by rw[zN6 c h],zPg _ _⟩
theorem zLh: ∀j,wT.getD j 0<128:=fun j=>by
 by_cases h:j<7
 ·rcases(show j=0∨j=1∨j=2∨j=3∨j=4∨j=5∨j=6 by omega)with rfl|rfl|rfl|rfl|rfl|rfl|rfl<;>decide
 ·rw[zPo,zQH (by show 7≤j;omega)];decide
noncomputable def worksL:List Value:=
 (((((Tryz.zeroCells91.toList.set 0 (.int .i8 1)).set 1 (.int .i64 2)).set 2 (.slice none 0 0)).set 3 (.int .i8 2)).set 4 (.int .i64 0)).set 5 (.slice none 0 0)
theorem zIM:zNm worksL:=(((((zNm.zero.set 0 rfl).set 1 rfl).set 2 rfl).set 3 rfl).set 4 rfl).set 5 rfl
theorem zLe:zPB worksL.toArray 1 2 none 0 0 2 0 none 0 0 false:=by
 have hz:=zIE
 have h6:Tryz.zeroCells91.toList[6]?=some (.bool false):=by kernel_rfl
 refine zOW (by simp[worksL,hz]) (by simp[worksL,hz]) (by simp[worksL,hz]) (by simp[worksL,hz]) (by simp[worksL,hz]) (by simp[worksL,hz]) ?_
 unfold worksL
 rw[List.getElem?_set_ne (by decide),List.getElem?_set_ne (by decide),List.getElem?_set_ne (by decide),List.getElem?_set_ne (by decide),List.getElem?_set_ne (by decide),List.getElem?_set_ne (by decide)]
 exact h6
theorem zJN:zGD true [zCe 97]=some [97]:=by kernel_rfl
theorem zHo:zD7 true [zCe 97]= .ok [47,97,47]:=by kernel_rfl
theorem zIL:shapedN [zCe 97]=true:=by kernel_rfl
theorem zM2 (w:World) (l:List Nat) (fz:Nat × Nat):zO2 (w.alloc (.cells (u8s l).toArray 5 fz)) (some ⟨w.heap.size,0,none⟩) l:=fun _=>
 ⟨_,0,rfl,fun j hj=>by
  rw[Nat.zero_add,zPu _ _ j _ _ fz (zPs w _)]
  simp[u8s,hj,List.getD_eq_getElem?_getD]⟩
theorem zKf {w:World} (ht:zMw w):Calls Tryz.prog 23 #[] w (fun e w'=>e= .returned (.bool true)∧Below w.heap.size w w'):=by
 have HT:=zPf ht
 have hcv:=Lib.run_convert_bytes_const (P:=Tryz.prog) w 22 5 #[.int .u8 49,.int .u8 50,.int .u8 44,.int .u8 47,.int .u8 97,.int .u8 47,.int .u8 112] 7 7 Tryz.underlying22 Tryz.underlying5
 rw[show(#[Value.int .u8 49,.int .u8 50,.int .u8 44,.int .u8 47,.int .u8 97,.int .u8 47,.int .u8 112]:Array Value).size=7 from rfl]at hcv
 have HX:=zPf (show zO2 (w.alloc (.cells #[.int .u8 49,.int .u8 50,.int .u8 44,.int .u8 47,.int .u8 97,.int .u8 47,.int .u8 112] 5 (7,8))) (some ⟨w.heap.size,0,none⟩) wT from zM2 w wT (7,8))
 have HB0:=zPf ((zPg w.heap.size w).alloc (zPh _) (.cells #[.int .u8 49,.int .u8 50,.int .u8 44,.int .u8 47,.int .u8 97,.int .u8 47,.int .u8 112] 5 (7,8)))
 clear ht
 go_enter Tryz.func23,Tryz.ntmps23
 go_wp2_with fail
 refine(zIN (cap:=7) HX.out (by decide) (by intro g o s e;injection e with e;injection e with _ _ e;cases e) (fun j=>by have:=zLh j;omega)).mono ?_
 rintro e w1 ⟨wb,ob,cb,rfl,hwb,hw1,hb1⟩
 have HB1:=zPf (HB0.out.trans (hb1.mono HB0.out.size))
 have hwb':w.heap.size≤wb:=by have:=HB0.out.size;omega
 have HW1:=zPf hw1
 clear hwb hw1 hb1 HX HB0 hcv
 go_wp2_with fail
 refine(zEa HW1.out false (fun j _=>zHr (zLh j))).mono ?_
 rintro e w2 ⟨⟨v2,he,hn2,hw2⟩,hb2⟩
 rw[zOf]at he hn2 hw2
 subst he
 obtain⟨o2,c2,rfl⟩:=hn2.form
 have HB2:=zPf (HB1.out.trans ((hb2.mono HB1.out.size).to_below hwb'))
 have HW2:=zPf hw2
 clear hn2 hw2 hb2 HB1 HW1
 have HV3:=zPf (HW2.out.alloc (.cells #[.int .i8 1,.int .i64 12,.slice o2 0 c2] 54))
 have HA3:=zPf (AdB.new w2 (.int .i8 1) (.int .i64 12) (.slice o2 0 c2))
 have HB3:=zPf (HB2.out.alloc HB2.out.size (.cells #[.int .i8 1,.int .i64 12,.slice o2 0 c2] 54))
 go_upto_region 3 with fail
 obtain⟨a1,ha1⟩: ∃a,w2.heap.size=a:=⟨_,rfl⟩
 obtain⟨W3,hW3⟩: ∃W,w2.alloc (.cells #[.int .i8 1,.int .i64 12,.slice o2 0 c2] 54)=W:=⟨_,rfl⟩
 have hne1:a1≠wb:=by have:=HW2.out.lt;omega
 have hw2a:w.heap.size≤a1:=by have:=HB2.out.size;omega
 rw[hW3]at HV3 HA3 HB3 ⊢
 rw[ha1]at HA3 ⊢
 clear hW3 ha1 HB2 HW2
 have HTK:=zPf (zDH HV3.out)
 rw[if_pos (show 2<wT.length by decide)]at HTK
 go_wp2_with fail
 refine HTK.out.mono ?_;rintro e w4 ⟨rfl,hw4,hb4⟩
 have HB4:=zPf (HB3.out.trans ((hb4.mono HB3.out.size).to_below hwb'))
 have HA4:=zPf (HA3.out.nbut hb4 HA3.out.lt hne1)
 have HW4:=zPf (show WdS w4 wb ob cb wT 3 from hw4)
 clear hw4 hb4 HTK HV3 HA3 HB3
 go_wp2_with fail
 refine(zEa HW4.out false (fun j _=>zHr (zLh j))).mono ?_
 rintro e w5 ⟨⟨v5,he,hn5,hw5⟩,hb5⟩
 rw[zOe]at he hn5 hw5
 subst he
 obtain⟨o5,c5,rfl,_,hv5⟩:=hn5.toV2 (by decide) (by decide)
 have HB5:=zPf (HB4.out.trans ((hb5.mono HB4.out.size).to_below hwb'))
 have HA5:=zPf (HA4.out.nbut hb5 HA4.out.lt hne1)
 have HW5:=zPf hw5
 have HN5:=zPf hv5
 clear hn5 hw5 hb5 hv5 HB4 HA4 HW4
 have HV6:=zPf (HW5.out.alloc (.cells #[.int .i8 3,.int .i64 0,.slice o5 1 c5] 54))
 have HC6:=zPf (AdB.new w5 (.int .i8 3) (.int .i64 0) (.slice o5 1 c5))
 have hb6:=(zPg w5.heap.size w5).alloc (zPh _) (.cells #[.int .i8 3,.int .i64 0,.slice o5 1 c5] 54)
 have HA6:=zPf (HA5.out.below hb6)
 have HN6:=zPf (HN5.out.below hb6)
 have HB6:=zPf (HB5.out.trans (hb6.mono HB5.out.size))
 go_upto_region 5 with fail
 obtain⟨a2,ha2⟩: ∃a,w5.heap.size=a:=⟨_,rfl⟩
 obtain⟨W6,hW6⟩: ∃W,w5.alloc (.cells #[.int .i8 3,.int .i64 0,.slice o5 1 c5] 54)=W:=⟨_,rfl⟩
 have hw5a:w.heap.size≤a2:=by have:=HB5.out.size;omega
 rw[hW6]at HV6 HC6 HA6 HN6 HB6 ⊢
 rw[ha2]at HC6 ⊢
 clear hW6 ha2 hb6 HA5 HN5 HB5 HW5
 have HT6:=zPf (HT.out.below HB6.out)
 have k0:=HC6.out.c0
 have k1:=HC6.out.c1
 have k2:=HC6.out.c2
 go_wp2_with fail
 refine(zJB (cap:=c5) HN6.out (by decide) zIL HT6.out true (fun s hs=>by rw[zJN]at hs;cases hs;decide)).mono ?_
 rintro e w7 ⟨hr7,hb7⟩
 rw[zHo]at hr7
 obtain⟨v7,rfl,hv7⟩:=hr7
 obtain⟨o7,c7,hv7e,hin7⟩:=zMq.of_own (L:=[47,97,47]) hv7 (by decide)
 have hv7':v7= .slice o7 3 c7:=hv7e
 subst hv7'
 have HB7:=zPf (HB6.out.trans (hb7.mono HB6.out.size))
 have HA7:=zPf (HA6.out.below hb7)
 have HC7:=zPf (HC6.out.below hb7)
 have HV7:=zPf (HV6.out.below hb7)
 have HI7:=zPf hin7
 clear hb7 hv7 hv7e hin7 k0 k1 k2 HB6 HA6 HC6 HV6 HN6 HT6
 have k0:=HA7.out.c0
 have k1:=HA7.out.c1
 have j0:=HC7.out.c0
 have j2:=HC7.out.c2
 go_wp2_with fail
 refine(zKE HV7.out).mono ?_;rintro e w8 ⟨rfl,rfl⟩
 have hcv:=Lib.run_convert_bytes_const (P:=Tryz.prog) w7 22 5 #[.int .u8 47,.int .u8 97,.int .u8 47] 3 3 Tryz.underlying22 Tryz.underlying5
 rw[show(#[Value.int .u8 47,.int .u8 97,.int .u8 47]:Array Value).size=3 from rfl]at hcv
 have HL8:=zPf (zMq.made (W:=w7.alloc (.cells #[.int .u8 47,.int .u8 97,.int .u8 47] 5 (3,4))) (g:=w7.heap.size) (L:=[47,97,47]) (zPs _ _) (by decide))
 have hb8:Below w7.heap.size w7 (w7.alloc (.cells #[.int .u8 47,.int .u8 97,.int .u8 47] 5 (3,4))):=(zPg _ _).alloc (zPh _) _
 have HI8:=zPf (HI7.out.below hb8)
 have HB8:=zPf (HB7.out.trans (hb8.mono HB7.out.size))
 clear hb8
 go_wp2_with fail
 refine(zI4 (ca:=c7) (cb:=3) HI8.out HL8.out).mono ?_
 rintro e w9 ⟨rfl,hb9⟩
 rw[show decide (([47,97,47]:List Nat)=[47,97,47])=true by decide]
 have HB9:=zPf (HB8.out.trans (hb9.mono HB8.out.size))
 clear hb9 hcv HL8 HI8 HI7 HB7 HB8 HA7 HC7 HV7 k0 k1 j0 j2
 clear HT
 go_wp2_with fail
 refine(zMR (n:=1) (by omega)).mono ?_
 rintro e w10 ⟨gb,bb,rfl,hgb,hbb,hg,hb⟩
 have hgb':w.heap.size≤gb:=by have:=HB9.out.size;omega
 have hbb':w.heap.size≤bb:=by have:=HB9.out.size;omega
 have hst:=zIM.store w10
 unfold worksL at hst
 have HB10:=zPf (HB9.out.trans (hb.mono HB9.out.size))
 have hlg:=hg.lt
 have hlb:=hg.ltb
 have HG10:=zPf hg
 clear hgb hbb hg hb HB9
 go_upto_region 10 with fail
 have HV:=zPf zLe
 have HL:=zPf zIM
 obtain⟨W,hW⟩: ∃W,w10.alloc (.cells worksL.toArray 91)=W:=⟨_,rfl⟩
 have hcb:W.heap[w10.heap.size]?=some (.cells worksL.toArray 91 (0,0)):=by rw[←hW];exact zPs w10 _
 have hb2:=(zPg w10.heap.size w10).alloc (zPh _) (.cells worksL.toArray 91)
 have HG11:=zPf (HG10.out.below hb2)
 have HB11:=zPf (HB10.out.trans (hb2.mono HB10.out.size))
 rw[hW]at HG11 HB11
 unfold worksL at hW
 rw[hW]
 obtain⟨cl,hcl⟩: ∃cl,worksL=cl:=⟨_,rfl⟩
 obtain⟨cc,hcc⟩: ∃cc,w10.heap.size=cc:=⟨_,rfl⟩
 rw[hcl]at HV HL hcb
 rw[hcc]at hcb hlg hlb ⊢
 have HC11:=zPf hcb
 have HCZ:=zPf (show(Tryz.prog.info? 91).map (·.size)=some cl.toArray.size by rw[zKY,List.size_toArray,HL.out.len])
 clear hW hcl hcc hst hcb hb2 HG10 HB10
 have HK12:=zPf (zEJ (w:=W) (i:=0) (f:=44) HV.out HG11.out (by omega) (by decide) (by decide) 1 false)
 rw[show zDo 1 2 2 0 false 1 false false false=(false,false,false)by decide]at HK12
 go_wp2_with (refine wpList_load_row rfl 91 _ rfl cc rfl _ _ (0,0) _ HC11.out Tryz.underlying91 rfl HCZ.out ?_)
 refine HK12.out.mono ?_;rintro e w12 ⟨rfl,hg,hb⟩
 have HG12:=zPf hg
 have HC12:=zPf ((hb.block cc (lt_of_block HC11.out) (by omega)).trans HC11.out)
 have HB12:=zPf (HB11.out.trans ((hb.mono HB11.out.size).to_below hbb'))
 clear hg hb HK12 HG11 HC11 HB11
 have HK13:=zPf (zEJ (w:=w12) (i:=0) (f:=44) HV.out HG12.out (by omega) (by decide) (by decide) 2 false)
 rw[show zDo 1 2 2 0 false 2 false (if 0=0 then false else false) false=(true,false,true)by decide]at HK13
 go_wp2_with (refine wpList_load_row rfl 91 _ rfl cc rfl _ _ (0,0) _ HC12.out Tryz.underlying91 rfl HCZ.out ?_)
 refine HK13.out.mono ?_;rintro e w13 ⟨rfl,hg,hb⟩
 have HG13:=zPf hg
 have HC13:=zPf ((hb.block cc (lt_of_block HC12.out) (by omega)).trans HC12.out)
 have HB13:=zPf (HB12.out.trans ((hb.mono HB12.out.size).to_below hbb'))
 clear hg hb HK13 HG12 HC12 HB12
 go_wp2_with fail
 refine(zIm HG13.out (i:=0) (by omega)).mono ?_;rintro e w14 ⟨rfl,rfl⟩
 rw[if_pos rfl]
 have HK15:=zPf (zEJ (w:=w13) (i:=0) (f:=44) HV.out HG13.out (by omega) (by decide) (by decide) 3 true)
 rw[show zDo 1 2 2 0 false 3 true (if 0=0 then true else(if 0=0 then false else false)) false=(true,true,false)by decide]at HK15
 go_wp2_with (refine wpList_load_row rfl 91 _ rfl cc rfl _ _ (0,0) _ HC13.out Tryz.underlying91 rfl HCZ.out ?_)
 refine HK15.out.mono ?_;rintro e w15 ⟨rfl,hg,hb⟩
 have HG15:=zPf hg
 have HC15:=zPf ((hb.block cc (lt_of_block HC13.out) (by omega)).trans HC13.out)
 have HB15:=zPf (HB13.out.trans ((hb.mono HB13.out.size).to_below hbb'))
 clear hg hb HK15 HG13 HC13 HB13
 go_wp2_with fail
 refine(zIm HG15.out (i:=0) (by omega)).mono ?_;rintro e w16 ⟨rfl,rfl⟩
 rw[if_pos rfl]
 go_wp2_with fail
 go_ret
 exact⟨rfl,HB15.out⟩
end Go.Proofs.YtfjbnpdffillbaaGreatDoor
