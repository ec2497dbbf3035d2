/- Parts: Vk Vl Vm Vn Vo. -/
import Derived.Test.YtmaagpbjahjmhaaGreatDoorQ17
import Derived.Test.YtmaagpbjahjmhaaGreatDoorQ21
import Derived.Test.YtmaagpbjahjmhaaGreatDoorQ22
import Derived.Test.YtmaagpbjahjmhaaGreatDoorQ28
import Derived.Test.YtmaagpbjahjmhaaGreatDoorQ6
import Derived.Test.YtmaagpbjahjmhaaGreatDoorQ18
import Derived.Deep.DeepCutAuto
set_option maxHeartbeats 6400000
set_option maxRecDepth 100000
namespace Go.Proofs.YtmaagpbjahjmhaaGreatDoor
section
open Go.RowKit
theorem zHq {c:Nat} (h:c<256):zPQ c:=by
 by_cases hc:c<128
 ·exact zNS hc
 ·exact zLy (by omega) h
section
variable {w w' w1:World} {E:PE} {i j k:Nat} {l:List Value}
theorem Res.bad {r:Nat × Nat} {e:Ending} (h:Res E w (.error r) l e w'): ∃c,e= .panicked [{ v:= .iface 78 (.pointer (some ⟨c,0,none⟩)),recovered:=false }]:=by
 obtain⟨_,l',j,⟨fb,a,z,rfl,_⟩,_⟩:=h
 exact⟨fb,rfl⟩
theorem Res.up {r:Nat × Nat} {l':List Value} {e:Ending} (k:zAU w w1 E.W) (h:Res E w1 (.error r) l e w'):Res E w (.error r) l' e w':=⟨k.tr h.1,h.2⟩
theorem Res.here {er:Nat} {e:Ending} {l':List Value} (k:zAU w w1 E.W) (h1:RS E w1 i l) (hp:Pan E w' l er j e) (hb:Below w1.heap.size w1 w'):Res E w (.error (er,j)) l' e w':=
 ⟨k.tr (zAU.bel hb),l,i,hp,h1.below hb⟩
theorem zKU (h:RS E w i l) (hi:i<E.T.length):Calls Tryz.prog 142 #[.pointer (some ⟨E.rb,0,none⟩)] w fun e w'=>e= .returned (.int .u8 (E.T.getD i 0:Nat))∧RS E w' (i+1) l∧zAU w w' E.W:=by
 have r0:=h.r0
 have H:=zQr h
 have HT:=zB5 h.v
 rw[if_pos hi,zQ2 hi]at HT
 have HT:=zQr HT
 clear h hi
 go_enter Tryz.func142,Tryz.ntmps142
 go_wp2_with fail
 refine HT.out.mono ?_;rintro e w1 ⟨rfl,hv1,hb1⟩
 have H1:=zQr (H.out.words hb1 hv1)
 have K1:=zQr (zAU.nbut (E:=E) hb1)
 clear hv1 hb1 r0 HT
 go_wp2_with fail
 go_ret
 exact⟨rfl,H1.out,K1.out⟩
theorem zIq (h:RS E w i l) (hl:l[8]?=some (.int .i64 j)) (hi:E.T.length≤i):Calls Tryz.prog 142 #[.pointer (some ⟨E.rb,0,none⟩)] w (Res E w (.error (70,j)) l):=by
 have r0:=h.r0
 have H:=zQr h
 have HT:=zB5 h.v
 rw[if_neg (by omega),zQ3 (by omega)]at HT
 have HT:=zQr HT
 have HL:=zQr hl
 clear h hi hl
 go_enter Tryz.func142,Tryz.ntmps142
 go_wp2_with fail
 refine HT.out.mono ?_;rintro e w1 ⟨rfl,hv1,hb1⟩
 have H1:=zQr (H.out.words hb1 hv1)
 have K1:=zQr (zAU.nbut (E:=E) hb1)
 clear hv1 hb1 r0 HT
 go_wp2_with fail
 refine(zA8 (er:=70) H1.out HL.out (by decide)).mono ?_;rintro e w2 ⟨hp,hb2⟩
 have HR:Hid (Res E w (.error (70,j)) l e w2):=zQr (Res.here K1.out H1.out hp hb2)
 obtain⟨fb,rfl⟩:=HR.out.bad
 clear hp hb2
 go_wp2_with fail
 exact⟨rfl,HR.out⟩
theorem zHP (h:RS E w i l) {d:Nat} (hd:d<256) {ends:Bool} {L:List Mk} (hq:zBf E.T d ends i=some (L,j)):
  Calls Tryz.prog 143 #[.pointer (some ⟨E.rb,0,none⟩),.int .u8 (d:Nat),.bool ends] w fun e w'=>(∃v,e= .returned v∧Mks w' w.heap.size v L)∧RS E w' j l∧zAU w w' E.W:=by
 have r0:=h.r0
 have H:=zQr h
 have HT:=zDm h.v hd ends
 rw[hq]at HT
 have HT:=zQr HT
 clear h hd hq
 go_enter Tryz.func143,Tryz.ntmps143
 go_wp2_with fail
 refine HT.out.mono ?_;rintro e w1 ⟨⟨v,rfl,hm,hv1⟩,hb1⟩
 have H1:=zQr (H.out.words hb1 hv1)
 have K1:=zQr (zAU.nbut (E:=E) hb1)
 have HM:=zQr hm
 clear hv1 hb1 r0 HT hm
 go_wp2_with fail
 refine zGE.mono ?_;rintro e w2 ⟨rfl,rfl⟩
 go_wp2_with fail
 go_ret
 exact⟨⟨_,rfl,HM.out⟩,H1.out,K1.out⟩
theorem zFa (h:RS E w i l) (hl:l[8]?=some (.int .i64 j)) {d:Nat} (hd:d<256) {ends:Bool} (hq:zBf E.T d ends i=none):
  Calls Tryz.prog 143 #[.pointer (some ⟨E.rb,0,none⟩),.int .u8 (d:Nat),.bool ends] w (Res E w (.error (70,j)) l):=by
 have r0:=h.r0
 have H:=zQr h
 have HT:=zDm h.v hd ends
 rw[hq]at HT
 have HT:=zQr HT
 have HL:=zQr hl
 clear h hd hq hl
 go_enter Tryz.func143,Tryz.ntmps143
 go_wp2_with fail
 refine HT.out.mono ?_;rintro e w1 ⟨⟨rfl,hv1⟩,hb1⟩
 have H1:=zQr (H.out.words hb1 hv1)
 have K1:=zQr (zAU.nbut (E:=E) hb1)
 clear hv1 hb1 r0 HT
 go_wp2_with fail
 refine(zA8 (er:=70) H1.out HL.out (by decide)).mono ?_;rintro e w2 ⟨hp,hb2⟩
 have HR:Hid (Res E w (.error (70,j)) l e w2):=zQr (Res.here K1.out H1.out hp hb2)
 obtain⟨fb,rfl⟩:=HR.out.bad
 clear hp hb2
 go_wp2_with fail
 exact⟨rfl,HR.out⟩
theorem zJc (h:RS E w i l) (hk:l[k]?=some (.bool false)) (hi:i<E.T.length):
  Calls Tryz.prog 183 #[.pointer (some ⟨E.rb,0,none⟩),.pointer (some ⟨E.cb,k,none⟩)] w (Res E w (.ok (i+1)) (l.set k (.bool true))):=by
 have r0:=(h.set k (v:= .bool true) rfl).r0
 have ck:=h.cc hk
 have fk:=h.cf k
 have H1:=zQr (h.set k (v:= .bool true) rfl)
 have K1:=zQr (zAU.put E w k (.bool true))
 have HT:=zB5 H1.out.v
 rw[if_pos hi,zQ2 hi]at HT
 have HT:=zQr HT
 clear h hi hk
 go_enter Tryz.func183,Tryz.ntmps183
 go_upto_region 3 with fail
 obtain⟨W,hW⟩: ∃W,w.setCell ⟨E.cb,k,none⟩ (.bool true)=W:=⟨_,rfl⟩
 rw[hW]at r0 H1 K1 HT ⊢
 clear hW ck fk
 go_wp2_with fail
 refine HT.out.mono ?_;rintro e w1 ⟨rfl,hv1,hb1⟩
 have H2:=zQr (H1.out.words hb1 hv1)
 have K2:=zQr (K1.out.tr (zAU.nbut (E:=E) hb1))
 clear hv1 hb1 r0 HT
 go_wp2_with fail
 go_end0
 exact⟨K2.out,rfl,H2.out⟩
theorem zHV (h:RS E w i l) (hl:l[8]?=some (.int .i64 j)) (hk:l[k]?=some (.bool true)):
  Calls Tryz.prog 183 #[.pointer (some ⟨E.rb,0,none⟩),.pointer (some ⟨E.cb,k,none⟩)] w (Res E w (.error (74,j)) l):=by
 have ck:=h.cc hk
 have H:=zQr h
 have HL:=zQr hl
 clear h hl hk
 go_enter Tryz.func183,Tryz.ntmps183
 go_wp2_with fail
 refine(zA8 (er:=74) H.out HL.out (by decide)).mono ?_;rintro e w2 ⟨hp,hb2⟩
 have HR:Hid (Res E w (.error (74,j)) l e w2):=zQr (Res.here (zAU.refl _ _) H.out hp hb2)
 obtain⟨fb,rfl⟩:=HR.out.bad
 clear hp hb2
 go_wp2_with fail
 exact⟨rfl,HR.out⟩
theorem zKV (h:RS E w i l) {c:Nat} (hq:zCF E.T c i=some j):
  Calls Tryz.prog 99 #[.pointer (some ⟨E.rb,0,none⟩),.int .u8 (c:Nat)] w fun e w'=>e= .returned (.bool true)∧RS E w' j l∧zAU w w' E.W:=by
 have r0:=h.r0
 have H:=zQr h
 unfold zCF at hq
 split at hq
 case isFalse=>cases hq
 rename_i h0
 injection hq with hq
 have HJ:=zQr hq
 have HP:=zAz h.v
 rw[zQ2 h0.1,h0.2]at HP
 have HP:=zQr HP
 have HI:=zQr h0
 clear h h0 hq
 have hcc:((c:Int) !=(c:Int))=false:=by simp
 go_enter Tryz.func99,Tryz.ntmps99
 go_wp2_with fail
 refine HP.out.mono ?_;rintro e w1 ⟨rfl,hb1⟩
 have H1:=zQr (H.out.below hb1)
 have K1:=zQr (zAU.bel (S:=E.W) hb1)
 have HT:=zB5 H1.out.v
 rw[if_pos HI.out.1,zQ2 HI.out.1,HI.out.2]at HT
 have HT:=zQr HT
 clear hb1 r0 HP
 have r0:=H1.out.r0
 go_wp2_with fail
 refine HT.out.mono ?_;rintro e w2 ⟨rfl,hv2,hb2⟩
 have H2:=zQr (H1.out.words hb2 hv2)
 have K2:=zQr (K1.out.tr (zAU.nbut (E:=E) hb2))
 clear hv2 hb2 r0 HT
 have r0:=H2.out.r0
 go_wp2_with fail
 refine(zDq H2.out.v).mono ?_;rintro e w3 ⟨⟨_,rfl⟩,hv3,hb3⟩
 rw[HJ.out]at hv3
 have H3:=zQr (H2.out.words hb3 hv3)
 have K3:=zQr (K2.out.tr (zAU.nbut (E:=E) hb3))
 clear hv3 hb3 r0
 go_wp2_with fail
 go_ret
 exact⟨rfl,H3.out,K3.out⟩
theorem zKW (h:RS E w i l) {c:Nat} (hq:zCF E.T c i=none):
  Calls Tryz.prog 99 #[.pointer (some ⟨E.rb,0,none⟩),.int .u8 (c:Nat)] w fun e w'=>e= .returned (.bool false)∧RS E w' i l∧zAU w w' E.W:=by
 have r0:=h.r0
 have H:=zQr h
 have h0: ¬(i<E.T.length∧E.T.getD i 0=c):=fun h0=>by
  unfold zCF at hq
  rw[if_pos h0]at hq
  cases hq
 obtain⟨b,hb⟩: ∃b,E.T.getD i 0=b:=⟨_,rfl⟩
 have HP:=zAz h.v
 rw[hb]at HP h0
 have HP:=zQr HP
 clear h hq hb
 by_cases hi:i<E.T.length
 ·rw[zQ2 hi]at HP
  have hbc:((b:Int) !=(c:Int))=true:=bne_iff_ne.2 fun e=>h0 ⟨hi,by omega⟩
  clear h0 hi
  go_enter Tryz.func99,Tryz.ntmps99
  go_wp2_with fail
  refine HP.out.mono ?_;rintro e w1 ⟨rfl,hb1⟩
  have H1:=zQr (H.out.below hb1)
  have K1:=zQr (zAU.bel (S:=E.W) hb1)
  clear hb1 r0 HP
  go_wp2_with fail
  go_ret
  exact⟨rfl,H1.out,K1.out⟩
 ·rw[zQ3 hi]at HP
  clear h0 hi
  go_enter Tryz.func99,Tryz.ntmps99
  go_wp2_with fail
  refine HP.out.mono ?_;rintro e w1 ⟨rfl,hb1⟩
  have H1:=zQr (H.out.below hb1)
  have K1:=zQr (zAU.bel (S:=E.W) hb1)
  clear hb1 r0 HP
  go_wp2_with fail
  go_ret
  exact⟨rfl,H1.out,K1.out⟩
end
end
section
open Go.RowKit
section
variable {w w' w1:World} {E:PE} {i j k:Nat} {l:List Value}
theorem RS.alloc (h:RS E w i l) (o:Obj):RS E (w.alloc o) i l:=h.below ((zQs _ _).alloc (zQt _) _)
theorem RS.drew (h:RS E w i l):RS E w.drew i l:=h.below (zQs _ _).drew
theorem zAJ.nbut {w w':World} {b:Nat} (h:zBU w.heap.size b w w'):zAJ (some b) w w':=⟨h.size,fun a ha hX=>zQv (h.block _ ha fun e=>hX (by rw[e]))⟩
theorem RS.over {W0:World} {i0:Nat} {l0:List Value} (h:RS E w i l) (h0:RS E W0 i0 l0) {b:Nat} (hb:W0.heap.size≤b) (o:Nat) (v:Value):RS E (w.setCell ⟨b,o,none⟩ v) i l:=by
 have hl:=h0.lts
 obtain⟨n,h1,hx,hy,hw,hc⟩:=h0.lo
 exact { h with
  v:=h.v.store (by omega) (fun hp g e=>by have:=h0.v.tlt hp g e;omega) o v
  r:=(zQ1 _ _ _ _ (by show E.rb≠b;omega)).trans h.r
  c:=(zQ1 _ _ _ _ (by show E.cb≠b;omega)).trans h.c
  g:=h.g.kept (zAU.setCell w ⟨b,o,none⟩ v) h1 hx hy fun k hk e=>by have e':k=b:=e;omega }
theorem zAU.over (h:zAU w w1 E.W) {b:Nat} (hb:w.heap.size≤b) (o:Nat) (v:Value):zAU w (w1.setCell ⟨b,o,none⟩ v) E.W:=
 h.trans (zAU.setCell w1 ⟨b,o,none⟩ v) fun k hk e=>by have e':k=b:=e;omega
theorem zCc {base b:Nat} {v:Value} {re:List Nd} (h:Nds w base v re) (hb: ∀g,v.ownBlock=some g→g≠b) (o:Nat) (u:Value):Nds (w.setCell ⟨b,o,none⟩ u) base v re:=
 zAu h fun g hg=>zQ1 _ _ _ _ (by show g≠b;exact hb g hg)
def AdO (E:PE) (w:World) (r:Rd (Ad × Nat)) (l:List Value) (e:Ending) (w':World):Prop:=
 match r with
 | .error p=>Res E w (.error p) l e w'
 | .ok (a,j)=>zAU w w' E.W∧RS E w' j l∧ ∃o c,e= .returned (.agg #[.int .i8 a.kind,.int .i64 a.n,.slice o a.re.length c])∧Nds w' w.heap.size (.slice o a.re.length c) a.re
theorem zIJ (h:RS E w i l):Calls Tryz.prog 98 #[.pointer (some ⟨E.rb,0,none⟩)] w (AdO E w (zI0 E.ere E.T i) l):=by
 obtain⟨R,hR⟩: ∃R,zI0 E.ere E.T i=R:=⟨_,rfl⟩
 rw[hR]
 unfold zI0 at hR
 obtain⟨r,hr⟩: ∃r,zCE E.ere E.T i=r:=⟨_,rfl⟩
 rw[hr]at hR
 have HR:=zQr hr
 obtain⟨⟨kk,nn,re⟩,er,j⟩:=r
 simp only at hR
 have HRR:=zQr hR
 have H0:=zQr h
 have HA0:=zQr (AdB.new w (.int .i8 0) (.int .i64 0) (.slice none 0 0))
 have H:=zQr (h.alloc (.cells #[.int .i8 0,.int .i64 0,.slice none 0 0] 31))
 have K0:=zQr (zAU.bel (S:=E.W) ((zQs w.heap.size w).alloc (zQt _) (.cells #[.int .i8 0,.int .i64 0,.slice none 0 0] 31)))
 have hpa: ∀W,RS E W i l→Calls Tryz.prog 149 #[.pointer (some ⟨E.wb,0,none⟩),.bool E.ere] W fun e w'=>
   (∃o c,e= .returned (.tuple #[.agg #[.int .i8 kk,.int .i64 nn,.slice o re.length c],.int .i64 er])∧Nds w' W.heap.size (.slice o re.length c) re)∧RS E w' j l∧zBU W.heap.size E.wb W w':=fun W hW=>by
  refine(zJ0 hW.v E.ere (fun j _=>zHq (hW.v.u j))).mono ?_
  rintro e w' ⟨⟨v,he,hn,hv⟩,hb⟩
  rw[hr]at he hn hv
  obtain⟨o,c,rfl⟩:=hn.form
  exact⟨⟨o,c,he,hn⟩,hW.words hb hv,hb⟩
 have HP:=zQr hpa
 clear h hr hR hpa
 go_enter Tryz.func98,Tryz.ntmps98
 go_upto_region 1 with fail
 obtain⟨W0,hW0⟩: ∃W,w.alloc (.cells #[.int .i8 0,.int .i64 0,.slice none 0 0] 31)=W:=⟨_,rfl⟩
 rw[hW0]at HA0 H K0 ⊢
 obtain⟨a0,ha0⟩: ∃a,w.heap.size=a:=⟨_,rfl⟩
 have HZ:=zQr ha0
 rw[ha0]at HA0 ⊢
 clear hW0 ha0
 have r0:=H.out.r0
 go_upto_region 2 with (go_at_call 100;refine(zFX H.out.v).mono ?_;rintro e w2 ⟨rfl,rfl⟩)
 go_cut [4,5] (fun v4 v5 wd=> ∃b o c,v4= .pointer (some ⟨b,0,none⟩)∧v5= .int .i64 er∧AdB wd b (.int .i8 kk) (.int .i64 nn) (.slice o re.length c)∧AdB wd a0 (.int .i8 0) (.int .i64 0) (.slice none 0 0)∧a0<b∧Nds wd (a0+1) (.slice o re.length c) re∧RS E wd j l∧zAU w wd E.W)
 case first=>
  have r1:=H.out.r1
  have hrl:=H.out.lts.1
  have hwr:=H.out.wr
  have hz:W0.drew.heap.size=W0.heap.size:=rfl
  have HS:=zQr (show a0+1≤W0.heap.size from HA0.out.lt)
  have HNW:=zQr (show a0≠E.wb by have:=H0.out.lts.2.1;have:=HZ.out;omega)
  refine zBv (X:=(some E.wb)) 13 12 [([0,1,2,3,4,5,6,7],8)] [9,10,11] (by kernel_rfl) (by kernel_rfl) rfl (fun _ _ _ _ _ h=>h) ?_
  simp only[zDS,zAK,zAC,zAE,zAD,zAB,List.getD_cons_zero,List.getD_cons_succ,List.drop_succ_cons,List.drop_zero]
  repeat (go_big_quiet_step (fail))
  refine wpQuiet_nil ?_
  refine⟨?_,?_⟩
  ·go_wp2_with fail
   refine(HP.out _ H.out.drew).mono ?_;rintro e w1 ⟨⟨o,c,rfl,hn1⟩,h1,hb1⟩
   have hk:=zAJ.nbut hb1
   have HN:=zQr (zAR hn1 (by rw[hz];exact HS.out))
   have H1:=zQr h1
   have K1:=zQr ((K0.out.tr (zAU.bel (zQs _ _).drew)).tr (zAU.nbut hb1))
   have HA1:=zQr ((HA0.out.below (zQs _ _).drew).nbut hb1 (by rw[hz];have:=HS.out;omega) HNW.out)
   clear hn1 h1 hb1
   go_wp2_with fail
   refine⟨hk,?_⟩
   repeat (go_big_quiet_step (fail))
   refine wpQuiet_nil ?_
   go_wp2_with fail
   refine⟨zAc _ _,wpQuiet_nil ?_⟩
   clear hk
   go_wp2_with fail
   go_meet
   exact⟨_,o,c,rfl,rfl,AdB.new _ _ _ _,HA1.out.below ((zQs _ _).alloc (zQt _) _),HA1.out.lt,Nds.below HN.out ((zQs _ _).alloc (zQt _) _),H1.out.alloc _,K1.out.tr (zAU.bel ((zQs _ _).alloc (zQt _) _))⟩
  ·go_wp2_with fail
   refine⟨zAn (zAc _ _),wpQuiet_nil ?_⟩
   go_wp2_with fail
   have hba:=((zQs W0.heap.size W0).alloc (zQt _) (.cells #[.int .i8 0,.int .i64 0,.slice none 0 0] 31)).drew
   have hD0:=(AdB.new W0 (.int .i8 0) (.int .i64 0) (.slice none 0 0)).below (zQs _ _).drew
   have hA0:=HA0.out.below hba
   have hs2:(W0.alloc (.cells #[.int .i8 0,.int .i64 0,.slice none 0 0] 31)).drew.heap.size=W0.heap.size+1:=by simp[World.drew]
   have HK0:=zQr (K0.out.tr (zAU.bel hba))
   refine(HP.out _ (H.out.below hba)).mono ?_;rintro e w1 ⟨⟨o,c,rfl,hn1⟩,h1,hb1⟩
   have hk:=zAJ.nbut hb1
   have hwb:=H.out.lts.2.1
   have HN:=zQr (zAR hn1 (show a0+1≤_ by rw[hs2];have:=HS.out;omega))
   have HNB:=zQr (fun g hg=>(hn1.lt g hg).1)
   have H1:=zQr h1
   have K1:=zQr (HK0.out.tr (zAU.nbut hb1))
   have HA1:=zQr (hA0.nbut hb1 (by rw[hs2];have:=HS.out;omega) HNW.out)
   have hD1:=hD0.nbut hb1 (by rw[hs2];omega) (by omega)
   have HD1:=zQr hD1
   have HS2:=zQr hs2
   have HAS:=zQr (show a0<W0.heap.size from HA0.out.lt)
   have HW0:=zQr (show w.heap.size≤W0.heap.size from K0.out.size)
   have d0:=hD1.c0
   have d1:=hD1.c1
   have d2:=hD1.c2
   have df:=hD1.fz
   clear hn1 h1 hb1 hba hD0 hA0 hs2 hD1 hz
   go_wp2_with fail
   refine⟨hk,?_⟩
   repeat (go_big_quiet_step (fail))
   refine wpQuiet_nil ?_
   clear hk
   go_wp2_with fail
   go_meet
   exact⟨W0.heap.size,o,c,rfl,rfl,HD1.out.set _ _ _,((HA1.out.other (by have:=HAS.out;omega) _ _).other (by have:=HAS.out;omega) _ _).other (by have:=HAS.out;omega) _ _,HAS.out,
    zCc (zCc (zCc HN.out (fun g hg=>by have:=HNB.out g hg;have:=HS2.out;omega) _ _) (fun g hg=>by have:=HNB.out g hg;have:=HS2.out;omega) _ _) (fun g hg=>by have:=HNB.out g hg;have:=HS2.out;omega) _ _,
    ((H1.out.over H.out (zQt _) _ _).over H.out (zQt _) _ _).over H.out (zQt _) _ _,((K1.out.over HW0.out _ _).over HW0.out _ _).over HW0.out _ _⟩
 case rest=>
 obtain⟨b,o,c,rfl,rfl,hB,hA,hab,hn,h1,k1⟩:=hcut
 have HB:=zQr hB
 have HA:=zQr hA
 have HN:=zQr hn
 have H1:=zQr h1
 have K1:=zQr k1
 have b0:=hB.c0
 clear hB hA hn h1 k1 r0 H K0 HA0
 by_cases h0:er=0
 ·subst h0
  have hrr:=HRR.out
  rw[if_neg (by omega)]at hrr
  by_cases hk0:kk=0
  ·subst hk0
   rw[if_neg (by omega)]at hrr
   subst hrr
   have b1:=HB.out.c1
   have b2:=HB.out.c2
   have a0':=HA.out.c0
   have a1:=HA.out.c1
   have a2:=HA.out.c2
   have af:=HA.out.fz
   go_wp2_with fail
   refine zFx (p:=2) (b:=a0) rfl rfl rfl (HA.out.set (.int .i8 0) (.int .i64 nn) (.slice o re.length c)) ⟨((K1.out.over (Nat.le_of_eq HZ.out) _ _).over (Nat.le_of_eq HZ.out) _ _).over (Nat.le_of_eq HZ.out) _ _,((H1.out.over H0.out (Nat.le_of_eq HZ.out) _ _).over H0.out (Nat.le_of_eq HZ.out) _ _).over H0.out (Nat.le_of_eq HZ.out) _ _,o,c,rfl,zAR (zCc (zCc (zCc HN.out (fun g hg=>by have:=(HN.out.lt g hg).1;omega) _ _) (fun g hg=>by have:=(HN.out.lt g hg).1;omega) _ _) (fun g hg=>by have:=(HN.out.lt g hg).1;omega) _ _) (by have:=HZ.out;omega)⟩
  ·rw[if_pos hk0]at hrr
   subst hrr
   have qk:(kk !=0)=true:=bne_iff_ne.2 hk0
   have r0:=H1.out.r0
   clear hk0
   go_wp2_with fail
   refine(zDq H1.out.v).mono ?_;rintro e w3 ⟨⟨_,rfl⟩,hv3,hb3⟩
   have hwb:=H0.out.lts.2.1
   have hz:=HZ.out
   have H3:=zQr (H1.out.words hb3 hv3)
   have K3:=zQr (K1.out.tr (zAU.nbut hb3))
   have HA3:=zQr (HA.out.nbut hb3 HA.out.lt (by omega))
   have HB3:=zQr (HB.out.nbut hb3 HB.out.lt (by omega))
   have HN3:Hid (Nds w3 (a0+1) (.slice o re.length c) re):=zQr (zAu HN.out fun g hg=>hb3.block g (HN.out.lt g hg).2 (by have:=(HN.out.lt g hg).1;omega))
   clear hv3 hb3 b0 r0 hz
   have b0:=HB3.out.c0
   have b1:=HB3.out.c1
   have b2:=HB3.out.c2
   have a0':=HA3.out.c0
   have a1:=HA3.out.c1
   have a2:=HA3.out.c2
   have af:=HA3.out.fz
   go_wp2_with fail
   refine zFx (p:=2) (b:=a0) rfl rfl rfl (HA3.out.set (.int .i8 kk) (.int .i64 nn) (.slice o re.length c)) ⟨((K3.out.over (Nat.le_of_eq HZ.out) _ _).over (Nat.le_of_eq HZ.out) _ _).over (Nat.le_of_eq HZ.out) _ _,((H3.out.over H0.out (Nat.le_of_eq HZ.out) _ _).over H0.out (Nat.le_of_eq HZ.out) _ _).over H0.out (Nat.le_of_eq HZ.out) _ _,o,c,rfl,zAR (zCc (zCc (zCc HN3.out (fun g hg=>by have:=(HN3.out.lt g hg).1;omega) _ _) (fun g hg=>by have:=(HN3.out.lt g hg).1;omega) _ _) (fun g hg=>by have:=(HN3.out.lt g hg).1;omega) _ _) (by have:=HZ.out;omega)⟩
 ·have hrr:=HRR.out
  rw[if_pos h0]at hrr
  subst hrr
  have hne:((er:Int) !=0)=true:=bne_iff_ne.2 (by omega)
  clear h0
  go_wp2_with fail
  refine(zFp H1.out er i).mono ?_;rintro e w3 ⟨hp,hb3⟩
  have HR3:Hid (Res E w (.error (er,i)) l e w3):=zQr ⟨K1.out.tr (zAU.bel hb3),_,_,hp,H1.out.below hb3⟩
  obtain⟨fb,rfl⟩:=HR3.out.bad
  clear hp hb3
  go_wp2_with fail
  exact⟨rfl,HR3.out⟩
end
end
section
open Go.RowKit
def Bys (w:World) (base:Nat) (v:Value) (T:List Nat):Prop:= ∃o c,v= .slice o T.length c∧w.ownsRow base 5 1 v T.length (u8s T)
def Nos (w:World) (base:Nat) (v:Value) (re:List Nd):Prop:= ∃o c,v= .slice o re.length c∧Nds w base v re
def pcC:List Pc→List Value→List Value
 |p::P,t::ts=> .int .i64 p.k::t::pcC P ts
 |_,_=>[]
def Pcs (w:World) (base:Nat) (v:Value) (P:List Pc):Prop:=
 ∃(o:Option Addr) (c:Nat) (ts:List Value),v= .slice o P.length c∧ts.length=P.length∧w.ownsRow base 103 2 v P.length (pcC P ts)∧ ∀(i:Nat) (t:Value) (p:Pc),ts[i]?=some t→P[i]?=some p→Bys w base t p.t
def AdM (w:World) (base:Nat) (l:List Value) (k:Nat) (a:Ad):Prop:=l[k]?=some (.int .i8 a.kind)∧l[k+1]?=some (.int .i64 a.n)∧ ∃v,l[k+2]?=some v∧Nos w base v a.re
structure CmM (w:World) (base:Nat) (l:List Value) (c:Cm):Prop where
 a:AdM w base l 0 c.a
 b:AdM w base l 3 c.b
 nt:l[6]?=some (.bool c.nt)
 nm:l[7]?=some (.int .u8 (c.nm:Nat))
 p:l[8]?=some (.int .i64 (c.at_:Nat))
 tx: ∃v,l[9]?=some v∧Bys w base v c.tx
 re: ∃v,l[10]?=some v∧Nos w base v c.re
 fi: ∃v,l[11]?=some v∧Pcs w base v c.fi
 ct:l[12]?=some (.int .i64 (c.ct:Nat))
 al:l[13]?=some (.bool c.al)
 pr:l[14]?=some (.bool c.pr)
 wr:l[15]?=some (.bool c.wr)
 tb: ∀k,k<256→l[16+k]?=some (.int .u8 (c.tb.getD k 0:Nat))
section
variable {w w':World} {base:Nat} {l:List Value} {c:Cm} {S:Nat→Prop}
theorem Bys.kept {v:Value} {T:List Nat} (h:Bys w base v T) (k:zAU w w' S) (hS: ∀k,base≤k→ ¬S k):Bys w' base v T:=by
 obtain⟨o,c,rfl,h1⟩:=h
 exact⟨o,c,rfl,k.row h1 fun b hb=>hS b (h1.lt b hb).1⟩
theorem Nos.kept {v:Value} {re:List Nd} (h:Nos w base v re) (k:zAU w w' S) (hS: ∀k,base≤k→ ¬S k):Nos w' base v re:=by
 obtain⟨o,c,rfl,h1⟩:=h
 exact⟨o,c,rfl,k.row h1 fun b hb=>hS b (h1.lt b hb).1⟩
theorem Pcs.kept {v:Value} {P:List Pc} (h:Pcs w base v P) (k:zAU w w' S) (hS: ∀k,base≤k→ ¬S k):Pcs w' base v P:=by
 obtain⟨o,c,ts,rfl,h1,h2,h3⟩:=h
 exact⟨o,c,ts,rfl,h1,k.row h2 fun b hb=>hS b (h2.lt b hb).1,fun i t p ht hp=>(h3 i t p ht hp).kept k hS⟩
theorem AdM.kept {n:Nat} {a:Ad} (h:AdM w base l n a) (k:zAU w w' S) (hS: ∀k,base≤k→ ¬S k):AdM w' base l n a:=⟨h.1,h.2.1,h.2.2.imp fun _ e=>⟨e.1,e.2.kept k hS⟩⟩
theorem CmM.kept (h:CmM w base l c) (k:zAU w w' S) (hS: ∀k,base≤k→ ¬S k):CmM w' base l c:=
 {h with a:=h.a.kept k hS,b:=h.b.kept k hS,tx:=h.tx.imp fun _ e=>⟨e.1,e.2.kept k hS⟩,re:=h.re.imp fun _ e=>⟨e.1,e.2.kept k hS⟩,fi:=h.fi.imp fun _ e=>⟨e.1,e.2.kept k hS⟩ }
theorem AdM.set {n k:Nat} {a:Ad} (h:AdM w base l n a) (v:Value) (h0:k≠n) (h1:k≠n+1) (h2:k≠n+2):AdM w base (l.set k v) n a:=
 ⟨by rw[List.getElem?_set_ne h0];exact h.1,by rw[List.getElem?_set_ne h1];exact h.2.1,by rw[List.getElem?_set_ne h2];exact h.2.2⟩
theorem AdM.put {n:Nat} {a:Ad} {v:Value} (hl:l.length=272) (hn:n+2<272) (hv:Nos w base v a.re):AdM w base (((l.set n (.int .i8 a.kind)).set (n+1) (.int .i64 a.n)).set (n+2) v) n a:=
 ⟨by rw[List.getElem?_set_ne (by omega),List.getElem?_set_ne (by omega),List.getElem?_set_self (by omega)],by rw[List.getElem?_set_ne (by omega),List.getElem?_set_self (by rw[List.length_set];omega)],v,by rw[List.getElem?_set_self (by rw[List.length_set,List.length_set];omega)],hv⟩
theorem CmM.setA {a:Ad} {v:Value} (h:CmM w base l c) (hl:l.length=272) (hv:Nos w base v a.re):CmM w base (((l.set 0 (.int .i8 a.kind)).set 1 (.int .i64 a.n)).set 2 v) { c with a:=a } where
 a:=AdM.put (n:=0) hl (by omega) hv
 b:=((h.b.set _ (by omega) (by omega) (by omega)).set _ (by omega) (by omega) (by omega)).set _ (by omega) (by omega) (by omega)
 nt:=by simpa using h.nt
 nm:=by simpa using h.nm
 p:=by simpa using h.p
 tx:=by simpa using h.tx
 re:=by simpa using h.re
 fi:=by simpa using h.fi
 ct:=by simpa using h.ct
 al:=by simpa using h.al
 pr:=by simpa using h.pr
 wr:=by simpa using h.wr
 tb:=fun k hk=>by rw[List.getElem?_set_ne (by omega),List.getElem?_set_ne (by omega),List.getElem?_set_ne (by omega)];exact h.tb k hk
theorem CmM.setB {a:Ad} {v:Value} (h:CmM w base l c) (hl:l.length=272) (hv:Nos w base v a.re):CmM w base (((l.set 3 (.int .i8 a.kind)).set 4 (.int .i64 a.n)).set 5 v) { c with b:=a } where
 a:=((h.a.set _ (by omega) (by omega) (by omega)).set _ (by omega) (by omega) (by omega)).set _ (by omega) (by omega) (by omega)
 b:=AdM.put (n:=3) hl (by omega) hv
 nt:=by simpa using h.nt
 nm:=by simpa using h.nm
 p:=by simpa using h.p
 tx:=by simpa using h.tx
 re:=by simpa using h.re
 fi:=by simpa using h.fi
 ct:=by simpa using h.ct
 al:=by simpa using h.al
 pr:=by simpa using h.pr
 wr:=by simpa using h.wr
 tb:=fun k hk=>by rw[List.getElem?_set_ne (by omega),List.getElem?_set_ne (by omega),List.getElem?_set_ne (by omega)];exact h.tb k hk
theorem CmM.setNt (h:CmM w base l c) (hl:l.length=272) (x:Bool):CmM w base (l.set 6 (.bool x)) { c with nt:=x } where
 a:=h.a.set _ (by omega) (by omega) (by omega)
 b:=h.b.set _ (by omega) (by omega) (by omega)
 nt:=List.getElem?_set_self (by omega)
 nm:=by rw[List.getElem?_set_ne (by omega)];exact h.nm
 p:=by rw[List.getElem?_set_ne (by omega)];exact h.p
 tx:=by rw[List.getElem?_set_ne (by omega)];exact h.tx
 re:=by rw[List.getElem?_set_ne (by omega)];exact h.re
 fi:=by rw[List.getElem?_set_ne (by omega)];exact h.fi
 ct:=by rw[List.getElem?_set_ne (by omega)];exact h.ct
 al:=by rw[List.getElem?_set_ne (by omega)];exact h.al
 pr:=by rw[List.getElem?_set_ne (by omega)];exact h.pr
 wr:=by rw[List.getElem?_set_ne (by omega)];exact h.wr
 tb:=fun k hk=>by rw[List.getElem?_set_ne (by omega)];exact h.tb k hk
theorem CmM.setNm (h:CmM w base l c) (hl:l.length=272) (x:Nat):CmM w base (l.set 7 (.int .u8 (x:Nat))) { c with nm:=x } where
 a:=h.a.set _ (by omega) (by omega) (by omega)
 b:=h.b.set _ (by omega) (by omega) (by omega)
 nt:=by rw[List.getElem?_set_ne (by omega)];exact h.nt
 nm:=List.getElem?_set_self (by omega)
 p:=by rw[List.getElem?_set_ne (by omega)];exact h.p
 tx:=by rw[List.getElem?_set_ne (by omega)];exact h.tx
 re:=by rw[List.getElem?_set_ne (by omega)];exact h.re
 fi:=by rw[List.getElem?_set_ne (by omega)];exact h.fi
 ct:=by rw[List.getElem?_set_ne (by omega)];exact h.ct
 al:=by rw[List.getElem?_set_ne (by omega)];exact h.al
 pr:=by rw[List.getElem?_set_ne (by omega)];exact h.pr
 wr:=by rw[List.getElem?_set_ne (by omega)];exact h.wr
 tb:=fun k hk=>by rw[List.getElem?_set_ne (by omega)];exact h.tb k hk
theorem CmM.setP (h:CmM w base l c) (hl:l.length=272) (x:Nat):CmM w base (l.set 8 (.int .i64 (x:Nat))) { c with at_:=x } where
 a:=h.a.set _ (by omega) (by omega) (by omega)
 b:=h.b.set _ (by omega) (by omega) (by omega)
 nt:=by rw[List.getElem?_set_ne (by omega)];exact h.nt
 nm:=by rw[List.getElem?_set_ne (by omega)];exact h.nm
 p:=List.getElem?_set_self (by omega)
 tx:=by rw[List.getElem?_set_ne (by omega)];exact h.tx
 re:=by rw[List.getElem?_set_ne (by omega)];exact h.re
 fi:=by rw[List.getElem?_set_ne (by omega)];exact h.fi
 ct:=by rw[List.getElem?_set_ne (by omega)];exact h.ct
 al:=by rw[List.getElem?_set_ne (by omega)];exact h.al
 pr:=by rw[List.getElem?_set_ne (by omega)];exact h.pr
 wr:=by rw[List.getElem?_set_ne (by omega)];exact h.wr
 tb:=fun k hk=>by rw[List.getElem?_set_ne (by omega)];exact h.tb k hk
theorem CmM.setCt (h:CmM w base l c) (hl:l.length=272) (x:Nat):CmM w base (l.set 12 (.int .i64 (x:Nat))) { c with ct:=x } where
 a:=h.a.set _ (by omega) (by omega) (by omega)
 b:=h.b.set _ (by omega) (by omega) (by omega)
 nt:=by rw[List.getElem?_set_ne (by omega)];exact h.nt
 nm:=by rw[List.getElem?_set_ne (by omega)];exact h.nm
 p:=by rw[List.getElem?_set_ne (by omega)];exact h.p
 tx:=by rw[List.getElem?_set_ne (by omega)];exact h.tx
 re:=by rw[List.getElem?_set_ne (by omega)];exact h.re
 fi:=by rw[List.getElem?_set_ne (by omega)];exact h.fi
 ct:=List.getElem?_set_self (by omega)
 al:=by rw[List.getElem?_set_ne (by omega)];exact h.al
 pr:=by rw[List.getElem?_set_ne (by omega)];exact h.pr
 wr:=by rw[List.getElem?_set_ne (by omega)];exact h.wr
 tb:=fun k hk=>by rw[List.getElem?_set_ne (by omega)];exact h.tb k hk
theorem CmM.setAl (h:CmM w base l c) (hl:l.length=272) (x:Bool):CmM w base (l.set 13 (.bool x)) { c with al:=x } where
 a:=h.a.set _ (by omega) (by omega) (by omega)
 b:=h.b.set _ (by omega) (by omega) (by omega)
 nt:=by rw[List.getElem?_set_ne (by omega)];exact h.nt
 nm:=by rw[List.getElem?_set_ne (by omega)];exact h.nm
 p:=by rw[List.getElem?_set_ne (by omega)];exact h.p
 tx:=by rw[List.getElem?_set_ne (by omega)];exact h.tx
 re:=by rw[List.getElem?_set_ne (by omega)];exact h.re
 fi:=by rw[List.getElem?_set_ne (by omega)];exact h.fi
 ct:=by rw[List.getElem?_set_ne (by omega)];exact h.ct
 al:=List.getElem?_set_self (by omega)
 pr:=by rw[List.getElem?_set_ne (by omega)];exact h.pr
 wr:=by rw[List.getElem?_set_ne (by omega)];exact h.wr
 tb:=fun k hk=>by rw[List.getElem?_set_ne (by omega)];exact h.tb k hk
theorem CmM.setPr (h:CmM w base l c) (hl:l.length=272) (x:Bool):CmM w base (l.set 14 (.bool x)) { c with pr:=x } where
 a:=h.a.set _ (by omega) (by omega) (by omega)
 b:=h.b.set _ (by omega) (by omega) (by omega)
 nt:=by rw[List.getElem?_set_ne (by omega)];exact h.nt
 nm:=by rw[List.getElem?_set_ne (by omega)];exact h.nm
 p:=by rw[List.getElem?_set_ne (by omega)];exact h.p
 tx:=by rw[List.getElem?_set_ne (by omega)];exact h.tx
 re:=by rw[List.getElem?_set_ne (by omega)];exact h.re
 fi:=by rw[List.getElem?_set_ne (by omega)];exact h.fi
 ct:=by rw[List.getElem?_set_ne (by omega)];exact h.ct
 al:=by rw[List.getElem?_set_ne (by omega)];exact h.al
 pr:=List.getElem?_set_self (by omega)
 wr:=by rw[List.getElem?_set_ne (by omega)];exact h.wr
 tb:=fun k hk=>by rw[List.getElem?_set_ne (by omega)];exact h.tb k hk
theorem CmM.setWr (h:CmM w base l c) (hl:l.length=272) (x:Bool):CmM w base (l.set 15 (.bool x)) { c with wr:=x } where
 a:=h.a.set _ (by omega) (by omega) (by omega)
 b:=h.b.set _ (by omega) (by omega) (by omega)
 nt:=by rw[List.getElem?_set_ne (by omega)];exact h.nt
 nm:=by rw[List.getElem?_set_ne (by omega)];exact h.nm
 p:=by rw[List.getElem?_set_ne (by omega)];exact h.p
 tx:=by rw[List.getElem?_set_ne (by omega)];exact h.tx
 re:=by rw[List.getElem?_set_ne (by omega)];exact h.re
 fi:=by rw[List.getElem?_set_ne (by omega)];exact h.fi
 ct:=by rw[List.getElem?_set_ne (by omega)];exact h.ct
 al:=by rw[List.getElem?_set_ne (by omega)];exact h.al
 pr:=by rw[List.getElem?_set_ne (by omega)];exact h.pr
 wr:=List.getElem?_set_self (by omega)
 tb:=fun k hk=>by rw[List.getElem?_set_ne (by omega)];exact h.tb k hk
theorem CmM.setTx (h:CmM w base l c) (hl:l.length=272) {v:Value} {x:List Nat} (hv:Bys w base v x):CmM w base (l.set 9 v) { c with tx:=x } where
 a:=h.a.set _ (by omega) (by omega) (by omega)
 b:=h.b.set _ (by omega) (by omega) (by omega)
 nt:=by rw[List.getElem?_set_ne (by omega)];exact h.nt
 nm:=by rw[List.getElem?_set_ne (by omega)];exact h.nm
 p:=by rw[List.getElem?_set_ne (by omega)];exact h.p
 tx:=⟨v,List.getElem?_set_self (by omega),hv⟩
 re:=by rw[List.getElem?_set_ne (by omega)];exact h.re
 fi:=by rw[List.getElem?_set_ne (by omega)];exact h.fi
 ct:=by rw[List.getElem?_set_ne (by omega)];exact h.ct
 al:=by rw[List.getElem?_set_ne (by omega)];exact h.al
 pr:=by rw[List.getElem?_set_ne (by omega)];exact h.pr
 wr:=by rw[List.getElem?_set_ne (by omega)];exact h.wr
 tb:=fun k hk=>by rw[List.getElem?_set_ne (by omega)];exact h.tb k hk
theorem CmM.setRe (h:CmM w base l c) (hl:l.length=272) {v:Value} {x:List Nd} (hv:Nos w base v x):CmM w base (l.set 10 v) { c with re:=x } where
 a:=h.a.set _ (by omega) (by omega) (by omega)
 b:=h.b.set _ (by omega) (by omega) (by omega)
 nt:=by rw[List.getElem?_set_ne (by omega)];exact h.nt
 nm:=by rw[List.getElem?_set_ne (by omega)];exact h.nm
 p:=by rw[List.getElem?_set_ne (by omega)];exact h.p
 tx:=by rw[List.getElem?_set_ne (by omega)];exact h.tx
 re:=⟨v,List.getElem?_set_self (by omega),hv⟩
 fi:=by rw[List.getElem?_set_ne (by omega)];exact h.fi
 ct:=by rw[List.getElem?_set_ne (by omega)];exact h.ct
 al:=by rw[List.getElem?_set_ne (by omega)];exact h.al
 pr:=by rw[List.getElem?_set_ne (by omega)];exact h.pr
 wr:=by rw[List.getElem?_set_ne (by omega)];exact h.wr
 tb:=fun k hk=>by rw[List.getElem?_set_ne (by omega)];exact h.tb k hk
theorem CmM.setFi (h:CmM w base l c) (hl:l.length=272) {v:Value} {x:List Pc} (hv:Pcs w base v x):CmM w base (l.set 11 v) { c with fi:=x } where
 a:=h.a.set _ (by omega) (by omega) (by omega)
 b:=h.b.set _ (by omega) (by omega) (by omega)
 nt:=by rw[List.getElem?_set_ne (by omega)];exact h.nt
 nm:=by rw[List.getElem?_set_ne (by omega)];exact h.nm
 p:=by rw[List.getElem?_set_ne (by omega)];exact h.p
 tx:=by rw[List.getElem?_set_ne (by omega)];exact h.tx
 re:=by rw[List.getElem?_set_ne (by omega)];exact h.re
 fi:=⟨v,List.getElem?_set_self (by omega),hv⟩
 ct:=by rw[List.getElem?_set_ne (by omega)];exact h.ct
 al:=by rw[List.getElem?_set_ne (by omega)];exact h.al
 pr:=by rw[List.getElem?_set_ne (by omega)];exact h.pr
 wr:=by rw[List.getElem?_set_ne (by omega)];exact h.wr
 tb:=fun k hk=>by rw[List.getElem?_set_ne (by omega)];exact h.tb k hk
theorem CmM.zero (w:World) (base:Nat):CmM w base Tryz.zeroCells36.toList Cm.zero where
 a:=⟨by kernel_rfl,by kernel_rfl,_,by kernel_rfl,none,0,rfl,Nds.nil _ _⟩
 b:=⟨by kernel_rfl,by kernel_rfl,_,by kernel_rfl,none,0,rfl,Nds.nil _ _⟩
 nt:=by kernel_rfl
 nm:=by kernel_rfl
 p:=by kernel_rfl
 tx:=⟨_,by kernel_rfl,none,0,rfl,zQ7 _ _ _ _⟩
 re:=⟨_,by kernel_rfl,none,0,rfl,Nds.nil _ _⟩
 fi:=⟨_,by kernel_rfl,none,0,[],rfl,rfl,zQ7 _ _ _ _,fun i t p h=>by simp at h⟩
 ct:=by kernel_rfl
 al:=by kernel_rfl
 pr:=by kernel_rfl
 wr:=by kernel_rfl
 tb:=fun k hk=>by
  have e:Tryz.zeroCells36.toList=Tryz.zeroCells36.toList.take 16++List.replicate 256 (.int .u8 0):=by kernel_rfl
  have h16:(Tryz.zeroCells36.toList.take 16).length=16:=by kernel_rfl
  rw[e,zRD (by omega),h16,Nat.add_sub_cancel_left,List.getElem?_replicate,if_pos hk]
  show _=some (Value.int .u8 (((List.replicate 256 0).getD k 0:Nat):Int))
  rw[zQ0,List.getElem?_replicate,if_pos hk]
  rfl
end
end
section
open Go.RowKit
theorem ix0: ∀b,b<256→decide (0≤Lib.indexByte [125,58] ((b:Nat):Int).toNat.toUInt8)=decide (b∈[125,58]):=by decide+kernel
theorem ix1: ∀b,b<256→decide (0≤Lib.indexByte [61,97,105,113,114] ((b:Nat):Int).toNat.toUInt8)=decide (b∈[61,97,105,113,114]):=by decide+kernel
theorem ix2: ∀b,b<256→decide (0≤Lib.indexByte [123,98,99,100,68,103,71,104,72,108,110,78,112,80,115,116,119,120,121] ((b:Nat):Int).toNat.toUInt8)=decide (b∈[123,98,99,100,68,103,71,104,72,108,110,78,112,80,115,116,119,120,121]):=by decide+kernel
def zFT:Option Nat→Int
 |none=> -1
 |some m=>m
section
variable {w w':World} {b:Nat}
theorem zJo (s:ByteArray) (L:List Nat) (hs: ∀b,b<256→decide (0≤Lib.indexByte s.data.toList ((b:Nat):Int).toNat.toUInt8)=decide (b∈L)) (hb:b<256):
  Calls Tryz.prog 55 #[.string s,.int .u8 (b:Nat)] w fun e w'=>(∃k:Int,e= .returned (.int .i64 k)∧(0≤k↔b∈L))∧w=w':=
 (shl.strings_IndexByte s b w).mono fun e w' ⟨he,hw⟩=>⟨⟨_,he,by have:=hs b hb;exact decide_eq_decide.1 this⟩,hw.symm⟩
theorem zF7 (hb:b<256):Calls Tryz.prog 16 #[.int .u8 (b:Nat)] w fun e w'=>e= .returned (.int .i64 (zFT (zCd b)))∧w=w':=by
 have H0:=zQr (fun w=>zJo (w:=w) ⟨#[125,58]⟩ [125,58] ix0 hb)
 have H1:=zQr (fun w=>zJo (w:=w) ⟨#[61,97,105,113,114]⟩ [61,97,105,113,114] ix1 hb)
 have H2:=zQr (fun w=>zJo (w:=w) ⟨#[123,98,99,100,68,103,71,104,72,108,110,78,112,80,115,116,119,120,121]⟩ [123,98,99,100,68,103,71,104,72,108,110,78,112,80,115,116,119,120,121] ix2 hb)
 obtain⟨m,hm⟩: ∃m,zFT (zCd b)=m:=⟨_,rfl⟩
 rw[hm]
 unfold zCd at hm
 have HM:=zQr hm
 clear hb hm
 go_enter Tryz.func16,Tryz.ntmps16
 go_wp2_with fail
 refine(H0.out _).mono ?_;rintro e w1 ⟨⟨k,rfl,hk⟩,rfl⟩
 by_cases h0:b∈[125,58]
 ·have q:=hk.2 h0
  have HMM:=zQr (HM.out.symm.trans (by rw[if_pos h0];rfl:_=(0:Int)))
  clear h0 hk
  go_wp2_with fail
  go_ret
  exact⟨by rw[HMM.out];rfl,rfl⟩
 have q: ¬0≤k:=fun h=>h0 (hk.1 h)
 have HB0:=zQr h0
 clear h0 hk
 go_wp2_with fail
 refine(H1.out _).mono ?_;rintro e w1 ⟨⟨k1,rfl,hk1⟩,rfl⟩
 by_cases h1:b∈[61,97,105,113,114]
 ·have q1:=hk1.2 h1
  have HMM:=zQr (HM.out.symm.trans (by rw[if_neg HB0.out,if_pos h1];rfl:_=(1:Int)))
  clear h1 hk1
  go_wp2_with fail
  go_ret
  exact⟨by rw[HMM.out];rfl,rfl⟩
 have q1: ¬0≤k1:=fun h=>h1 (hk1.1 h)
 have HB1:=zQr h1
 clear h1 hk1
 go_wp2_with fail
 refine(H2.out _).mono ?_;rintro e w1 ⟨⟨k2,rfl,hk2⟩,rfl⟩
 by_cases h2:b∈[123,98,99,100,68,103,71,104,72,108,110,78,112,80,115,116,119,120,121]
 ·have q2:=hk2.2 h2
  have HMM:=zQr (HM.out.symm.trans (by rw[if_neg HB0.out,if_neg HB1.out,if_pos h2];rfl:_=(2:Int)))
  clear h2 hk2
  go_wp2_with fail
  go_ret
  exact⟨by rw[HMM.out];rfl,rfl⟩
 have q2: ¬0≤k2:=fun h=>h2 (hk2.1 h)
 have HMM:=zQr (HM.out.symm.trans (by rw[if_neg HB0.out,if_neg HB1.out,if_neg h2];rfl:_=(-1:Int)))
 clear h2 hk2
 go_wp2_with fail
 go_ret
 exact⟨by rw[HMM.out];rfl,rfl⟩
end
end
section
open Go.RowKit
def hdC (T:List Nat) (a b:Ad) (many k n:Nat):Rd (Cm × Nat):=
 match zCd (T.getD (zIM T k).1 0)with
 |none=> .error (72,(zIM T k).1)
 |some most=>
  if most<many∨most=0∧(zIM T k).2=true then .error (71,(zIM T k).1)
  else if 4096≤n then .error (2,(zIM T k).1)
  else .ok ({ Cm.zero with a:=a,b:=b,nt:=(zIM T k).2,nm:=T.getD (zIM T k).1 0,at_:=(zIM T k).1 },zNT T (zIM T k).1)
def hdB (ere:Bool) (T:List Nat) (a:Ad) (j n:Nat):Rd (Cm × Nat):=
 match zL9 ere T a j with
 | .error e=> .error e
 | .ok (b,many,k)=>hdC T a b many k n
section
variable {w w':World} {E:PE} {i j k n:Nat} {l:List Value} {base:Nat}
theorem zN6 (ere:Bool) (T:List Nat) (i n:Nat):zEi ere T i n=(match zI0 ere T i with| .error e=> .error e| .ok (a,j)=>hdB ere T a j n):=by
 unfold zEi hdB
 cases zI0 ere T i with
 |error e=>rfl
 |ok p=>
  obtain⟨a,j⟩:=p
  simp only
  cases zL9 ere T a j with
  |error e=>rfl
  |ok q=>
   obtain⟨b,many,k⟩:=q
   rfl
theorem zN7 {ere:Bool} {T:List Nat} {a:Ad} (h:a.kind=0):hdB ere T a j n=hdC T a Ad.zero 0 j n:=by unfold hdB zL9;rw[if_pos h]
theorem zN9 {ere:Bool} {T:List Nat} {a:Ad} (h:a.kind≠0) (hc:zCF T 44 j=none):hdB ere T a j n=hdC T a Ad.zero 1 j n:=by unfold hdB zL9;rw[if_neg h,hc]
theorem zN8 {ere:Bool} {T:List Nat} {a:Ad} (h:a.kind≠0) (hc:zCF T 44 j=some k):hdB ere T a j n=(match zI0 ere T k with| .error e=> .error e| .ok (b,q)=>if b.kind=0 then .error (71,k)else hdC T a b 2 q n):=by
 unfold hdB zL9
 rw[if_neg h,hc]
 simp only
 cases zI0 ere T k with
 |error e=>rfl
 |ok p=>
  obtain⟨b,q⟩:=p
  simp only
  by_cases hb:b.kind=0
  ·rw[if_pos hb,if_pos hb]
  ·rw[if_neg hb,if_neg hb]
def HdO (E:PE) (w:World) (base:Nat) (r:Rd (Cm × Nat)) (e:Ending) (w':World):Prop:=
 match r with
 | .error p=>Res E w (.error p) [] e w'
 | .ok (c,k)=>e= .returned (.tuple #[])∧zAU w w' E.W∧ ∃l',RS E w' k l'∧CmM w' base l' c
theorem Res.any {r:Nat × Nat} {l l':List Value} {e:Ending} (h:Res E w (.error r) l e w'):Res E w (.error r) l' e w':=h
theorem zOo (hb:E.wb<base∧E.cb<base): ∀k,base≤k→ ¬E.W k:=fun k hk h=>by rcases h with h|h<;>omega
theorem zK8 (h:RS E w i l) (hm:CmM w base l Cm.zero) (hb:E.wb<base∧E.cb<base) (hbw:base≤w.heap.size):
  Calls Tryz.prog 35 #[.pointer (some ⟨E.rb,0,none⟩),.pointer (some ⟨E.cb,0,none⟩),.int .i64 (n:Nat)] w (HdO E w base (zEi E.ere E.T i n)):=by
 obtain⟨R,hR⟩: ∃R,zEi E.ere E.T i n=R:=⟨_,rfl⟩
 rw[hR]
 rw[zN6]at hR
 have HS:=zQr (zOo (E:=E) hb)
 have HBW:=zQr hbw
 have H:=zQr h
 have HM:=zQr hm
 clear h hm hb hbw
 have HA:=zQr (zIJ H.out)
 go_enter Tryz.func35,Tryz.ntmps35
 go_wp2_with fail
 refine HA.out.mono ?_;rintro e w1 ha
 cases hq:zI0 E.ere E.T i with
 |error p=>
  rw[hq]at ha hR
  subst hR
  have HR:Hid (Res E w (.error p) [] e w1):=zQr ha
  obtain⟨fb,rfl⟩:=HR.out.bad
  clear ha hq
  go_wp2_with fail
  exact⟨rfl,HR.out⟩
 |ok p=>
  obtain⟨a,j⟩:=p
  rw[hq]at ha hR
  simp only at hR
  obtain⟨k1,h1,o,c,rfl,hn⟩:=ha
  have HR:=zQr hR
  have hm1:=HM.out.kept k1 HS.out
  have c0:w1.cell? ⟨E.cb,0,none⟩=some (.int .i8 0):=h1.cc hm1.a.1
  have c1:w1.cell? ⟨E.cb,1,none⟩=some (.int .i64 0):=h1.cc hm1.a.2.1
  obtain⟨v2,hv2,_⟩:=hm1.a.2.2
  have c2:w1.cell? ⟨E.cb,2,none⟩=some v2:=h1.cc hv2
  have cf:=h1.cf
  have H2:=zQr (((h1.set 0 (v:= .int .i8 a.kind) rfl).set 1 (v:= .int .i64 a.n) rfl).set 2 (v:= .slice o a.re.length c) rfl)
  have hk3:=((zAU.put E w1 0 (.int .i8 a.kind)).tr (zAU.put E _ 1 (.int .i64 a.n))).tr (zAU.put E _ 2 (.slice o a.re.length c))
  have HM2:=zQr ((hm1.setA (a:=a) (v:= .slice o a.re.length c) h1.cl.len ⟨o,c,rfl,zAR hn HBW.out⟩).kept hk3 HS.out)
  have K2:=zQr (k1.tr hk3)
  clear hq hR hm1 hk3 hn k1 h1 HA hv2
  go_upto_region 1 with fail
  obtain⟨W2,hW2⟩: ∃W,((w1.setCell ⟨E.cb,0,none⟩ (.int .i8 a.kind)).setCell ⟨E.cb,1,none⟩ (.int .i64 a.n)).setCell ⟨E.cb,2,none⟩ (.slice o a.re.length c)=W:=⟨_,rfl⟩
  rw[hW2]at H2 HM2 K2 ⊢
  obtain⟨l2,hl2⟩: ∃l',((l.set 0 (.int .i8 a.kind)).set 1 (.int .i64 a.n)).set 2 (.slice o a.re.length c)=l':=⟨_,rfl⟩
  rw[hl2]at H2 HM2
  clear hW2 hl2 c0 c1 c2 cf
  have c0:W2.cell? ⟨E.cb,0,none⟩=some (.int .i8 a.kind):=H2.out.cc HM2.out.a.1
  go_upto_if 19 with fail
  go_cut [6] (fun v6 wd=> ∃(b:Ad) (many k:Nat) (l':List Value),v6= .int .i64 (many:Nat)∧Hid (hdC E.T a b many k n=R)∧RS E wd k l'∧CmM wd base l' { Cm.zero with a:=a,b:=b } ∧zAU w wd E.W)
  case first=>
   by_cases hk0:a.kind=0
   ·have HC:=zQr ((zN7 hk0).symm.trans HR.out)
    have qk:(a.kind !=0)=false:=by simp[hk0]
    clear hk0
    go_wp2_with fail
    go_meet
    exact⟨Ad.zero,0,j,l2,rfl,HC,H2.out,HM2.out,K2.out⟩
   ·have qk:(a.kind !=0)=true:=bne_iff_ne.2 hk0
    have HK:=zQr hk0
    clear hk0
    cases hc:zCF E.T 44 j with
    |none=>
     have HC:=zQr ((zN9 HK.out hc).symm.trans HR.out)
     have HCM:=zQr (zKW H2.out hc)
     clear hc
     go_wp2_with fail
     refine HCM.out.mono ?_;rintro e w3 ⟨rfl,h3,k3⟩
     have H3:=zQr h3
     have HM3:=zQr (HM2.out.kept k3 HS.out)
     have K3:=zQr (K2.out.tr k3)
     clear h3 k3
     go_wp2_with fail
     go_meet
     exact⟨Ad.zero,1,j,l2,rfl,HC,H3.out,HM3.out,K3.out⟩
    |some k=>
     have HC:=zQr ((zN8 HK.out hc).symm.trans HR.out)
     have HCM:=zQr (zKV H2.out hc)
     clear hc
     go_wp2_with fail
     refine HCM.out.mono ?_;rintro e w3 ⟨rfl,h3,k3⟩
     have H3:=zQr h3
     have HM3:=zQr (HM2.out.kept k3 HS.out)
     have K3:=zQr (K2.out.tr k3)
     have r0:=h3.r0
     clear h3 k3
     go_wp2_with fail
     refine(zFX H3.out.v).mono ?_;rintro e w4 ⟨rfl,rfl⟩
     go_wp2_with fail
     refine(zIJ H3.out).mono ?_;rintro e w5 ha5
     cases hq:zI0 E.ere E.T k with
     |error p=>
      rw[hq]at ha5 HC
      have HRE:=HC.out
      subst HRE
      have HR5:Hid (Res E w (.error p) [] e w5):=zQr (Res.up (l:=l2) K3.out ha5)
      obtain⟨fb,rfl⟩:=HR5.out.bad
      clear ha5 hq r0
      go_wp2_with fail
      exact⟨rfl,HR5.out⟩
     |ok p=>
      obtain⟨b,q⟩:=p
      rw[hq]at ha5 HC
      obtain⟨k5,h5,o5,c5,rfl,hn5⟩:=ha5
      have hm5:=HM3.out.kept k5 HS.out
      have b0:w5.cell? ⟨E.cb,3,none⟩=some (.int .i8 0):=h5.cc hm5.b.1
      have b1:w5.cell? ⟨E.cb,4,none⟩=some (.int .i64 0):=h5.cc hm5.b.2.1
      obtain⟨v5,hv5,_⟩:=hm5.b.2.2
      have b2:w5.cell? ⟨E.cb,5,none⟩=some v5:=h5.cc hv5
      have bf:=h5.cf
      have H6:=zQr (((h5.set 3 (v:= .int .i8 b.kind) rfl).set 4 (v:= .int .i64 b.n) rfl).set 5 (v:= .slice o5 b.re.length c5) rfl)
      have hk6:=((zAU.put E w5 3 (.int .i8 b.kind)).tr (zAU.put E _ 4 (.int .i64 b.n))).tr (zAU.put E _ 5 (.slice o5 b.re.length c5))
      have HM6:=zQr ((hm5.setB (a:=b) (v:= .slice o5 b.re.length c5) h5.cl.len ⟨o5,c5,rfl,zAR hn5 (zRE HBW.out K3.out.size)⟩).kept hk6 HS.out)
      have K6:=zQr ((K3.out.tr k5).tr hk6)
      clear hq hm5 hk6 hn5 k5 h5 hv5 r0
      go_upto_region 7 with fail
      obtain⟨W6,hW6⟩: ∃W,((w5.setCell ⟨E.cb,3,none⟩ (.int .i8 b.kind)).setCell ⟨E.cb,4,none⟩ (.int .i64 b.n)).setCell ⟨E.cb,5,none⟩ (.slice o5 b.re.length c5)=W:=⟨_,rfl⟩
      rw[hW6]at H6 HM6 K6 ⊢
      obtain⟨l6,hl6⟩: ∃l',((l2.set 3 (.int .i8 b.kind)).set 4 (.int .i64 b.n)).set 5 (.slice o5 b.re.length c5)=l':=⟨_,rfl⟩
      rw[hl6]at H6 HM6
      clear hW6 hl6 b0 b1 b2 bf
      have b0:W6.cell? ⟨E.cb,3,none⟩=some (.int .i8 b.kind):=H6.out.cc HM6.out.b.1
      by_cases hb0:b.kind=0
      ·have HC2:=HC.out
       rw[if_pos hb0]at HC2
       subst HC2
       rw[hb0]at b0
       clear hb0
       go_wp2_with fail
       refine(zFp H6.out 71 k).mono ?_;rintro e w7 ⟨hp,hb7⟩
       have HR7:Hid (Res E w (.error (71,k)) [] e w7):=zQr ⟨K6.out.tr (zAU.bel hb7),_,_,hp,H6.out.below hb7⟩
       obtain⟨fb,rfl⟩:=HR7.out.bad
       clear hp hb7
       go_wp2_with fail
       exact⟨rfl,HR7.out⟩
      ·have HC2:=HC.out
       rw[if_neg hb0]at HC2
       have HC3:=zQr HC2
       have qb:(b.kind==0)=false:=zQx.2 hb0
       clear hb0 HC2
       go_wp2_with fail
       go_meet
       exact⟨b,2,q,l6,rfl,HC3,H6.out,HM6.out,K6.out⟩
  case rest=>
  obtain⟨b,many,k,l3,rfl,HC,h3,m3,k3⟩:=hcut
  have H3:=zQr h3
  have HM3:=zQr m3
  have K3:=zQr k3
  have hmb:many≤many:=zQt _
  clear h3 m3 k3 H2 HM2 K2 c0 HR HM hmb
  obtain⟨q,hq⟩: ∃q,zIM E.T k=q:=⟨_,rfl⟩
  have HQ:=zQr hq
  unfold zIM at hq
  have HQN:=zQr hq
  clear hq
  go_wp2_with fail
  go_loopg [45] (E.T.length+1 - k) (fun g x wr=> ∃(m kk:Nat) (nt:Bool) (l':List Value),g=m∧Hid (zLm E.T m kk nt=q)∧E.T.length - kk<m∧RS E wr kk l'∧CmM wr base l' { Cm.zero with a:=a,b:=b,nt:=nt } ∧zAU w wr E.W)
  case atStart=>exact⟨_,k,false,l3,rfl,HQN,by have:=H3.out.v.at_;omega,H3.out,HM3.out,K3.out⟩
  case round=>
  obtain⟨m,kk,nt,l4,hgm,HN,hg,h4,m4,k4⟩:=hrel
  obtain⟨g',rfl⟩: ∃g',m=g'+1:=⟨m - 1,by omega⟩
  have HGM:=zQr hgm
  clear hgm
  have hn:=HN.out
  rw[zLm]at hn
  have H4:=zQr h4
  have HM4:=zQr m4
  have K4:=zQr k4
  have HG:=zQr hg
  clear h4 m4 k4 hg HN H3 HM3 K3 HQN
  cases hc:zCF E.T 33 kk with
  |some k2=>
   rw[hc]at hn
   have HNN:=zQr hn
   have hat:=zFf hc
   have HCM:=zQr (zKV H4.out hc)
   have HAT:=zQr hat
   clear hc hn hat
   go_wp2_with fail
   refine HCM.out.mono ?_;rintro e w5 ⟨rfl,h5,k5⟩
   have m5:=HM4.out.kept k5 HS.out
   have c6:w5.cell? ⟨E.cb,6,none⟩=some (.bool nt):=h5.cc m5.nt
   have f6:=h5.cf 6
   have H6:=zQr (h5.set 6 (v:= .bool true) rfl)
   have HM6:=zQr ((m5.setNt h5.cl.len true).kept (zAU.put E w5 6 (.bool true)) HS.out)
   have K6:=zQr ((K4.out.tr k5).tr (zAU.put E w5 6 (.bool true)))
   clear h5 m5 k5
   go_wp2_with fail
   go_roundg g'
   case measure=>have:=HGM.out;omega
   case rel=>exact⟨_,k2,true,_,rfl,HNN,by have:=HG.out;have:=HAT.out;omega,H6.out,HM6.out,K6.out⟩
  |none=>
   rw[hc]at hn
   have HNN:Hid ((kk,nt)=q):=zQr hn
   have HCM:=zQr (zKW H4.out hc)
   clear hc hn
   have hqq:=HNN.out
   subst hqq
   go_wp2_with fail
   refine HCM.out.mono ?_;rintro e w5 ⟨rfl,h5,k5⟩
   have H5:=zQr h5
   have HM5:=zQr (HM4.out.kept k5 HS.out)
   have K5:=zQr (K4.out.tr k5)
   have r0:=h5.r0
   clear h5 k5
   go_wp2_with fail
   refine(zFX H5.out.v).mono ?_;rintro e w6 ⟨rfl,rfl⟩
   have c8:w5.cell? ⟨E.cb,8,none⟩=some (.int .i64 0):=H5.out.cc HM5.out.p
   have f8:=H5.out.cf 8
   have H6:=zQr (H5.out.set 8 (v:= .int .i64 (kk:Nat)) rfl)
   have HM6:=zQr ((HM5.out.setP H5.out.cl.len kk).kept (zAU.put E w5 8 (.int .i64 (kk:Nat))) HS.out)
   have K6:=zQr (K5.out.tr (zAU.put E w5 8 (.int .i64 (kk:Nat))))
   clear r0
   go_upto_region 13 with fail
   obtain⟨W6,hW6⟩: ∃W,w5.setCell ⟨E.cb,8,none⟩ (.int .i64 (kk:Nat))=W:=⟨_,rfl⟩
   rw[hW6]at H6 HM6 K6 ⊢
   obtain⟨l6,hl6⟩: ∃l',l4.set 8 (.int .i64 (kk:Nat))=l':=⟨_,rfl⟩
   rw[hl6]at H6 HM6
   clear hW6 hl6 c8 f8
   have r0:=H6.out.r0
   have HTK:=zQr (zB5 H6.out.v)
   obtain⟨nm,hnm⟩: ∃b,E.T.getD kk 0=b:=⟨_,rfl⟩
   have hnm256:nm<256:=by have:=H6.out.v.u kk;omega
   rw[hnm]at HTK
   have HNM:=zQr hnm
   clear hnm
   go_wp2_with fail
   refine HTK.out.mono ?_;rintro e w7 ⟨rfl,hv7,hb7⟩
   have h7:=H6.out.words hb7 hv7
   have m7:=HM6.out.kept (zAU.nbut (E:=E) hb7) HS.out
   have c7:w7.cell? ⟨E.cb,7,none⟩=some (.int .u8 0):=h7.cc m7.nm
   have f7:=h7.cf 7
   have H8:=zQr (h7.set 7 (v:= .int .u8 (nm:Nat)) rfl)
   have HM8:=zQr ((m7.setNm h7.cl.len nm).kept (zAU.put E w7 7 (.int .u8 (nm:Nat))) HS.out)
   have K8:=zQr ((K6.out.tr (zAU.nbut hb7)).tr (zAU.put E w7 7 (.int .u8 (nm:Nat))))
   clear h7 m7 hv7 hb7 r0 HTK
   go_upto_region 14 with fail
   obtain⟨W8,hW8⟩: ∃W,w7.setCell ⟨E.cb,7,none⟩ (.int .u8 (nm:Nat))=W:=⟨_,rfl⟩
   rw[hW8]at H8 HM8 K8 ⊢
   obtain⟨l8,hl8⟩: ∃l',l6.set 7 (.int .u8 (nm:Nat))=l':=⟨_,rfl⟩
   rw[hl8]at H8 HM8
   clear hW8 hl8 c7 f7
   have c7:W8.cell? ⟨E.cb,7,none⟩=some (.int .u8 (nm:Nat)):=H8.out.cc HM8.out.nm
   have hR:=HC.out
   unfold hdC at hR
   rw[HQ.out]at hR
   simp only at hR
   rw[HNM.out]at hR
   have HRR:=zQr hR
   clear hR
   have HMO:=zQr (zF7 (w:=W8) hnm256)
   have H9:Hid (RS E W8 (zNT E.T kk) l8):=H8
   have hR:=HRR.out
   clear HRR HNN HCM
   cases hmo:zCd nm with
   |none=>
    rw[hmo]at HMO hR
    rw[show zFT none= -1 from rfl]at HMO
    subst hR
    clear hmo
    go_wp2_with fail
    refine HMO.out.mono ?_;rintro e w9 ⟨rfl,rfl⟩
    go_wp2_with fail
    refine(zA8 (er:=72) H8.out HM8.out.p (by decide)).mono ?_;rintro e w9 ⟨hp,hb9⟩
    have HR9:Hid (Res E w (.error (72,kk)) [] e w9):=zQr ⟨K8.out.tr (zAU.bel hb9),_,_,hp,H8.out.below hb9⟩
    obtain⟨fb,rfl⟩:=HR9.out.bad
    clear hp hb9
    go_wp2_with fail
    exact⟨rfl,HR9.out⟩
   |some most=>
    rw[hmo]at HMO hR
    rw[show zFT (some most)=(most:Int)from rfl]at HMO
    simp only at hR
    have hnn: ¬(most:Int)<0:=by omega
    have c6:W8.cell? ⟨E.cb,6,none⟩=some (.bool nt):=H8.out.cc HM8.out.nt
    clear hmo
    by_cases q1:most<many
    ·rw[if_pos (.inl q1)]at hR
     subst hR
     have q1':(most:Int)<(many:Int):=by omega
     clear q1
     go_wp2_with fail
     refine HMO.out.mono ?_;rintro e w9 ⟨rfl,rfl⟩
     go_wp2_with fail
     refine(zA8 (er:=71) H8.out HM8.out.p (by decide)).mono ?_;rintro e w9 ⟨hp,hb9⟩
     have HR9:Hid (Res E w (.error (71,kk)) [] e w9):=zQr ⟨K8.out.tr (zAU.bel hb9),_,_,hp,H8.out.below hb9⟩
     obtain⟨fb,rfl⟩:=HR9.out.bad
     clear hp hb9
     go_wp2_with fail
     exact⟨rfl,HR9.out⟩
    have q1': ¬(most:Int)<(many:Int):=by omega
    by_cases q2:most=0∧nt=true
    ·rw[if_pos (.inr q2)]at hR
     subst hR
     obtain⟨rfl,rfl⟩:=q2
     clear q1
     go_wp2_with fail
     refine HMO.out.mono ?_;rintro e w9 ⟨rfl,rfl⟩
     go_wp2_with fail
     refine(zA8 (er:=71) H8.out HM8.out.p (by decide)).mono ?_;rintro e w9 ⟨hp,hb9⟩
     have HR9:Hid (Res E w (.error (71,kk)) [] e w9):=zQr ⟨K8.out.tr (zAU.bel hb9),_,_,hp,H8.out.below hb9⟩
     obtain⟨fb,rfl⟩:=HR9.out.bad
     clear hp hb9
     go_wp2_with fail
     exact⟨rfl,HR9.out⟩
    rw[if_neg (fun h=>h.elim q1 q2)]at hR
    by_cases q3:4096≤n
    ·rw[if_pos q3]at hR
     subst hR
     have q3':(4096:Int)≤(n:Int):=by omega
     clear q1 q3
     by_cases q4:most=0
     ·subst q4
      obtain rfl:nt=false:=by cases nt with|false=>rfl|true=>exact absurd ⟨rfl,rfl⟩ q2
      clear q2
      go_wp2_with fail
      refine HMO.out.mono ?_;rintro e w9 ⟨rfl,rfl⟩
      go_wp2_with fail
      refine(zA8 (er:=2) H8.out HM8.out.p (by decide)).mono ?_;rintro e w9 ⟨hp,hb9⟩
      have HR9:Hid (Res E w (.error (2,kk)) [] e w9):=zQr ⟨K8.out.tr (zAU.bel hb9),_,_,hp,H8.out.below hb9⟩
      obtain⟨fb,rfl⟩:=HR9.out.bad
      clear hp hb9
      go_wp2_with fail
      exact⟨rfl,HR9.out⟩
     ·have q4':((most:Int)==0)=false:=zQx.2 (by omega)
      clear q2 q4
      go_wp2_with fail
      refine HMO.out.mono ?_;rintro e w9 ⟨rfl,rfl⟩
      go_wp2_with fail
      refine(zA8 (er:=2) H8.out HM8.out.p (by decide)).mono ?_;rintro e w9 ⟨hp,hb9⟩
      have HR9:Hid (Res E w (.error (2,kk)) [] e w9):=zQr ⟨K8.out.tr (zAU.bel hb9),_,_,hp,H8.out.below hb9⟩
      obtain⟨fb,rfl⟩:=HR9.out.bad
      clear hp hb9
      go_wp2_with fail
      exact⟨rfl,HR9.out⟩
    ·rw[if_neg q3]at hR
     subst hR
     have q3':(n:Int)<4096:=by omega
     clear q1 q3
     by_cases q4:most=0
     ·subst q4
      obtain rfl:nt=false:=by cases nt with|false=>rfl|true=>exact absurd ⟨rfl,rfl⟩ q2
      clear q2
      go_wp2_with fail
      refine HMO.out.mono ?_;rintro e w9 ⟨rfl,rfl⟩
      go_wp2_with fail
      go_end0
      exact⟨rfl,K8.out,l8,H9.out,HM8.out⟩
     ·have q4':((most:Int)==0)=false:=zQx.2 (by omega)
      clear q2 q4
      go_wp2_with fail
      refine HMO.out.mono ?_;rintro e w9 ⟨rfl,rfl⟩
      go_wp2_with fail
      go_end0
      exact⟨rfl,K8.out,l8,H9.out,HM8.out⟩
end
end
end Go.Proofs.YtmaagpbjahjmhaaGreatDoor
