/- Parts: Ig Ih Ii. -/
import Derived.Test.YtfjbnpdffillbaaGreatDoorQ43
import Derived.Test.YtfjbnpdffillbaaGreatDoorQ38
import Derived.Test.YtfjbnpdffillbaaGreatDoorQ7
import Derived.Test.YtfjbnpdffillbaaGreatDoorQ39
import Derived.Test.YtfjbnpdffillbaaGreatDoorQ37
import Derived.Lib.ConvBytes
namespace Go.Proofs.YtfjbnpdffillbaaGreatDoor
open Go.RowKit
section
variable {w:World} {oa:Option Addr} {cap:Nat} {re:List Nd}
def AprT (r:Except Nat (List Nat)) (e:Ending) (w':World):Prop:=
 match r with
 | .error er=>e= .returned (.tuple #[.slice none 0 0,.int .i64 (er:Nat)])
 | .ok s=> ∃o c,e= .returned (.tuple #[.slice o s.length c,.int .i64 0])∧Src w' (.slice o s.length c) s.length (u8s s)
theorem AprR.toT {base:Nat} {r:Except Nat (List Nat)} {e:Ending} {w':World} (h:AprR base r e w'):AprT r e w':=by
 cases r with
 |error er=>exact h
 |ok s=>
  obtain⟨v,rfl,ho⟩:=h
  have hs:=Src.own ho
  rcases ho.2 with ⟨h1,h2⟩|⟨g,cp,_,h1,_⟩
  ·exact⟨none,0,by rw[h1,h2],by rw[h1]at hs;rw[h2]at hs ⊢;exact hs⟩
  ·exact⟨_,_,by rw[h1],by rw[h1]at hs;exact hs⟩
theorem below_bytes {base:Nat} {v:World} (h:Below base w v) (hb:base≤v.heap.size) (e:TypeId) (s:ByteArray):Below base w (Lib.bytesWorld v e s):=
 ⟨h.os,h.tape,h.output,by rw[Lib.bytesWorld_size];have:=h.size;omega,fun k hk=>(Lib.bytesWorld_at_old v e s k (by omega)).trans (h.block k hk)⟩
theorem src_bytes (v:World) (n:Int) (c:Nat):Src (Lib.bytesWorld v 5 ⟨(Lib.itoa n).toArray⟩) (.slice (some ⟨v.heap.size,0,none⟩) (itoB n).length c) (itoB n).length (u8s (itoB n)):=by
 refine .inr ⟨_,_,rfl,fun j u hu=>?_⟩
 have hb:=itoa_bytes n
 have hl:(itoB n).length=(Lib.itoa n).length:=by rw[←hb];simp[bytesOf]
 have hj:=(List.getElem?_eq_some_iff.1 hu).1
 simp only[u8s,List.length_map]at hj
 rw[Addr.add_mid,Nat.zero_add,Lib.bytesWorld_cell v _ _ j (by show j<(Lib.itoa n).toArray.size;simp;omega)]
 rw[←hu,←hb]
 simp[u8s,bytesOf,List.getD_eq_getElem?_getD]
 rw[List.getElem?_eq_getElem (by omega)]
 simp
set_option maxRecDepth 100000 in
set_option maxHeartbeats 1600000 in
theorem rprint_wrong {k n:Int} (HOP:Hid (∀x∈re,-128≤x.op∧x.op≤127)) (k1: -128≤k) (k2:k≤127) (h:NdV w oa re) (hr:rightA ⟨k,n,re⟩=false) (ere:Bool):
  Calls Tryz.prog 27 #[.agg #[.int .i8 k,.int .i64 n,.slice oa re.length cap],.bool ere] w fun e w'=>e= .returned (.tuple #[.slice none 0 0,.int .i64 71])∧Below w.heap.size w w':=by
 have hb0:=(Below.refl w.heap.size w).alloc (Nat.le_refl _) (.cells #[.int .i8 k,.int .i64 n,.slice oa re.length cap] 54)
 have HS:=Lib.hid (rright_call (cap:=cap) k n HOP (h.below hb0) k1 k2)
 rw[hr]at HS
 have HB:=Lib.hid hb0
 clear h hb0 hr
 go_enter Tryz.func27,Tryz.ntmps27
 go_wp2_with fail
 refine HS.out.mono ?_;rintro e w1 ⟨rfl,hb1⟩
 have HB1:=Lib.hid (HB.out.trans (hb1.mono (by simp)))
 clear hb1
 go_wp2_with fail
 go_ret2
 exact⟨rfl,HB1.out⟩
set_option maxRecDepth 100000 in
set_option maxHeartbeats 1600000 in
theorem rprint_zero (h:NdV w oa []) (ere:Bool):
  Calls Tryz.prog 27 #[.agg #[.int .i8 0,.int .i64 0,.slice oa 0 cap],.bool ere] w fun e w'=>AprT (.ok []) e w'∧Below w.heap.size w w':=by
 have hb0:=(Below.refl w.heap.size w).alloc (Nat.le_refl _) (.cells #[.int .i8 0,.int .i64 0,.slice oa 0 cap] 54)
 have HS:=Lib.hid (rright_call (cap:=cap) 0 0 (fun x hx=>absurd hx (by simp)) (h.below hb0) (by decide) (by decide))
 rw[show rightA ⟨0,0,[]⟩=true from rfl]at HS
 have HA:=Lib.hid (AdB.new w (.int .i8 0) (.int .i64 0) (.slice oa 0 cap))
 have HB:=Lib.hid hb0
 clear h hb0
 go_enter Tryz.func27,Tryz.ntmps27
 go_wp2_with fail
 refine HS.out.mono ?_;rintro e w1 ⟨rfl,hb1⟩
 have HB1:=Lib.hid (HB.out.trans (hb1.mono (by simp)))
 have k0:=(HA.out.below hb1).c0
 clear hb1
 go_wp2_with fail
 go_ret2
 exact⟨⟨_,_,rfl,Src.nil _⟩,HB1.out⟩
set_option maxRecDepth 100000 in
set_option maxHeartbeats 1600000 in
theorem rprint_two (h:NdV w oa []) (ere:Bool):
  Calls Tryz.prog 27 #[.agg #[.int .i8 2,.int .i64 0,.slice oa 0 cap],.bool ere] w fun e w'=>AprT (.ok [36]) e w'∧Below w.heap.size w w':=by
 have hb0:=(Below.refl w.heap.size w).alloc (Nat.le_refl _) (.cells #[.int .i8 2,.int .i64 0,.slice oa 0 cap] 54)
 have HS:=Lib.hid (rright_call (cap:=cap) 2 0 (fun x hx=>absurd hx (by simp)) (h.below hb0) (by decide) (by decide))
 rw[show rightA ⟨2,0,[]⟩=true from rfl]at HS
 have HA:=Lib.hid (AdB.new w (.int .i8 2) (.int .i64 0) (.slice oa 0 cap))
 have HB:=Lib.hid hb0
 clear h hb0
 go_enter Tryz.func27,Tryz.ntmps27
 go_wp2_with fail
 refine HS.out.mono ?_;rintro e w1 ⟨rfl,hb1⟩
 have HB1:=Lib.hid (HB.out.trans (hb1.mono (by simp)))
 have k0:=(HA.out.below hb1).c0
 have hs1:=HB1.out.size
 have hsr:=Src.new w1 [.int .u8 36] 5 1 1
 have HSR:=Lib.hid hsr
 clear hb1 hsr
 go_wp2_with fail
 go_ret2
 exact⟨⟨_,_,rfl,HSR.out⟩,HB1.out.alloc hs1 _⟩
set_option maxRecDepth 100000 in
set_option maxHeartbeats 1600000 in
theorem rprint_one {n:Int} (h1:1≤n) (h2:n≤2147483647) (h:NdV w oa []) (ht:Tabs w) (ere:Bool):
  Calls Tryz.prog 27 #[.agg #[.int .i8 1,.int .i64 n,.slice oa 0 cap],.bool ere] w fun e w'=>AprT (.ok (itoB n)) e w'∧Below w.heap.size w w':=by
 have hb0:=(Below.refl w.heap.size w).alloc (Nat.le_refl _) (.cells #[.int .i8 1,.int .i64 n,.slice oa 0 cap] 54)
 have HS:=Lib.hid (rright_call (cap:=cap) 1 n (fun x hx=>absurd hx (by simp)) (h.below hb0) (by decide) (by decide))
 rw[show rightA ⟨1,n,[]⟩=true by simp[rightA,h1,h2]]at HS
 have HA:=Lib.hid (AdB.new w (.int .i8 1) (.int .i64 n) (.slice oa 0 cap))
 have HT:=Lib.hid (ht.below hb0)
 have HB:=Lib.hid hb0
 clear h hb0 ht
 go_enter Tryz.func27,Tryz.ntmps27
 go_wp2_with fail
 refine HS.out.mono ?_;rintro e w1 ⟨rfl,hb1⟩
 have HB1:=Lib.hid (HB.out.trans (hb1.mono (by simp)))
 have k0:=(HA.out.below hb1).c0
 have k1:=(HA.out.below hb1).c1
 have HT1:=Lib.hid (HT.out.below hb1)
 have hs1:=HB1.out.size
 clear hb1 HT
 go_wp2_with fail
 refine(itoa_call (by omega) (by omega) HT1.out.pw).mono ?_;rintro e w2 ⟨rfl,hb2⟩
 have HB2:=Lib.hid (HB1.out.trans (hb2.mono HB1.out.size))
 have hcv:=Lib.run_convert_string_bytes (P:=Tryz.prog) w2 9 22 5 ⟨(Lib.itoa n).toArray⟩ Tryz.underlying9 Tryz.underlying22 Tryz.underlying5
 have HL:Hid ((⟨(Lib.itoa n).toArray⟩:ByteArray).size=(itoB n).length):=Lib.hid (by rw[←itoa_bytes n];simp[bytesOf];rfl)
 rw[HL.out]at hcv
 obtain⟨S,hS⟩: ∃S:ByteArray,⟨(Lib.itoa n).toArray⟩=S:=⟨_,rfl⟩
 rw[hS]at hcv ⊢
 have HSE:=Lib.hid hS
 obtain⟨W,hW⟩: ∃W,Lib.bytesWorld w2 5 S=W:=⟨_,rfl⟩
 obtain⟨cp,hcp⟩: ∃c,grownCap w2 (itoB n).length 0 5=c:=⟨_,rfl⟩
 rw[hW,hcp]at hcv
 have HWE:=Lib.hid hW
 have hs2:=HB2.out.size
 clear hb2 k0 k1 hS hW hcp
 go_wp2_with fail
 go_ret2
 refine⟨⟨_,_,rfl,?_⟩,?_⟩
 ·rw[←HWE.out,←HSE.out]
  exact src_bytes w2 n _
 ·rw[←HWE.out]
  exact below_bytes HB2.out hs2 _ _
set_option maxRecDepth 100000 in
set_option maxHeartbeats 1600000 in
theorem rprint_three (HOP:Hid (∀x∈re,-128≤x.op∧x.op≤127)) (h:NdV w oa re) (hr:rightA ⟨3,0,re⟩=true) (ere:Bool)
  (hX: ∀W,NdV W oa re→Calls Tryz.prog 85 #[.slice oa re.length cap,.bool ere] W fun e w'=>AprR W.heap.size (betweenA ere re) e w'∧Below W.heap.size W w'):
  Calls Tryz.prog 27 #[.agg #[.int .i8 3,.int .i64 0,.slice oa re.length cap],.bool ere] w fun e w'=>AprT (betweenA ere re) e w'∧Below w.heap.size w w':=by
 have hb0:=(Below.refl w.heap.size w).alloc (Nat.le_refl _) (.cells #[.int .i8 3,.int .i64 0,.slice oa re.length cap] 54)
 have HS:=Lib.hid (rright_call (cap:=cap) 3 0 HOP (h.below hb0) (by decide) (by decide))
 rw[hr]at HS
 have HA:=Lib.hid (AdB.new w (.int .i8 3) (.int .i64 0) (.slice oa re.length cap))
 have HB:=Lib.hid hb0
 have HV:=Lib.hid h
 have HXX:=Lib.hid hX
 clear h hb0 hr hX
 go_enter Tryz.func27,Tryz.ntmps27
 go_wp2_with fail
 refine HS.out.mono ?_;rintro e w1 ⟨rfl,hb1⟩
 have HB1:=Lib.hid (HB.out.trans (hb1.mono (by simp)))
 have k0:=(HA.out.below hb1).c0
 have k2:=(HA.out.below hb1).c2
 have HX1:=Lib.hid (HXX.out w1 (HV.out.below HB1.out))
 clear hb1
 go_wp2_with fail
 refine HX1.out.mono ?_;rintro e w2 ⟨hr2,hb2⟩
 have HB2:=Lib.hid (HB1.out.trans (hb2.mono HB1.out.size))
 have hT:=hr2.toT
 clear hb2 hr2 HX1
 cases hq:betweenA ere re with
 |error er=>
  rw[hq]at hT
  have hT':e= .returned (.tuple #[.slice none 0 0,.int .i64 (er:Nat)]):=hT
  subst hT'
  have HQ:=Lib.hid hq
  clear hT hq
  go_wp2_with fail
  go_ret2
  refine⟨?_,HB2.out⟩
  rw[HQ.out]
  exact rfl
 |ok s=>
  rw[hq]at hT
  obtain⟨o,c,rfl,hs⟩:=hT
  have HSS:=Lib.hid hs
  have HQ:=Lib.hid hq
  clear hs hq
  go_wp2_with fail
  go_ret2
  refine⟨?_,HB2.out⟩
  rw[HQ.out]
  exact⟨_,_,rfl,HSS.out⟩
theorem rprintA_call (k n:Int) (HOP:Hid (∀x∈re,-128≤x.op∧x.op≤127)) (k1: -128≤k) (k2:k≤127) (h:NdV w oa re) (ht:Tabs w) (ere:Bool) (hok: ∀s,spellN ere re=some s→ ∀b∈s,b<256):
  Calls Tryz.prog 27 #[.agg #[.int .i8 k,.int .i64 n,.slice oa re.length cap],.bool ere] w fun e w'=>AprT (printA ere ⟨k,n,re⟩) e w'∧Below w.heap.size w w':=by
 cases hr:rightA ⟨k,n,re⟩with
 |false=>
  rw[printA_wrong hr]
  exact rprint_wrong HOP k1 k2 h hr ere
 |true=>
  unfold printA
  rw[if_neg (by rw[hr];decide)]
  simp only
  by_cases h1:k=1
  ·subst h1
   simp only[rightA,show¬((1:Int)=0∨(1:Int)=2)by decide,if_false,if_true,Bool.and_eq_true,decide_eq_true_eq,List.isEmpty_iff]at hr
   obtain⟨⟨a,b⟩,rfl⟩:=hr
   rw[if_neg (by decide),if_pos rfl]
   exact rprint_one a b h ht ere
  by_cases h0:k=0
  ·subst h0
   simp only[rightA,true_or,if_true,Bool.and_eq_true,beq_iff_eq,List.isEmpty_iff]at hr
   obtain⟨rfl,rfl⟩:=hr
   rw[if_pos rfl]
   exact rprint_zero h ere
  by_cases h2:k=2
  ·subst h2
   simp only[rightA,or_true,if_true,Bool.and_eq_true,beq_iff_eq,List.isEmpty_iff]at hr
   obtain⟨rfl,rfl⟩:=hr
   rw[if_neg (by decide),if_neg (by decide),if_pos rfl]
   exact rprint_two h ere
  have h3:k=3:=by
   by_cases h3:k=3
   ·exact h3
   ·simp only[rightA,show¬(k=0∨k=2)by omega,if_false,h1,h3]at hr
    cases hr
  subst h3
  have hr0:=hr
  simp only[rightA,show¬((3:Int)=0∨(3:Int)=2)by decide,if_false,show¬(3:Int)=1 by decide,if_true,Bool.and_eq_true,beq_iff_eq,Bool.or_eq_true,List.isEmpty_iff]at hr
  obtain⟨rfl,hs⟩:=hr
  rw[if_neg (by decide),if_neg (by decide),if_neg (by decide)]
  refine rprint_three HOP h hr0 ere (fun W hW=>?_)
  by_cases he:re=[]
  ·subst he
   exact rbetween_nil ere
  ·exact rbetween_call HOP hW (fun e=>he (List.eq_nil_of_length_eq_zero e)) (hs.resolve_left he) ere hok
end
end Go.Proofs.YtfjbnpdffillbaaGreatDoor
namespace Go.Proofs.YtfjbnpdffillbaaGreatDoor
open Go.RowKit
def okS:Except Nat (List Nat)→List Nat
 | .ok s=>s
 | .error _=>[]
def okE:Except Nat (List Nat)→Nat
 | .ok _=>0
 | .error e=>e
theorem AprM.uni {base:Nat} {r:Except Nat (List Nat)} {e:Ending} {w':World} (h:AprM base r e w'): ∃o c,e= .returned (.tuple #[.slice o (okS r).length c,.int .i64 (okE r:Nat)])∧OwnM w' base 5 1 (.slice o (okS r).length c) (okS r).length (u8s (okS r)):=by
 cases r with
 |error er=>exact⟨none,0,h,.inl (World.ownsRow_nil _ _ _ _)⟩
 |ok s=>
  obtain⟨v,rfl,ho⟩:=h
  obtain⟨o,c,rfl⟩:=ho.form
  exact⟨o,c,rfl,ho⟩
theorem AprT.uni {r:Except Nat (List Nat)} {e:Ending} {w':World} (h:AprT r e w'): ∃o c,e= .returned (.tuple #[.slice o (okS r).length c,.int .i64 (okE r:Nat)])∧BtM w' o (okS r):=by
 cases r with
 |error er=>exact⟨none,0,h,fun hp=>absurd hp (by simp[okS])⟩
 |ok s=>
  obtain⟨o,c,rfl,ho⟩:=h
  exact⟨o,c,rfl,BtM.of_src ho⟩
theorem OwnM.btM {w:World} {base n:Nat} {o:Option Addr} {c:Nat} {T:List Nat} (h:OwnM w base 5 1 (.slice o n c) n (u8s T)):BtM w o T:=fun hp=>by
 have hl:T.length=n:=by have:=h.len;simpa [u8s]using this
 obtain⟨_,g,rfl,hg,hc,_⟩:=h.some (by omega)
 refine⟨g,0,rfl,hg,fun i b hi=>?_⟩
 have hil:=(List.getElem?_eq_some_iff.1 hi).1
 obtain⟨u,hu,hc⟩:=hc i (by omega)
 rw[Nat.zero_add,hc,←hu]
 simp[u8s,hi]
theorem OwnM.below {w w':World} {base n:Nat} {e:TypeId} {size:Nat} {v:Value} {xs:List Value} (h:OwnM w base e size v n xs) (hb:Below w.heap.size w w'):OwnM w' base e size v n xs:=h.block fun g hg=>hb.block g (h.lt g hg).2
theorem OwnM.mono {w:World} {base base' n:Nat} {e:TypeId} {size:Nat} {v:Value} {xs:List Value} (h:OwnM w base e size v n xs) (hb:base'≤base):OwnM w base' e size v n xs:=by
 rcases h with h|⟨h0,g,cur,fz,h1,h2,h3⟩
 ·exact .inl (ownsRow_mono h hb)
 ·exact .inr ⟨h0,g,cur,fz,h1,Nat.le_trans hb h2,h3⟩
theorem textL_len2 {d:Nat} {L:List Mk} {t:List Nat} (h:textL d L=some t):t.length≤2*L.length:=by
 unfold textL at h
 split at h
 ·cases h
 ·exact textT_length d L false t h
theorem spellN_len {ere:Bool} {re:List Nd} {s:List Nat} (hq:spellN ere re=some s):s.length≤4096:=by
 unfold spellN at hq
 split at hq
 ·cases hq
 ·split at hq
  ·cases hq;assumption
  ·cases hq
theorem printA_len (ere:Bool) (a:Ad):(okS (printA ere a)).length≤8194:=by
 cases hr:rightA a with
 |false=>rw[printA_wrong hr];exact Nat.zero_le _
 |true=>
  unfold printA
  rw[if_neg (by rw[hr];decide)]
  split
  ·exact Nat.zero_le _
  ·split
   ·rename_i h0 h1
    obtain⟨k,n,re⟩:=a
    simp only at h1
    subst h1
    simp only[rightA,show¬((1:Int)=0∨(1:Int)=2)by decide,if_false,if_true,Bool.and_eq_true,decide_eq_true_eq]at hr
    have:=itoB_len (m:=n) (by omega) (by omega)
    show(itoB n).length≤8194
    omega
   ·split
    ·show 1≤8194;omega
    ·unfold betweenA
     split
     ·show 2≤8194;omega
     ·cases hq:spellN ere a.re with
      |none=>exact Nat.zero_le _
      |some s=>
       have h1:=spellN_len hq
       simp only
       cases ht:textL 47 (slashed s)with
       |none=>exact Nat.zero_le _
       |some t=>
        have h2:=textL_len2 ht
        have h3:(slashed s).length=s.length:=by simp[slashed]
        show(47::t++[47]).length≤8194
        simp
        omega
theorem BgBM.two {w:World} {base gb:Nat} {v1 v2 bb:Value} {n1 n2:Nat} {x1 x2:List Value} (h1:OwnM w base 5 1 v1 n1 x1) (h2:OwnM w base 5 1 v2 n2 x2) (lt1: ∀b,v1.ownBlock=some b→b<gb) (lt2: ∀b,v2.ownBlock=some b→b<gb) (ap: ∀b c,v1.ownBlock=some b→v2.ownBlock=some c→b<c)
  (r:w.ownsRow (gb+1) 22 1 bb 2 [v1,v2]) (hb:base≤gb+1) (c:w.cell? ⟨gb,0,none⟩=some bb) (cl:gb<w.heap.size):BgBM w base [v1,v2] [n1,n2] (fun i=>if i=0 then x1 else x2) gb bb:=by
 have two: ∀(i:Nat) (v:Value),[v1,v2][i]?=some v→(i=0∧v=v1)∨(i=1∧v=v2):=fun i v h=>by
  match i,h with
  |0,h=>injection h with h;exact .inl ⟨rfl,h.symm⟩
  |1,h=>injection h with h;exact .inr ⟨rfl,h.symm⟩
  |i+2,h=>cases h
 refine⟨rfl,fun i v n hv hn=>?_,fun i j v u b hv hu hb1 hb2=>?_,ownsRow_mono r hb,fun i v b hv hvb hbb=>?_,c,cl,fun i v hv hg=>?_,fun hg=>?_⟩
 ·rcases two i v hv with ⟨rfl,rfl⟩|⟨rfl,rfl⟩
  ·injection hn with hn;subst hn;exact h1
  ·injection hn with hn;subst hn;exact h2
 ·rcases two i v hv with ⟨rfl,rfl⟩|⟨rfl,rfl⟩<;>rcases two j u hu with ⟨rfl,rfl⟩|⟨rfl,rfl⟩
  ·rfl
  ·have:=ap b b hb1 hb2;omega
  ·have:=ap b b hb2 hb1;omega
  ·rfl
 ·have h3:b<gb:=by
   rcases two i v hv with ⟨_,rfl⟩|⟨_,rfl⟩
   ·exact lt1 b hvb
   ·exact lt2 b hvb
  have:=(r.lt b hbb).1
  omega
 ·rcases two i v hv with ⟨_,rfl⟩|⟨_,rfl⟩
  ·have:=lt1 gb hg;omega
  ·have:=lt2 gb hg;omega
 ·have:=(r.lt gb hg).1;omega
theorem blk2 {v1 v2:Value} {b:Nat} (h:Blk [v1,v2] b):v1.ownBlock=some b∨v2.ownBlock=some b:=by
 obtain⟨i,v,hv,hb⟩:=h
 match i,hv with
 |0,h=>injection h with h;exact .inl (by rw[h];exact hb)
 |1,h=>injection h with h;exact .inr (by rw[h];exact hb)
 |i+2,h=>cases h
def wSet:Cls:=⟨0#64,1099511627776#64,0#64,0#64⟩
def setC (x:Nd):Nd:=⟨x.op,wSet,x.n,x.min,x.max,x.kids⟩
def reS (x:Nd):Nd:=if x.op=1 then setC x else x
def soS (re:List Nd) (d:Nat):List Nd:=(re.take d).map reS++re.drop d
theorem soS_length (re:List Nd) (d:Nat):(soS re d).length=re.length:=by simp[soS];omega
theorem soS_at {re:List Nd} {d:Nat} {x:Nd} (h:re[d]?=some x):(soS re d)[d]?=some x:=by
 have hd:=(List.getElem?_eq_some_iff.1 h).1
 unfold soS
 rw[List.getElem?_append_right (by simp;omega)]
 simp only[List.length_map,List.length_take,List.getElem?_drop]
 rw[show d+(d - min d re.length)=d by omega,h]
theorem soS_succ {re:List Nd} {d:Nat} {x:Nd} (h:re[d]?=some x):soS re (d+1)=(soS re d).set d (reS x):=by
 have hd:=(List.getElem?_eq_some_iff.1 h).1
 have hl:((re.take d).map reS).length=d:=by simp;omega
 unfold soS
 rw[List.set_append_right _ _ (by omega),hl,Nat.sub_self,List.take_add_one,h]
 have h2:re.drop d=x::re.drop (d+1):=by
  rw[List.drop_eq_getElem_cons hd]
  have:re[d]=x:=by rw[List.getElem?_eq_getElem hd]at h;exact Option.some.inj h
  rw[this]
 rw[h2,List.set_cons_zero]
 simp
theorem soS_full (re:List Nd):soS re re.length=re.map reS:=by
 unfold soS
 rw[List.take_of_length_le (Nat.le_refl _),List.drop_eq_nil_of_le (Nat.le_refl _),List.append_nil]
theorem ndsC_set4 (l:List Nd) (i:Nat) (x:Nd) (hx:l[i]?=some x):((((ndsC l).set (i*9+1) (.int .u64 0)).set (i*9+2) (.int .u64 1099511627776)).set (i*9+3) (.int .u64 0)).set (i*9+4) (.int .u64 0)=ndsC (l.set i (setC x)):=by
 have hi:=(List.getElem?_eq_some_iff.1 hx).1
 have hg:l.getD i Nd.zero=x:=by rw[List.getD_eq_getElem?_getD,hx];rfl
 have same: ∀(k:Nat) (v:Value),(ndsC l)[k]?=some v→(ndsC l).set k v=ndsC l:=fun k v h=>by
  refine List.ext_getElem? fun j=>?_
  rw[List.getElem?_set]
  split
  ·rename_i e
   subst e
   have:=(List.getElem?_eq_some_iff.1 h).1
   rw[if_pos this,h]
  ·rfl
 have hc: ∀j,j<9→(ndsC l)[i*9+j]?=(ndCells x)[j]?:=fun j hj=>by rw[ndsC_at l i j hi hj,hg]
 rw[ndsC_set l i (setC x) hi]
 rw[show(setC x).op=x.op from rfl,same (i*9) (.int .i8 x.op) (hc 0 (by decide))]
 have e5:=hc 5 (by decide)
 have e6:=hc 6 (by decide)
 have e7:=hc 7 (by decide)
 have e8:=hc 8 (by decide)
 refine List.ext_getElem? fun j=>?_
 simp only[List.getElem?_set,List.length_set]
 by_cases h5:i*9+5=j
 ·subst h5;rw[if_neg (by omega),if_neg (by omega),if_neg (by omega),if_neg (by omega),if_neg (by omega),if_neg (by omega),if_neg (by omega),if_pos rfl,if_pos (List.getElem?_eq_some_iff.1 e5).1,e5];rfl
 by_cases h6:i*9+6=j
 ·subst h6;rw[if_neg (by omega),if_neg (by omega),if_neg (by omega),if_neg (by omega),if_neg (by omega),if_neg (by omega),if_pos rfl,if_pos (List.getElem?_eq_some_iff.1 e6).1,e6];rfl
 by_cases h7:i*9+7=j
 ·subst h7;rw[if_neg (by omega),if_neg (by omega),if_neg (by omega),if_neg (by omega),if_neg (by omega),if_pos rfl,if_pos (List.getElem?_eq_some_iff.1 e7).1,e7];rfl
 by_cases h8:i*9+8=j
 ·subst h8;rw[if_neg (by omega),if_neg (by omega),if_neg (by omega),if_neg (by omega),if_pos rfl,if_pos (List.getElem?_eq_some_iff.1 e8).1,e8];rfl
 rw[if_neg h8,if_neg h7,if_neg h6,if_neg h5]
 rfl
theorem WideN.setC {w:World} {base g n:Nat} {re:List Nd} (h:WideN w base g n re) {i:Nat} {x:Nd} (hx:re[i]?=some x):
  WideN ((((w.setCell ⟨g,i*9+1,none⟩ (.int .u64 0)).setCell ⟨g,i*9+2,none⟩ (.int .u64 1099511627776)).setCell ⟨g,i*9+3,none⟩ (.int .u64 0)).setCell ⟨g,i*9+4,none⟩ (.int .u64 0)) base g n (re.set i (setC x)):=by
 have hi:=(List.getElem?_eq_some_iff.1 hx).1
 refine⟨by rw[List.length_set];exact h.1,?_⟩
 have h2:=h.2
 unfold Nds at h2 ⊢
 have hl:(re++spareL n).length=n+64:=by rw[List.length_append,h.1];simp[spareL]
 have hl2:(re.set i (Go.Proofs.YtfjbnpdffillbaaGreatDoor.setC x)++spareL n).length=n+64:=by rw[List.length_append,List.length_set,h.1];simp[spareL]
 rw[hl]at h2
 rw[hl2,←List.set_append_left (h:=hi),←ndsC_set4 _ i x (by rw[List.getElem?_append_left hi];exact hx)]
 exact(World.ownsRow.stored (World.ownsRow.stored (World.ownsRow.stored (World.ownsRow.stored h2 _ _).1 _ _).1 _ _).1 _ _).1
end Go.Proofs.YtfjbnpdffillbaaGreatDoor
namespace Go.Proofs.YtfjbnpdffillbaaGreatDoor
open Go.RowKit
theorem WideN.len {w:World} {base g n:Nat} {re:List Nd} (h:WideN w base g n re):(re++spareL n).length=n+64:=by rw[List.length_append,h.1];simp[spareL]
theorem WideN.toV {w:World} {base g n:Nat} {re:List Nd} (h:WideN w base g n re) (hn:n≤4294967296) (hk: ∀x∈re,x.kids≤9223372036854775807):NdV w (some ⟨g,0,none⟩) re:=
 h.2.preV h.len (by rw[h.1];exact hn) hk
theorem reS_kids {re:List Nd} (h: ∀x∈re,x.kids≤9223372036854775807): ∀x∈re.map reS,x.kids≤9223372036854775807:=fun x hx=>by
 obtain⟨y,hy,rfl⟩:=List.mem_map.1 hx
 unfold reS
 split
 ·exact h y hy
 ·exact h y hy
theorem reS_op {re:List Nd} (h:Hid (∀x∈re,-128≤x.op∧x.op≤127)):Hid (∀x∈re.map reS,-128≤x.op∧x.op≤127):=Lib.hid fun x hx=>by
 obtain⟨y,hy,rfl⟩:=List.mem_map.1 hx
 unfold reS
 split
 ·exact h.out y hy
 ·exact h.out y hy
structure PrS (w:World) (k n:Int) (oa:Option Addr) (m cap:Nat) (b0 b1 bg g:Nat) (M:List Nd) (W:World):Prop where
 a:AdB W b0 (.int .i8 k) (.int .i64 n) (.slice oa m cap)
 t:AdB W b1 (.int .i8 k) (.int .i64 n) (.slice (some ⟨g,0,none⟩) m (m+64))
 n:WideN W bg g m M
 b:Below w.heap.size w W
 l0:w.heap.size≤b0
 l1:b0<bg
 l2:g<b1
section
variable {w W W':World} {k n:Int} {oa:Option Addr} {m cap b0 b1 bg g:Nat} {M:List Nd}
theorem PrS.below (h:PrS w k n oa m cap b0 b1 bg g M W) (hb:Below W.heap.size W W'):PrS w k n oa m cap b0 b1 bg g M W':=
 ⟨h.a.below hb,h.t.below hb,h.n.below hb,h.b.trans (hb.mono h.b.size),h.l0,h.l1,h.l2⟩
theorem PrS.set (h:PrS w k n oa m cap b0 b1 bg g M W) {i:Nat} {x:Nd} (hx:M[i]?=some x):
  PrS w k n oa m cap b0 b1 bg g (M.set i (setC x)) ((((W.setCell ⟨g,i*9+1,none⟩ (.int .u64 0)).setCell ⟨g,i*9+2,none⟩ (.int .u64 1099511627776)).setCell ⟨g,i*9+3,none⟩ (.int .u64 0)).setCell ⟨g,i*9+4,none⟩ (.int .u64 0)):=
 have h1:=h.l1
 have h2:=h.l2
 have h0:=h.l0
 have hg:=h.n.lt.1
 have n0:b0≠g:=by omega
 have n1:b1≠g:=by omega
 ⟨(((h.a.other n0 _ _).other n0 _ _).other n0 _ _).other n0 _ _,(((h.t.other n1 _ _).other n1 _ _).other n1 _ _).other n1 _ _,h.n.setC hx,
  (((h.b.setCell (by show w.heap.size≤g;omega) _).setCell (by show w.heap.size≤g;omega) _).setCell (by show w.heap.size≤g;omega) _).setCell (by show w.heap.size≤g;omega) _,h.l0,h.l1,h.l2⟩
end
theorem list_set_same {α:Type} {l:List α} {i:Nat} {x:α} (h:l[i]?=some x):l.set i x=l:=by
 refine List.ext_getElem? fun j=>?_
 rw[List.getElem?_set]
 split
 ·rename_i e
  subst e
  rw[if_pos (List.getElem?_eq_some_iff.1 h).1,h]
 ·rfl
section
variable {w:World} {k n:Int} {oa:Option Addr} {cap:Nat} {re:List Nd}
set_option maxRecDepth 100000 in
set_option maxHeartbeats 12800000 in
theorem ap20_all (hv:NdW w oa cap re) (z:re.length*72≤140737488351232) (ht:Tabs w) (hk1: -128≤k) (hk2:k≤127) (ere:Bool):
  Calls Tryz.prog 4 #[.agg #[.int .i8 k,.int .i64 n,.slice oa re.length cap],.bool ere] w fun e w'=>e= .returned (.bool true)∧Below w.heap.size w w':=by
 have hb0:=(Below.refl w.heap.size w).alloc (Nat.le_refl _) (.cells #[.int .i8 k,.int .i64 n,.slice oa re.length cap] 54)
 have HT:=Lib.hid ht
 have HV:=Lib.hid hv
 have HA0:=Lib.hid (AdB.new w (.int .i8 k) (.int .i64 n) (.slice oa re.length cap))
 have HB0:=Lib.hid hb0
 have HV0:=Lib.hid (hv.below hb0)
 have HZ:=Lib.hid z
 have HKD:Hid (∀x∈re,x.kids≤9223372036854775807):=Lib.hid fun x hx=>(hv.wf x hx).2.2.2.2.2
 have HOP:=hv.op
 have HOK:Hid (∀(L:List Nd) (s:List Nat),spellN ere L=some s→ ∀b∈s,b<256):=Lib.hid fun L s hs b hb=>(spellN_lob hs).1 b hb
 clear hv ht hb0 z
 go_enter Tryz.func4,Tryz.ntmps4
 go_upto_region 1 with fail
 obtain⟨b0,hbz⟩: ∃a,w.heap.size=a:=⟨_,rfl⟩
 have HBZ:=Lib.hid hbz
 obtain⟨W0,hW0⟩: ∃W,w.alloc (.cells #[.int .i8 k,.int .i64 n,.slice oa re.length cap] 54)=W:=⟨_,rfl⟩
 rw[hW0]at HA0 HB0 HV0 ⊢
 rw[hbz]at HA0 ⊢
 clear hW0 hbz
 have a0:=HA0.out.c0
 have a1:=HA0.out.c1
 have a2:=HA0.out.c2
 go_wp2_with fail
 refine(beyond_call HV0.out HZ.out).mono ?_;rintro e w1 ⟨⟨b,rfl⟩,hb1⟩
 have HB1:=Lib.hid (HB0.out.trans (hb1.mono HB0.out.size))
 have HA1:=Lib.hid (HA0.out.below hb1)
 clear hb1 a0 a1 a2 HA0 HB0 HV0
 have a0:=HA1.out.c0
 have a1:=HA1.out.c1
 have a2:=HA1.out.c2
 cases b with
 |true=>
  go_wp2_with fail
  go_ret
  exact⟨rfl,HB1.out⟩
 |false=>
 go_wp2_with fail
 refine(long_call _).mono ?_;rintro e wz ⟨rfl,rfl⟩
 by_cases q1:(2147483647:Int)<(re.length:Int)
 ·rw[decide_eq_true q1]
  clear q1
  go_wp2_with fail
  go_ret
  exact⟨rfl,HB1.out⟩
 rw[decide_eq_false q1]
 have HL1:Hid (re.length≤2147483647):=Lib.hid (by omega)
 clear q1
 have HVA:=Lib.hid (HV.out.below HB1.out)
 go_wp2_with fail
 refine(wideAddrU (cap:=cap) k n (NdU.of_src (HVA.out.src (by have:=HL1.out;omega))) (by have:=HL1.out;omega)).mono ?_
 rintro e w2 ⟨⟨g,rfl,hn2⟩,hb2⟩
 have HP2:Hid (PrS w k n oa re.length cap b0 w2.heap.size w1.heap.size g re (w2.alloc (.cells #[.int .i8 k,.int .i64 n,.slice (some ⟨g,0,none⟩) re.length (re.length+64)] 54))):=
  Lib.hid (have hal:=(Below.refl w2.heap.size w2).alloc (Nat.le_refl _) (.cells #[.int .i8 k,.int .i64 n,.slice (some ⟨g,0,none⟩) re.length (re.length+64)] 54)
  have h2:=HB1.out.trans (hb2.mono HB1.out.size)
  ⟨(HA1.out.below hb2).below hal,AdB.new _ _ _ _,hn2.below hal,h2.trans (hal.mono h2.size),Nat.le_of_eq HBZ.out,HA1.out.lt,hn2.lt.2⟩)
 clear hn2 hb2 a0 a1 a2 HA1 HB1 HVA
 go_upto_region 4 with fail
 obtain⟨b1,hb1⟩: ∃a,w2.heap.size=a:=⟨_,rfl⟩
 obtain⟨W2,hW2⟩: ∃W,w2.alloc (.cells #[.int .i8 k,.int .i64 n,.slice (some ⟨g,0,none⟩) re.length (re.length+64)] 54)=W:=⟨_,rfl⟩
 rw[hW2]at HP2 ⊢
 rw[hb1]at HP2 ⊢
 clear hW2 hb1
 obtain⟨bg,hbg⟩: ∃a,w1.heap.size=a:=⟨_,rfl⟩
 rw[hbg]at HP2
 clear hbg
 have t0:=HP2.out.t.c0
 have t1:=HP2.out.t.c1
 have t2:=HP2.out.t.c2
 obtain⟨S,hS⟩: ∃S,okS (printA ere ⟨k,n,re⟩)=S:=⟨_,rfl⟩
 obtain⟨E,hE⟩: ∃E,okE (printA ere ⟨k,n,re⟩)=E:=⟨_,rfl⟩
 have HS:=Lib.hid hS
 have HE:=Lib.hid hE
 have HSL:Hid (S.length≤8194):=Lib.hid (by rw[←hS];exact printA_len ere _)
 have hee:((E:Int) !=(E:Int))=false:=by simp
 clear hS hE
 go_wp2_with fail
 refine(aprint_callM (cap:=re.length+64) k n (HP2.out.n.toV (by have:=HL1.out;omega) HKD.out) (HT.out.below HP2.out.b) ere (HOK.out re)).mono ?_
 rintro e w3 ⟨hr3,hb3⟩
 obtain⟨o3,c3,rfl,ho3⟩:=hr3.uni
 rw[HS.out]at ho3 ⊢
 rw[HE.out]
 have HP3:=Lib.hid (HP2.out.below hb3)
 have HO3:=Lib.hid ho3
 have O3:=Lib.hid (show g<b1∧b0<bg∧bg≤g∧b1<W2.heap.size∧W2.heap.size≤w3.heap.size from⟨HP2.out.l2,HP2.out.l1,HP2.out.n.lt.1,HP2.out.t.lt,hb3.size⟩)
 clear hr3 hb3 ho3 t0 t1 t2 HP2
 have t0:=HP3.out.t.c0
 have t1:=HP3.out.t.c1
 have t2:=HP3.out.t.c2
 go_wp2_with fail
 refine(aprint_callM (cap:=re.length+64) k n (HP3.out.n.toV (by have:=HL1.out;omega) HKD.out) (HT.out.below HP3.out.b) ere (HOK.out re)).mono ?_
 rintro e w4 ⟨hr4,hb4⟩
 obtain⟨o4,c4,rfl,ho4⟩:=hr4.uni
 rw[HS.out]at ho4 ⊢
 rw[HE.out]
 have HP4:=Lib.hid (HP3.out.below hb4)
 have HO34:=Lib.hid (HO3.out.below hb4)
 have HO4:=Lib.hid ho4
 have O4:=Lib.hid (show(∀b,(Value.slice o3 S.length c3).ownBlock=some b→W2.heap.size≤b∧b<w3.heap.size)∧(∀b,(Value.slice o4 S.length c4).ownBlock=some b→w3.heap.size≤b∧b<w4.heap.size)∧w3.heap.size≤w4.heap.size from⟨HO3.out.lt,ho4.lt,hb4.size⟩)
 clear hr4 hb4 ho4 t0 t1 t2 HP3 HO3
 have a0:=HP4.out.a.c0
 have a1:=HP4.out.a.c1
 have a2:=HP4.out.a.c2
 go_wp2_with fail
 refine(rprintA_call (cap:=cap) k n HOP hk1 hk2 ((HV.out.below HP4.out.b).toV (by have:=HL1.out;omega)) (HT.out.below HP4.out.b) ere (HOK.out re)).mono ?_
 rintro e w5 ⟨hr5,hb5⟩
 obtain⟨o5,c5,rfl,ho5⟩:=hr5.uni
 rw[HS.out]at ho5 ⊢
 rw[HE.out]
 have HP5:=Lib.hid (HP4.out.below hb5)
 have HO35:=Lib.hid (HO34.out.below hb5)
 have HO45:=Lib.hid (HO4.out.below hb5)
 have HO5:=Lib.hid ho5
 have S5:=Lib.hid hb5.size
 clear hr5 hb5 ho5 a0 a1 a2 HP4 HO34 HO4
 go_wp2_with fail
 refine(eqBytesU (ca:=c3) (cb:=c5) HO35.out.btM HO5.out (by have:=HSL.out;omega)).mono ?_
 rintro e w6 ⟨rfl,hb6⟩
 have HP6:=Lib.hid (HP5.out.below hb6)
 have HO36:=Lib.hid (HO35.out.below hb6)
 have HO46:=Lib.hid (HO45.out.below hb6)
 have HO56:=Lib.hid (HO5.out.below hb6)
 have S6:=Lib.hid hb6.size
 clear hb6 HP5 HO35 HO45 HO5
 go_wp2_with fail
 refine(eqBytesU (ca:=c4) (cb:=c5) HO46.out.btM HO56.out (by have:=HSL.out;omega)).mono ?_
 rintro e w7 ⟨rfl,hb7⟩
 have HP7:=Lib.hid (HP6.out.below hb7)
 have HO37:=Lib.hid (HO36.out.below hb7)
 have HO47:=Lib.hid (HO46.out.below hb7)
 have S7:=Lib.hid hb7.size
 clear hb7 HP6 HO36 HO46 HO56
 have a0:=HP7.out.a.c0
 have a1:=HP7.out.a.c1
 have a2:=HP7.out.a.c2
 have t0:=HP7.out.t.c0
 have t1:=HP7.out.t.c1
 have t2:=HP7.out.t.c2
 go_wp2_with fail
 refine(eqAddrU (ca:=re.length+64) (cb:=cap) k n HP7.out.n.toU (NdU.of_src ((HV.out.below HP7.out.b).src (by have:=HL1.out;omega))) (by have:=HL1.out;omega)).mono ?_
 rintro e w8 ⟨rfl,hb8⟩
 have HP8:=Lib.hid (HP7.out.below hb8)
 have HO38:=Lib.hid (HO37.out.below hb8)
 have HO48:=Lib.hid (HO47.out.below hb8)
 have S8:=Lib.hid hb8.size
 clear hb8 a0 a1 a2 t0 t1 t2 HP7 HO37 HO47
 have t2:=HP8.out.t.c2
 go_wp2_with fail
 refine(spareNodesU HP8.out.n.2 HP8.out.n.1 (by have:=HL1.out;omega)).mono ?_
 rintro e w9 ⟨rfl,hb9⟩
 have HP9:=Lib.hid (HP8.out.below hb9)
 have HO39:=Lib.hid (HO38.out.below hb9)
 have HO49:=Lib.hid (HO48.out.below hb9)
 have S9:=Lib.hid hb9.size
 clear hb9 t2 HP8 HO38 HO48
 go_upto_region 10 with fail
 have hbag:bagAt (w9.alloc (.cells #[.slice none 0 0,.slice none 0 0,.slice none 0 0,.slice none 0 0,.slice none 0 0,.slice none 0 0,.slice none 0 0,.slice none 0 0,.slice none 0 0,.slice none 0 0,.slice none 0 0,.slice none 0 0,.slice none 0 0,.slice none 0 0,.slice none 0 0,.slice none 0 0,.slice none 0 0,.slice none 0 0,.slice none 0 0] 50)) w9.heap.size (.slice none 0 0) (.slice none 0 0) (.slice none 0 0):=bagAt.new w9
 have hkb:Kept w9 (w9.alloc (.cells #[.slice none 0 0,.slice none 0 0,.slice none 0 0,.slice none 0 0,.slice none 0 0,.slice none 0 0,.slice none 0 0,.slice none 0 0,.slice none 0 0,.slice none 0 0,.slice none 0 0,.slice none 0 0,.slice none 0 0,.slice none 0 0,.slice none 0 0,.slice none 0 0,.slice none 0 0,.slice none 0 0,.slice none 0 0] 50)) (fun _=>False):=Kept.alloc _ _ _
 revert hbag hkb
 generalize w9.alloc (.cells #[.slice none 0 0,.slice none 0 0,.slice none 0 0,.slice none 0 0,.slice none 0 0,.slice none 0 0,.slice none 0 0,.slice none 0 0,.slice none 0 0,.slice none 0 0,.slice none 0 0,.slice none 0 0,.slice none 0 0,.slice none 0 0,.slice none 0 0,.slice none 0 0,.slice none 0 0,.slice none 0 0,.slice none 0 0] 50)=wg
 generalize hgb:w9.heap.size=gb
 intro hbag hkb
 have HGB:=Lib.hid hgb
 have HBag:=Lib.hid hbag
 have HKB:=Lib.hid hkb
 clear hbag hkb hgb
 go_wp2_with fail
 refine(addBytes_call HBag.out (vs:=[]) (World.ownsRow_nil _ _ _ _) (by simp) o3 S.length c3).mono ?_;rintro e x1 ⟨rfl,bb1,hbag,hrow,hk,_⟩
 have HBag2:=Lib.hid hbag
 have HRow2:=Lib.hid hrow
 have HKB2:=Lib.hid (HKB.out.trans hk fun k h1 h2=>by rcases h2 with h2|h2;(have:=HGB.out;omega);simp[Value.ownBlock]at h2)
 clear hbag hrow hk HBag HKB
 go_wp2_with fail
 refine(addBytes_call HBag2.out HRow2.out (by simp) o4 S.length c4).mono ?_;rintro e x2 ⟨rfl,bb2,hbag,hrow,hk,_⟩
 have HBag3:=Lib.hid hbag
 have HRow3:=Lib.hid hrow
 have HKB3:=Lib.hid (HKB2.out.trans hk fun k h1 h2=>by rcases h2 with h2|h2;(have:=HGB.out;omega);(have:=(HRow2.out.lt k h2).1;have:=HGB.out;omega))
 clear hbag hrow hk HBag2 HKB2 HRow2
 have hx2:Below w9.heap.size w9 x2:=HKB3.out.below (Nat.le_refl _) fun _ _ h=>h
 have HPX:=Lib.hid (HP9.out.below hx2)
 have SX:=Lib.hid hx2.size
 have HM:Hid (BgBM x2 W2.heap.size [.slice o3 S.length c3,.slice o4 S.length c4] [S.length,S.length] (fun i=>if i=0 then u8s S else u8s S) gb bb2):=Lib.hid (by
  have h3:=O3.out
  have h4:=O4.out
  have h5:=S5.out
  have h6:=S6.out
  have h7:=S7.out
  have h8:=S8.out
  have h9:=S9.out
  have hg:=HGB.out
  exact BgBM.two (HO39.out.below hx2) ((HO49.out.below hx2).mono (by omega)) (fun b hb=>by have:=h4.1 b hb;omega) (fun b hb=>by have:=h4.2.1 b hb;omega) (fun b c hb hc=>by have:=h4.1 b hb;have:=h4.2.1 c hc;omega) HRow3.out (by omega) (HBag3.out.cell 0) HBag3.out.lt)
 have HW2:Hid (∀b,Blk [.slice o3 S.length c3,.slice o4 S.length c4] b→W2.heap.size≤b):=Lib.hid fun b hb=>by
  rcases blk2 hb with h|h
  ·exact(O4.out.1 b h).1
  ·have:=(O4.out.2.1 b h).1;have:=O3.out;omega
 clear hx2 HP9 HO39 HO49 HRow3 HKB3
 go_wp2_with fail
 refine(apartM_call (by have:=S5.out;have:=S6.out;have:=S7.out;have:=S8.out;have:=S9.out;have:=SX.out;have:=O3.out;have:=O4.out.2.2;omega) (by simp) (fun i n hn=>?_) HBag3.out HM.out).mono ?_
 ·have:n=S.length:=by
   match i,hn with
   |0,hn=>injection hn with hn;exact hn.symm
   |1,hn=>injection hn with hn;exact hn.symm
   |i+2,hn=>cases hn
  have:=HSL.out;omega
 rintro e x3 ⟨rfl,hk3⟩
 have hx3:Below W2.heap.size x2 x3:=hk3.below (by have:=S5.out;have:=S6.out;have:=S7.out;have:=S8.out;have:=S9.out;have:=SX.out;have:=O3.out;have:=O4.out.2.2;omega) fun j hj h=>by have:=HW2.out j h;omega
 have HPY:Hid (PrS w k n oa re.length cap b0 b1 bg g re x3):=Lib.hid (by
  have h3:=O3.out
  have h:=HPX.out
  exact⟨h.a.block (hx3.block _ (by omega)) hx3.size,h.t.block (hx3.block _ (by omega)) hx3.size,h.n.block (hx3.block _ (by omega)),h.b.trans (hx3.mono (by have:=HBZ.out;omega)),h.l0,h.l1,h.l2⟩)
 clear hk3 hx3 HPX HM HW2 HBag3 O3 O4 S5 S6 S7 S8 S9 SX HGB
 go_wp2_with fail
 have hL64:(re.length:Int)≤2147483647:=by have:=HL1.out;omega
 go_loopg [13] re.length (fun m iv wr=> ∃d:Nat,iv= .int .i64 (d:Nat)∧m=re.length - d∧d≤re.length∧PrS w k n oa re.length cap b0 b1 bg g (soS re d) wr)
 case atStart=>exact⟨0,rfl,by omega,by omega,HPY.out⟩
 case round=>
  obtain⟨d,rfl,hg,hd,hp⟩:=hrel
  have HG:=Lib.hid hg
  have HP:=Lib.hid hp
  clear hg
  have t2:=hp.t.c2
  by_cases hlt:d<re.length
  ·have hlt':(d:Int)<(re.length:Int):=by omega
   obtain⟨x,hx⟩: ∃x,re[d]?=some x:=⟨_,List.getElem?_eq_getElem hlt⟩
   have HXM:=Lib.hid (soS_at hx)
   have HXS:=Lib.hid (soS_succ hx)
   have hgd:(soS re d++spareL re.length).getD d Nd.zero=x:=by rw[List.getD_eq_getElem?_getD,List.getElem?_append_left (by rw[soS_length];exact hlt),soS_at hx];rfl
   obtain⟨z0,z1,z2,z3,z4,z5,z6,z7,z8,zf⟩:=hp.n.2.nine hp.n.len (show d<re.length+64 by omega) hgd
   have f1:=zf (d*9+1)
   have f2:=zf (d*9+2)
   have f3:=zf (d*9+3)
   have f4:=zf (d*9+4)
   have hgl:=hp.n.lt.2
   obtain⟨hop1,hop2⟩:=HOP.out x (List.mem_of_getElem? hx)
   clear hp hx hgd z5 z6 z7 z8 zf
   by_cases h1:x.op=1
   ·have HR:Hid (reS x=setC x):=Lib.hid (if_pos h1)
    rw[h1]at z0
    clear h1 hop1 hop2
    go_wp2_with fail
    go_roundg (re.length - (d+1))
    case measure=>have:=HG.out;omega
    case rel=>exact⟨d+1,by go_num,rfl,by omega,by rw[HXS.out,HR.out];exact HP.out.set HXM.out⟩
   ·have h1':(x.op==1)=false:=beq_eq_false_iff_ne.2 h1
    have HR:Hid (reS x=x):=Lib.hid (if_neg h1)
    clear h1
    go_wp2_with fail
    go_roundg (re.length - (d+1))
    case measure=>have:=HG.out;omega
    case rel=>exact⟨d+1,by go_num,rfl,by omega,by rw[HXS.out,HR.out,list_set_same HXM.out];exact HP.out⟩
  ·have hlt': ¬(d:Int)<(re.length:Int):=by omega
   have HPZ:Hid (PrS w k n oa re.length cap b0 b1 bg g (re.map reS) wr):=Lib.hid (by rw[←soS_full,show re.length=d by omega];rw[show re.length=d by omega]at hp;exact hp)
   have HKZ:=Lib.hid (reS_kids HKD.out)
   have HMZ:Hid ((re.map reS).length=re.length):=Lib.hid (by simp)
   have HOZ:=reS_op HOP
   clear hp HP HPY HG
   obtain⟨M,hM⟩: ∃M,re.map reS=M:=⟨_,rfl⟩
   rw[hM]at HPZ HKZ HMZ HOZ
   clear hM
   have t0:=HPZ.out.t.c0
   have t1:=HPZ.out.t.c1
   obtain⟨S2,hS2⟩: ∃S,okS (printA ere ⟨k,n,M⟩)=S:=⟨_,rfl⟩
   obtain⟨E2,hE2⟩: ∃E,okE (printA ere ⟨k,n,M⟩)=E:=⟨_,rfl⟩
   have HS2:=Lib.hid hS2
   have HE2:=Lib.hid hE2
   have HSL2:Hid (S2.length≤8194):=Lib.hid (by rw[←hS2];exact printA_len ere _)
   have hee2:((E2:Int)==(E2:Int))=true:=by simp
   clear hS2 hE2
   obtain⟨wy,rfl⟩: ∃wy:World,wy=wr:=⟨_,rfl⟩
   have HP1:=aprint_callM (cap:=re.length+64) k n (HPZ.out.n.toV (by have:=HL1.out;omega) HKZ.out) (HT.out.below HPZ.out.b) ere (HOK.out M)
   rw[HMZ.out]at HP1
   have HPP:=Lib.hid HP1
   clear HP1
   go_wp2_with fail
   refine HPP.out.mono ?_
   rintro e y1 ⟨hr1,hb1⟩
   obtain⟨p1,q1,rfl,ho1⟩:=hr1.uni
   rw[HS2.out]at ho1 ⊢
   rw[HE2.out]
   have HQ1:=Lib.hid (HPZ.out.below hb1)
   have HO1:=Lib.hid ho1
   clear hr1 hb1 ho1 t0 t1 t2 HPZ HPP
   have t0:=HQ1.out.t.c0
   have t1:=HQ1.out.t.c1
   have t2:=HQ1.out.t.c2
   have HC1:=copyAddr_call (w:=y1) (cap:=re.length+64) (re:=M) k n (oa:=some ⟨g,0,none⟩) (by rw[HMZ.out];exact HQ1.out.n.src) (by have:=HL1.out;have:=HMZ.out;omega)
   rw[HMZ.out]at HC1
   have HCC:=Lib.hid HC1
   clear HC1
   go_wp2_with fail
   refine HCC.out.mono ?_
   rintro e y2 ⟨⟨o2,c2,rfl,hn2⟩,hb2⟩
   obtain⟨o2',c2',hv2,_,hnv2⟩:=hn2.toV2 (by have:=HL1.out;have:=HMZ.out;omega) HKZ.out
   injection hv2 with e1 _ e3
   subst e1
   subst e3
   have HN2:=Lib.hid hnv2
   have HQ2:=Lib.hid (HQ1.out.b.trans (hb2.mono HQ1.out.b.size))
   have HO2:=Lib.hid (HO1.out.below hb2)
   clear hn2 hb2 hnv2 t0 t1 t2 HQ1 HO1 HCC
   have HR1:=rprintA_call (cap:=c2) k n HOZ hk1 hk2 HN2.out (HT.out.below HQ2.out) ere (HOK.out M)
   have HRR:=Lib.hid HR1
   clear HR1
   go_wp2_with fail
   refine HRR.out.mono ?_
   rintro e y3 ⟨hr3,hb3⟩
   obtain⟨p3,q3,rfl,ho3⟩:=hr3.uni
   rw[HS2.out]at ho3 ⊢
   rw[HE2.out]
   have HQ3:=Lib.hid (HQ2.out.trans (hb3.mono HQ2.out.size))
   have HO3:=Lib.hid (HO2.out.below hb3)
   have HO4:=Lib.hid ho3
   clear hr3 hb3 ho3 HQ2 HO2 HRR HN2
   go_wp2_with fail
   refine(eqBytesU (ca:=q1) (cb:=q3) HO3.out.btM HO4.out (by have:=HSL2.out;omega)).mono ?_
   rintro e y4 ⟨rfl,hb4⟩
   have HQ4:=Lib.hid (HQ3.out.trans (hb4.mono HQ3.out.size))
   clear hb4 HQ3 HO3 HO4
   go_wp2_with fail
   refine(works_call (HT.out.below HQ4.out)).mono ?_
   rintro e y5 ⟨rfl,hb5⟩
   have HQ5:=Lib.hid (HQ4.out.trans (hb5.mono HQ4.out.size))
   clear hb5 HQ4
   go_wp2_with fail
   go_ret
   exact⟨rfl,HQ5.out⟩
end
end Go.Proofs.YtfjbnpdffillbaaGreatDoor
