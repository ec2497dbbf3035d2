/- Parts: Vp Vq Vr Vs Vt Yh Yp Yi Yj. -/
import Derived.Test.YtmaagpbjahjmhaaGreatDoorQ29
import Derived.Test.YtmaagpbjahjmhaaGreatDoorQ30
import Derived.Test.YtmaagpbjahjmhaaGreatDoorQ16
import Derived.Test.YtmaagpbjahjmhaaGreatDoorQ13
import Derived.Test.YtmaagpbjahjmhaaGreatDoorQ27
import Derived.Test.YtmaagpbjahjmhaaGreatDoorQ15
set_option maxHeartbeats 6400000
set_option maxRecDepth 100000
namespace Go.Proofs.YtmaagpbjahjmhaaGreatDoor
section
open Go.RowKit
theorem zNm {w:World} {base:Nat} {e:TypeId} {o:Option Addr} {n c k:Nat} {xs:List Value} (h:w.ownsRow base e 1 (.slice o n c) n xs) (hk:k≤n):w.ownsRow base e 1 (.slice o k c) k (xs.take k):=by
 refine⟨by rw[List.length_take,h.1];omega,?_⟩
 rcases h.2 with ⟨h1,h2⟩|⟨g,cap,cur,h1,hb,hg,hnc,hcm,hcs,ht⟩
 ·cases h1
  exact .inl ⟨by rw[show k=0 by omega],by omega⟩
 ·cases h1
  refine .inr ⟨g,c,cur,rfl,hb,hg,by omega,hcm,hcs,?_⟩
  rw[←ht,List.take_take,show min k (n*1)=k*1 by omega]
theorem zJa {w:World} {base:Nat} {e:TypeId} {o:Option Addr} {n c:Nat} {xs:List Value} (h:w.ownsRow base e 1 (.slice o n c) n xs):n≤c∧c≤maxLen:=by
 rcases h.2 with ⟨h1,h2⟩|⟨g,cap,cur,h1,hb,hg,hnc,hcm,hcs,ht⟩
 ·cases h1;exact⟨zQt _,by unfold maxLen;omega⟩
 ·cases h1;exact⟨hnc,hcm⟩
theorem zCM {α β:Type} (f:α→β) (p:β→Bool) (q:α→Bool): ∀(l:List α),(∀x∈l,p (f x)=q x)→(l.map f).dropWhile p=(l.dropWhile q).map f
 |[],_=>rfl
 |x::l,h=>by
  rw[List.map_cons,List.dropWhile_cons,List.dropWhile_cons,h x (by simp)]
  split
  ·exact zCM f p q l fun y hy=>h y (by simp[hy])
  ·rfl
theorem zFF: ∀b,b<256→([32,9]:List UInt8).contains (UInt8.ofNat ((b:Nat):Int).toNat)=zAL b:=by decide+kernel
theorem zHl {R:List Nat} (hu: ∀b∈R,b<256):(Lib.trimRightS (Lib.bytesOf (R.map fun b:Nat=>(b:Int))) [32,9]).length=(zBw R).length:=by
 unfold Lib.trimRightS zBw Lib.bytesOf
 rw[List.map_map,←List.map_reverse,zCM ((fun n:Int=>UInt8.ofNat n.toNat) ∘ fun b:Nat=>(b:Int)) (fun x=>([32,9]:List UInt8).contains x) zAL _ fun x hx=>zFF x (hu x (by simpa using hx))]
 simp
section
variable {w w':World} {E:PE} {i j k n:Nat} {l:List Value} {base:Nat} {c:Cm}
theorem zKl {v:Value} {R:List Nat} (h:Bys w base v R) (hu: ∀b∈R,b<256):
  Calls Tryz.prog 139 #[v,.string ⟨#[32,9]⟩] w fun e w'=>(∃u,e= .returned u∧Bys w' base u (zBw R))∧Below w.heap.size w w':=by
 obtain⟨o,cc,rfl,h1⟩:=h
 have hc:=zJa h1
 have hp:=zFl R
 refine(Any.bytes_TrimRight_laid zQA (by kernel_rfl) o R.length cc (R.map fun b:Nat=>(b:Int)) ⟨#[32,9]⟩ w (by simp) hc.1 (by have:=hc.2;unfold maxLen at this;omega) ?_ ?_ (by decide) ?_).mono ?_
 ·intro hp
  obtain⟨_,g,rfl,_,hcell,_⟩:=zBW h1 hp
  refine⟨g,0,rfl,fun i hi=>?_⟩
  obtain⟨u,hu1,hu2⟩:=hcell i (by omega)
  rw[Nat.zero_add,hu2,←hu1]
  simp[u8s,hi,List.getD_eq_getElem?_getD]
 ·intro x hx
  obtain⟨b,hb,rfl⟩:=List.mem_map.1 hx
  have:=hu b hb
  omega
 ·intro j b hb
  match j,hb with
  |0,hb=>cases hb;decide
  |1,hb=>cases hb;decide
 ·rintro e w' ⟨rfl,hb⟩
  rw[show(⟨#[32,9]⟩:ByteArray).data.toList=[32,9]from rfl,zHl hu]
  refine⟨⟨_,rfl,o,cc,rfl,?_⟩,hb⟩
  have h2:=zNm (k:=(zBw R).length) h1 (hp.length_le)
  rw[show(u8s R).take (zBw R).length=u8s (zBw R)by
   unfold u8s
   rw[←List.map_take,←List.prefix_iff_eq_take.1 hp]]at h2
  exact zAu h2 fun g hg=>hb.block g (h2.lt g hg).2
theorem zPf {T:List Nat} {i j:Nat} (hT: ∀j,T.getD j 0<256): ∀b∈zIs T i j,b<256:=fun b hb=>by
 obtain⟨k,_,_,rfl⟩:=zPC hb
 exact hT k
theorem zJU (h:RS E w i l) (hm:CmM w base l c) (hb:E.wb<base∧E.cb<base) (hbw:base≤w.heap.size):
  Calls Tryz.prog 88 #[.pointer (some ⟨E.rb,0,none⟩),.pointer (some ⟨E.cb,0,none⟩)] w (HdO E w base (zGx E.T i c)):=by
 have HS:=zQr (zOo (E:=E) hb)
 have HBW:=zQr hbw
 have H:=zQr h
 have HM:=zQr hm
 have HU:=zQr h.v.u
 obtain⟨R,hR⟩: ∃R,zGx E.T i c=R:=⟨_,rfl⟩
 rw[hR]
 unfold zGx at hR
 simp only at hR
 obtain⟨t,ht⟩: ∃t,zIs E.T (zAk zAL E.T i) (zDZ E.T (zAk zAL E.T i))=t:=⟨_,rfl⟩
 rw[ht]at hR
 have HT:=zQr ht
 have hut: ∀b∈t,b<256:=by rw[←ht];exact zPf h.v.u
 have HUT:=zQr hut
 have HR:=zQr hR
 clear h hm hb hbw hR ht hut
 have HROW:=zIE H.out
 rw[HT.out]at HROW
 have HROW:=zQr HROW
 go_enter Tryz.func88,Tryz.ntmps88
 go_wp2_with fail
 refine HROW.out.mono ?_;rintro e w1 ⟨⟨v,rfl,hr1⟩,k1,h1⟩
 have hm1:=HM.out.kept k1 HS.out
 obtain⟨o1,c1,rfl⟩:=zBe hr1
 have HRC:=zQr (zKl (w:=w1) (base:=w.heap.size) (R:=t) ⟨o1,c1,rfl,hr1⟩ HUT.out)
 have H1:=zQr h1
 have HM1:=zQr hm1
 have K1:=zQr k1
 clear hr1 k1 h1 hm1 HROW
 go_wp2_with fail
 refine HRC.out.mono ?_;rintro e w2 ⟨⟨u,rfl,hu⟩,hb2⟩
 obtain⟨o2,c2,rfl,hu2⟩:=hu
 have h2:=H1.out.below hb2
 have m2:=HM1.out.kept (zAU.bel (S:=E.W) hb2) HS.out
 obtain⟨v9,hv9,_⟩:=m2.tx
 have c9:w2.cell? ⟨E.cb,9,none⟩=some v9:=h2.cc hv9
 have f9:=h2.cf 9
 have H3:=zQr (h2.set 9 (v:= .slice o2 (zBw t).length c2) rfl)
 have HM3:=zQr ((m2.setTx h2.cl.len (v:= .slice o2 (zBw t).length c2) (x:=zBw t) ⟨o2,c2,rfl,zAR hu2 HBW.out⟩).kept (zAU.put E w2 9 (.slice o2 (zBw t).length c2)) HS.out)
 have K3:=zQr ((K1.out.tr (zAU.bel hb2)).tr (zAU.put E w2 9 (.slice o2 (zBw t).length c2)))
 clear h2 m2 hb2 hu2 hv9 HRC
 go_upto_region 1 with fail
 obtain⟨W3,hW3⟩: ∃W,w2.setCell ⟨E.cb,9,none⟩ (.slice o2 (zBw t).length c2)=W:=⟨_,rfl⟩
 rw[hW3]at H3 HM3 K3 ⊢
 obtain⟨l3,hl3⟩: ∃l',l.set 9 (.slice o2 (zBw t).length c2)=l':=⟨_,rfl⟩
 rw[hl3]at H3 HM3
 obtain⟨tt,htt⟩: ∃tt,zBw t=tt:=⟨_,rfl⟩
 have HTT:=zQr htt
 have hr:=HR.out
 have hl9:l3[9]?=some (.slice o2 (zBw t).length c2):=by rw[←hl3];exact List.getElem?_set_self (by rw[H.out.cl.len];omega)
 have c9:=H3.out.cc hl9
 have c7:=H3.out.cc HM3.out.nm
 rw[htt]at hr c9 HM3
 have HM4:Hid (CmM W3 base l3 { c with tx:=tt }):=HM3
 have c7':W3.cell? ⟨E.cb,7,none⟩=some (.int .u8 (c.nm:Nat)):=c7
 clear hW3 hl3 htt hl9 c7 f9 HM3
 by_cases hn:c.nm=58
 ·rw[hn]at c7'
  by_cases ht0:tt=[]
  ·rw[if_pos ⟨hn,ht0⟩]at hr
   subst hr ht0
   clear hn
   go_wp2_with fail
   refine(zA8 (er:=75) H3.out HM4.out.p (by decide)).mono ?_;rintro e w9 ⟨hp,hb9⟩
   have HR9:Hid (Res E w (.error (75,c.at_)) [] e w9):=zQr ⟨K3.out.tr (zAU.bel hb9),_,_,hp,H3.out.below hb9⟩
   obtain⟨fb,rfl⟩:=HR9.out.bad
   clear hp hb9
   go_wp2_with fail
   exact⟨rfl,HR9.out⟩
  ·rw[if_neg (fun h=>ht0 h.2)]at hr
   have hlt:((tt.length:Int)==0)=false:=zQx.2 fun e=>ht0 (zRP (by omega))
   subst hr
   clear hn ht0
   go_wp2_with fail
   go_end0
   rw[←HT.out]at HTT
   exact⟨rfl,K3.out,l3,H3.out,HM4.out⟩
 ·rw[if_neg (fun h=>hn h.1)]at hr
  have qn:((c.nm:Int)==58)=false:=zQx.2 (by omega)
  subst hr
  clear hn
  go_wp2_with fail
  go_end0
  exact⟨rfl,K3.out,l3,H3.out,HM4.out⟩
end
end
section
open Go.RowKit
theorem zGJ (p:Nat→Bool) (T:List Nat): ∀(n i:Nat),T.length - i≤n→(T.drop i).dropWhile p=T.drop (zAk p T i)
 |0,i,h=>by
  rw[zA0,if_neg (by omega),List.drop_eq_nil_of_le (by omega)];rfl
 |n+1,i,h=>by
  by_cases hi:i<T.length
  ·rw[zA0,List.drop_eq_getElem_cons hi,List.dropWhile_cons]
   have e:T.getD i 0=T[i]:=by rw[zQ0,zQ8 hi];rfl
   rw[e]
   by_cases hp:p T[i]=true
   ·rw[if_pos hp,if_pos ⟨hi,hp⟩]
    exact zGJ p T n (i+1) (by omega)
   ·rw[if_neg hp,if_neg (fun h=>hp h.2),List.drop_eq_getElem_cons hi]
  ·rw[zA0,if_neg (fun h=>hi h.1),List.drop_eq_nil_of_le (by omega)];rfl
theorem zHm {R:List Nat} (hu: ∀b∈R,b<256):(Lib.trimLeftS (Lib.bytesOf (R.map fun b:Nat=>(b:Int))) [32,9]).length=(R.dropWhile zAL).length:=by
 unfold Lib.trimLeftS Lib.bytesOf
 rw[List.map_map,zCM ((fun n:Int=>UInt8.ofNat n.toNat) ∘ fun b:Nat=>(b:Int)) (fun x=>([32,9]:List UInt8).contains x) zAL _ fun x hx=>zFF x (hu x hx)]
 simp
section
variable {w w':World} {wb:Nat} {oa:Option Addr} {cap:Nat} {T:List Nat} {i j:Nat}
theorem zEy (o:Option Addr) (n c k:Nat) (hk:k≤n): ∀W,(Instr.slice 22 (.slice o n c) (some (.int .i64 (k:Nat))) none none).run Tryz.prog W= .ok (.slice (if c=k then o else o.map (·.add k)) (n - k) (c - k)) W:=fun W=>by
 rw[run_slice_l (P:=Tryz.prog) W 22 o n c (by kernel_rfl) .i64 k (by omega) (by omega),show(sizeOf (Tryz.prog.elem 22)).run Tryz.prog W= .ok 1 W by kernel_rfl]
 by_cases h:c=k
 ·simp[Result.andThen,sliced,h]
 ·have h2: ¬n=k∨True:= .inr trivial
  simp[Result.andThen,sliced,h]
theorem zOk (hT: ∀j,T.getD j 0<256): ∀b∈T.drop i,b<256:=fun b hb=>by
 obtain⟨k,hk⟩:=List.getElem?_of_mem (List.mem_of_mem_drop hb)
 have:=hT k
 rw[zQ0,hk]at this
 exact this
theorem zKf (hv:WdS w wb oa cap T i):Calls Tryz.prog 177 #[.slice (if cap=i then oa else oa.map (·.add i)) (T.length - i) (cap - i),.string ⟨#[32,9]⟩] w fun e w'=>
  e= .returned (Lib.leftV (if cap=i then oa else oa.map (·.add i)) (T.length - i) (cap - i) (zAk zAL T i - i))∧Below w.heap.size w w':=by
 have hcp:=hv.cp
 have hj:=zCX zAL hv.at_
 have hji:=zCY zAL T i
 have hmax:cap≤9223372036854775807:=by have:=hv.cm;unfold maxLen at this;omega
 ·refine(Any.bytes_TrimLeft_laid zQb (by kernel_rfl) _ (T.length - i) (cap - i) ((T.drop i).map fun b:Nat=>(b:Int)) ⟨#[32,9]⟩ w (by simp) (by omega) (by omega) ?_ ?_ (by decide) ?_).mono ?_
  ·intro hp
   obtain⟨g,rfl,_,_,hc⟩:=hv.tx (by omega)
   refine⟨g,i,by rw[if_neg (by omega),Option.map_some,zCC,Nat.zero_add],fun m hm=>?_⟩
   rw[hc (i+m) (by omega)]
   have e:((T.drop i).map fun b:Nat=>(b:Int)).getD m 0=((T.getD (i+m) 0:Nat):Int):=by
    rw[zQ0,List.getElem?_map,List.getElem?_drop,zQ0,zQ8 (by omega)];rfl
   rw[e]
  ·intro x hx
   obtain⟨b,hb,rfl⟩:=List.mem_map.1 hx
   have:=zOk hv.u b hb
   omega
  ·intro j b hb
   match j,hb with
   |0,hb=>cases hb;decide
   |1,hb=>cases hb;decide
  ·rintro e w' ⟨rfl,hb⟩
   rw[show(⟨#[32,9]⟩:ByteArray).data.toList=[32,9]from rfl,zHm (zOk hv.u),zGJ zAL T _ i (zQt _),List.length_drop,show T.length - i - (T.length - zAk zAL T i)=zAk zAL T i - i by omega]
   exact⟨rfl,hb⟩
def TxO (wb:Nat) (oa:Option Addr) (cap:Nat) (T:List Nat) (i base:Nat) (r:Option (List Nat × Nat)) (e:Ending) (w':World):Prop:=
 match r with
 |none=>e= .returned (.tuple #[.slice none 0 0,.int .i64 73])∧WdS w' wb oa cap T i
 |some (t,j)=> ∃v,e= .returned (.tuple #[v,.int .i64 0])∧Bys w' base v t∧WdS w' wb oa cap T j
theorem zGw (o:Option Addr) (n c k:Nat): ∃o3 c3,Lib.leftV o n c k= .slice o3 (n - k) c3:=by
 unfold Lib.leftV Lib.fromV
 split
 ·rename_i h1;exact⟨none,0,by rw[h1,Nat.sub_self]⟩
 ·exact⟨_,_,rfl⟩
theorem zLN {g n c k:Nat} (h:k<n) (hc:n≤c) (o:Nat):Lib.leftV (some ⟨g,o,none⟩) n c k= .slice (some ⟨g,o+k,none⟩) (n - k) (c - k):=by
 unfold Lib.leftV Lib.fromV
 rw[if_neg (by omega),if_neg (by omega),Option.map_some,zCC]
theorem zEr: ∀(n m i:Nat) (acc:List Nat),T.length≤i+n→T.length≤i+m→zCa T n i acc=zCa T m i acc
 |0,0,i,acc,_,_=>rfl
 |0,m+1,i,acc,h,_=>by rw[zCa,zCa,if_pos (by omega)]
 |n+1,0,i,acc,_,h=>by rw[zCa,zCa,if_pos (by omega)]
 |n+1,m+1,i,acc,h1,h2=>by
  rw[zCa,zCa,zEr n m (i+2) _ (by omega) (by omega),zEr n m (i+1) _ (by omega) (by omega)]
def zHp (T:List Nat) (i:Nat) (acc:List Nat):Option (List Nat × Nat):=zCa T (T.length - i) i acc
theorem zKp (i:Nat) (acc:List Nat):zHp T i acc=if T.length≤i then some (acc,i)else if T.getD i 0=10 then some (acc,i+1)else if T.getD i 0=92 then(if T.length≤i+1 then none else zHp T (i+2) (acc++[T.getD (i+1) 0]))else zHp T (i+1) (acc++[T.getD i 0]):=by
 unfold zHp
 by_cases h:T.length≤i
 ·rw[show T.length - i=0 by omega,zCa,if_pos h]
 ·rw[if_neg h,show T.length - i=T.length - (i+1)+1 by omega,zCa,if_neg h,zEr (T.length - (i+1)) (T.length - (i+2)) (i+2) _ (by omega) (by omega)]
theorem zD5 (a:List Nat) (b:Nat):u8s (a++[b])=u8s a++[.int .u8 (b:Nat)]:=by simp[u8s]
theorem zKg (hv:WdS w wb oa cap T i):Calls Tryz.prog 141 #[.pointer (some ⟨wb,0,none⟩)] w fun e w'=>TxO wb oa cap T i w.heap.size (zHn T i) e w'∧zBU w.heap.size wb w w':=by
 have c0:=hv.c0
 have c1:=hv.c1
 have c2:=hv.c2
 have hlw:=hv.lt
 have HV:=zQr hv
 have HT:=zQr (zKf (hv.below (zQs _ _).drew))
 have hsl:=zEy oa T.length cap i hv.at_
 obtain⟨R,hR⟩: ∃R,zHn T i=R:=⟨_,rfl⟩
 rw[hR]
 unfold zHn at hR
 simp only at hR
 have hji:=zCY zAL T i
 have hjl:=zCX zAL hv.at_
 obtain⟨j,hj⟩: ∃j,zAk zAL T i=j:=⟨_,rfl⟩
 rw[hj]at hR HT hji hjl
 have HR:=zQr hR
 have HJ:=zQr (show i≤j∧j≤T.length from⟨hji,hjl⟩)
 have HB0:=zQr ((zBU.refl w.heap.size wb w).drew)
 obtain⟨o2,ho2⟩: ∃o,(if cap=i then oa else oa.map (·.add i))=o:=⟨_,rfl⟩
 have HO2:=zQr ho2
 rw[ho2]at HT hsl
 clear hv hR hj hji hjl ho2
 go_enter Tryz.func141,Tryz.ntmps141
 go_wp2_with fail
 refine(zA4 c2).mono ?_;rintro e w1 ⟨rfl,rfl⟩
 go_upto_region 3 with fail
 refine zAA (X:=none) 9 [] [0,1,2,3,4,5,6,7,8] (by kernel_rfl) (by kernel_rfl) rfl (fun _ _ _ _ _ h=>h) ?_
 simp only[zAK,zAC,zAD,zAB,List.getD_cons_zero,List.getD_cons_succ,List.drop_succ_cons,List.drop_zero]
 repeat (go_big_quiet_step (fail))
 refine wpQuiet_nil ?_
 go_wp2_with fail
 refine HT.out.mono ?_;rintro e w2 ⟨rfl,hb2⟩
 have hv2:=(HV.out.below (zQs _ _).drew).below hb2
 have HV2:=zQr hv2
 have HB2:=zQr (HB0.out.below hb2 (zQt _))
 have HBL:=zQr ((zQs w.heap.size w).drew.trans hb2)
 clear hb2 hv2 HT c0 c1 c2 hlw hsl
 by_cases h3:T.length<j+3
 ·obtain⟨o3,c3,hl⟩:=zGw o2 (T.length - i) (cap - i) (j - i)
  have hlen:T.length - i - (j - i)=T.length - j:=by have:=HJ.out;omega
  rw[hlen]at hl
  rw[hl]
  have hr:=HR.out
  rw[if_pos (.inl h3)]at hr
  subst hr
  have q3:((T.length - j:Nat):Int)<3:=by omega
  obtain⟨m,hm⟩: ∃m,T.length - j=m:=⟨_,rfl⟩
  rw[hm]at q3 ⊢
  clear hl h3 hlen hm
  go_wp2_with fail
  go_ret2
  exact⟨⟨rfl,HV2.out⟩,HB2.out⟩
 ·have hlj:j<T.length:=by omega
  obtain⟨g,hg,_,hgl,hc⟩:=HV2.out.tx (by omega)
  have HGA:=zQr hg
  have hcp:=HV2.out.cp
  have ho2:o2=some ⟨g,i,none⟩:=by
   rw[←HO2.out,hg,if_neg (by have:=HJ.out;omega),Option.map_some,zCC,Nat.zero_add]
  subst ho2
  rw[zLN (by have:=HJ.out;omega) (by omega)]
  have hlen:T.length - i - (j - i)=T.length - j:=by have:=HJ.out;omega
  have hof:i+(j - i)=j:=by have:=HJ.out;omega
  rw[hlen,hof]
  obtain⟨m,hm⟩: ∃m,T.length - j=m:=⟨_,rfl⟩
  rw[hm]
  obtain⟨c3,hc3⟩: ∃c3,cap - i - (j - i)=c3:=⟨_,rfl⟩
  rw[hc3]
  have HM:=zQr hm
  have hm3:3≤m:=by omega
  have hmc:m≤c3:=by have:=HJ.out;omega
  have q3: ¬(m:Int)<3:=by omega
  have hml:m≤4294967296:=by have:=HV2.out.len;omega
  have x0:=hc j hlj
  have x1:=hc (j+1) (by omega)
  have HC:=zQr hc
  obtain⟨b0,hb0⟩: ∃b,T.getD j 0=b:=⟨_,rfl⟩
  obtain⟨b1,hb1⟩: ∃b,T.getD (j+1) 0=b:=⟨_,rfl⟩
  rw[hb0]at x0
  rw[hb1]at x1
  have hr:=HR.out
  rw[hb0,hb1]at hr
  have p0:(0:Int)<(m:Int):=by omega
  have p1:(1:Int)<(m:Int):=by omega
  clear hlen hof hm hc3 hc hcp hlj HO2 hg
  by_cases q:b0≠92∨b1≠10
  ·rw[if_pos (.inr q)]at hr
   subst hr
   by_cases e0:b0=92
   ·subst e0
    have e1:((b1:Int) !=10)=true:=bne_iff_ne.2 (by rcases q with q|q;exact absurd rfl q;omega)
    clear q h3 hb0 hb1
    go_wp2_with fail
    go_ret2
    exact⟨⟨rfl,HV2.out⟩,HB2.out⟩
   ·have e1:((b0:Int) !=92)=true:=bne_iff_ne.2 (by omega)
    clear q h3 hb0 hb1 e0
    go_wp2_with fail
    go_ret2
    exact⟨⟨rfl,HV2.out⟩,HB2.out⟩
  ·rw[if_neg (fun h=>h.elim (fun h=>h3 h) q)]at hr
   obtain⟨e0,e1⟩:b0=92∧b1=10:=⟨Classical.not_not.1 fun h=>q (.inl h),Classical.not_not.1 fun h=>q (.inr h)⟩
   subst e0 e1
   have HRR:=zQr hr
   have hs2:=zEy (some ⟨g,j,none⟩) m c3 2 (by omega)
   rw[if_neg (show¬c3=2 by omega),Option.map_some,zCC]at hs2
   have hs2': ∀W,(Instr.slice 22 (.slice (some ⟨g,j,none⟩) m c3) (some (.int .i64 2)) none none).run Tryz.prog W= .ok (.slice (some ⟨g,j+2,none⟩) (m - 2) (c3 - 2)) W:=hs2
   clear q h3 hb0 hb1 hr hs2
   obtain⟨N,hN⟩: ∃N,m - 2=N:=⟨_,rfl⟩
   rw[hN]at hs2'
   have HTN:=zQr (show T.length=j+2+N by have:=HM.out;have:=HJ.out;omega)
   have hN0:0<N:=by omega
   have hNl:N≤4294967296:=by omega
   have HGE:Hid (oa=some ⟨g,0,none⟩):=HGA
   go_upto_region 7 with fail
   clear hs2' p0 p1 q3 hm3 hN hmc hml HM HC x0 x1 hgl
   obtain⟨P,hP⟩: ∃P,j+2=P:=⟨_,rfl⟩
   rw[hP]at HRR HTN ⊢
   have HRF:Hid (zHp T P []=R):=HRR
   clear hP
   go_wp2_with fail
   go_loopg [5,6] N (fun gk lv mv wr=> ∃(k:Nat) (acc:List Nat),mv= .int .i64 (k:Nat)∧gk=N - k∧k≤N∧wr.ownsRow w.heap.size 5 1 lv acc.length (u8s acc)∧Hid (zHp T (P+k) acc=R)∧acc.length≤k∧Below w.heap.size w wr)
   case atStart=>exact⟨0,[],rfl,by omega,by omega,zQ7 _ _ _ _,HRF,zQt _,HBL.out⟩
   case round=>
   obtain⟨k,acc,rfl,hg,hk,ho,HRk,hak,hb⟩:=hrel
   have hv:=HV.out.below hb
   obtain⟨ol,cl,rfl⟩:=zBe ho
   have HG:=zQr hg
   have HO:=zQr ho
   have HVr:=zQr hv
   have HBr:=zQr hb
   have hst:=HRk.out
   rw[zKp]at hst
   clear hg ho hv hb HV2 HB2 HRF HRR
   by_cases hlt:k<N
   ·have hlt':(k:Int)<(N:Int):=by omega
    obtain⟨g',hg',_,hgl,hc⟩:=HVr.out.tx (by have:=HTN.out;omega)
    obtain rfl:g'=g:=by have:=hg'.symm.trans HGE.out;cases this;rfl
    have x0:=hc (P+k) (by have:=HTN.out;omega)
    obtain⟨x,hx⟩: ∃x,T.getD (P+k) 0=x:=⟨_,rfl⟩
    rw[hx]at hst x0
    rw[if_neg (by have:=HTN.out;omega)]at hst
    have HC:=zQr hc
    clear hc hg'
    by_cases h10:x=10
    ·rw[if_pos h10]at hst
     subst h10 hst
     have c0:=HVr.out.c0
     have c1:=HVr.out.c1
     have f1:=HVr.out.fz 1
     have hTl:(T.length:Int)=(P:Int)+(N:Int):=by have:=HTN.out;omega
     have hpl:P+N≤4294967296:=by have:=HVr.out.len;have:=HTN.out;omega
     clear hlt hx
     go_wp2_with fail
     go_ret2
     exact⟨⟨_,rfl,⟨ol,cl,rfl,zAu HO.out fun b hb=>zQ1 _ _ _ _ (by show b≠wb;have:=(HO.out.lt b hb).1;have:=HV.out.lt;omega)⟩,HVr.out.setAt (j:=P+k+1) (by have:=HTN.out;omega) (by omega)⟩,((zBU.refl w.heap.size wb w).below HBr.out (zQt _)).store (.inl rfl) _ _⟩
    ·have q10:((x:Int)==10)=false:=zQx.2 (by omega)
     rw[if_neg h10]at hst
     by_cases h92:x=92
     ·rw[if_pos h92]at hst
      subst h92
      by_cases hl2:k+1=N
      ·rw[if_pos (by have:=HTN.out;omega)]at hst
       subst hst
       have q2:((k:Int)+1==(N:Int))=true:=by rw[beq_iff_eq];omega
       clear hlt hx h10 hl2
       go_wp2_with fail
       go_ret2
       exact⟨⟨rfl,HVr.out⟩,(zBU.refl w.heap.size wb w).below HBr.out (zQt _)⟩
      ·rw[if_neg (by have:=HTN.out;omega)]at hst
       have q2:((k:Int)+1==(N:Int))=false:=zQx.2 (by omega)
       have q3:(k:Int)+1<(N:Int):=by omega
       have x1:=HC.out (P+k+1) (by have:=HTN.out;omega)
       have x1':wr.cell? ⟨g',P+(k+1),none⟩=some (.int .u8 (T.getD (P+k+1) 0:Nat)):=x1
       obtain⟨y,hy⟩: ∃y,T.getD (P+k+1) 0=y:=⟨_,rfl⟩
       rw[hy]at hst x1'
       have HST:Hid (zHp T (P+(k+2)) (acc++[y])=R):=zQr hst
       have hk2:k+2≤N:=by omega
       clear hlt hx h10 hl2 hst hy x1
       go_wp2_with (at_builtin;refine zAe zNK rfl _ _ rfl w.heap.size (n:=acc.length) (m:=1) (news:=[.int .u8 (y:Nat)]) rfl (HO.out.alloc _) rfl (Src.new wr [.int .u8 (y:Nat)] _ _ _) rfl (by simp[Value.oneCell']) (by unfold maxLen;omega) (by omega) (by have:=HBr.out.size;simp;omega) ?_)
       intro v6 w6 hown6 hgr6 _
       have hb6:=(HBr.out.alloc HBr.out.size (.cells #[.int .u8 (y:Nat)] 5)).grown hgr6 (by have:=HBr.out.size;simp;omega) (fun k hk=>(HO.out.lt k hk).1)
       have HB6:=zQr hb6
       have HO6:Hid (w6.ownsRow w.heap.size 5 1 v6 (acc++[y]).length (u8s (acc++[y]))):=zQr (by rw[zD5,zRB];exact hown6)
       clear hown6 hgr6 hb6
       go_wp2_with fail
       go_roundg (N - (k+2))
       case measure=>have:=HG.out;omega
       case rel=>exact⟨k+2,acc++[y],by go_num,rfl,by omega,HO6.out,HST,by rw[zRB];simp only[List.length_cons,List.length_nil];omega,HB6.out⟩
     ·have q92:((x:Int)==92)=false:=zQx.2 (by omega)
      rw[if_neg h92]at hst
      have HST:Hid (zHp T (P+(k+1)) (acc++[x])=R):=zQr hst
      have hk2:k+1≤N:=by omega
      clear hlt hx h10 h92 hst
      go_wp2_with (at_builtin;refine zAe zNK rfl _ _ rfl w.heap.size (n:=acc.length) (m:=1) (news:=[.int .u8 (x:Nat)]) rfl (HO.out.alloc _) rfl (Src.new wr [.int .u8 (x:Nat)] _ _ _) rfl (by simp[Value.oneCell']) (by unfold maxLen;omega) (by omega) (by have:=HBr.out.size;simp;omega) ?_)
      intro v6 w6 hown6 hgr6 _
      have hb6:=(HBr.out.alloc HBr.out.size (.cells #[.int .u8 (x:Nat)] 5)).grown hgr6 (by have:=HBr.out.size;simp;omega) (fun k hk=>(HO.out.lt k hk).1)
      have HB6:=zQr hb6
      have HO6:Hid (w6.ownsRow w.heap.size 5 1 v6 (acc++[x]).length (u8s (acc++[x]))):=zQr (by rw[zD5,zRB];exact hown6)
      clear hown6 hgr6 hb6
      go_wp2_with fail
      go_roundg (N - (k+1))
      case measure=>have:=HG.out;omega
      case rel=>exact⟨k+1,acc++[x],by go_num,rfl,by omega,HO6.out,HST,by rw[zRB];simp only[List.length_cons,List.length_nil];omega,HB6.out⟩
   ·obtain rfl:k=N:=by omega
    rw[if_pos (by have:=HTN.out;omega)]at hst
    subst hst
    have hlt': ¬(k:Int)<(k:Int):=by omega
    have c0:=HVr.out.c0
    have c1:=HVr.out.c1
    have f1:=HVr.out.fz 1
    clear hlt
    go_wp2_with fail
    go_ret2
    exact⟨⟨_,rfl,⟨ol,cl,rfl,zAu HO.out fun b hb=>zQ1 _ _ _ _ (by show b≠wb;have:=(HO.out.lt b hb).1;have:=HV.out.lt;omega)⟩,HVr.out.setAt (j:=P+k) (by have:=HTN.out;omega) (by have:=HTN.out;omega)⟩,((zBU.refl w.heap.size wb w).below HBr.out (zQt _)).store (.inl rfl) _ _⟩
end
end
section
open Go.RowKit
section
variable {w w':World} {E:PE} {i j k n:Nat} {l:List Value} {base:Nat} {c:Cm}
theorem zK6 (h:RS E w i l) (hm:CmM w base l c) (hb:E.wb<base∧E.cb<base) (hbw:base≤w.heap.size):
  Calls Tryz.prog 90 #[.pointer (some ⟨E.rb,0,none⟩),.pointer (some ⟨E.cb,0,none⟩)] w (HdO E w base (zPS E.T i c)):=by
 have HS:=zQr (zOo (E:=E) hb)
 have HBW:=zQr hbw
 have H:=zQr h
 have HM:=zQr hm
 have r0:=h.r0
 obtain⟨R,hR⟩: ∃R,zPS E.T i c=R:=⟨_,rfl⟩
 rw[hR]
 unfold zPS at hR
 have HT:=zKg h.v
 cases ht:zHn E.T i with
 |none=>
  rw[ht]at hR HT
  subst hR
  have HT:=zQr HT
  clear h hm hb hbw ht
  go_enter Tryz.func90,Tryz.ntmps90
  go_wp2_with fail
  refine HT.out.mono ?_;rintro e w1 ⟨⟨rfl,hv1⟩,hb1⟩
  have h1:=H.out.words hb1 hv1
  have m1:=HM.out.kept (zAU.nbut (E:=E) hb1) HS.out
  obtain⟨v9,hv9,_⟩:=m1.tx
  have c9:w1.cell? ⟨E.cb,9,none⟩=some v9:=h1.cc hv9
  have f9:=h1.cf 9
  have H3:=zQr (h1.set 9 (v:= .slice none 0 0) rfl)
  have K3:=zQr ((zAU.nbut (E:=E) hb1).tr (zAU.put E w1 9 (.slice none 0 0)))
  have HL8:Hid ((l.set 9 (.slice none 0 0))[8]?=some (.int .i64 (c.at_:Nat))):=zQr (by rw[List.getElem?_set_ne (by decide)];exact m1.p)
  clear h1 m1 hb1 hv1 hv9 r0 HT
  go_upto_region 2 with fail
  obtain⟨W3,hW3⟩: ∃W,w1.setCell ⟨E.cb,9,none⟩ (.slice none 0 0)=W:=⟨_,rfl⟩
  rw[hW3]at H3 K3 ⊢
  clear hW3 c9 f9
  go_wp2_with fail
  refine(zA8 (er:=73) H3.out HL8.out (by decide)).mono ?_;rintro e w9 ⟨hp,hb9⟩
  have HR9:Hid (Res E w (.error (73,c.at_)) [] e w9):=zQr ⟨K3.out.tr (zAU.bel hb9),_,_,hp,H3.out.below hb9⟩
  obtain⟨fb,rfl⟩:=HR9.out.bad
  clear hp hb9
  go_wp2_with fail
  exact⟨rfl,HR9.out⟩
 |some r=>
  obtain⟨t,j⟩:=r
  rw[ht]at hR HT
  simp only at hR
  subst hR
  have HT:=zQr HT
  clear h hm hb hbw ht
  go_enter Tryz.func90,Tryz.ntmps90
  go_wp2_with fail
  refine HT.out.mono ?_;rintro e w1 ⟨⟨v,rfl,hbys,hv1⟩,hb1⟩
  obtain⟨o,cc,rfl,hr1⟩:=hbys
  have h1:=H.out.words hb1 hv1
  have m1:=HM.out.kept (zAU.nbut (E:=E) hb1) HS.out
  obtain⟨v9,hv9,_⟩:=m1.tx
  have c9:w1.cell? ⟨E.cb,9,none⟩=some v9:=h1.cc hv9
  have f9:=h1.cf 9
  have H3:=zQr (h1.set 9 (v:= .slice o t.length cc) rfl)
  have K3:=zQr ((zAU.nbut (E:=E) hb1).tr (zAU.put E w1 9 (.slice o t.length cc)))
  have HM3:Hid (CmM (w1.setCell ⟨E.cb,9,none⟩ (.slice o t.length cc)) base (l.set 9 (.slice o t.length cc)) { c with tx:=t }):=zQr ((m1.setTx h1.cl.len (v:= .slice o t.length cc) (x:=t) ⟨o,cc,rfl,zAR hr1 HBW.out⟩).kept (zAU.put E w1 9 (.slice o t.length cc)) HS.out)
  clear h1 m1 hb1 hv1 hv9 r0 HT hr1
  go_upto_region 2 with fail
  obtain⟨W3,hW3⟩: ∃W,w1.setCell ⟨E.cb,9,none⟩ (.slice o t.length cc)=W:=⟨_,rfl⟩
  rw[hW3]at H3 K3 HM3 ⊢
  clear hW3 c9 f9
  go_wp2_with fail
  refine zGE.mono ?_;rintro e w9 ⟨rfl,rfl⟩
  go_wp2_with fail
  go_end0
  exact⟨rfl,K3.out,_,H3.out,HM3.out⟩
end
end
section
open Go.RowKit
section
variable {w:World} {L:List Mk} {oa:Option Addr} {ca:Nat}
def SaO (base:Nat) (r:Option (List Nat)) (e:Ending) (w':World):Prop:=
 match r with
 |none=> ∃v,e= .returned (.tuple #[v,.bool false])
 |some t=> ∃v,e= .returned (.tuple #[v,.bool true])∧Bys w' base v t
theorem zGK {k:Nat} (h:k<L.length):L.drop k=zAI L k::L.drop (k+1):=by
 rw[List.drop_eq_getElem_cons h]
 simp[zAI,List.getD_eq_getElem?_getD,h]
theorem zHz (hv:MkV w oa ca L) (hl:L.length≤4294967296):Calls Tryz.prog 185 #[.slice oa L.length ca] w fun e w'=>SaO w.heap.size (zJF L) e w'∧Below w.heap.size w w':=by
 have HV:=zQr hv
 obtain⟨R,hR⟩: ∃R,zJF L=R:=⟨_,rfl⟩
 rw[hR]
 have HR:Hid (zEw (L.drop 0) false []=R):=zQr hR
 clear hv hR
 go_enter Tryz.func185,Tryz.ntmps185
 go_wp2_with fail
 go_loopg [4,5,10] L.length (fun gk bv ev kv wr=> ∃(k:Nat) (e:Bool) (acc:List Nat),ev= .bool e∧kv= .int .i64 (k:Nat)∧gk=L.length - k∧k≤L.length∧wr.ownsRow w.heap.size 5 1 bv acc.length (u8s acc)∧Hid (zEw (L.drop k) e acc=R)∧acc.length≤k∧Below w.heap.size w wr)
 case atStart=>exact⟨0,false,[],rfl,rfl,by omega,by omega,zQ7 _ _ _ _,HR,zQt _,zQs _ _⟩
 case round=>
 obtain⟨k,e,acc,rfl,rfl,hg,hk,ho,HRk,hak,hb⟩:=hrel
 obtain⟨ol,cl,rfl⟩:=zBe ho
 have HG:=zQr hg
 have HBr:=zQr hb
 have HVr:=zQr (HV.out.below hb)
 by_cases hlt:k<L.length
 ·have hlt':(k:Int)<(L.length:Int):=by omega
  obtain⟨mb,mo,hoa,hml,hcs⟩:=HVr.out.at_ (by omega)
  obtain⟨z0,z1⟩:=hcs k hlt
  have hst:=HRk.out
  rw[zGK hlt]at hst
  have hx256:=HVr.out.u k hlt
  generalize zAI L k=mk at hst z0 z1 hx256
  obtain⟨x,p⟩:=mk
  simp only at z0 z1 hx256
  have hba:=(zQs wr.heap.size wr).alloc (zQt _) (.cells #[.int .u8 (x:Nat),.bool p] 166)
  have d0:(wr.alloc (.cells #[.int .u8 (x:Nat),.bool p] 166)).cell? ⟨wr.heap.size,0,none⟩=some (.int .u8 (x:Nat)):=(zQ6 _ _ 0 _ _ (0,0) (zQ4 wr _)).trans rfl
  have d1:(wr.alloc (.cells #[.int .u8 (x:Nat),.bool p] 166)).cell? ⟨wr.heap.size,1,none⟩=some (.bool p):=(zQ6 _ _ 1 _ _ (0,0) (zQ4 wr _)).trans rfl
  have HO:=zQr (ho.alloc (.cells #[.int .u8 (x:Nat),.bool p] 166))
  have HB1:=zQr (HBr.out.trans (hba.mono HBr.out.size))
  have HST:=zQr hst
  subst hoa
  clear hg ho hb hcs hba hst HRk HR
  go_upto_region 7 with fail
  obtain⟨W1,hW1⟩: ∃W,wr.alloc (.cells #[.int .u8 (x:Nat),.bool p] 166)=W:=⟨_,rfl⟩
  rw[hW1]at d0 d1 HO HB1 ⊢
  obtain⟨a1,ha1⟩: ∃a,wr.heap.size=a:=⟨_,rfl⟩
  rw[ha1]at d0 d1 ⊢
  clear hW1 ha1 z0 z1 hml
  have hst:=HST.out
  cases e with
  |true=>
   simp only[zEw]at hst
   cases p with
   |true=>
    rw[if_neg (by simp),if_pos (.inl rfl)]at hst
    subst hst
    clear hlt
    go_wp2_with fail
    go_ret2
    exact⟨⟨_,rfl⟩,HB1.out⟩
   |false=>
    by_cases h1:x=110
    ·rw[if_pos ⟨rfl,h1⟩]at hst
     have HS2:=zQr hst
     subst h1
     clear hst hlt
     go_wp2_with (at_builtin;refine zAe zNK rfl _ _ rfl w.heap.size (n:=acc.length) (m:=1) (news:=[.int .u8 (10:Nat)]) rfl (HO.out.alloc _) rfl (Src.new W1 [.int .u8 (10:Nat)] _ _ _) rfl (by simp[Value.oneCell']) (by unfold maxLen;omega) (by omega) (by have:=HB1.out.size;simp;omega) ?_)
     intro v6 w6 hown6 hgr6 _
     have hb6:=(HB1.out.alloc HB1.out.size (.cells #[.int .u8 (10:Nat)] 5)).grown hgr6 (by have:=HB1.out.size;simp;omega) (fun k hk=>(HO.out.lt k hk).1)
     have HB6:=zQr hb6
     have HO6:Hid (w6.ownsRow w.heap.size 5 1 v6 (acc++[10]).length (u8s (acc++[10]))):=zQr (by rw[zD5,zRB];exact hown6)
     clear hown6 hgr6 hb6
     go_wp2_with fail
     go_roundg (L.length - (k+1))
     case measure=>have:=HG.out;omega
     case rel=>exact⟨k+1,false,acc++[10],rfl,by go_num,rfl,by omega,HO6.out,HS2,by rw[zRB];simp only[List.length_cons,List.length_nil];omega,HB6.out⟩
    ·have q1:((x:Int)==110)=false:=zQx.2 (by omega)
     rw[if_neg (fun h=>h1 h.2)]at hst
     by_cases h2:x=92
     ·rw[if_neg (fun h=>h.elim (fun h=>by cases h) (fun h=>h h2))]at hst
      have HS2:=zQr hst
      have q2:((x:Int) !=92)=false:=by simp[h2]
      clear hst hlt h1 h2
      go_wp2_with (at_builtin;refine zAe zNK rfl _ _ rfl w.heap.size (n:=acc.length) (m:=1) (news:=[.int .u8 (x:Nat)]) rfl (HO.out.alloc _) rfl (Src.new W1 [.int .u8 (x:Nat)] _ _ _) rfl (by simp[Value.oneCell']) (by unfold maxLen;omega) (by omega) (by have:=HB1.out.size;simp;omega) ?_)
      intro v6 w6 hown6 hgr6 _
      have hb6:=(HB1.out.alloc HB1.out.size (.cells #[.int .u8 (x:Nat)] 5)).grown hgr6 (by have:=HB1.out.size;simp;omega) (fun k hk=>(HO.out.lt k hk).1)
      have HB6:=zQr hb6
      have HO6:Hid (w6.ownsRow w.heap.size 5 1 v6 (acc++[x]).length (u8s (acc++[x]))):=zQr (by rw[zD5,zRB];exact hown6)
      clear hown6 hgr6 hb6
      go_wp2_with fail
      go_roundg (L.length - (k+1))
      case measure=>have:=HG.out;omega
      case rel=>exact⟨k+1,false,acc++[x],rfl,by go_num,rfl,by omega,HO6.out,HS2,by rw[zRB];simp only[List.length_cons,List.length_nil];omega,HB6.out⟩
     ·rw[if_pos (.inr h2)]at hst
      subst hst
      have q2:((x:Int) !=92)=true:=bne_iff_ne.2 (by omega)
      clear hlt h1 h2
      go_wp2_with fail
      go_ret2
      exact⟨⟨_,rfl⟩,HB1.out⟩
  |false=>
   simp only[zEw]at hst
   by_cases h1:p=false∧x=92
   ·rw[if_pos h1]at hst
    obtain⟨rfl,rfl⟩:=h1
    have HS2:=zQr hst
    have HO2:=HO
    clear hst hlt
    go_wp2_with fail
    go_roundg (L.length - (k+1))
    case measure=>have:=HG.out;omega
    case rel=>exact⟨k+1,true,acc,rfl,by go_num,rfl,by omega,HO2.out,HS2,by omega,HB1.out⟩
   ·rw[if_neg h1]at hst
    have HS2:=zQr hst
    cases p with
    |true=>
     clear hst hlt h1
     go_wp2_with (at_builtin;refine zAe zNK rfl _ _ rfl w.heap.size (n:=acc.length) (m:=1) (news:=[.int .u8 (x:Nat)]) rfl (HO.out.alloc _) rfl (Src.new W1 [.int .u8 (x:Nat)] _ _ _) rfl (by simp[Value.oneCell']) (by unfold maxLen;omega) (by omega) (by have:=HB1.out.size;simp;omega) ?_)
     intro v6 w6 hown6 hgr6 _
     have hb6:=(HB1.out.alloc HB1.out.size (.cells #[.int .u8 (x:Nat)] 5)).grown hgr6 (by have:=HB1.out.size;simp;omega) (fun k hk=>(HO.out.lt k hk).1)
     have HB6:=zQr hb6
     have HO6:Hid (w6.ownsRow w.heap.size 5 1 v6 (acc++[x]).length (u8s (acc++[x]))):=zQr (by rw[zD5,zRB];exact hown6)
     clear hown6 hgr6 hb6
     go_wp2_with fail
     go_roundg (L.length - (k+1))
     case measure=>have:=HG.out;omega
     case rel=>exact⟨k+1,false,acc++[x],rfl,by go_num,rfl,by omega,HO6.out,HS2,by rw[zRB];simp only[List.length_cons,List.length_nil];omega,HB6.out⟩
    |false=>
     have q2:((x:Int)==92)=false:=zQx.2 fun e=>h1 ⟨rfl,by omega⟩
     clear hst hlt h1
     go_wp2_with (at_builtin;refine zAe zNK rfl _ _ rfl w.heap.size (n:=acc.length) (m:=1) (news:=[.int .u8 (x:Nat)]) rfl (HO.out.alloc _) rfl (Src.new W1 [.int .u8 (x:Nat)] _ _ _) rfl (by simp[Value.oneCell']) (by unfold maxLen;omega) (by omega) (by have:=HB1.out.size;simp;omega) ?_)
     intro v6 w6 hown6 hgr6 _
     have hb6:=(HB1.out.alloc HB1.out.size (.cells #[.int .u8 (x:Nat)] 5)).grown hgr6 (by have:=HB1.out.size;simp;omega) (fun k hk=>(HO.out.lt k hk).1)
     have HB6:=zQr hb6
     have HO6:Hid (w6.ownsRow w.heap.size 5 1 v6 (acc++[x]).length (u8s (acc++[x]))):=zQr (by rw[zD5,zRB];exact hown6)
     clear hown6 hgr6 hb6
     go_wp2_with fail
     go_roundg (L.length - (k+1))
     case measure=>have:=HG.out;omega
     case rel=>exact⟨k+1,false,acc++[x],rfl,by go_num,rfl,by omega,HO6.out,HS2,by rw[zRB];simp only[List.length_cons,List.length_nil];omega,HB6.out⟩
 ·obtain rfl:k=L.length:=by omega
  have hst:=HRk.out
  rw[List.drop_length]at hst
  have hlt': ¬(L.length:Int)<(L.length:Int):=by omega
  have HO:=zQr ho
  clear hlt hg ho hb
  cases e with
  |true=>
   have hst':none=R:=hst
   subst hst'
   go_wp2_with fail
   go_ret2
   exact⟨⟨_,rfl⟩,HBr.out⟩
  |false=>
   have hst':some acc=R:=hst
   subst hst'
   go_wp2_with fail
   go_ret2
   exact⟨⟨_,rfl,ol,cl,rfl,HO.out⟩,HBr.out⟩
end
end
section
open Go.RowKit
def PkR (w:World) (oa:Option Addr) (K:List Int):Prop:=
 0<K.length→ ∃nb no,oa=some ⟨nb,no,none⟩∧nb<w.heap.size∧ ∀i k,K[i]?=some k→w.cell? ⟨nb,no+i*2,none⟩=some (.int .i64 k)∧ ∃o n c,w.cell? ⟨nb,no+i*2+1,none⟩=some (.slice o n c)
def zDP (K:List Int):Int:=K.foldl (fun n x=>max n x) 0
theorem zHb (P:List Pc):zEf P=zDP (P.map (·.k)):=by unfold zEf zDP;rw[List.foldl_map]
section
variable {w w':World} {K:List Int} {oa:Option Addr} {ca:Nat}
theorem PkR.below (h:PkR w oa K) (hb:Below w.heap.size w w'):PkR w' oa K:=fun hp=>by
 obtain⟨nb,no,h1,h2,h3⟩:=h hp
 refine⟨nb,no,h1,zQu h2 hb.size,fun i k hk=>?_⟩
 obtain⟨e1,o,n,c,e2⟩:=h3 i k hk
 exact⟨(hb.cell (p:=⟨nb,no+i*2,none⟩) h2).trans e1,o,n,c,(hb.cell (p:=⟨nb,no+i*2+1,none⟩) h2).trans e2⟩
theorem zG7 (hv:PkR w oa K) (hl:K.length≤9223372036854775807):Calls Tryz.prog 44 #[.slice oa K.length ca] w fun e w'=>e= .returned (.int .i64 (zDP K))∧Below w.heap.size w w':=by
 have HV:=zQr hv
 clear hv
 go_enter Tryz.func44,Tryz.ntmps44
 go_wp2_with fail
 go_loopg [3,8] K.length (fun gk mv kv wr=> ∃k:Nat,mv= .int .i64 (zDP (K.take k))∧kv= .int .i64 (k:Nat)∧gk=K.length - k∧k≤K.length∧Below w.heap.size w wr)
 case atStart=>exact⟨0,rfl,rfl,by omega,by omega,zQs _ _⟩
 case round=>
 obtain⟨k,rfl,rfl,hg,hk,hb⟩:=hrel
 have HG:=zQr hg
 have HBr:=zQr hb
 by_cases hlt:k<K.length
 ·have hlt':(k:Int)<(K.length:Int):=by omega
  obtain⟨nb,no,rfl,hml,hcs⟩:=(HV.out.below hb) (by omega)
  obtain⟨z0,o,n,c,z1⟩:=hcs k K[k] (zQ8 hlt)
  have hmk:Hid (zDP (K.take (k+1))=max (zDP (K.take k)) K[k]):=zQr (by
   show List.foldl _ _ _=_;rw[List.take_add_one,zQ8 hlt,List.foldl_append];rfl)
  generalize K[k]=x at z0 hmk
  generalize zDP (K.take k)=mm at hmk ⊢
  have hba:=(zQs wr.heap.size wr).alloc (zQt _) (.cells #[.int .i64 x,.slice o n c] 103)
  have d0:(wr.alloc (.cells #[.int .i64 x,.slice o n c] 103)).cell? ⟨wr.heap.size,0,none⟩=some (.int .i64 x):=(zQ6 _ _ 0 _ _ (0,0) (zQ4 wr _)).trans rfl
  have HB1:=zQr (HBr.out.trans (hba.mono HBr.out.size))
  clear hg hb hcs hba
  go_upto_region 5 with fail
  obtain⟨W1,hW1⟩: ∃W,wr.alloc (.cells #[.int .i64 x,.slice o n c] 103)=W:=⟨_,rfl⟩
  rw[hW1]at d0 HB1 ⊢
  obtain⟨a1,ha1⟩: ∃a,wr.heap.size=a:=⟨_,rfl⟩
  rw[ha1]at d0 ⊢
  clear hW1 ha1 z0 z1 hml
  go_wp2_with fail
  go_roundg (K.length - (k+1))
  case measure=>have:=HG.out;omega
  case rel=>exact⟨k+1,by rw[hmk.out],by go_num,rfl,by omega,HB1.out⟩
 ·obtain rfl:k=K.length:=by omega
  have hlt': ¬(K.length:Int)<(K.length:Int):=by omega
  have HT:Hid (zDP (K.take K.length)=zDP K):=zQr (by rw[List.take_length])
  clear hlt hg hb
  go_wp2_with fail
  go_ret
  exact⟨by rw[←HT.out];rfl,HBr.out⟩
end
end
section
open Go.RowKit
theorem zP7:ElT Tryz.prog 32 103 2 32 (.agg #[.int .i64 0,.slice none 0 0]):=⟨Tryz.underlying32,by kernel_rfl,rfl,by decide⟩
theorem zHO: ∀(P:List Pc) (ts:List Value),ts.length=P.length→ ∀P' ts',pcC (P++P') (ts++ts')=pcC P ts++pcC P' ts'
 |[],[],_,_,_=>rfl
 |p::P,t::ts,h,P',ts'=>by
  simp only[List.cons_append,pcC,zHO P ts (by simpa using h) P' ts']
theorem zMI: ∀(P:List Pc) (ts:List Value) (i:Nat) (u:Value),ts.length=P.length→(pcC P ts).set (i*2+1) u=pcC P (ts.set i u)
 |[],[],_,_,_=>by simp[pcC]
 |p::P,t::ts,0,u,_=>rfl
 |p::P,t::ts,i+1,u,h=>by
  have:=zMI P ts i u (by simpa using h)
  simp only[pcC,List.set_cons_succ,show(i+1)*2+1=(i*2+1)+1+1 by omega,this]
theorem zHL {w:World} {b1 b2 s1 s2 n1 n2:Nat} {e1 e2:TypeId} {v1 v2:Value} {x1 x2:List Value} (h1:w.ownsRow b1 e1 s1 v1 n1 x1) (h2:w.ownsRow b2 e2 s2 v2 n2 x2) (hne:e1≠e2): ∀g,v1.ownBlock=some g→some g≠v2.ownBlock:=by
 intro g hg he
 rcases h1.2 with ⟨rfl,_⟩|⟨g1,c1,cur1,rfl,_,hh1,_⟩
 ·cases hg
 ·rcases h2.2 with ⟨rfl,_⟩|⟨g2,c2,cur2,rfl,_,hh2,_⟩
  ·cases he
  ·simp only[Value.ownBlock,Option.some.injEq]at hg he
   subst hg
   subst he
   rw[hh1]at hh2
   cases hh2
   exact hne rfl
structure PsR (w:World) (base:Nat) (v:Value) (P:List Pc) (ts:List Value):Prop where
 len:ts.length=P.length
 row:w.ownsRow base 103 2 v P.length (pcC P ts)
 tx: ∀(i:Nat) (t:Value) (p:Pc),ts[i]?=some t→P[i]?=some p→Bys w base t p.t
 ap: ∀(i j:Nat) (t u:Value) (g:Nat),ts[i]?=some t→ts[j]?=some u→t.ownBlock=some g→u.ownBlock=some g→i=j
section
variable {w w' W:World} {base:Nat} {v v':Value} {P:List Pc} {ts:List Value}
theorem PsR.nil (w:World) (base:Nat):PsR w base (.slice none 0 0) [] []:=⟨rfl,zQ7 _ _ _ _,fun i t p h=>by simp at h,fun i j t u g h=>by simp at h⟩
theorem Bys.lt {t:Value} {T:List Nat} (h:Bys w base t T): ∀g,t.ownBlock=some g→base≤g∧g<w.heap.size:=by
 obtain⟨o,c,rfl,h⟩:=h
 exact h.lt
theorem Bys.block {t:Value} {T:List Nat} (h:Bys w base t T) (hb: ∀g,t.ownBlock=some g→w'.heap[g]?=w.heap[g]?):Bys w' base t T:=by
 obtain⟨o,c,rfl,h⟩:=h
 exact⟨o,c,rfl,zAu h hb⟩
theorem PsR.at_ (h:PsR w base v P ts) {i:Nat} {t:Value} (ht:ts[i]?=some t): ∃p,P[i]?=some p∧Bys w base t p.t:=by
 have hi:=(zQy.1 ht).1
 rw[h.len]at hi
 exact⟨P[i],zQ8 hi,h.tx i t _ ht (zQ8 hi)⟩
theorem PsR.lt (h:PsR w base v P ts) {i:Nat} {t:Value} (ht:ts[i]?=some t) {g:Nat} (hg:t.ownBlock=some g):base≤g∧g<w.heap.size:=by
 obtain⟨p,_,hb⟩:=h.at_ ht
 exact hb.lt g hg
theorem PsR.off (h:PsR w base v P ts) {i:Nat} {t:Value} (ht:ts[i]?=some t) {g:Nat} (hg:t.ownBlock=some g):some g≠v.ownBlock:=by
 obtain⟨p,_,o,c,rfl,hb⟩:=h.at_ ht
 exact zHL hb h.row (by decide) g hg
theorem PsR.below (h:PsR w base v P ts) (hb:Below w.heap.size w w'):PsR w' base v P ts:=
 ⟨h.len,zAu h.row fun g hg=>hb.block g (h.row.lt g hg).2,fun i t p ht hp=>(h.tx i t p ht hp).block fun g hg=>hb.block g (h.lt ht hg).2,h.ap⟩
theorem PsR.pcs (h:PsR w base v P ts):Pcs w base v P:=by
 rcases h.row.2 with ⟨h1,h2⟩|⟨g,cap,cur,h1,_⟩
 ·exact⟨none,0,ts,by rw[h1,h2],h.len,h.row,h.tx⟩
 ·exact⟨_,cap,ts,h1,h.len,h.row,h.tx⟩
theorem PsR.snoc (h:PsR w base v P ts) (hb:Below w.heap.size w W) {x:Pc} {t:Value} (ht:Bys W base t x.t) (hf: ∀g,t.ownBlock=some g→w.heap.size≤g) (hr:w'.ownsRow base 103 2 v' (P.length+1) (pcC P ts++[.int .i64 x.k,t])) (hg:W.grownBy w' v.ownBlock):
  PsR w' base v' (P++[x]) (ts++[t]):=by
 have hW:=h.below hb
 refine⟨by simp[h.len],?_,fun i u p hu hp=>?_,fun i j u u' g hu hu' e e'=>?_⟩
 ·rw[zHO P ts h.len,zRB]
  exact hr
 ·by_cases hi:i<P.length
  ·rw[zRC (by rw[h.len];exact hi)]at hu
   rw[zRC hi]at hp
   exact(hW.tx i u p hu hp).block fun g hgu=>hg.block g (hW.lt hu hgu).2 (hW.off hu hgu)
  ·have hi2:i=P.length:=by
    have:=(zQy.1 hp).1
    simp at this
    omega
   subst hi2
   rw[zRD (zQt _),Nat.sub_self]at hp
   rw[zRD (by rw[h.len];exact zQt _),h.len,Nat.sub_self]at hu
   cases hp
   cases hu
   obtain⟨o,c,rfl,hrow⟩:=ht
   exact Bys.block ⟨o,c,rfl,hrow⟩ fun g hgu=>hg.block g (hrow.lt g hgu).2 (zHL hrow hW.row (by decide) g hgu)
 ·have key: ∀(i:Nat) (u:Value),(ts++[t])[i]?=some u→(i<ts.length∧ts[i]?=some u)∨(i=ts.length∧u=t):=fun i u hu=>by
   by_cases hi:i<ts.length
   ·exact .inl ⟨hi,by rwa[zRC hi]at hu⟩
   ·have hi2:i=ts.length:=by
     have:=(zQy.1 hu).1
     simp at this
     omega
    subst hi2
    rw[zRD (zQt _),Nat.sub_self]at hu
    cases hu
    exact .inr ⟨rfl,rfl⟩
  rcases key i u hu with ⟨h1,h2⟩|⟨h1,rfl⟩
  ·rcases key j u' hu' with ⟨h3,h4⟩|⟨h3,rfl⟩
   ·exact h.ap i j u u' g h2 h4 e e'
   ·have:=(h.lt h2 e).2;have:=hf g e';omega
  ·rcases key j u' hu' with ⟨h3,h4⟩|⟨h3,rfl⟩
   ·have:=(h.lt h4 e').2;have:=hf g e;omega
   ·omega
theorem PsR.last {Q:List Pc} {x:Pc} {t t':Value} {G cap:Nat} (h:PsR w base v (Q++[x]) (ts++[t])) (hv:v= .slice (some ⟨G,0,none⟩) (Q.length+1) cap) (hl:ts.length=Q.length) (hb:Below w.heap.size w W) (hg:W.grownBy w' t.ownBlock) {T:List Nat} (ht:Bys w' base t' T)
  (ho:t'.ownBlock=t.ownBlock∨t'.ownBlock=some W.heap.size):PsR (w'.setCell ⟨G,Q.length*2+1,none⟩ t') base v (Q++[⟨x.k,T⟩]) (ts++[t']):=by
 have hW:=h.below hb
 have e0:(ts++[t])[ts.length]?=some t:=by rw[zRD (zQt _),Nat.sub_self];rfl
 have hrow:w'.ownsRow base 103 2 v (Q++[x]).length (pcC (Q++[x]) (ts++[t])):=zAu hW.row fun g hgv=>hg.block g (hW.row.lt g hgv).2 fun e=>by
  cases hto:t.ownBlock with
  |none=>rw[hto]at e;cases e
  |some g2=>
   rw[hto]at e
   cases e
   exact hW.off e0 hto hgv.symm
 have hnG: ∀ {u:Value} {U:List Nat},Bys w' base u U→ ∀g,u.ownBlock=some g→g≠G:=fun hu g hgu e=>by
  obtain⟨o,c,rfl,hr⟩:=hu
  subst e
  exact zHL hr hrow (by decide) g hgu (by rw[hv];rfl)
 refine⟨by simp[hl],?_,fun i u p hu hp=>?_,fun i j u u' g hu hu' e e'=>?_⟩
 ·have hrow2:w'.ownsRow base 103 2 (.slice (some ⟨G,0,none⟩) (Q.length+1) cap) (Q.length+1) (pcC (Q++[x]) (ts++[t])):=by
   rw[hv,zRB]at hrow
   exact hrow
  have hst:=(zRF hrow2 (Q.length*2+1) t').1
  rw[zMI _ _ _ _ (by simp[hl])]at hst
  rw[hv]
  have e1:(ts++[t]).set Q.length t'=ts++[t']:=by rw[←hl,List.set_append_right _ _ (zQt _),Nat.sub_self];rfl
  rw[e1,zHO Q ts hl]at hst
  rw[zHO Q ts hl,zRB]
  exact hst
 ·by_cases hi:i<Q.length
  ·rw[zRC (by rw[hl];exact hi)]at hu
   rw[zRC hi]at hp
   have hu2:(ts++[t])[i]?=some u:=by rw[zRC (by rw[hl];exact hi)];exact hu
   have hb1:Bys w' base u p.t:=(hW.tx i u p hu2 (by rw[zRC hi];exact hp)).block fun g hgu=>hg.block g (hW.lt hu2 hgu).2 fun e=>by
    have:=h.ap i ts.length u t g hu2 e0 hgu e.symm
    omega
   exact hb1.block fun g hgu=>zQ1 _ _ _ _ (by show g≠G;exact hnG hb1 g hgu)
  ·have hi2:i=Q.length:=by
    have:=(zQy.1 hp).1
    simp at this
    omega
   subst hi2
   rw[zRD (zQt _),Nat.sub_self]at hp
   rw[zRD (by rw[hl];exact zQt _),hl,Nat.sub_self]at hu
   cases hp
   cases hu
   exact ht.block fun g hgu=>zQ1 _ _ _ _ (by show g≠G;exact hnG ht g hgu)
 ·have key: ∀(i:Nat) (u:Value),(ts++[t'])[i]?=some u→(i<ts.length∧(ts++[t])[i]?=some u)∨(i=ts.length∧u=t'):=fun i u hu=>by
   by_cases hi:i<ts.length
   ·exact .inl ⟨hi,by rw[zRC hi]at hu ⊢;exact hu⟩
   ·have hi2:i=ts.length:=by
     have:=(zQy.1 hu).1
     simp at this
     omega
    subst hi2
    rw[zRD (zQt _),Nat.sub_self]at hu
    cases hu
    exact .inr ⟨rfl,rfl⟩
  have nw: ∀(i:Nat) (u:Value),i<ts.length→(ts++[t])[i]?=some u→u.ownBlock=some g→t'.ownBlock=some g→False:=fun i u hi hu e1 e2=>by
   rcases ho with ho|ho
   ·rw[ho]at e2
    have:=h.ap i ts.length u t g hu e0 e1 e2
    omega
   ·rw[ho]at e2
    cases e2
    have:=(h.lt hu e1).2
    have:=hb.size
    omega
  rcases key i u hu with ⟨h1,h2⟩|⟨h1,rfl⟩
  ·rcases key j u' hu' with ⟨h3,h4⟩|⟨h3,rfl⟩
   ·exact h.ap i j u u' g h2 h4 e e'
   ·exact(nw i u h1 h2 e e').elim
  ·rcases key j u' hu' with ⟨h3,h4⟩|⟨h3,rfl⟩
   ·exact(nw j u' h3 h4 e' e).elim
   ·omega
end
end
section
open Go.RowKit
theorem zQZ:ElT Tryz.prog 24 36 272 440 (.agg Tryz.zeroCells36):=⟨Tryz.underlying24,by kernel_rfl,by kernel_rfl,by decide⟩
def zKc (w w':World):Prop:= ∀(g:Nat) (cs:Array Value) (e:TypeId),e≠36→w.heap[g]?=some (.cells cs e (0,0))→w'.heap[g]?=w.heap[g]?
section
variable {w w' W:World} {base:Nat} {v v':Value} {l:List Value} {c:Cm} {L:List Cm}
theorem zHM {e:TypeId} {size n:Nat} {xs:List Value} (h:w.ownsRow base e size v n xs) (he:e≠36) (k:zKc w w'):w'.ownsRow base e size v n xs:=zAu h fun g hg=>by
 rcases h.2 with ⟨rfl,_⟩|⟨g2,cap,cur,rfl,_,h2,_⟩
 ·cases hg
 ·cases hg
  exact k _ _ _ he h2
theorem Bys.stay {T:List Nat} (h:Bys w base v T) (k:zKc w w'):Bys w' base v T:=by
 obtain⟨o,c,rfl,h1⟩:=h
 exact⟨o,c,rfl,zHM h1 (by decide) k⟩
theorem Nos.stay {re:List Nd} (h:Nos w base v re) (k:zKc w w'):Nos w' base v re:=by
 obtain⟨o,c,rfl,h1⟩:=h
 exact⟨o,c,rfl,zHM h1 (by decide) k⟩
theorem Pcs.stay {P:List Pc} (h:Pcs w base v P) (k:zKc w w'):Pcs w' base v P:=by
 obtain⟨o,c,ts,rfl,h1,h2,h3⟩:=h
 exact⟨o,c,ts,rfl,h1,zHM h2 (by decide) k,fun i t p ht hp=>(h3 i t p ht hp).stay k⟩
theorem CmM.stay (h:CmM w base l c) (k:zKc w w'):CmM w' base l c:=
 {h with a:=⟨h.a.1,h.a.2.1,h.a.2.2.imp fun _ e=>⟨e.1,e.2.stay k⟩⟩,b:=⟨h.b.1,h.b.2.1,h.b.2.2.imp fun _ e=>⟨e.1,e.2.stay k⟩⟩,tx:=h.tx.imp fun _ e=>⟨e.1,e.2.stay k⟩,re:=h.re.imp fun _ e=>⟨e.1,e.2.stay k⟩,fi:=h.fi.imp fun _ e=>⟨e.1,e.2.stay k⟩ }
theorem zKc.below (h:Below w.heap.size w w'):zKc w w':=fun g _ _ _ hg=>h.block g (zQz.1 hg).1
theorem zKc.trans (h:zKc w W) (k:zKc W w'):zKc w w':=fun g cs e he hg=>by
 have h1:=h g cs e he hg
 exact(k g cs e he (h1.trans hg)).trans h1
def Cms (w:World) (base:Nat) (v:Value) (L:List Cm):Prop:=
 ∃(o:Option Addr) (c:Nat) (ls:List (List Value)),v= .slice o L.length c∧ls.length=L.length∧w.ownsRow base 36 272 v L.length ls.flatten∧(∀l∈ls,zEq l)∧ ∀(i:Nat) (l:List Value) (c:Cm),ls[i]?=some l→L[i]?=some c→CmM w base l c
theorem Cms.nil (w:World) (base:Nat):Cms w base (.slice none 0 0) []:=⟨none,0,[],rfl,rfl,zQ7 _ _ _ _,(fun l h=>by cases h),fun i l c h=>by simp at h⟩
theorem Cms.kept {S:Nat→Prop} (h:Cms w base v L) (k:zAU w w' S) (hS: ∀k,base≤k→ ¬S k):Cms w' base v L:=by
 obtain⟨o,c,ls,rfl,h1,h2,h3,h4⟩:=h
 exact⟨o,c,ls,rfl,h1,k.row h2 fun b hb=>hS b (h2.lt b hb).1,h3,fun i l c hl hc=>(h4 i l c hl hc).kept k hS⟩
theorem Cms.below (h:Cms w base v L) (hb:Below w.heap.size w w'):Cms w' base v L:=h.kept (zAU.bel (S:=fun _=>False) hb) fun _ _ e=>e
theorem zLT {n:Nat} {xs:List Value} (h:W.ownsRow base 36 272 v n xs) (hg:W.grownBy w' v.ownBlock):zKc W w':=fun g cs e he hgo=>hg.block g (zQz.1 hgo).1 fun hv=>by
 rcases h.2 with ⟨rfl,_⟩|⟨g2,cap,cur,rfl,_,h2,_⟩
 ·cases hv
 ·simp only[Value.ownBlock,Option.some.injEq]at hv
  subst hv
  rw[hgo]at h2
  cases h2
  exact he rfl
theorem zOL (hb:Below w.heap.size w W) (hl:zEq l) (hc:CmM w base l c) {ls:List (List Value)} (hls:ls.length=L.length) (hld: ∀l∈ls,zEq l) (hm: ∀(i:Nat) (l:List Value) (c:Cm),ls[i]?=some l→L[i]?=some c→CmM w base l c)
  (hrow:w.ownsRow base 36 272 v L.length ls.flatten) (hr:w'.ownsRow base 36 272 v' (L.length+1) (ls.flatten++l)) (hg:W.grownBy w' v.ownBlock):Cms w' base v' (L++[c]):=by
 have hW:W.ownsRow base 36 272 v L.length ls.flatten:=zAu hrow fun g hg=>hb.block g (hrow.lt g hg).2
 have st:zKc w w':=(zKc.below hb).trans (zLT hW hg)
 have fo: ∃o c,v'= .slice o (L.length+1) c:=by
  rcases hr.2 with ⟨h1,h2⟩|⟨g,cap,cur,h1,_⟩
  ·omega
  ·exact⟨_,_,h1⟩
 obtain⟨o,cp,rfl⟩:=fo
 refine⟨o,cp,ls++[l],by simp,by simp[hls],by simpa using hr,fun x hx=>?_,fun i x y hx hy=>?_⟩
 ·rcases zRM.1 hx with hx|hx
  ·exact hld x hx
  ·rw[List.mem_singleton]at hx;subst hx;exact hl
 ·by_cases hi:i<L.length
  ·rw[zRC (by rw[hls];exact hi)]at hx
   rw[zRC hi]at hy
   exact(hm i x y hx hy).stay st
  ·have hi2:i=L.length:=by
    have:=(zQy.1 hy).1
    simp at this
    omega
   subst hi2
   rw[zRD (zQt _),Nat.sub_self]at hy
   rw[zRD (by rw[hls];exact zQt _),hls,Nat.sub_self]at hx
   cases hx
   cases hy
   exact hc.stay st
end
end
section
open Go.RowKit
theorem zE0: ∀(P:List Pc) (ts:List Value) (i:Nat),ts.length=P.length→(pcC P ts)[i*2]?=P[i]?.map fun p=> .int .i64 p.k
 |[],[],i,_=>by simp[pcC]
 |p::P,t::ts,0,_=>by simp[pcC]
 |p::P,t::ts,i+1,h=>by
  have:=zE0 P ts i (by simpa using h)
  rw[show(i+1)*2=i*2+1+1 by omega]
  simpa [pcC]using this
theorem zF1: ∀(P:List Pc) (ts:List Value) (i:Nat),ts.length=P.length→(pcC P ts)[i*2+1]?=ts[i]?
 |[],[],i,_=>by simp[pcC]
 |p::P,t::ts,0,_=>by simp[pcC]
 |p::P,t::ts,i+1,h=>by
  have:=zF1 P ts i (by simpa using h)
  rw[show(i+1)*2+1=i*2+1+1+1 by omega]
  simpa [pcC]using this
theorem zOX (b:Nat):zJ3 [] b=[]++[⟨-1,[b]⟩]:=rfl
theorem zI1 {Q:List Pc} {x:Pc} (h:x.k= -1) (b:Nat):zJ3 (Q++[x]) b=Q++[⟨x.k,x.t++[b]⟩]:=by simp[zJ3,h]
theorem zHB {Q:List Pc} {x:Pc} (h:x.k≠ -1) (b:Nat):zJ3 (Q++[x]) b=Q++[x]++[⟨-1,[b]⟩]:=by simp[zJ3,h]
section
variable {w:World} {base:Nat} {P:List Pc} {ts:List Value}
theorem Bys.lit (w:World) (hb:base≤w.heap.size) (b:Nat):Bys (w.alloc (.cells #[.int .u8 (b:Nat)] 5)) base (.slice (some ⟨w.heap.size,0,none⟩) 1 1) [b]:=
 ⟨_,_,rfl,World.ownsRow_lit (base:=base) (e:=5) (size:=1) w #[.int .u8 (b:Nat)] 1 hb (by decide) rfl⟩
def AdP (w:World) (base:Nat) (P:List Pc) (e:Ending) (w':World):Prop:=(∃v' ts',e= .returned v'∧PsR w' base v' P ts')∧Below base w w'
theorem zNG {o:Option Addr} {c b:Nat} (h:PsR w base (.slice o P.length c) P ts) (hbase:base≤w.heap.size) (hz:P.length≤4294967295)
  (hk:P=[]∨ ∃Q x,P=Q++[x]∧x.k≠ -1):Calls Tryz.prog 182 #[.slice o P.length c,.int .u8 (b:Nat)] w (AdP w base (P++[⟨-1,[b]⟩])):=by
 have H:=zQr h
 have HBS:=zQr hbase
 have HZ:=zQr hz
 have hW1:=(zQs w.heap.size w).alloc (zQt _) (.cells #[.int .u8 (b:Nat)] 5)
 have hL:=Bys.lit w hbase b
 have hn1:(w.alloc (.cells #[.int .u8 (b:Nat)] 5)).heap.size=w.heap.size+1:=by simp
 have hW2:=hW1.alloc (by rw[hn1];omega) (.cells #[.int .i64 (-1),.slice (some ⟨w.heap.size,0,none⟩) 1 1] 103)
 have hL2:Bys ((w.alloc (.cells #[.int .u8 (b:Nat)] 5)).alloc (.cells #[.int .i64 (-1),.slice (some ⟨w.heap.size,0,none⟩) 1 1] 103)) base (.slice (some ⟨w.heap.size,0,none⟩) 1 1) [b]:=
  hL.block fun g hg=>(Below.heap_alloc _ _ _ (hL.lt g hg).2)
 have hS:=Src.new (w.alloc (.cells #[.int .u8 (b:Nat)] 5)) [.int .i64 (-1),.slice (some ⟨w.heap.size,0,none⟩) 1 1] 103 1 1
 rw[hn1]at hS
 have HW2:=zQr hW2
 have HL2:=zQr hL2
 have HSR:=zQr hS
 have HN2:Hid (((w.alloc (.cells #[.int .u8 (b:Nat)] 5)).alloc (.cells #[.int .i64 (-1),.slice (some ⟨w.heap.size,0,none⟩) 1 1] 103)).heap.size=w.heap.size+1+1):=zQr (by simp)
 clear hW1 hL hn1 hW2 hL2 hS h hbase
 rcases hk with rfl|⟨Q,x,rfl,hx⟩
 ·clear hz
  go_enter Tryz.func182,Tryz.ntmps182
  go_wp2_with (at_builtin;refine zAe zP7 rfl _ _ rfl base (n:=0) (m:=1) (news:=[.int .i64 (-1),.slice (some ⟨w.heap.size,0,none⟩) 1 1]) rfl ((H.out.below HW2.out).row) rfl HSR.out rfl (by simp[Value.oneCell']) (by unfold maxLen;omega) (by omega) (by rw[HN2.out];have:=HBS.out;omega) ?_)
  intro v6 w6 hown6 hgr6 _
  have hps:=H.out.snoc (x:=⟨-1,[b]⟩) HW2.out HL2.out (fun g hg=>by simp only[Value.ownBlock,Option.some.injEq]at hg;omega) hown6 hgr6
  have HPS:=zQr hps
  have HB6:=zQr ((HW2.out.mono HBS.out).grown hgr6 (by rw[HN2.out];have:=HBS.out;omega) (fun k hk=>(H.out.row.lt k hk).1))
  clear hown6 hgr6 hps
  go_wp2_with fail
  go_ret
  exact⟨⟨_,_,rfl,HPS.out⟩,HB6.out⟩
 ·obtain⟨n,hn⟩: ∃n,(Q++[x]).length=n+1:=⟨Q.length,by simp⟩
  have hn2:Q.length=n:=by simpa using hn
  obtain⟨_,G,rfl,hGl,hcs,hfz⟩:=zBW H.out.row (by simp)
  obtain⟨u0,hu0,c0⟩:=hcs (n*2) (by rw[hn];omega)
  rw[zE0 _ _ _ H.out.len,zRD (by omega),hn2,Nat.sub_self]at hu0
  simp only[List.getElem?_cons_zero,Option.map_some,Option.some.injEq]at hu0
  subst hu0
  rw[hn]at H hz ⊢
  have HN:=zQr hn
  have q1:(x.k== -1)=false:=zQx.2 hx
  clear hcs hfz hn hx hn2
  go_enter Tryz.func182,Tryz.ntmps182
  go_wp2_with (at_builtin;refine zAe zP7 rfl _ _ rfl base (n:=(Q++[x]).length) (m:=1) (news:=[.int .i64 (-1),.slice (some ⟨w.heap.size,0,none⟩) 1 1]) rfl ((H.out.below HW2.out).row) rfl HSR.out rfl (by simp[Value.oneCell']) (by unfold maxLen;have:=HZ.out;omega) (by have:=HZ.out;omega) (by rw[HN2.out];have:=HBS.out;omega) ?_)
  intro v6 w6 hown6 hgr6 _
  have hps:=H.out.snoc (x:=⟨-1,[b]⟩) HW2.out HL2.out (fun g hg=>by simp only[Value.ownBlock,Option.some.injEq]at hg;omega) (by rw[List.length_append];exact hown6) hgr6
  have HPS:=zQr hps
  have HB6:=zQr ((HW2.out.mono HBS.out).grown hgr6 (by rw[HN2.out];have:=HBS.out;omega) (fun k hk=>(H.out.row.lt k hk).1))
  clear hown6 hgr6 hps
  go_wp2_with fail
  go_ret
  exact⟨⟨_,_,rfl,HPS.out⟩,HB6.out⟩
theorem zOW {o:Option Addr} {c b:Nat} {Q:List Pc} {x:Pc} (h:PsR w base (.slice o (Q++[x]).length c) (Q++[x]) ts) (hbase:base≤w.heap.size) (hz:(Q++[x]).length≤4294967295) (hx:x.k= -1) (hz2:x.t.length≤4294967295):
  Calls Tryz.prog 182 #[.slice o (Q++[x]).length c,.int .u8 (b:Nat)] w (AdP w base (Q++[⟨x.k,x.t++[b]⟩])):=by
 have HBS:=zQr hbase
 have HZ2:=zQr hz2
 obtain⟨us,t,rfl⟩: ∃us t,ts=us++[t]:=by
  rcases List.eq_nil_or_concat ts with h1|⟨us,t,h1⟩
  ·have:=h.len;rw[h1]at this;simp at this
  ·exact⟨us,t,by rw[h1];simp⟩
 have hus:us.length=Q.length:=by have:=h.len;simpa using this
 obtain⟨n,hn⟩: ∃n,(Q++[x]).length=n+1:=⟨Q.length,by simp⟩
 have hn2:Q.length=n:=by simpa using hn
 obtain⟨_,G,rfl,hGl,hcs,hfz⟩:=zBW h.row (by simp)
 obtain⟨u0,hu0,c0⟩:=hcs (n*2) (by rw[hn];omega)
 rw[zE0 _ _ _ h.len,zRD (by omega),hn2,Nat.sub_self]at hu0
 simp only[List.getElem?_cons_zero,Option.map_some,Option.some.injEq]at hu0
 subst hu0
 obtain⟨u1,hu1,c1⟩:=hcs (n*2+1) (by rw[hn];omega)
 rw[zF1 _ _ _ h.len,zRD (by omega),hus,hn2,Nat.sub_self]at hu1
 simp only[List.getElem?_cons_zero,Option.some.injEq]at hu1
 subst hu1
 have hft:=hfz (n*2+1)
 have htx:=h.tx n t x (by rw[zRD (by omega),hus,hn2,Nat.sub_self];rfl) (by rw[zRD (by omega),hn2,Nat.sub_self];rfl)
 have hoff: ∀g,t.ownBlock=some g→g≠G:=fun g hg e=>by
  subst e
  exact h.off (i:=n) (by rw[zRD (by omega),hus,hn2,Nat.sub_self];rfl) hg rfl
 obtain⟨ot,ct,rfl,hrow⟩:=htx
 have hW1:=(zQs w.heap.size w).alloc (zQt _) (.cells #[.int .u8 (b:Nat)] 5)
 have HW1:=zQr hW1
 have HT1:=zQr (zAu hrow fun g hg=>hW1.block g (hrow.lt g hg).2)
 have HN1:Hid ((w.alloc (.cells #[.int .u8 (b:Nat)] 5)).heap.size=w.heap.size+1):=zQr (by simp)
 have HN:=zQr hn2
 have HUS:=zQr hus
 have HOFF:=zQr hoff
 have HC1:=zQr c1
 have HFT:=zQr hft
 have HGL:=zQr hGl
 have HX:=zQr hx
 rw[hn]at h hz ⊢
 have H:=zQr h
 rw[hx]at c0
 clear hcs hfz hn hx hn2 hus hoff hrow hW1 h hbase hz2
 go_enter Tryz.func182,Tryz.ntmps182
 go_wp2_with (at_builtin;refine zAe zNK rfl _ _ rfl base (n:=x.t.length) (m:=1) (news:=[.int .u8 (b:Nat)]) rfl HT1.out rfl (Src.new w [.int .u8 (b:Nat)] _ _ _) rfl (by simp[Value.oneCell']) (by unfold maxLen;have:=HZ2.out;omega) (by have:=HZ2.out;omega) (by rw[HN1.out];have:=HBS.out;omega) ?_)
 intro v6 w6 hown6 hgr6 hor
 obtain⟨o6,c6,rfl⟩:=zBe hown6
 have hbw6:w6.heap[G]?=w.heap[G]?:=(hgr6.block G (by rw[HN1.out];have:=HGL.out;omega) fun e=>by
  cases hto:(Value.slice ot x.t.length ct).ownBlock with
  |none=>rw[hto]at e;cases e
  |some g2=>
   rw[hto]at e
   cases e
   exact HOFF.out _ hto rfl).trans (HW1.out.block G HGL.out)
 have d1:w6.cell? ⟨G,n*2+1,none⟩=some (.slice ot x.t.length ct):=(zQv (w:=w) (a:=⟨G,n*2+1,none⟩) hbw6).trans HC1.out
 have df:w6.frozen? ⟨G,n*2+1,none⟩=false:=(zQw (w:=w) (a:=⟨G,n*2+1,none⟩) hbw6).trans HFT.out
 have hps:=PsR.last (t':= .slice o6 (x.t.length+1) c6) (T:=x.t++[b]) H.out (by rw[HN.out]) HUS.out HW1.out hgr6 ⟨o6,c6,by simp,by rw[List.length_append,zD5];exact hown6⟩ (by rw[HN1.out];exact hor)
 rw[HN.out]at hps
 have HPS:=zQr hps
 have HGB:=zQr (H.out.row.lt G rfl).1
 have HB6:=zQr (((HW1.out.mono HBS.out).grown hgr6 (by rw[HN1.out];have:=HBS.out;omega) (fun k hk=>(HT1.out.lt k hk).1)).setCell (p:=⟨G,n*2+1,none⟩) HGB.out (.slice o6 (x.t.length+1) c6))
 clear hown6 hgr6 hps hor hbw6
 go_wp2_with fail
 go_ret
 exact⟨⟨_,_,rfl,HPS.out⟩,HB6.out⟩
theorem zDt {o:Option Addr} {c b:Nat} (h:PsR w base (.slice o P.length c) P ts) (hbase:base≤w.heap.size) (hz:P.length≤4294967295) (hz2: ∀p∈P,p.t.length≤4294967295):
  Calls Tryz.prog 182 #[.slice o P.length c,.int .u8 (b:Nat)] w (AdP w base (zJ3 P b)):=by
 rcases List.eq_nil_or_concat P with rfl|⟨Q,x,hP⟩
 ·rw[zOX]
  exact zNG h hbase hz (.inl rfl)
 ·obtain rfl:P=Q++[x]:=by rw[hP];simp
  by_cases hx:x.k= -1
  ·rw[zI1 hx]
   exact zOW h hbase hz hx (hz2 x (by simp))
  ·rw[zHB hx]
   exact zNG h hbase hz (.inr ⟨Q,x,rfl,hx⟩)
end
end
section
open Go.RowKit
theorem zHC (P:List Pc) (b:Nat):zJ3 P b=P++[⟨-1,[b]⟩]∨ ∃Q x,P=Q++[x]∧zJ3 P b=Q++[⟨x.k,x.t++[b]⟩]:=by
 rcases List.eq_nil_or_concat P with rfl|⟨Q,x,hP⟩
 ·exact .inl rfl
 ·obtain rfl:P=Q++[x]:=by rw[hP];simp
  by_cases hx:x.k= -1
  ·exact .inr ⟨Q,x,rfl,zI1 hx b⟩
  ·exact .inl (zHB hx b)
theorem zCN (P:List Pc) (b:Nat):(zJ3 P b).length≤P.length+1:=by
 rcases zHC P b with h|⟨Q,x,rfl,h⟩
 ·rw[h,zRB];simp
 ·rw[h];simp
theorem zCh {P:List Pc} {b k n:Nat} (hn:1≤n) (h: ∀p∈P,p.t.length≤k): ∀p∈zJ3 P b,p.t.length≤k+n:=fun p hp=>by
 rcases zHC P b with e|⟨Q,x,rfl,e⟩
 ·rw[e]at hp
  rcases zRM.1 hp with hp|hp
  ·have:=h p hp;omega
  ·rw[List.mem_singleton]at hp;subst hp;show 1≤k+n;omega
 ·rw[e]at hp
  rcases zRM.1 hp with hp|hp
  ·have:=h p (by simp[hp]);omega
  ·rw[List.mem_singleton]at hp
   subst hp
   have:=h x (by simp)
   simp only[List.length_append,List.length_cons,List.length_nil]
   omega
def FiO (base:Nat) (r:Option (List Pc)) (e:Ending) (w':World):Prop:=
 match r with
 |none=> ∃i:Nat,e= .returned (.tuple #[.slice none 0 0,.int .i64 61,.int .i64 (i:Nat)])
 |some P=> ∃v,e= .returned (.tuple #[v,.int .i64 0,.int .i64 0])∧Pcs w' base v P
section
variable {w:World} {L:List Mk} {oa:Option Addr} {ca:Nat}
theorem zJr (hv:MkV w oa ca L) (hl:L.length≤4294967293):Calls Tryz.prog 145 #[.slice oa L.length ca] w fun e w'=>FiO w.heap.size (zLW L) e w'∧Below w.heap.size w w':=by
 have HV:=zQr hv
 have HL:=zQr hl
 obtain⟨R,hR⟩: ∃R,zLW L=R:=⟨_,rfl⟩
 rw[hR]
 have HR:Hid (zCS (L.drop 0) false []=R):=zQr hR
 clear hv hR
 go_enter Tryz.func145,Tryz.ntmps145
 go_wp2_with fail
 go_loopg [5,6] L.length (fun gk pv iv wr=> ∃(k:Nat) (P:List Pc) (ts:List Value) (o:Option Addr) (c:Nat),pv= .slice o P.length c∧iv= .int .i64 (k:Nat)∧gk=L.length - k∧k≤L.length∧PsR wr w.heap.size pv P ts∧Hid (zCS (L.drop k) false P=R)∧P.length≤k∧Hid (∀p∈P,p.t.length≤k)∧Below w.heap.size w wr)
 case atStart=>exact⟨0,[],[],none,0,rfl,rfl,by omega,by omega,PsR.nil _ _,HR,zQt _,zQr (fun p hp=>by cases hp),zQs _ _⟩
 case round=>
 obtain⟨k,P,ts,o,c,rfl,rfl,hg,hk,hp,HRk,hkp,HTX,hb⟩:=hrel
 have HG:=zQr hg
 have HPr:=zQr hp
 have HKP:=zQr hkp
 have HBr:=zQr hb
 have HVr:=zQr (HV.out.below hb)
 clear HR
 by_cases hlt:k<L.length
 ·have hlt':(k:Int)<(L.length:Int):=by omega
  obtain⟨mb,mo,hoa,hml,hcs⟩:=HVr.out.at_ (by omega)
  obtain⟨z0,z1⟩:=hcs k hlt
  have hst:=HRk.out
  rw[zGK hlt]at hst
  have hx256:=HVr.out.u k hlt
  generalize zAI L k=mk at hst z0 z1 hx256
  obtain⟨x,p⟩:=mk
  simp only at z0 z1 hx256
  have hba:=(zQs wr.heap.size wr).alloc (zQt _) (.cells #[.int .u8 (x:Nat),.bool p] 166)
  have d0:(wr.alloc (.cells #[.int .u8 (x:Nat),.bool p] 166)).cell? ⟨wr.heap.size,0,none⟩=some (.int .u8 (x:Nat)):=(zQ6 _ _ 0 _ _ (0,0) (zQ4 wr _)).trans rfl
  have d1:(wr.alloc (.cells #[.int .u8 (x:Nat),.bool p] 166)).cell? ⟨wr.heap.size,1,none⟩=some (.bool p):=(zQ6 _ _ 1 _ _ (0,0) (zQ4 wr _)).trans rfl
  have df: ∀j,(wr.alloc (.cells #[.int .u8 (x:Nat),.bool p] 166)).frozen? ⟨wr.heap.size,j,none⟩=false:=fun j=>frozen_of_row _ _ _ _ _ (zQ4 wr _)
  have HBA:=zQr hba
  have HP1:=zQr (hp.below hba)
  have HB1:=zQr (HBr.out.trans (hba.mono HBr.out.size))
  have HST:=zQr hst
  have HI:=zQr hlt
  subst hoa
  clear hg hp hb hcs hba hst HRk
  go_upto_region 7 with fail
  obtain⟨W1,hW1⟩: ∃W,wr.alloc (.cells #[.int .u8 (x:Nat),.bool p] 166)=W:=⟨_,rfl⟩
  rw[hW1]at d0 d1 df HP1 HB1 HBA ⊢
  obtain⟨a1,ha1⟩: ∃a,wr.heap.size=a:=⟨_,rfl⟩
  have HA1:=zQr ha1
  rw[ha1]at d0 d1 df ⊢
  clear hW1 ha1 z0 z1 hml
  cases p with
  |true=>
   have HN:=zQr (by have:=HST.out;rw[zCS,if_pos rfl]at this;exact this)
   have HAD:=zQr (zDt (b:=x) HP1.out HB1.out.size (by have:=HKP.out;have:=HL.out;omega) (fun p hp=>by have:=HTX.out p hp;have:=HL.out;omega))
   have HTX2:=zQr (zCh (b:=x) (n:=1) (by decide) HTX.out)
   have HLE2:=zQr (zCN P x)
   go_wp2_with fail
   refine HAD.out.mono ?_;rintro e w2 ⟨⟨v2,ts2,rfl,hps2⟩,hb2⟩
   obtain⟨o2,c2,rfl⟩:=zBe hps2.row
   have HP2:=zQr hps2
   have HB2:=zQr (HB1.out.trans hb2)
   clear hps2 hb2 HAD
   go_wp2_with fail
   go_roundg (L.length - (k+1))
   case measure=>have:=HG.out;have:=HI.out;omega
   case rel=>exact⟨k+1,_,ts2,o2,c2,rfl,by go_num,rfl,by have:=HI.out;omega,HP2.out,HN,by have:=HLE2.out;have:=HKP.out;omega,HTX2,HB2.out⟩
  |false=>
   by_cases h1:x=38
   ·subst h1
    clear hlt
    have HN:=zQr (by have:=HST.out;rw[zCS,if_neg (fun h=>by cases h),if_pos rfl]at this;exact this)
    have hN1:(W1.alloc (.cells #[.int .i64 (0),.slice none 0 0] 103)).heap.size=W1.heap.size+1:=by simp
    have HN1:=zQr hN1
    have HWB:=zQr ((zQs W1.heap.size W1).alloc (zQt _) (.cells #[.int .i64 (0),.slice none 0 0] 103))
    clear hN1
    go_wp2_with (at_builtin;refine zAe zP7 rfl _ _ rfl w.heap.size (n:=P.length) (m:=1) (news:=[.int .i64 (0),.slice none 0 0]) rfl ((HP1.out.below HWB.out).row) rfl (Src.new W1 [.int .i64 (0),.slice none 0 0] _ _ _) rfl (by simp[Value.oneCell']) (by unfold maxLen;have:=HKP.out;have:=HL.out;omega) (by have:=HKP.out;have:=HL.out;omega) (by rw[HN1.out];have:=HB1.out.size;omega) ?_)
    intro v6 w6 hown6 hgr6 _
    obtain⟨o6,c6,rfl⟩:=zBe hown6
    have HP6:=zQr (HP1.out.snoc (x:=⟨0,[]⟩) HWB.out (t:= .slice none 0 0) ⟨none,0,rfl,zQ7 _ _ _ _⟩ (fun g hg=>by cases hg) hown6 hgr6)
    have HB6:=zQr ((HB1.out.trans (HWB.out.mono HB1.out.size)).grown hgr6 (by rw[HN1.out];have:=HB1.out.size;omega) (fun k hk=>(HP1.out.row.lt k hk).1))
    clear hown6 hgr6
    go_wp2_with fail
    go_roundg (L.length - (k+1))
    case measure=>have:=HG.out;have:=HI.out;omega
    case rel=>exact⟨k+1,P++[⟨0,[]⟩],ts++[.slice none 0 0],o6,c6,by rw[zRB];rfl,by go_num,rfl,by have:=HI.out;omega,HP6.out,HN,by rw[zRB];have:=HKP.out;simp only[List.length_cons,List.length_nil];omega,zQr (fun p hp=>by rcases zRM.1 hp with hp|hp;have:=HTX.out p hp;omega;rw[List.mem_singleton]at hp;subst hp;exact Nat.zero_le _),HB6.out⟩
   have q1:((x:Int)==38)=false:=zQx.2 (by omega)
   by_cases h2:x=92
   ·subst h2
    have HS2:=zQr (show zCS (L.drop (k+1)) true P=R by have:=HST.out;rw[zCS,if_neg (by decide),if_neg (by decide),if_pos rfl]at this;exact this)
    clear q1 h1 HST
    by_cases h3:k+1=L.length
    ·have hn:=HS2.out
     rw[List.drop_of_length_le (by omega),zCS,if_pos rfl]at hn
     subst hn
     have q3:((k:Int)+1==(L.length:Int))=true:=beq_iff_eq.2 (by omega)
     clear h3
     go_wp2_with fail
     go_ret3
     exact⟨⟨k,rfl⟩,HB1.out⟩
    have hlt2:k+1<L.length:=by omega
    have q3:((k:Int)+1==(L.length:Int))=false:=zQx.2 (by omega)
    obtain⟨mb2,mo2,hoa2,hml2,hcs2⟩:=(HV.out.below HB1.out).at_ (by omega)
    cases hoa2
    obtain⟨y0,y1⟩:=hcs2 (k+1) hlt2
    have hst:=HS2.out
    rw[zGK hlt2]at hst
    have hy256:=HVr.out.u (k+1) hlt2
    generalize zAI L (k+1)=mk at hst y0 y1 hy256
    obtain⟨y,q⟩:=mk
    simp only at y0 y1 hy256
    have HST:=zQr hst
    have hba3:Below wr.heap.size wr ((W1.setCell ⟨a1,0,none⟩ (.int .u8 (y:Nat))).setCell ⟨a1,1,none⟩ (.bool q)):=(HBA.out.setCell (p:=⟨a1,0,none⟩) (Nat.le_of_eq HA1.out) _).setCell (p:=⟨a1,1,none⟩) (Nat.le_of_eq HA1.out) _
    have HP3:=zQr (HPr.out.below hba3)
    have HB3:=zQr (HBr.out.trans (hba3.mono HBr.out.size))
    have e0:((W1.setCell ⟨a1,0,none⟩ (.int .u8 (y:Nat))).setCell ⟨a1,1,none⟩ (.bool q)).cell? ⟨a1,0,none⟩=some (.int .u8 (y:Nat)):=(zAG _ _ _ _ _ (by decide)).trans (zRA _ _ _ d0)
    have e1:((W1.setCell ⟨a1,0,none⟩ (.int .u8 (y:Nat))).setCell ⟨a1,1,none⟩ (.bool q)).cell? ⟨a1,1,none⟩=some (.bool q):=zRA _ _ _ ((zAG _ _ _ _ _ (by decide)).trans d1)
    have HI:=zQr hlt2
    have hd0:=df 0
    have hd1:=df 1
    have hla:a1<W1.heap.size:=zRO W1 _ d0
    clear hcs2 hst hba3 df hlt h3 HS2 HB1 HP1 HPr HBr HBA
    go_upto_region 17 with fail
    obtain⟨W3,hW3⟩: ∃W,(W1.setCell ⟨a1,0,none⟩ (.int .u8 (y:Nat))).setCell ⟨a1,1,none⟩ (.bool q)=W:=⟨_,rfl⟩
    rw[hW3]at e0 e1 HP3 HB3 ⊢
    clear hW3 y0 y1 hd0 hd1 hla d0 d1 hml2
    cases q with
    |true=>
     have HN:=zQr (by have:=HST.out;rw[zCS,if_neg (fun h=>by cases h.1),if_neg (fun h=>by cases h.1)]at this;exact this)
     have HAD:=zQr (zDt (b:=y) HP3.out HB3.out.size (by have:=HKP.out;have:=HL.out;omega) (fun p hp=>by have:=HTX.out p hp;have:=HL.out;omega))
     have HTX2:=zQr (zCh (b:=y) (n:=2) (by decide) HTX.out)
     have HLE2:=zQr (zCN P y)
     go_wp2_with fail
     refine HAD.out.mono ?_;rintro e w2 ⟨⟨v2,ts2,rfl,hps2⟩,hb2⟩
     obtain⟨o2,c2,rfl⟩:=zBe hps2.row
     have HP2:=zQr hps2
     have HB2:=zQr (HB3.out.trans hb2)
     clear hps2 hb2 HAD
     go_wp2_with fail
     go_roundg (L.length - (k+2))
     case measure=>have:=HG.out;have:=HI.out;omega
     case rel=>exact⟨k+2,_,ts2,o2,c2,rfl,by go_num,rfl,by have:=HI.out;omega,HP2.out,HN,by have:=HLE2.out;have:=HKP.out;omega,HTX2,HB2.out⟩
    |false=>
     by_cases h4:49≤y∧y≤57
     ·have y4:(49:Int)≤(y:Int):=by omega
      have y5:(y:Int)≤57:=by omega
      have hst:=HST.out
      rw[zCS,if_pos ⟨rfl,h4⟩]at hst
      simp only at hst
      have HST2:=zQr hst
      clear h4 hst
      have HN:=zQr (HST2.out)
      have hN1:(W3.alloc (.cells #[.int .i64 ((y:Int) - 48),.slice none 0 0] 103)).heap.size=W3.heap.size+1:=by simp
      have HN1:=zQr hN1
      have HWB:=zQr ((zQs W3.heap.size W3).alloc (zQt _) (.cells #[.int .i64 ((y:Int) - 48),.slice none 0 0] 103))
      clear hN1
      go_wp2_with (at_builtin;refine zAe zP7 rfl _ _ rfl w.heap.size (n:=P.length) (m:=1) (news:=[.int .i64 ((y:Int) - 48),.slice none 0 0]) rfl ((HP3.out.below HWB.out).row) rfl (Src.new W3 [.int .i64 ((y:Int) - 48),.slice none 0 0] _ _ _) rfl (by simp[Value.oneCell']) (by unfold maxLen;have:=HKP.out;have:=HL.out;omega) (by have:=HKP.out;have:=HL.out;omega) (by rw[HN1.out];have:=HB3.out.size;omega) ?_)
      intro v6 w6 hown6 hgr6 _
      obtain⟨o6,c6,rfl⟩:=zBe hown6
      have HP6:=zQr (HP3.out.snoc (x:=⟨(y:Int) - 48,[]⟩) HWB.out (t:= .slice none 0 0) ⟨none,0,rfl,zQ7 _ _ _ _⟩ (fun g hg=>by cases hg) hown6 hgr6)
      have HB6:=zQr ((HB3.out.trans (HWB.out.mono HB3.out.size)).grown hgr6 (by rw[HN1.out];have:=HB3.out.size;omega) (fun k hk=>(HP3.out.row.lt k hk).1))
      clear hown6 hgr6
      go_wp2_with fail
      go_roundg (L.length - (k+2))
      case measure=>have:=HG.out;have:=HI.out;omega
      case rel=>exact⟨k+2,P++[⟨(y:Int) - 48,[]⟩],ts++[.slice none 0 0],o6,c6,by rw[zRB];rfl,by go_num,rfl,by have:=HI.out;omega,HP6.out,HN,by rw[zRB];have:=HKP.out;simp only[List.length_cons,List.length_nil];omega,zQr (fun p hp=>by rcases zRM.1 hp with hp|hp;have:=HTX.out p hp;omega;rw[List.mem_singleton]at hp;subst hp;exact Nat.zero_le _),HB6.out⟩
     ·by_cases h5:y=110
      ·subst h5
       have HN:=zQr (by have:=HST.out;rw[zCS,if_neg (fun h=>absurd h.2.2 (by decide)),if_pos ⟨rfl,rfl⟩]at this;exact this)
       have HAD:=zQr (zDt (b:=10) HP3.out HB3.out.size (by have:=HKP.out;have:=HL.out;omega) (fun p hp=>by have:=HTX.out p hp;have:=HL.out;omega))
       have HTX2:=zQr (zCh (b:=10) (n:=2) (by decide) HTX.out)
       have HLE2:=zQr (zCN P 10)
       go_wp2_with fail
       refine HAD.out.mono ?_;rintro e w2 ⟨⟨v2,ts2,rfl,hps2⟩,hb2⟩
       obtain⟨o2,c2,rfl⟩:=zBe hps2.row
       have HP2:=zQr hps2
       have HB2:=zQr (HB3.out.trans hb2)
       clear hps2 hb2 HAD
       go_wp2_with fail
       go_roundg (L.length - (k+2))
       case measure=>have:=HG.out;have:=HI.out;omega
       case rel=>exact⟨k+2,_,ts2,o2,c2,rfl,by go_num,rfl,by have:=HI.out;omega,HP2.out,HN,by have:=HLE2.out;have:=HKP.out;omega,HTX2,HB2.out⟩
      ·have y6:((y:Int)==110)=false:=zQx.2 (by omega)
       have HST2:=zQr (show zCS (L.drop (k+2)) false (zJ3 P y)=R by have:=HST.out;rw[zCS,if_neg (fun h=>h4 h.2),if_neg (fun h=>h5 h.2)]at this;exact this)
       by_cases h6:49≤y
       ·have y4:(49:Int)≤(y:Int):=by omega
        have y5: ¬(y:Int)≤57:=fun h=>h4 ⟨h6,by omega⟩
        clear h4 h5 h6
        have HN:=zQr (HST2.out)
        have HAD:=zQr (zDt (b:=y) HP3.out HB3.out.size (by have:=HKP.out;have:=HL.out;omega) (fun p hp=>by have:=HTX.out p hp;have:=HL.out;omega))
        have HTX2:=zQr (zCh (b:=y) (n:=2) (by decide) HTX.out)
        have HLE2:=zQr (zCN P y)
        go_wp2_with fail
        refine HAD.out.mono ?_;rintro e w2 ⟨⟨v2,ts2,rfl,hps2⟩,hb2⟩
        obtain⟨o2,c2,rfl⟩:=zBe hps2.row
        have HP2:=zQr hps2
        have HB2:=zQr (HB3.out.trans hb2)
        clear hps2 hb2 HAD
        go_wp2_with fail
        go_roundg (L.length - (k+2))
        case measure=>have:=HG.out;have:=HI.out;omega
        case rel=>exact⟨k+2,_,ts2,o2,c2,rfl,by go_num,rfl,by have:=HI.out;omega,HP2.out,HN,by have:=HLE2.out;have:=HKP.out;omega,HTX2,HB2.out⟩
       ·have y4: ¬(49:Int)≤(y:Int):=by omega
        clear h4 h5 h6
        have HN:=zQr (HST2.out)
        have HAD:=zQr (zDt (b:=y) HP3.out HB3.out.size (by have:=HKP.out;have:=HL.out;omega) (fun p hp=>by have:=HTX.out p hp;have:=HL.out;omega))
        have HTX2:=zQr (zCh (b:=y) (n:=2) (by decide) HTX.out)
        have HLE2:=zQr (zCN P y)
        go_wp2_with fail
        refine HAD.out.mono ?_;rintro e w2 ⟨⟨v2,ts2,rfl,hps2⟩,hb2⟩
        obtain⟨o2,c2,rfl⟩:=zBe hps2.row
        have HP2:=zQr hps2
        have HB2:=zQr (HB3.out.trans hb2)
        clear hps2 hb2 HAD
        go_wp2_with fail
        go_roundg (L.length - (k+2))
        case measure=>have:=HG.out;have:=HI.out;omega
        case rel=>exact⟨k+2,_,ts2,o2,c2,rfl,by go_num,rfl,by have:=HI.out;omega,HP2.out,HN,by have:=HLE2.out;have:=HKP.out;omega,HTX2,HB2.out⟩
   have q2:((x:Int)==92)=false:=zQx.2 (by omega)
   have HN:=zQr (by have:=HST.out;rw[zCS,if_neg (fun h=>by cases h),if_neg h1,if_neg h2]at this;exact this)
   clear h1 h2
   have HAD:=zQr (zDt (b:=x) HP1.out HB1.out.size (by have:=HKP.out;have:=HL.out;omega) (fun p hp=>by have:=HTX.out p hp;have:=HL.out;omega))
   have HTX2:=zQr (zCh (b:=x) (n:=1) (by decide) HTX.out)
   have HLE2:=zQr (zCN P x)
   go_wp2_with fail
   refine HAD.out.mono ?_;rintro e w2 ⟨⟨v2,ts2,rfl,hps2⟩,hb2⟩
   obtain⟨o2,c2,rfl⟩:=zBe hps2.row
   have HP2:=zQr hps2
   have HB2:=zQr (HB1.out.trans hb2)
   clear hps2 hb2 HAD
   go_wp2_with fail
   go_roundg (L.length - (k+1))
   case measure=>have:=HG.out;have:=HI.out;omega
   case rel=>exact⟨k+1,_,ts2,o2,c2,rfl,by go_num,rfl,by have:=HI.out;omega,HP2.out,HN,by have:=HLE2.out;have:=HKP.out;omega,HTX2,HB2.out⟩
 ·obtain rfl:k=L.length:=by omega
  have hst:=HRk.out
  rw[List.drop_length,zCS,if_neg (by decide)]at hst
  have hlt': ¬(L.length:Int)<(L.length:Int):=by omega
  subst hst
  have HPC:=zQr hp.pcs
  clear hlt hg hb hp
  go_wp2_with fail
  go_ret3
  exact⟨⟨_,rfl,HPC.out⟩,HBr.out⟩
end
end
end Go.Proofs.YtmaagpbjahjmhaaGreatDoor
