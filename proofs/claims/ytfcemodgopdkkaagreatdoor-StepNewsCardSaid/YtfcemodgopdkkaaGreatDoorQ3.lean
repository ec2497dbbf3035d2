/- Parts: Rb Re Ta Rf Ri Fad Fae. -/
import Derived.Test.YtfcemodgopdkkaaGreatDoorQ2
import Derived.Test.YtfcemodgopdkkaaGreatDoorQ1
import Derived.WalkSmall
import Derived.Deep.DeepCutAuto
set_option maxHeartbeats 1600000
set_option maxRecDepth 100000
namespace Go.Proofs.YtfcemodgopdkkaaGreatDoor
section
open Go.RowKit
@[go_sem] theorem zIq (w g:World) (b o:Nat) (s:Option Nat) (h:b<w.heap.size):(wgr none w.drew.drew g).cell? ⟨b,o,s⟩=w.cell? ⟨b,o,s⟩:=(zBZ w.drew.drew g).cell _ h (by simp)
@[go_sem] theorem zIp (w g:World) (b o:Nat) (s:Option Nat) (h:b<w.heap.size):(wgr none w.drew.drew.drew g).cell? ⟨b,o,s⟩=w.cell? ⟨b,o,s⟩:=(zBZ w.drew.drew.drew g).cell _ h (by simp)
structure zBQ (rb:Nat) (eb:Option Nat) (w w':World):Prop where
 os:w'.os=w.os
 tape:w'.tape=w.tape
 output:w'.output=w.output
 size:w.heap.size≤w'.heap.size
 block: ∀k,k<w.heap.size→k≠rb→some k≠eb→w'.heap[k]?=w.heap[k]?
theorem zBQ.refl (rb:Nat) (eb:Option Nat) (w:World):zBQ rb eb w w:=⟨rfl,rfl,rfl,zMA _,fun _ _ _ _=>rfl⟩
theorem zBQ.of_below {rb:Nat} {eb:Option Nat} {w w':World} (h:Below w.heap.size w w'):zBQ rb eb w w':=⟨h.os,h.tape,h.output,h.size,fun k hk _ _=>h.block k hk⟩
def zBL (w:World) (eb eb':Option Nat):Prop:=eb'=eb∨ ∀g,eb'=some g→w.heap.size≤g
theorem zBL.refl (w:World) (eb:Option Nat):zBL w eb eb:= .inl rfl
theorem zBL.ne {w:World} {eb eb':Option Nat} (h:zBL w eb eb') {k:Nat} (hk:k<w.heap.size) (hne:some k≠eb):some k≠eb':=by
 rcases h with rfl|h
 ·exact hne
 ·intro e;have:=h k e.symm;omega
theorem zBQ.trans {rb:Nat} {eb eb':Option Nat} {a b c:World} (h:zBQ rb eb a b) (hn:zBL a eb eb') (k:zBQ rb eb' b c):zBQ rb eb a c:=
 ⟨k.os.trans h.os,k.tape.trans h.tape,k.output.trans h.output,zMV h.size k.size,fun i hi h1 h2=>(k.block i (zMB hi h.size) h1 (hn.ne hi h2)).trans (h.block i hi h1 h2)⟩
theorem zBL.trans {a b:World} {eb eb' eb'':Option Nat} (h:zBL a eb eb') (hs:a.heap.size≤b.heap.size) (k:zBL b eb' eb''):zBL a eb eb'':=by
 rcases k with rfl|k
 ·exact h
 ·exact .inr fun g hg=>zMV hs (k g hg)
theorem zBQ.drew {rb:Nat} {eb:Option Nat} {a w:World} (h:zBQ rb eb a w):zBQ rb eb a w.drew:=⟨h.os,h.tape,h.output,h.size,h.block⟩
theorem zBQ.below {rb:Nat} {eb:Option Nat} {a b c:World} (h:zBQ rb eb a b) (k:Below b.heap.size b c):zBQ rb eb a c:=h.trans (.inl rfl) (.of_below k)
theorem zBQ.store {rb:Nat} {eb:Option Nat} {a b:World} (h:zBQ rb eb a b) (o:Nat) (v:Value):zBQ rb eb a (b.setCell ⟨rb,o,none⟩ v):=
 h.trans (.inl rfl) ⟨rfl,rfl,rfl,by simp[World.setCell],fun k _ h1 _=>zMI _ _ _ _ h1⟩
theorem zBQ.alloc {rb:Nat} {eb:Option Nat} {a b:World} (h:zBQ rb eb a b) (o:Obj):zBQ rb eb a (b.alloc o):=h.below ((zL9 _ _).alloc (zMA _) _)
theorem zBQ.cell {rb:Nat} {eb:Option Nat} {w w':World} (h:zBQ rb eb w w') {p:Addr} (hp:p.block<w.heap.size) (h1:p.block≠rb) (h2:some p.block≠eb):w'.cell? p=w.cell? p:=
 zMC (w:=w) (h.block p.block hp h1 h2)
theorem zAK {w w':World} {base:Nat} {e:TypeId} {size:Nat} {v:Value} {n:Nat} {xs:List Value} (h:w.ownsRow base e size v n xs) (hb: ∀g,v.ownBlock=some g→w'.heap[g]?=w.heap[g]?):w'.ownsRow base e size v n xs:=by
 refine⟨h.1,?_⟩
 rcases h.2 with hn|⟨g,cap,cur,rfl,hg,hgg,rest⟩
 ·exact .inl hn
 ·exact .inr ⟨g,cap,cur,rfl,hg,(hb g rfl).trans hgg,rest⟩
theorem zFt {rb:Nat} {eb:Option Nat} {w w':World} {base:Nat} {e:TypeId} {size:Nat} {v:Value} {n:Nat} {xs:List Value} (h:w.ownsRow base e size v n xs) (hb:zBQ rb eb w w') (hr:rb<base) (hne: ∀g,v.ownBlock=some g→some g≠eb):w'.ownsRow base e size v n xs:=
 zAK h fun g hg=>hb.block g (h.lt g hg).2 (by have:=(h.lt g hg).1;omega) (hne g hg)
section
variable {w w':World} {rb:Nat} {ere:Bool} {mb mo cap:Nat} {L:List Mk} {s:Rst} {k:Nat} {ev:Value}
theorem zAF (w:World) (b o p:Nat) (v:Value) (h:p≠o):(w.setCell ⟨b,o,none⟩ v).cell? ⟨b,p,none⟩=w.cell? ⟨b,p,none⟩:=
 zMQ _ _ _ _ (by simp only[ne_eq,Addr.mk.injEq,not_and];omega)
theorem zA8 (w:World) (a p:Addr) (v:Value) (h:w.frozen? p=false):(w.setCell a v).frozen? p=false:=by
 rw[World.frozen?_setCell];exact h
end
end
section
open Go.RowKit
def zC7 (w:World) (B:Nat) (x:Nd):Prop:=w.heap[B]?=some (.cells (zAY x) 127 (0,0))
section
variable {w w':World} {B:Nat} {x:Nd}
theorem zC7.lt (h:zC7 w B x):B<w.heap.size:=(zMG.1 h).1
theorem zC7.is (h:zC7 w B x):zJW w B:=⟨_,rfl,h⟩
theorem zC7.block (h:zC7 w B x) (hb:w'.heap[B]?=w.heap[B]?):zC7 w' B x:=hb.trans h
theorem zC7.below (h:zC7 w B x) (hb:Below w.heap.size w w'):zC7 w' B x:=(hb.block B h.lt).trans h
theorem zC7.store (h:zC7 w B x) {b:Nat} (hb:B≠b) (o:Nat) (v:Value):zC7 (w.setCell ⟨b,o,none⟩ v) B x:=(zMI _ _ _ _ hb).trans h
theorem zC7.cells (h:zC7 w B x):w.cell? ⟨B,0,none⟩=some (.int .i8 x.op)∧w.cell? ⟨B,1,none⟩=some (.int .u64 x.set.w0.toNat)∧w.cell? ⟨B,2,none⟩=some (.int .u64 x.set.w1.toNat)∧w.cell? ⟨B,3,none⟩=some (.int .u64 x.set.w2.toNat)∧w.cell? ⟨B,4,none⟩=some (.int .u64 x.set.w3.toNat)∧w.cell? ⟨B,5,none⟩=some (.int .i64 x.n)∧w.cell? ⟨B,6,none⟩=some (.int .i64 x.min)∧w.cell? ⟨B,7,none⟩=some (.int .i64 x.max)∧w.cell? ⟨B,8,none⟩=some (.int .i64 x.kids)∧(∀o,w.frozen? ⟨B,o,none⟩=false):=by
 have hc: ∀j,w.cell? ⟨B,j,none⟩=(zAY x)[j]?:=fun j=>zMN w B j _ _ (0,0) h
 exact⟨hc 0,hc 1,hc 2,hc 3,hc 4,hc 5,hc 6,hc 7,hc 8,zAm h⟩
end
section
variable {w w':World} {rb:Nat} {ere:Bool} {mb mo cap:Nat} {L:List Mk} {s:Rst} {k:Nat} {ev:Value}
end
section
variable {w:World} {rb:Nat} {ere:Bool} {mb mo cap:Nat} {L:List Mk} {s:Rst} {k:Nat} {ev:Value}
end
end
section
open Go.RowKit
structure zCm (w:World) (nb no:Nat) (re:List Nd):Prop where
 lt:nb<w.heap.size
 len:re.length≤4294967296
 c: ∀i,i<re.length→ ∀j,w.cell? ⟨nb,no+i*9+j,none⟩=(zAY (re.getD i Nd.zero))[j]?∨9≤j
 k: ∀x∈re,x.kids≤9223372036854775807
theorem zCm.below {w w':World} {nb no:Nat} {re:List Nd} (h:zCm w nb no re) (hb:Below w.heap.size w w'):zCm w' nb no re:=
 ⟨zMB h.lt hb.size,h.len,fun i hi j=>(h.c i hi j).imp (fun e=>(hb.cell (p:=⟨nb,no+i*9+j,none⟩) h.lt).trans e) id,h.k⟩
theorem zCm.cells {w:World} {nb no:Nat} {re:List Nd} (h:zCm w nb no re) {i:Nat} {x:Nd} (hx:re[i]?=some x):
  w.cell? ⟨nb,no+i*9,none⟩=some (.int .i8 x.op)∧w.cell? ⟨nb,no+i*9+1,none⟩=some (.int .u64 x.set.w0.toNat)∧w.cell? ⟨nb,no+i*9+2,none⟩=some (.int .u64 x.set.w1.toNat)∧w.cell? ⟨nb,no+i*9+3,none⟩=some (.int .u64 x.set.w2.toNat)∧w.cell? ⟨nb,no+i*9+4,none⟩=some (.int .u64 x.set.w3.toNat)∧
  w.cell? ⟨nb,no+i*9+5,none⟩=some (.int .i64 x.n)∧w.cell? ⟨nb,no+i*9+6,none⟩=some (.int .i64 x.min)∧w.cell? ⟨nb,no+i*9+7,none⟩=some (.int .i64 x.max)∧w.cell? ⟨nb,no+i*9+8,none⟩=some (.int .i64 x.kids):=by
 have hi:i<re.length:=(zMF.1 hx).1
 have hg:re.getD i Nd.zero=x:=by simp[List.getD_eq_getElem?_getD,hx]
 have hc: ∀j,j<9→w.cell? ⟨nb,no+i*9+j,none⟩=(zAY x)[j]?:=fun j hj=>by
  rw[←hg];exact(h.c i hi j).resolve_right (by omega)
 exact⟨hc 0 (by decide),hc 1 (by decide),hc 2 (by decide),hc 3 (by decide),hc 4 (by decide),hc 5 (by decide),hc 6 (by decide),hc 7 (by decide),hc 8 (by decide)⟩
def zDj (re:List Nd):Prop:= ∀x∈re,x.op=6→0≤x.min∧x.min≤255∧ -1≤x.max∧x.max≤255
theorem zBg {re:List Nd} {g:Nat→Option (Int × Nat)} (hg: ∀i r,g i=some r→1≤r.1∧r.1≤16385∧i<r.2∧r.2≤re.length): ∀(k:Nat) (sum:Int) (i:Nat) (r:Int × Nat),0≤sum→sum≤16385→i≤re.length→zA3 g k sum i=some r→0≤r.1∧r.1≤16385∧i≤r.2∧r.2≤re.length
 |0,sum,i,r,h1,h2,h3,h=>by simp only[zA3,Option.some.injEq]at h;subst h;exact⟨h1,h2,zMA _,h3⟩
 |k+1,sum,i,r,h1,h2,h3,h=>by
  unfold zA3 at h
  split at h
  ·cases h
  ·rename_i w nx hx
   have h4:=hg _ _ hx
   simp only at h4
   have h5:=zBg hg k _ _ _ (by omega) (by omega) h4.2.2.2 h
   omega
theorem zAe {re:List Nd} (hr:zDj re): ∀(f i:Nat) (r:Int × Nat),zAU re f i=some r→1≤r.1∧r.1≤16385∧i<r.2∧r.2≤re.length
 |0,_,_,h=>by simp[zAU]at h
 |f+1,i,r,h=>by
  unfold zAU at h
  split at h
  ·cases h
  ·rename_i n hn
   have hi:i<re.length:=(zMF.1 hn).1
   split at h
   ·cases h
   ·rename_i sm nx hk
    have h1:=zBg (re:=re) (fun i r=>zAe hr f i r) _ _ _ _ (by omega) (by omega) (by omega) hk
    simp only at h1
    cases h
    have ht:0≤zAf n:=by
     unfold zAf
     split
     ·rename_i h6
      have:=hr n (zMc hn) h6
      split<;>omega
     ·omega
    have hm:=Int.mul_nonneg ht h1.1
    simp only
    omega
theorem zEV {re:List Nd} {nb no cap:Nat} (hr:zDj re): ∀(f i:Nat) (r:Int × Nat) (w:World) (iv:Int),iv=i→zCm w nb no re→zAU re f i=some r→
  Calls Tryz.prog 113 #[.slice (some ⟨nb,no,none⟩) re.length cap,.int .i64 iv] w fun e w'=>e= .returned (.tuple #[.int .i64 r.1,.int .i64 (r.2:Nat)])∧Below w.heap.size w w'
 |0,_,_,_,_,_,_,h=>by simp[zAU]at h
 |f+1,i,r,w,iv,hiv,hn,h=>by
  subst hiv
  have ih:=fun(i:Nat) (r:Int × Nat) (w:World) (iv:Int) (hiv:iv=i) (h:zCm w nb no re) (hw:zAU re f i=some r)=>zEV (cap:=cap) hr f i r w iv hiv h hw
  have hbn:=zL8 (fun i r=>zAe hr f i r)
  have hb:=zAe hr _ _ _ h
  unfold zAU at h
  cases hx:re[i]? with
  |none=>rw[hx]at h;cases h
  |some n=>
   rw[hx]at h
   simp only at h
   have hi:i<re.length:=(zMF.1 hx).1
   have hi':(i:Int)<(re.length:Int):=by omega
   have hlen:=hn.len
   obtain⟨c0,c1,c2,c3,c4,c5,c6,c7,c8⟩:=hn.cells hx
   have nbl:=hn.lt
   have hmem:=zMc hx
   have hkm:=hn.k n hmem
   have hrn:=zL8 (hr n hmem)
   obtain⟨op,⟨x0,x1,x2,x3⟩,xn,xmin,xmax,xk⟩:=n
   simp only at c0 c1 c2 c3 c4 c5 c6 c7 c8 hkm hrn h
   have HN:=zL8 hn
   have HIH:=zL8 ih
   have H:=zL8 h
   clear ih hn hx h
   cases hk:zA3 (zAU re f) xk.toNat 0 (i+1)with
   |none=>have:=H.out;rw[hk]at this;cases this
   |some q=>
   obtain⟨sm,nx⟩:=q
   have HQ:=H.out
   rw[hk]at HQ
   simp only[Option.some.injEq]at HQ
   have HK:=zL8 hk
   clear hk H hb
   subst HQ
   simp only
   have hx0:=xk.toNat
   go_enter Tryz.func113,Tryz.ntmps113
   go_wp2_with fail
   go_loopg [7,8,19] xk.toNat (fun g s t j wr=> ∃(sum:Int) (p d:Nat),s= .int .i64 sum∧t= .int .i64 (p:Nat)∧j= .int .i64 (d:Nat)∧g=xk.toNat - d∧d≤xk.toNat∧0≤sum∧sum≤16385∧p≤re.length∧Below w.heap.size w wr∧zC7 wr w.heap.size ⟨op,⟨x0,x1,x2,x3⟩,xn,xmin,xmax,xk⟩∧
    Hid (zA3 (zAU re f) (xk.toNat - d) sum p=some (sm,nx)))
   case atStart=>exact⟨0,i+1,0,rfl,by go_num,rfl,by omega,by omega,by omega,by omega,by omega,(zL9 _ _).alloc (zMA _) _,zML _ _,HK.out⟩
   case round=>
    obtain⟨sum,p,d,rfl,rfl,rfl,hg,hd,hs1,hs2,hp,hbe,hnd,HS⟩:=hrel
    have HG:=zL8 hg
    clear hg
    by_cases hlt:d<xk.toNat
    ·have hlt':(d:Int)<xk:=by omega
     have HS1:=HS.out
     rw[show xk.toNat - d=(xk.toNat - (d+1))+1 by omega,zA3]at HS1
     cases hw:zAU re f p with
     |none=>rw[hw]at HS1;cases HS1
     |some q=>
      obtain⟨w2,n2⟩:=q
      rw[hw]at HS1
      simp only at HS1
      have hb2:=hbn.out _ _ hw
      simp only at hb2
      have HSZ:=zL8 HS1
      have hih:=HIH.out p (w2,n2) wr p rfl (HN.out.below hbe) hw
      have HB:=zL8 hbe
      have HD:=zL8 hnd
      clear HS1 hw hbe hnd HS
      go_wp2_with fail
      refine hih.mono ?_;rintro e w3 ⟨rfl,hb3⟩
      have HB3:=zL8 (HB.out.trans (hb3.mono HB.out.size))
      have HD3:=zL8 (HD.out.below hb3)
      clear hih hb3
      by_cases hm:16385<sum+w2
      ·have he:min (sum+w2) 16385=16385:=by omega
       rw[he]at HSZ
       clear he
       go_wp2_with fail
       go_roundg (xk.toNat - (d+1))
       case measure=>have:=HG.out;omega
       case rel=>exact⟨16385,n2,d+1,rfl,rfl,by go_num,rfl,by omega,by omega,by omega,hb2.2.2.2,HB3.out,HD3.out,HSZ.out⟩
      ·have he:min (sum+w2) 16385=sum+w2:=by omega
       rw[he]at HSZ
       clear he
       go_wp2_with fail
       go_roundg (xk.toNat - (d+1))
       case measure=>have:=HG.out;omega
       case rel=>exact⟨sum+w2,n2,d+1,rfl,rfl,by go_num,rfl,by omega,by omega,by omega,hb2.2.2.2,HB3.out,HD3.out,HSZ.out⟩
    ·have hlt': ¬(d:Int)<xk:=by omega
     have HS1:=HS.out
     rw[show xk.toNat - d=0 by omega,zA3]at HS1
     simp only[Option.some.injEq,Prod.mk.injEq]at HS1
     obtain⟨e1,e2⟩:=HS1
     subst e1 e2
     obtain⟨d0,d1,d2,d3,d4,d5,d6,d7,d8,g0⟩:=hnd.cells
     simp only at d0 d1 d2 d3 d4 d5 d6 d7 d8
     have hBl:=hnd.lt
     have HB:=zL8 hbe
     clear hnd hbe HS
     by_cases h6:op=6
     ·have hr6:=hrn.out h6
      subst h6
      by_cases hmx:xmax<0
      ·have ht:zAf ⟨6,⟨x0,x1,x2,x3⟩,xn,xmin,xmax,xk⟩=xmin+1:=by simp[zAf,hmx]
       have hmul:0≤sum*(xmin+1)∧sum*(xmin+1)≤16385*256:=⟨Int.mul_nonneg hs1 (by omega),Int.mul_le_mul hs2 (by omega) (by omega) (by omega)⟩
       have HT:=zL8 (show zAf ⟨6,⟨x0,x1,x2,x3⟩,xn,xmin,xmax,xk⟩*sum=sum*(xmin+1)from by rw[ht];exact Int.mul_comm _ _)
       clear ht
       by_cases hm:16385<sum*(xmin+1)+1
       ·go_wp2_with fail
        go_ret2
        exact⟨by rw[HT.out,show min (sum*(xmin+1)+1) 16385=16385 by omega];rfl,HB.out⟩
       ·go_wp2_with fail
        go_ret2
        exact⟨by rw[HT.out,show min (sum*(xmin+1)+1) 16385=sum*(xmin+1)+1 by omega];rfl,HB.out⟩
      ·by_cases h1:xmax<1
       ·have ht:zAf ⟨6,⟨x0,x1,x2,x3⟩,xn,xmin,xmax,xk⟩=1:=by simp only[zAf,if_true,if_neg hmx];omega
        have HT:=zL8 (show zAf ⟨6,⟨x0,x1,x2,x3⟩,xn,xmin,xmax,xk⟩*sum=sum from by rw[ht];exact Int.one_mul _)
        clear ht
        by_cases hm:16385<sum+1
        ·go_wp2_with fail
         go_ret2
         exact⟨by rw[HT.out,show min (sum+1) 16385=16385 by omega];rfl,HB.out⟩
        ·go_wp2_with fail
         go_ret2
         exact⟨by rw[HT.out,show min (sum+1) 16385=sum+1 by omega];rfl,HB.out⟩
       ·have ht:zAf ⟨6,⟨x0,x1,x2,x3⟩,xn,xmin,xmax,xk⟩=xmax:=by simp only[zAf,if_true,if_neg hmx];omega
        have hmul:0≤sum*xmax∧sum*xmax≤16385*255:=⟨Int.mul_nonneg hs1 (by omega),Int.mul_le_mul hs2 (by omega) (by omega) (by omega)⟩
        have HT:=zL8 (show zAf ⟨6,⟨x0,x1,x2,x3⟩,xn,xmin,xmax,xk⟩*sum=sum*xmax from by rw[ht];exact Int.mul_comm _ _)
        clear ht
        by_cases hm:16385<sum*xmax+1
        ·go_wp2_with fail
         go_ret2
         exact⟨by rw[HT.out,show min (sum*xmax+1) 16385=16385 by omega];rfl,HB.out⟩
        ·go_wp2_with fail
         go_ret2
         exact⟨by rw[HT.out,show min (sum*xmax+1) 16385=sum*xmax+1 by omega];rfl,HB.out⟩
     ·have ht:zAf ⟨op,⟨x0,x1,x2,x3⟩,xn,xmin,xmax,xk⟩=1:=by simp[zAf,h6]
      have HT:=zL8 (show zAf ⟨op,⟨x0,x1,x2,x3⟩,xn,xmin,xmax,xk⟩*sum=sum from by rw[ht];exact Int.one_mul _)
      clear ht
      by_cases hm:16385<sum+1
      ·go_wp2_with fail
       go_ret2
       exact⟨by rw[HT.out,show min (sum+1) 16385=16385 by omega];rfl,HB.out⟩
      ·go_wp2_with fail
       go_ret2
       exact⟨by rw[HT.out,show min (sum+1) 16385=sum+1 by omega];rfl,HB.out⟩
end
section
open Go.RowKit
theorem zAH {w:World} {base base':Nat} {e:TypeId} {size:Nat} {v:Value} {n:Nat} {xs:List Value} (h:w.ownsRow base e size v n xs) (hb:base'≤base):w.ownsRow base' e size v n xs:=by
 refine⟨h.1,?_⟩
 rcases h.2 with h2|⟨g,cap,cur,hv,hg,r⟩
 ·exact .inl h2
 ·exact .inr ⟨g,cap,cur,hv,zMV hb hg,r⟩
section
variable {w:World} {rb:Nat} {ere:Bool} {mb mo cap:Nat} {L:List Mk} {s:Rst} {k:Nat} {ev:Value}
end
end
section
open Go.RowKit
def zBb (re:List Nd):List Value:=re.flatMap fun x=>(zAY x).toList
theorem zAi: ∀re:List Nd,(zBb re).length=re.length*9
 |[]=>rfl
 |x::l=>by
  have h:=zAi l
  simp only[zBb,List.flatMap_cons,List.length_append,List.length_cons]at h ⊢
  rw[h]
  simp only[zAY,List.length_cons,List.length_nil]
  omega
theorem zE1 (x:Nd) (b:List Nd):zBb (x::b)=(zAY x).toList++zBb b:=rfl
theorem zEJ (re:List Nd): ∀u∈zBb re,u.oneCell'=true:=by
 intro u hu
 simp only[zBb,List.mem_flatMap]at hu
 obtain⟨x,_,hu⟩:=hu
 simp only[zAY,List.mem_cons,List.not_mem_nil,or_false]at hu
 rcases hu with rfl|rfl|rfl|rfl|rfl|rfl|rfl|rfl|rfl<;>rfl
theorem zLi:ElT Tryz.prog 64 127 9 72 (.agg #[.int .i8 0,.int .u64 0,.int .u64 0,.int .u64 0,.int .u64 0,.int .i64 0,.int .i64 0,.int .i64 0,.int .i64 0]):=⟨Tryz.underlying64,by kernel_rfl,rfl,by decide⟩
theorem zLj:ElT Tryz.prog 140 4 1 1 (.bool false):=⟨Tryz.underlying140,by kernel_rfl,rfl,by decide⟩
def Nds (w:World) (base:Nat) (v:Value) (re:List Nd):Prop:=w.ownsRow base 127 9 v re.length (zBb re)
theorem Nds.nil (w:World) (base:Nat):Nds w base (.slice none 0 0) []:=zMO _ _ _ _
theorem Nds.src {w:World} {base:Nat} {v:Value} {re:List Nd} (h:Nds w base v re):Src w v re.length (zBb re):=Src.own h
theorem Nds.lt {w:World} {base:Nat} {v:Value} {re:List Nd} (h:Nds w base v re): ∀g,v.ownBlock=some g→base≤g∧g<w.heap.size:=World.ownsRow.lt h
theorem Nds.block {w w':World} {base:Nat} {v:Value} {re:List Nd} (h:Nds w base v re) (hb: ∀g,v.ownBlock=some g→w'.heap[g]?=w.heap[g]?):Nds w' base v re:=zAK h hb
theorem Nds.below {w w':World} {base:Nat} {v:Value} {re:List Nd} (h:Nds w base v re) (hb:Below w.heap.size w w'):Nds w' base v re:=h.block fun g hg=>hb.block g (h.lt g hg).2
theorem Nds.drew {w:World} {base:Nat} {v:Value} {re:List Nd} (h:Nds w base v re):Nds w.drew base v re:=World.ownsRow.drew h
theorem Nds.but {w w':World} {rb base:Nat} {eb:Option Nat} {v:Value} {re:List Nd} (h:Nds w base v re) (hb:zBQ rb eb w w') (hr:rb<base) (hne: ∀g,v.ownBlock=some g→some g≠eb):Nds w' base v re:=zFt h hb hr hne
theorem Nds.mono {w:World} {base base':Nat} {v:Value} {re:List Nd} (h:Nds w base v re) (hb:base'≤base):Nds w base' v re:=zAH h hb
theorem Nds.head {w:World} {base:Nat} {v:Value} {re:List Nd} (h:Nds w base v re) (hn:0<re.length): ∃g cp,v= .slice (some ⟨g,0,none⟩) re.length cp∧g<w.heap.size∧w.cell? ⟨g,0,none⟩=some (.int .i8 (re.getD 0 Nd.zero).op):=by
 rcases h.2 with ⟨_,h0⟩|⟨g,cp,cur,rfl,hg1,hg2,_⟩
 ·omega
 ·refine⟨g,cp,rfl,(zMG.1 hg2).1,?_⟩
  have hc:=zMX h 0 (by omega)
  rw[hc]
  obtain⟨x,l,rfl⟩: ∃x l,re=x::l:=by
   cases re with
   |nil=>simp at hn
   |cons x l=>exact⟨x,l,rfl⟩
  rfl
section
variable {w w':World} {rb:Nat} {ere:Bool} {mb mo cap:Nat} {L:List Mk} {s:Rst} {k:Nat} {ev:Value}
theorem zBL.grown {w:World} {eb eb':Option Nat} (h:eb'=eb∨eb'=some w.heap.size):zBL w eb eb':=by
 rcases h with h|h
 ·exact .inl h
 ·exact .inr fun g hg=>by rw[h]at hg;cases hg;exact zMA _
theorem zBQ.grown {eb:Option Nat} {w0:World} (h:zBQ rb eb w0 w) {eb':Option Nat} (hn:zBL w0 eb eb') (hg:w.grownBy w' eb'):zBQ rb eb w0 w':=
 h.trans hn ⟨hg.os,hg.tape,hg.output,hg.size,fun i hi _ h2=>hg.block i hi h2⟩
theorem zBQ.beside {eb:Option Nat} {w0:World} (h:zBQ rb eb w0 w) {row:Option Nat} (hg:w.grownBy w' row) (hr: ∀g,row=some g→w0.heap.size≤g):zBQ rb eb w0 w':=
 ⟨hg.os.trans h.os,hg.tape.trans h.tape,hg.output.trans h.output,zMV h.size hg.size,fun i hi h1 h2=>(hg.block i (zMB hi h.size) (fun e=>by have:=hr i e.symm;omega)).trans (h.block i hi h1 h2)⟩
theorem zBQ.note {eb eb':Option Nat} {w0:World} (h:zBQ rb eb w0 w) (hn:zBL w0 eb eb') {g:Nat} (hg:eb'=some g) (j:Nat) (v:Value):zBQ rb eb w0 (w.setCell ⟨g,j,Option.none⟩ v):=
 h.trans hn ⟨rfl,rfl,rfl,by simp[World.setCell],fun i _ _ h2=>zMI _ _ _ _ (fun e=>h2 (by rw[hg,e]))⟩
end
end
section
open Go.RowKit
structure AdB (w:World) (b:Nat) (k n v:Value):Prop where
 lt:b<w.heap.size
 c0:w.cell? ⟨b,0,none⟩=some k
 c1:w.cell? ⟨b,1,none⟩=some n
 c2:w.cell? ⟨b,2,none⟩=some v
 fz: ∀o,w.frozen? ⟨b,o,none⟩=false
section
variable {w w':World} {b:Nat} {k n v:Value}
theorem AdB.block (h:AdB w b k n v) (hb:w'.heap[b]?=w.heap[b]?) (hs:w.heap.size≤w'.heap.size):AdB w' b k n v:=
 ⟨zMB h.lt hs,(zMC (w:=w) (a:=⟨b,0,none⟩) hb).trans h.c0,(zMC (w:=w) (a:=⟨b,1,none⟩) hb).trans h.c1,(zMC (w:=w) (a:=⟨b,2,none⟩) hb).trans h.c2,fun o=>(zMD (w:=w) (a:=⟨b,o,none⟩) hb).trans (h.fz o)⟩
theorem AdB.below (h:AdB w b k n v) (hb:Below w.heap.size w w'):AdB w' b k n v:=h.block (hb.block b h.lt) hb.size
theorem AdB.new (w:World) (k n v:Value):AdB (w.alloc (.cells #[k,n,v] 66)) w.heap.size k n v:=
 have hB:(w.alloc (.cells #[k,n,v] 66)).heap[w.heap.size]?=some (.cells #[k,n,v] 66 (0,0)):=zML w _
 ⟨by simp,(zMN _ _ 0 _ _ (0,0) hB).trans rfl,(zMN _ _ 1 _ _ (0,0) hB).trans rfl,(zMN _ _ 2 _ _ (0,0) hB).trans rfl,fun o=>zAm hB o⟩
theorem AdB.set (h:AdB w b k n v) (k' n' v':Value):AdB (((w.setCell ⟨b,0,none⟩ k').setCell ⟨b,1,none⟩ n').setCell ⟨b,2,none⟩ v') b k' n' v' where
 lt:=by simpa [World.setCell]using h.lt
 c0:=(zAF _ _ _ _ _ (by decide)).trans ((zAF _ _ _ _ _ (by decide)).trans (zMR _ _ _ h.c0))
 c1:=(zAF _ _ _ _ _ (by decide)).trans (zMR _ _ _ ((zAF _ _ _ _ _ (by decide)).trans h.c1))
 c2:=zMR _ _ _ ((zAF _ _ _ _ _ (by decide)).trans ((zAF _ _ _ _ _ (by decide)).trans h.c2))
 fz:=fun o=>zA8 _ _ _ _ (zA8 _ _ _ _ (zA8 _ _ _ _ (h.fz o)))
theorem AdB.set2 (h:AdB w b k n v) (v':Value):AdB (w.setCell ⟨b,2,none⟩ v') b k n v' where
 lt:=by simpa [World.setCell]using h.lt
 c0:=(zAF _ _ _ _ _ (by decide)).trans h.c0
 c1:=(zAF _ _ _ _ _ (by decide)).trans h.c1
 c2:=zMR _ _ _ h.c2
 fz:=fun o=>zA8 _ _ _ _ (h.fz o)
theorem AdB.other (h:AdB w b k n v) {c:Nat} (hc:b≠c) (o:Nat) (x:Value):AdB (w.setCell ⟨c,o,none⟩ x) b k n v:=h.block (zMI _ _ _ _ hc) (by simp[World.setCell])
end
end
section
open Go.RowKit
section
variable {oa:Option Addr}
theorem zEt {fn:Func} {p:Tmp} (hf:fn.results= #[.cell p 66]) {Q:Ending→World→Prop} {a:Act} {w:World} {b:Nat} {len cp:Nat} {kk nn:Int} (hp:a.tmps.getD p undef= .pointer (some ⟨b,0,none⟩)) (hd:a.defers=[])
  (h:AdB w b (.int .i8 kk) (.int .i64 nn) (.slice oa len cp)) (hQ:Q (.returned (.agg #[.int .i8 kk,.int .i64 nn,.slice oa len cp])) w):bodyPost Tryz.prog fn Q .ret a w:=by
 refine zMi (v:= .agg #[.int .i8 kk,.int .i64 nn,.slice oa len cp]) ?_ hd hQ
 have c0:=h.c0
 have c1:=h.c1
 have c2:=h.c2
 rw[zBC hf,hp]
 simp[asAddr,go_sem,c0,c1,c2,Result.andThen]
end
end
end Go.Proofs.YtfcemodgopdkkaaGreatDoor
