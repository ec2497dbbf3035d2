/- Parts: Xme Xmf Xmg Syg. -/
import Derived.Test.YtfcemodgopdkkaaGreatDoorQ37
import Derived.Test.YtfcemodgopdkkaaGreatDoorQ7
import Derived.Test.YtfcemodgopdkkaaGreatDoorQ8
import Derived.Test.YtfcemodgopdkkaaGreatDoorQ35
import Derived.Test.YtfcemodgopdkkaaGreatDoorQ46
import Derived.Deep.LoopGhost
set_option maxHeartbeats 12800000
set_option maxRecDepth 100000
namespace Go.Proofs.YtfcemodgopdkkaaGreatDoor
section
open Go.RowKit
def zL4 (w0:World) (c mb base nb no cap:Nat) (re:List Nd) (rb pb fb eb b:Nat) (f:Nat):Prop:= ∀(i tn k:Nat) (wt:Int) (W:World),zAU re f i=some (wt,tn)→wt≤16384→(k:Int)+3*wt - 2≤60000→InX w0 W c mb base k→NoE W nb no cap re rb pb mb fb eb b→
 Calls Tryz.prog 116 #[.int .i64 (i:Nat),.pointer (some ⟨rb,0,none⟩),.pointer (some ⟨pb,0,none⟩),.pointer (some ⟨mb,0,none⟩),.pointer (some ⟨fb,0,none⟩),.pointer (some ⟨eb,0,none⟩)] W fun e W'=>e= .returned (.tuple #[])∧(∃k':Nat,k≤k'∧(k':Int)≤k+3*wt - 2∧InX w0 W' c mb base k')∧Stm mb W W'
section
variable {w0 w w':World} {c mb base k nb no cap rb pb fb eb b:Nat} {re:List Nd}
theorem zEz (hsh:ShK re) (hnb:nb<c): ∀(f:Nat),f≤260→zL4 w0 c mb base nb no cap re rb pb fb eb b f
 |0,_=>fun i tn k wt W h=>by simp[zAU]at h
 |f+1,hf=>fun i tn k wt W hw hwt hk hx he=>by
  have HNODE:=zL8 (zEz hsh hnb f (by omega))
  obtain⟨x,sm,hxi,hks,hs0,hs1,htm,hit,htl⟩:=zIJ hsh.rep hw hwt
  have hil:i<re.length:=(zMF.1 hxi).1
  obtain⟨x',hx',hgood,_⟩:=hsh.ok i hil
  rw[hxi]at hx'
  cases hx'
  have hgs:=zId hgood
  have HKP:Hid (∀(X:World),Stm mb W X→(∃k,InX w0 X c mb base k)→NoE X nb no cap re rb pb mb fb eb b):=zL8 fun X hs hX=>by
   obtain⟨k',hX⟩:=hX
   exact he.keep hs (he.n.of_block ((hX.b.block nb hnb).trans (hx.b.block nb hnb).symm) hs.le)
  have HRE:=zL8 hsh
  obtain⟨op,⟨x0,x1,x2,x3⟩,xn,xmin,xmax,xk⟩:=x
  have ha1:Below W.heap.size W (W.alloc (.cells #[.int .i64 (i:Nat)] 3)):=(zL9 _ _).alloc (zMA _) _
  have ha2:Below W.heap.size W ((W.alloc (.cells #[.int .i64 (i:Nat)] 3)).alloc (.cells #[.int .i8 op,.int .u64 (x0.toNat:Nat),.int .u64 (x1.toNat:Nat),.int .u64 (x2.toNat:Nat),.int .u64 (x3.toNat:Nat),.int .i64 xn,.int .i64 xmin,.int .i64 xmax,.int .i64 xk] 127)):=ha1.alloc ha1.size _
  have n0:=((he.n.below ha1).cells hxi)
  obtain⟨n0,n1,n2,n3,n4,n5,n6,n7,n8⟩:=n0
  simp only at n0 n1 n2 n3 n4 n5 n6 n7 n8
  have nbl:=(he.n.below ha1).lt
  obtain⟨r0,rl⟩:=zA4 he.r
  have hil':(i:Int)<(re.length:Int):=by omega
  have HX:=zL8 (hx.below ha2)
  have HS:=zL8 (Stm.below (mb:=mb) ha2)
  have HN:=zL8 (HKP.out _ HS.out ⟨k,HX.out⟩)
  have hab:=(zMM _ (.cells #[.int .i8 op,.int .u64 (x0.toNat:Nat),.int .u64 (x1.toNat:Nat),.int .u64 (x2.toNat:Nat),.int .u64 (x3.toNat:Nat),.int .i64 xn,.int .i64 xmin,.int .i64 xmax,.int .i64 xk] 127) (zAl W (.cells #[.int .i64 (i:Nat)] 3))).trans (zML W (.cells #[.int .i64 (i:Nat)] 3))
  have hnbx:=zML (W.alloc (.cells #[.int .i64 (i:Nat)] 3)) (.cells #[.int .i8 op,.int .u64 (x0.toNat:Nat),.int .u64 (x1.toNat:Nat),.int .u64 (x2.toNat:Nat),.int .u64 (x3.toNat:Nat),.int .i64 xn,.int .i64 xmin,.int .i64 xmax,.int .i64 xk] 127)
  have hml:mb<W.heap.size:=by obtain⟨v,h⟩:=hx;exact h.lt
  rw[show(W.alloc (.cells #[.int .i64 (i:Nat)] 3)).heap.size=W.heap.size+1 by simp]at hnbx
  have HWK:=zL8 (And.intro hks (And.intro hs0 (And.intro hs1 (And.intro htm (And.intro hit (And.intro htl (And.intro hwt (And.intro hk (And.intro hw hgs)))))))))
  simp only at hgs
  clear hw hwt hk hx he hxi hks hs0 hs1 htm hgood ha1 ha2
  go_enter Tryz.func116,Tryz.ntmps116
  go_upto_region 2 with fail
  obtain⟨V,hV⟩: ∃V,(W.alloc (.cells #[.int .i64 (i:Nat)] 3)).alloc (.cells #[.int .i8 op,.int .u64 (x0.toNat:Nat),.int .u64 (x1.toNat:Nat),.int .u64 (x2.toNat:Nat),.int .u64 (x3.toNat:Nat),.int .i64 xn,.int .i64 xmin,.int .i64 xmax,.int .i64 xk] 127)=V:=⟨_,rfl⟩
  rw[hV]at HX HS HN hab hnbx ⊢
  obtain⟨ab,habz⟩: ∃ab,W.heap.size=ab:=⟨_,rfl⟩
  rw[habz]at hab hnbx hml ⊢
  have HAB:=zL8 hab
  have HML:=zL8 hml
  have q0:V.cell? ⟨ab+1,0,none⟩=some (.int .i8 op):=zMN _ _ 0 _ _ (0,0) hnbx
  have q1:V.cell? ⟨ab+1,1,none⟩=some (.int .u64 (x0.toNat:Nat)):=zMN _ _ 1 _ _ (0,0) hnbx
  have q2:V.cell? ⟨ab+1,2,none⟩=some (.int .u64 (x1.toNat:Nat)):=zMN _ _ 2 _ _ (0,0) hnbx
  have q3:V.cell? ⟨ab+1,3,none⟩=some (.int .u64 (x2.toNat:Nat)):=zMN _ _ 3 _ _ (0,0) hnbx
  have q4:V.cell? ⟨ab+1,4,none⟩=some (.int .u64 (x3.toNat:Nat)):=zMN _ _ 4 _ _ (0,0) hnbx
  have q5:V.cell? ⟨ab+1,5,none⟩=some (.int .i64 xn):=zMN _ _ 5 _ _ (0,0) hnbx
  have q6:V.cell? ⟨ab+1,6,none⟩=some (.int .i64 xmin):=zMN _ _ 6 _ _ (0,0) hnbx
  have q7:V.cell? ⟨ab+1,7,none⟩=some (.int .i64 xmax):=zMN _ _ 7 _ _ (0,0) hnbx
  have q8:V.cell? ⟨ab+1,8,none⟩=some (.int .i64 xk):=zMN _ _ 8 _ _ (0,0) hnbx
  have ql:ab+1<V.heap.size:=zMf _ _ q0
  obtain⟨p0,pl⟩:=zA4 HN.out.p
  obtain⟨hks,hs0,hs1,htm,_,_,hwt,hk,hw,_⟩:=HWK.out
  have hw1:=(zAe HRE.out.rep _ _ _ hw).1
  simp only at hw1 htm hks
  have HPUT:Hid (∀(op x0 x1 x2 x3 X Y:Int),_):=zL8 fun op x0 x1 x2 x3 X Y=>zDD (op:=op) (x0:=x0) (x1:=x1) (x2:=x2) (x3:=x3) (X:=X) (Y:=Y) HX.out (by omega)
  obtain⟨g1,g2,g6,g5⟩:=hgs
  have hi32:(i:Int)≤4294967296:=by have:=HN.out.n.len;omega
  clear hV n0 n1 n2 n3 n4 n5 n6 n7 n8 nbl r0 rl hab hnbx habz hml
  have hop:op=1∨op=2∨op=3∨op=6∨op=5∨op≠1∧op≠2∧op≠3∧op≠6∧op≠5:=by omega
  clear g1 g2 hks hs0 hs1 hw
  rcases hop with rfl|rfl|rfl|rfl|rfl|⟨e1,e2,e3,e6,e5⟩
  ·clear htm g5 g6
   go_wp2_with fail
   refine(HPUT.out _ _ _ _ _ _ _).mono ?_;rintro e w3 ⟨rfl,h1,h2⟩
   have HX3:=zL8 h1
   have HS3:=zL8 (HS.out.trans h2)
   clear h1 h2 q0 q1 q2 q3 q4 q5 q6 q7 q8 ql p0 pl HPUT
   go_wp2_with fail
   go_end0
   exact⟨rfl,⟨k+1,by omega,by omega,HX3.out⟩,HS3.out⟩
  ·clear htm g5 g6
   go_wp2_with fail
   refine(HPUT.out _ _ _ _ _ _ _).mono ?_;rintro e w3 ⟨rfl,h1,h2⟩
   have HX3:=zL8 h1
   have HS3:=zL8 (HS.out.trans h2)
   clear h1 h2 q0 q1 q2 q3 q4 q5 q6 q7 q8 ql p0 pl HPUT
   go_wp2_with fail
   go_end0
   exact⟨rfl,⟨k+1,by omega,by omega,HX3.out⟩,HS3.out⟩
  ·clear htm g5 g6
   go_wp2_with fail
   refine(HPUT.out _ _ _ _ _ _ _).mono ?_;rintro e w3 ⟨rfl,h1,h2⟩
   have HX3:=zL8 h1
   have HS3:=zL8 (HS.out.trans h2)
   clear h1 h2 q0 q1 q2 q3 q4 q5 q6 q7 q8 ql p0 pl HPUT
   go_wp2_with fail
   go_end0
   exact⟨rfl,⟨k+1,by omega,by omega,HX3.out⟩,HS3.out⟩
  ·obtain⟨m0,m1,m2,m3⟩:=g6 rfl
   obtain rfl:xk=1:=m3
   obtain⟨w1,nx,hk1,hk2,hk3,hk4,hk5,hk6,hk7,hk8⟩:=zEN HRE.out.rep (Int.le_refl 0) HWK.out.1 HWK.out.2.2.1 (by decide)
   obtain⟨hsm,_⟩:=zDE hk7
   obtain rfl:sm=w1:=by omega
   have hrm:=zJH rfl m0 (m2.imp id fun h=>h.1) hk2 htm
   simp only at hrm
   obtain⟨m,hm⟩: ∃m:Nat,(m:Int)=3*sm - 2:=⟨(3*sm - 2).toNat,by omega⟩
   obtain⟨mn,rfl⟩: ∃mn:Nat,xmin=(mn:Nat):=⟨xmin.toNat,by omega⟩
   rw[←hm]at hrm
   obtain⟨R,hR,hRT⟩: ∃R:Nat,((xmax= -1∧R=m+2)∨ ∃ex:Nat,xmax=(mn:Nat)+(ex:Int)∧R=ex*(m+1))∧((mn*m+R:Nat):Int)≤3*wt - 2:=by
    rcases m2 with h|h
    ·exact⟨m+2,.inl ⟨h,rfl⟩,by have:=hrm.1 h;push_cast;omega⟩
    ·refine⟨(xmax - mn).toNat*(m+1),.inr ⟨(xmax - mn).toNat,by omega,rfl⟩,?_⟩
     have h2:=hrm.2 h.1
     push_cast
     rw[Int.toNat_of_nonneg (by omega)]
     exact h2
   have HONE:Hid (zLl w0 V c mb base m 60000 fb ab):=zL8 fun X k' hX hk' hS=>by
    have hN:=HKP.out X (HS.out.trans hS) ⟨k',hX⟩
    refine zJM (S:=fun W'=>(∃k'',k'≤k''∧k''≤k'+m∧InX w0 W' c mb base k'')∧Stm mb X W') hN.f (hS.at_ _ _ _ _ (by decide) (by have:=HML.out;omega) HAB.out) hi32 ?_
    refine(HNODE.out (i+1) nx k' sm X hk1 hk3 (by omega) hX hN).mono ?_
    rintro e W' ⟨rfl,⟨k2,h1,h2,h3⟩,h4⟩
    exact⟨rfl,⟨k2,h1,by omega,h3⟩,h4⟩
   have HE:=zL8 (zFa (op:=6) (x0:=(x0.toNat:Nat)) (x1:=(x1.toNat:Nat)) (x2:=(x2.toNat:Nat)) (x3:=(x3.toNat:Nat)) (xn:=xn) (kd:=1) HX.out HONE.out hR (by omega) (by omega) (by omega) (by decide))
   have HRT:=zL8 hRT
   clear hrm hR hRT hk1 hk2 hk3 hk4 hk5 hk6 hk7 hk8 htm g5 g6 hsm hm m0 m2
   go_wp2_with fail
   refine HE.out.mono ?_;rintro e w3 ⟨rfl,⟨k3,h1,h2,h3⟩,h4⟩
   have HX3:=zL8 h3
   have HS3:=zL8 (HS.out.trans h4)
   have HK3:=zL8 (And.intro h1 h2)
   clear h1 h2 h3 h4 q0 q1 q2 q3 q4 q5 q6 q7 q8 ql p0 pl HPUT HE
   go_wp2_with fail
   go_end0
   exact⟨rfl,⟨k3,HK3.out.1,by have:=HRT.out;have:=HK3.out.2;omega,HX3.out⟩,HS3.out⟩
  ·have ht1:sm+1=wt:=by
    have:zAf ⟨5,⟨x0,x1,x2,x3⟩,xn,xmin,xmax,xk⟩=1:=by simp[zAf]
    rw[this]at htm
    omega
   have hx2:=g5 rfl
   try simp only at hx2
   obtain⟨kk,hkk⟩: ∃kk,xk.toNat=kk+1:=⟨xk.toNat - 1,by omega⟩
   have hks:=HWK.out.1
   try simp only at hks
   rw[hkk]at hks
   have HKK:=zL8 hks
   have HT1:=zL8 ht1
   have HEND:Hid (∀X:World,NoE X nb no cap re rb pb mb fb eb b→X.cell? ⟨b,i,none⟩=some (.int .i64 (tn:Nat))):=zL8 fun X hX=>by
    obtain⟨q,h1,h2⟩:=hX.end_ hil
    rw[zBV re hf HWK.out.2.2.2.2.2.2.2.2.1]at h1
    cases h1
    exact h2
   have HENQ:Hid (∀(X:World) (q:Nat) (w1:Int) (nx:Nat),zAU re f q=some (w1,nx)→q<re.length→NoE X nb no cap re rb pb mb fb eb b→X.cell? ⟨b,q,none⟩=some (.int .i64 (nx:Nat))):=zL8 fun X q w1 nx hq hql hX=>by
    obtain⟨q',h1,h2⟩:=hX.end_ hql
    rw[zBV re (by omega) hq]at h1
    cases h1
    exact h2
   obtain⟨a0,al⟩:=zA4 HAB.out
   have HBV:Hid (base≤V.heap.size):=zL8 (by obtain⟨v,h⟩:=HX.out;exact h.le)
   have HMB:Hid (mb<base):=zL8 (by obtain⟨v,h⟩:=HX.out;exact h.o2)
   clear htm g5 g6 ht1 hx2 hks
   go_wp2_with fail
   clear q0 q1 q2 q3 q4 q5 q6 q7 q8 ql p0 pl HPUT a0 al
   go_loopg [8,9] kk (fun gk vs kv wr=> ∃(q k1 j d:Nat) (s:Int) (js:List Nat),kv= .int .i64 (q:Nat)∧gk=j∧Hid (zA3 (zAU re f) (j+1) s q=some (sm,tn))∧0≤s∧s≤16384∧k≤k1∧Hid ((k1:Int)≤k+3*s)∧InX w0 wr c mb base k1∧Stm mb V wr∧wr.ownsRow V.heap.size 3 1 vs d (js.map fun s:Nat=> .int .i64 (s:Nat))∧Hid (∀x∈js,x<k1)∧d≤k1)
   case atStart=>exact⟨i+1,k,kk,0,0,[],by go_num,rfl,zL8 HKK.out,Int.le_refl _,by decide,zMA _,zL8 (by omega),HX.out,Stm.refl,zMO _ _ _ _,zL8 (by simp),Nat.zero_le _⟩
   case round=>
   obtain⟨q,k1,j,d,s,js,rfl,hg,HKS,hs0,hs1,hkk,HK1,hx,hs,hr,HJS,hdk⟩:=hrel
   have HG:=zL8 hg
   have HX1:=zL8 hx
   have HS1:=zL8 hs
   have HR1:=zL8 hr
   obtain⟨ov,kc,rfl⟩:=zAI hr
   have HSB:=zL8 (And.intro hs0 (And.intro hs1 (And.intro hkk hdk)))
   have HN1:=zL8 (HKP.out wr (HS.out.trans hs) ⟨k1,hx⟩)
   clear hg hx hs hr hs0 hs1 hkk hdk
   have hab:=(HS1.out.at_ ab _ _ _ (by decide) (by have:=HML.out;omega) HAB.out)
   obtain⟨w1,nx,hk1,hk2,hk3,hk4,hk5,hk6,hk7,hk8⟩:=zEN HRE.out.rep HSB.out.1 HKS.out HWK.out.2.2.1 HSB.out.2.1
   have HW1:=zL8 hk1
   have HKS2:=zL8 hk7
   have HB1:=zL8 (And.intro hk2 (And.intro hk3 hk8))
   have HQN:=zL8 (And.intro hk4 (And.intro hk5 hk6))
   have hlt':(q:Int)<(tn:Int):=by omega
   have hqi:(q:Int)<(re.length:Int):=by omega
   clear hk1 hk2 hk3 hk4 hk5 hk6 hk7 hk8
   obtain⟨a0,al⟩:=zA4 hab
   obtain⟨e0,el⟩:=zA4 HN1.out.e
   have bi:=HEND.out wr HN1.out
   have bq:=HENQ.out wr q w1 nx HW1.out (by omega) HN1.out
   have bl:=zMf _ _ bi
   clear hab
   go_upto_region 20 with fail
   refine zAA (X:=none) 9 [] [0,1,2,3,4,5,6,7,8] (by kernel_rfl) (by kernel_rfl) rfl (fun _ _ _ _ _ h=>h) ?_
   simp only[zAJ,zAC,zAD,zAB,List.getD_cons_zero,List.getD_cons_succ,List.drop_succ_cons,List.drop_nil]
   repeat (go_big_quiet_step (fail))
   refine wpQuiet_nil ?_
   have hbd:Below wr.heap.size wr wr.drew:=(zL9 _ _).drew
   have HX2:=zL8 (HX1.out.below hbd)
   have HS2:=zL8 (HS1.out.trans (Stm.below hbd))
   have HR2:=zL8 (zAQ HR1.out (.below hbd))
   have HN2:=zL8 (HKP.out wr.drew (HS.out.trans HS2.out) ⟨k1,HX2.out⟩)
   by_cases hlast:nx=tn
   ·subst hlast
    go_upto_region 21 with fail
    obtain⟨X,hX⟩: ∃X,wr.drew=X:=⟨_,rfl⟩
    rw[hX]at HX2 HS2 HR2 HN2 ⊢
    clear hX hbd a0 al e0 el bi bq bl HX1 HS1 HR1 HN1
    obtain⟨f0,fl⟩:=zA4 HN2.out.f
    have HE:=zL8 (HNODE.out q nx k1 w1 X HW1.out HB1.out.2.1 (by have:=HK1.out;have:=HB1.out.2.2;have:=HT1.out;have:=HWK.out.2.2.2.2.2.2.2.1;have:=HWK.out.2.2.1;omega) HX2.out HN2.out)
    go_wp2_with fail
    refine HE.out.mono ?_;rintro e w3 ⟨rfl,⟨k2,h1,h2,h3⟩,h4⟩
    have HX3:=zL8 h3
    have HS3:=zL8 (HS2.out.trans h4)
    have HK2:=zL8 (And.intro h1 h2)
    have HR3:=zL8 (zBs HR2.out (by decide) (by have:=HBV.out;have:=HMB.out;omega) h4)
    clear h1 h2 h3 h4 HE f0 fl HX2 HS2 HR2 HN2
    go_wp2_with fail
    go_loopg [106] d (fun gk kv wr=> ∃(z:Nat),kv= .int .i64 (z:Nat)∧gk=d - z∧z≤d∧InX w0 wr c mb base k2∧Stm mb V wr∧wr.ownsRow V.heap.size 3 1 (.slice ov d kc) d (js.map fun s:Nat=> .int .i64 (s:Nat)))
    case atStart=>exact⟨0,rfl,rfl,Nat.zero_le _,HX3.out,HS3.out,HR3.out⟩
    case round=>
    obtain⟨z,rfl,hg,hz,hx,hs,hr⟩:=hrel
    have HG3:=zL8 hg
    have HX4:=zL8 hx
    have HS4:=zL8 hs
    have HR4:=zL8 hr
    clear hg hx hs hr
    by_cases hlt3:z<d
    ·have hlt3':(z:Int)<(d:Int):=by omega
     obtain⟨_,g2,rfl,hg2,hc2,_⟩:=zAZ HR4.out (by omega)
     obtain⟨u,hu,hcu⟩:=hc2 z (by omega)
     have hd2:z<js.length:=by
      have:=(zMF.1 hu).1
      rw[List.length_map]at this
      exact this
     obtain⟨sp,hsp⟩: ∃sp,js[z]?=some sp:=⟨_,zMP hd2⟩
     rw[List.getElem?_map,hsp]at hu
     cases hu
     have hsk:=HJS.out sp (zMc hsp)
     have hkk2:(k2:Int)≤60000:=by have:=HK2.out.2;have:=HK1.out;have:=HB1.out.2.2;have:=HT1.out;have:=HWK.out.2.2.2.2.2.2.2.1;have:=HWK.out.2.2.1;omega
     have hsk2:(sp:Int)<(k2:Int):=by have:=HK2.out.1;omega
     have hz6:(z:Int)≤60000:=by have:=HSB.out.2.2.2;have:=HK2.out.1;omega
     obtain⟨g,kv2,u,hi,hu,hf,hgl,hxp,hsp2⟩:=HX4.out.put (j:=sp*7+5) (x:= .int .i64 (k2:Nat)) (by have:=HK2.out.1;omega)
     have c0:=hi.c0
     have hml:=hi.lt
     have HXQ:=zL8 hxp
     have HSQ:=zL8 (HS4.out.trans hsp2)
     have HRQ:=zL8 (zBs HR4.out (by decide) (by have:=hi.o2;have:=HBV.out;omega) hsp2)
     clear hi hxp hsp2 hc2 hsp
     go_wp2_with fail
     go_roundg (d - (z+1))
     case measure=>have:=HG3.out;omega
     case rel=>exact⟨z+1,by go_num,rfl,by omega,HXQ.out,HSQ.out,HRQ.out⟩
    ·have hlt3': ¬(z:Int)<(d:Int):=by omega
     go_wp2_with fail
     go_end0
     exact⟨rfl,⟨k2,by have:=HSB.out.2.2.1;have:=HK2.out.1;omega,by have:=HK2.out.2;have:=HK1.out;have:=HB1.out.2.2;have:=HT1.out;omega,HX4.out⟩,HS.out.trans HS4.out⟩
   ·have hjp: ∃j',j=j'+1:=by
     cases j with
     |zero=>exact absurd (zDE HKS2.out).2.symm hlast
     |succ j'=>exact⟨j',rfl⟩
    obtain⟨j',rfl⟩:=hjp
    have hnt:((nx:Int)==(tn:Int))=false:=zME.2 (by omega)
    have hk60:(k1:Int)≤60000:=by have:=HK1.out;have:=HB1.out.2.2;have:=HT1.out;have:=HWK.out.2.2.2.2.2.2.2.1;have:=HWK.out.2.2.1;have:=HB1.out.1;omega
    go_upto_region 22 with fail
    obtain⟨X,hX⟩: ∃X,wr.drew=X:=⟨_,rfl⟩
    rw[hX]at HX2 HS2 HR2 HN2 ⊢
    clear hX hbd a0 al e0 el bi bq bl HX1 HS1 HR1 HN1 hnt
    obtain⟨v0,hi0⟩:=HX2.out
    obtain⟨xs0,hr0⟩:=hi0.row
    obtain⟨o0,kv0,rfl⟩:=zAI hr0
    have c0:=hi0.c0
    have hml:=hi0.lt
    obtain⟨p0,pl⟩:=zA4 HN2.out.p
    have HPUT:Hid (∀(op x0 x1 x2 x3 X Y:Int),_):=zL8 fun op x0 x1 x2 x3 X Y=>zDD (op:=op) (x0:=x0) (x1:=x1) (x2:=x2) (x3:=x3) (X:=X) (Y:=Y) HX2.out (by omega)
    clear hi0 hr0
    go_wp2_with fail
    refine(HPUT.out _ _ _ _ _ _ _).mono ?_;rintro e w3 ⟨rfl,h1,h2⟩
    have HX3:=zL8 h1
    have HS3:=zL8 (HS2.out.trans h2)
    have HR3:=zL8 (zBs HR2.out (by decide) (by have:=HBV.out;have:=HMB.out;omega) h2)
    have HN3:=zL8 (HKP.out w3 (HS.out.trans HS3.out) ⟨k1+1,HX3.out⟩)
    clear h1 h2 HPUT c0 hml p0 pl HX2 HS2 HR2 HN2
    obtain⟨f0,fl⟩:=zA4 HN3.out.f
    have HE:=zL8 (HNODE.out q nx (k1+1) w1 w3 HW1.out HB1.out.2.1 (by have:=HK1.out;have:=HB1.out.2.2;have:=HT1.out;have:=HWK.out.2.2.2.2.2.2.2.1;have:=HWK.out.2.2.1;push_cast;omega) HX3.out HN3.out)
    go_wp2_with fail
    refine HE.out.mono ?_;rintro e w4 ⟨rfl,⟨k2,h1,h2,h3⟩,h4⟩
    have HX4:=zL8 h3
    have HS4:=zL8 (HS3.out.trans h4)
    have HR4:=zL8 (zBs HR3.out (by decide) (by have:=HBV.out;have:=HMB.out;omega) h4)
    have HN4:=zL8 (HKP.out w4 (HS.out.trans HS4.out) ⟨k2,HX4.out⟩)
    have HK2:=zL8 (And.intro h1 h2)
    have hk62:(k2:Int)≤120000:=by have:=HB1.out.2.1;omega
    have hk12:(k1:Int)<(k2:Int):=by omega
    clear h1 h2 h3 h4 HE f0 fl HX3 HS3 HR3 HN3
    obtain⟨p0,pl⟩:=zA4 HN4.out.p
    have HPUT:Hid (∀(op x0 x1 x2 x3 X Y:Int),_):=zL8 fun op x0 x1 x2 x3 X Y=>zDD (op:=op) (x0:=x0) (x1:=x1) (x2:=x2) (x3:=x3) (X:=X) (Y:=Y) HX4.out (by omega)
    go_wp2_with fail
    refine(HPUT.out _ _ _ _ _ _ _).mono ?_;rintro e w5 ⟨rfl,h1,h2⟩
    have HS5:=zL8 (HS4.out.trans h2)
    have HR5:=zL8 (zBs HR4.out (by decide) (by have:=HBV.out;have:=HMB.out;omega) h2)
    have HX5:=zL8 h1
    clear h1 h2 HPUT p0 pl HX4 HS4 HR4 HN4
    have ha:Below w5.heap.size w5 (w5.alloc (.cells #[.int .i64 (k2:Nat)] 3)):=(zL9 _ _).alloc (zMA _) _
    have HXA:=zL8 (HX5.out.below ha)
    have HSA:=zL8 (HS5.out.trans (Stm.below ha))
    have HRA:=zL8 (zAQ HR5.out (.below ha))
    have HSO:=zL8 (Src.new w5 [.int .i64 (k2:Nat)] 3 1 1)
    clear ha HX5 HS5 HR5
    go_wp2_with (at_builtin;refine zAN zEO rfl _ _ rfl V.heap.size (n:=d) (m:=1) (news:=[.int .i64 (k2:Nat)]) rfl HRA.out rfl HSO.out rfl (by simp[Value.oneCell']) (by have:=HSB.out.2.2.2;unfold maxLen;omega) (by have:=HSB.out.2.2.2;omega) (HSA.out.le) ?_)
    intro v2 w6 hown hgr _
    obtain⟨o2,kv2,rfl⟩:=zAI hown
    have HX6:=zL8 (HXA.out.ints HRA.out HBV.out hgr)
    have HS6:=zL8 (HSA.out.ints HRA.out (zMA _) hgr)
    have hown':w6.ownsRow V.heap.size 3 1 (.slice o2 (d+1) kv2) (d+1) ((js++[k2]).map fun s:Nat=> .int .i64 (s:Nat)):=by rw[List.map_append];exact hown
    have HR6:=zL8 hown'
    clear hown hown' hgr HXA HSA HRA HSO
    obtain⟨g,kv3,u,hi,hu,hf6,hgl,hxp,hsp2⟩:=HX6.out.put (j:=k1*7+6) (x:= .int .i64 ((k2:Int)+1)) (by have:=HK2.out.1;omega)
    have c0:=hi.c0
    have hml:=hi.lt
    have HX7:=zL8 hxp
    have HS7:=zL8 (HS6.out.trans hsp2)
    have HR7:=zL8 (zBs HR6.out (by decide) (by have:=hi.o2;have:=HBV.out;omega) hsp2)
    clear hi hxp hsp2 HX6 HS6 HR6
    go_upto_region 19 with fail
    obtain⟨Y,hY⟩: ∃Y,w6.setCell ⟨g,k1*7+6,none⟩ (.int .i64 ((k2:Int)+1))=Y:=⟨_,rfl⟩
    rw[hY]at HX7 HS7 HR7 ⊢
    clear hY c0 hml hu hf6 hgl
    have HN7:=zL8 (HKP.out Y (HS.out.trans HS7.out) ⟨_,HX7.out⟩)
    obtain⟨e0,el⟩:=zA4 HN7.out.e
    have bq:=HENQ.out Y q w1 nx HW1.out (by omega) HN7.out
    have bl:=zMf _ _ bq
    go_wp2_with fail
    go_roundg j'
    case measure=>have:=HG.out;omega
    case rel=>exact⟨nx,k2+1,j',d+1,s+w1,js++[k2],rfl,rfl,HKS2,by have:=HSB.out.1;have:=HB1.out.1;omega,by have:=HB1.out.2.2;have:=HWK.out.2.2.1;omega,by have:=HSB.out.2.2.1;have:=HK2.out.1;omega,zL8 (by have:=HK1.out;have:=HK2.out.2;push_cast at this;push_cast;omega),HX7.out,HS7.out,HR7.out,zL8 (by
     intro x hx
     rcases zMd.1 hx with hx|hx
     ·have:=HJS.out x hx;have:=HK2.out.1;omega
     ·rw[List.mem_singleton]at hx;omega),by have:=HSB.out.2.2.2;have:=HK2.out.1;omega⟩
  ·have ht1:sm+1=wt:=by
    have:zAf ⟨op,⟨x0,x1,x2,x3⟩,xn,xmin,xmax,xk⟩=1:=by simp[zAf,e6]
    rw[this]at htm
    omega
   have b1:(op==1)=false:=zME.2 e1
   have b2:(op==2)=false:=zME.2 e2
   have b3:(op==3)=false:=zME.2 e3
   have b6:(op==6)=false:=zME.2 e6
   have b5:(op==5)=false:=zME.2 e5
   have HT1:=zL8 ht1
   have HEND:Hid (∀X:World,NoE X nb no cap re rb pb mb fb eb b→X.cell? ⟨b,i,none⟩=some (.int .i64 (tn:Nat))):=zL8 fun X hX=>by
    obtain⟨q,h1,h2⟩:=hX.end_ hil
    rw[zBV re hf HWK.out.2.2.2.2.2.2.2.2.1]at h1
    cases h1
    exact h2
   have HENQ:Hid (∀(X:World) (q:Nat) (w1:Int) (nx:Nat),zAU re f q=some (w1,nx)→q<re.length→NoE X nb no cap re rb pb mb fb eb b→X.cell? ⟨b,q,none⟩=some (.int .i64 (nx:Nat))):=zL8 fun X q w1 nx hq hql hX=>by
    obtain⟨q',h1,h2⟩:=hX.end_ hql
    rw[zBV re (by omega) hq]at h1
    cases h1
    exact h2
   obtain⟨a0,al⟩:=zA4 HAB.out
   clear htm g5 g6 ht1 e1 e2 e3 e5 e6
   go_wp2_with fail
   clear q0 q1 q2 q3 q4 q5 q6 q7 q8 ql p0 pl HPUT a0 al b1 b2 b3 b5 b6
   go_loopg [13] xk.toNat (fun gk kv wr=> ∃(q k1 j:Nat) (s:Int),kv= .int .i64 (q:Nat)∧gk=j∧Hid (zA3 (zAU re f) j s q=some (sm,tn))∧0≤s∧s≤16384∧k≤k1∧Hid ((k1:Int)≤k+3*s)∧InX w0 wr c mb base k1∧Stm mb V wr)
   case atStart=>exact⟨i+1,k,xk.toNat,0,by go_num,rfl,zL8 HWK.out.1,Int.le_refl _,by decide,zMA _,zL8 (by omega),HX.out,Stm.refl⟩
   case round=>
   obtain⟨q,k1,j,s,rfl,hg,HKS,hs0,hs1,hkk,HK1,hx,hs⟩:=hrel
   have HG:=zL8 hg
   have HX1:=zL8 hx
   have HS1:=zL8 hs
   have HSB:=zL8 (And.intro hs0 (And.intro hs1 hkk))
   have HN1:=zL8 (HKP.out wr (HS.out.trans hs) ⟨k1,hx⟩)
   clear hg hx hs hs0 hs1 hkk
   have hab:=(HS1.out.at_ ab _ _ _ (by decide) (by have:=HML.out;omega) HAB.out)
   obtain⟨a0,al⟩:=zA4 hab
   obtain⟨e0,el⟩:=zA4 HN1.out.e
   have bi:=HEND.out wr HN1.out
   have bl:=zMf _ _ bi
   clear hab
   cases j with
   |zero=>
    obtain⟨h1,rfl⟩:=zDE HKS.out
    have HSM:=zL8 h1
    have hlt': ¬(tn:Int)<(tn:Int):=by omega
    clear h1
    go_wp2_with fail
    go_end0
    exact⟨rfl,⟨k1,HSB.out.2.2,by have:=HK1.out;have:=HSM.out;have:=HT1.out;omega,HX1.out⟩,HS.out.trans HS1.out⟩
   |succ j=>
    obtain⟨w1,nx,hk1,hk2,hk3,hk4,hk5,hk6,hk7,hk8⟩:=zEN HRE.out.rep HSB.out.1 HKS.out HWK.out.2.2.1 HSB.out.2.1
    have hlt':(q:Int)<(tn:Int):=by omega
    have HW1:=zL8 hk1
    have HKS2:=zL8 hk7
    have HB1:=zL8 (And.intro hk2 (And.intro hk3 hk8))
    have HQN:=zL8 (And.intro hk4 (And.intro hk5 hk6))
    obtain⟨f0,fl⟩:=zA4 HN1.out.f
    have HE:=zL8 (HNODE.out q nx k1 w1 wr HW1.out HB1.out.2.1 (by have:=HK1.out;have:=HB1.out.2.2;have:=HT1.out;have:=HWK.out.2.2.2.2.2.2.2.1;have:=HWK.out.2.2.1;omega) HX1.out HN1.out)
    clear hk1 hk2 hk3 hk4 hk5 hk6 hk7 hk8
    go_wp2_with fail
    refine HE.out.mono ?_;rintro e w3 ⟨rfl,⟨k2,h1,h2,h3⟩,h4⟩
    have HX2:=zL8 h3
    have HS2:=zL8 (HS1.out.trans h4)
    have HK2:=zL8 (And.intro h1 h2)
    have HN2:=zL8 (HKP.out w3 (HS.out.trans HS2.out) ⟨k2,HX2.out⟩)
    clear h1 h2 h3 h4 HE f0 fl a0 al e0 el bi bl
    obtain⟨e0,el⟩:=zA4 HN2.out.e
    have hqi:(q:Int)<(re.length:Int):=by have:=HQN.out;omega
    have bq:=HENQ.out w3 q w1 nx HW1.out (by omega) HN2.out
    have bl:=zMf _ _ bq
    go_wp2_with fail
    go_roundg j
    case measure=>have:=HG.out;omega
    case rel=>exact⟨nx,k2,j,s+w1,rfl,rfl,HKS2,by have:=HSB.out.1;have:=HB1.out.1;omega,by have:=HB1.out.2.2;have:=HWK.out.2.2.1;omega,by have:=HSB.out.2.2;have:=HK2.out.1;omega,zL8 (by have:=HK1.out;have:=HK2.out.2;omega),HX2.out,HS2.out⟩
end
end
section
open Go.RowKit
theorem zLB (w:World) (e m p f:Obj): ∃W,(((w.alloc e).alloc m).alloc p).alloc f=W∧W.heap[w.heap.size]?=some e∧W.heap[w.heap.size+1]?=some m∧W.heap[w.heap.size+1+1]?=some p∧W.heap[w.heap.size+1+1+1]?=some f∧W.heap.size=w.heap.size+4∧Below w.heap.size w W:=by
 have s1:(w.alloc e).heap.size=w.heap.size+1:=by simp
 have s2:((w.alloc e).alloc m).heap.size=w.heap.size+1+1:=by simp
 have s3:(((w.alloc e).alloc m).alloc p).heap.size=w.heap.size+1+1+1:=by simp
 have a1:=zML w e
 have a2:=zML (w.alloc e) m
 have a3:=zML ((w.alloc e).alloc m) p
 have a4:=zML (((w.alloc e).alloc m).alloc p) f
 rw[s1]at a2
 rw[s2]at a3
 rw[s3]at a4
 exact⟨_,rfl,(zMM _ _ (by omega)).trans ((zMM _ _ (by omega)).trans ((zMM _ _ (by omega)).trans a1)),(zMM _ _ (by omega)).trans ((zMM _ _ (by omega)).trans a2),(zMM _ _ (by omega)).trans a3,a4,by simp,(((zL9 _ _).alloc (zMA _) _ |>.alloc (by omega) _).alloc (by omega) _).alloc (by omega) _⟩
section
variable {w:World} {re:List Nd} {oa:Option Addr} {cap:Nat}
theorem zEM (h:NdV w oa re):Calls Tryz.prog 68 #[.slice oa re.length cap] w fun e w'=>(∃o n k er,e= .returned (.tuple #[.slice o n k,.int .i64 er]))∧Below w.heap.size w w':=by
 have hba:Below w.heap.size w (w.alloc (.cells #[.slice oa re.length cap] 64)):=(zL9 _ _).alloc (zMA _) _
 have HV:=zL8 (h.below hba)
 have HV0:=zL8 h
 have HB:=zL8 hba
 have hr0:=zML w (.cells #[.slice oa re.length cap] 64)
 have HS:=zL8 (zBF (cap:=cap) (h.below hba))
 clear h hba
 go_enter Tryz.func68,Tryz.ntmps68
 go_upto_region 1 with fail
 obtain⟨W,hW⟩: ∃W,w.alloc (.cells #[.slice oa re.length cap] 64)=W:=⟨_,rfl⟩
 rw[hW]at HV HB HS hr0 ⊢
 obtain⟨rb,hrb⟩: ∃rb,w.heap.size=rb:=⟨_,rfl⟩
 rw[hrb]at HB hr0 ⊢
 have HRB:=zL8 hrb
 have HW0:Hid (∀ {X:World},Below rb w X→Below w.heap.size w X):=zL8 fun h=>by rw[hrb];exact h
 have HR0:=zL8 hr0
 clear hW hrb hr0
 obtain⟨k0,kl⟩:=zA4 HR0.out
 go_wp2_with fail
 refine HS.out.mono ?_;rintro e w1 ⟨rfl,hb⟩
 have HB1:=zL8 (HB.out.trans (hb.mono (Nat.le_of_lt kl)))
 have HV1:=zL8 (HV.out.below hb)
 have HR1:=zL8 ((hb.block rb kl).trans HR0.out)
 clear hb k0 kl HS
 cases hsh:shapedN re with
 |false=>
  go_wp2_with fail
  go_ret2
  exact⟨⟨_,_,_,_,rfl⟩,HW0.out HB1.out⟩
 |true=>
 have HSH:=zL8 (shk hsh)
 have HS:=zL8 (zEu (cap:=cap) HV1.out)
 clear hsh
 obtain⟨k0,kl⟩:=zA4 HR1.out
 go_wp2_with fail
 refine HS.out.mono ?_;rintro e w2 ⟨rfl,hb⟩
 have HB2:=zL8 (HB1.out.trans (hb.mono (Nat.le_of_lt kl)))
 have HV2:=zL8 (HV1.out.below hb)
 have HR2:=zL8 ((hb.block rb kl).trans HR1.out)
 clear hb k0 kl HS HV1 HR1
 cases hrf:zEF re with
 |true=>
  go_wp2_with fail
  go_ret2
  exact⟨⟨_,_,_,_,rfl⟩,HW0.out HB2.out⟩
 |false=>
 clear hrf
 obtain⟨nb,no,rfl,hn0⟩:=HV0.out.at_ HSH.out.pos
 have HN0:=zL8 hn0
 have HNB:Hid (nb<rb):=zL8 (by rw[←HRB.out];exact hn0.lt)
 have HN2:Hid (zCm w2 nb no re):=zL8 (hn0.below (by rw[HRB.out];exact HB2.out))
 have HS:=zL8 (zFI (cap:=cap) HN2.out HSH.out.rep HSH.out.at_)
 clear hn0
 obtain⟨k0,kl⟩:=zA4 HR2.out
 go_wp2_with fail
 refine HS.out.mono ?_;rintro e w3 ⟨⟨xs,rfl,ho,hx⟩,hb⟩
 have HB3:=zL8 (HB2.out.trans (hb.mono (Nat.le_of_lt kl)))
 have HR3:=zL8 ((hb.block rb kl).trans HR2.out)
 have HN3:=zL8 (HN2.out.below hb)
 obtain⟨b,hbz⟩: ∃b,w2.heap.size=b:=⟨_,rfl⟩
 rw[hbz]at ho ⊢
 have HBZ:Hid (rb<b):=zL8 (by omega)
 have HX:=zL8 hx
 have hxb: ∃ys:Array Value,w3.heap[b]?=some (.cells ys 3 (0,0))∧zHZ re ys.toList 0:=by
  rcases ho.2 with ⟨e,_⟩|⟨g,cap',cur,e,_,h1,h2,_,h4,h5⟩
  ·cases e
  ·cases e
   refine⟨cur,h1,fun p h6 h7=>?_⟩
   obtain⟨q,h8,h9⟩:=hx p h6 h7
   refine⟨q,h8,?_⟩
   have h10:(cur.toList.take (re.length*1))[p]?=some (.int .i64 (q.2:Nat)):=by rw[h5];exact h9
   rw[List.getElem?_take]at h10
   split at h10
   ·exact h10
   ·cases h10
 have HXB:=zL8 hxb
 clear hb hbz ho hx hxb k0 kl HS HN2 HR2
 go_upto_region 10 with fail
 obtain⟨eb,heb⟩: ∃eb,w3.heap.size=eb:=⟨_,rfl⟩
 have h4:=zLB w3 (.cells #[.slice (some ⟨b,0,none⟩) re.length re.length] 23) (.cells #[.slice none 0 0] 150) (.cells #[.func (.func 115) #[] #[.pointer (some ⟨w3.heap.size+1,0,none⟩)]] 188) (.cells #[.func (.func 116) #[] #[.pointer (some ⟨rb,0,none⟩),.pointer (some ⟨w3.heap.size+1+1,0,none⟩),.pointer (some ⟨w3.heap.size+1,0,none⟩),.pointer (some ⟨w3.heap.size+1+1+1,0,none⟩),.pointer (some ⟨w3.heap.size,0,none⟩)]] 120)
 obtain⟨V,hV,q1,q2,q3,q4,q5,q6⟩:=h4
 rw[hV]
 have HB4:=zL8 (HB3.out.trans (q6.mono (by have:=(zMG.1 HR3.out).1;omega)))
 have HN4:=zL8 (HN3.out.below q6)
 have HR4:=zL8 ((q6.block rb (zMG.1 HR3.out).1).trans HR3.out)
 have HX4:Hid (∃ys:Array Value,V.heap[b]?=some (.cells ys 3 (0,0))∧zHZ re ys.toList 0):=zL8 (by
  obtain⟨ys,h1,h2⟩:=HXB.out
  exact⟨ys,(q6.block b (zMG.1 h1).1).trans h1,h2⟩)
 have HBE:Hid (b<eb):=zL8 (by
  obtain⟨ys,h1,h2⟩:=HXB.out
  have:=(zMG.1 h1).1
  omega)
 rw[heb]at q1 q2 q3 q4 q5 ⊢
 obtain⟨mb,hmb⟩: ∃mb,eb+1=mb:=⟨_,rfl⟩
 rw[hmb]at q2 q3 q4 ⊢
 obtain⟨pb,hpb⟩: ∃pb,mb+1=pb:=⟨_,rfl⟩
 rw[hpb]at q3 q4 ⊢
 obtain⟨fb,hfb⟩: ∃fb,pb+1=fb:=⟨_,rfl⟩
 rw[hfb]at q4 ⊢
 have HO:Hid (rb<b∧b<eb∧eb<mb∧mb<pb∧pb<fb∧fb<V.heap.size):=zL8 (by have:=HBZ.out;have:=HBE.out;omega)
 have HIX:Hid (InX w V rb mb (fb+1) 0):=zL8 ⟨_,⟨HB4.out,(zA4 q2).1,zAm q2,⟨[],zMO _ _ _ _⟩,by have:=HO.out;omega,by have:=HO.out;omega,by have:=HO.out;omega⟩⟩
 have HNE:Hid (NoE V nb no cap re rb pb mb fb eb b):=zL8 ⟨HN4.out,HR4.out,q3,q4,q1,HX4.out,by have:=HO.out;omega,by have:=HO.out;omega,by have:=HO.out;omega,by have:=HO.out;omega,by have:=HO.out;omega⟩
 have HQ3:=zL8 q3
 have HQ4:=zL8 q4
 obtain⟨wt,tn,htw,hwt⟩:=HSH.out.top
 have HNC:=zL8 (zEz (w0:=w) (c:=rb) (mb:=mb) (base:=fb+1) (nb:=nb) (no:=no) (cap:=cap) (rb:=rb) (pb:=pb) (fb:=fb) (eb:=eb) (b:=b) HSH.out HNB.out 260 (zMA _) 0 tn 0 wt V htw hwt (by omega) HIX.out HNE.out)
 have HWT:=zL8 hwt
 clear hV q1 q2 q3 q5 q6 heb hmb hpb hfb htw hwt HXB HBE HBZ HN3 HR3 HB3
 obtain⟨f0,fl⟩:=zA4 q4
 clear q4
 go_wp2_with fail
 refine HNC.out.mono ?_;rintro e w5 ⟨rfl,⟨k1,h1,h2,h3⟩,h4⟩
 have HX5:=zL8 h3
 have hpp:=h4.at_ pb _ _ _ (by decide) (by have:=HO.out;omega) HQ3.out
 have hk1:k1≤60000:=by have:=HWT.out;omega
 have HPUT:Hid (∀(op x0 x1 x2 x3 X Y:Int),_):=zL8 fun op x0 x1 x2 x3 X Y=>zDD (op:=op) (x0:=x0) (x1:=x1) (x2:=x2) (x3:=x3) (X:=X) (Y:=Y) HX5.out (by omega)
 have HK1:=zL8 hk1
 clear h1 h2 h3 h4 f0 fl HNC hk1
 obtain⟨p0,pl⟩:=zA4 hpp
 clear hpp
 go_wp2_with fail
 refine(HPUT.out _ _ _ _ _ _ _).mono ?_;rintro e w6 ⟨rfl,h1,h2⟩
 clear p0 pl HPUT h2
 obtain⟨v,h1⟩:=h1
 obtain⟨xs6,hrow⟩:=h1.row
 obtain⟨o6,k6,rfl⟩:=zAI hrow
 obtain⟨_,g,rfl,hg,_⟩:=zAZ hrow (by omega)
 have hkk:k1+1≤k6:=by
  rcases hrow.2 with ⟨e,_⟩|⟨g',cap',cur,e,_,_,h,_⟩
  ·cases e
  ·cases e
   exact h
 have c0:=h1.c0
 have hml:=h1.lt
 have HB6:=zL8 h1.B
 have hki:((k1+1:Nat):Int)≤(k6:Int):=by omega
 clear h1 hrow
 go_wp2_with fail
 go_ret2
 exact⟨⟨_,_,_,_,rfl⟩,HW0.out HB6.out⟩
end
end
section
open Go.RowKit
section
variable {w:World} {re:List Nd} {oa:Option Addr} {cap:Nat}
theorem zG7 (h:NdV w oa re) (hc:NoV w (.slice oa re.length cap) re.length (zBb re)):Calls Tryz.prog 29 #[.slice oa re.length cap] w fun e w'=>(∃p er,e= .returned (.tuple #[.pointer p,.int .i64 er]))∧Below w.heap.size w w':=by
 have HS:=zL8 (zBF (cap:=cap) h)
 have HV:=zL8 h
 have HC:=zL8 hc
 clear h hc
 go_enter Tryz.func29,Tryz.ntmps29
 go_wp2_with fail
 refine HS.out.mono ?_;rintro e w1 ⟨rfl,hb⟩
 have HB1:=zL8 hb
 have HV1:=zL8 (HV.out.below hb)
 have HC1:=zL8 (HC.out.below hb)
 clear hb HS HV HC
 cases shapedN re with
 |false=>
  go_wp2_with fail
  go_ret2
  exact⟨⟨_,_,rfl⟩,HB1.out⟩
 |true=>
 have HK:=zL8 HC1.out.clone
 go_wp2_with fail
 refine HK.out.mono ?_;rintro e w2 ⟨o2,k2,rfl,_,hb⟩
 have HB2:=zL8 (HB1.out.trans (hb.mono HB1.out.size))
 have HV2:=zL8 (HV1.out.below hb)
 clear hb HK HV1 HC1
 have HG:=zL8 (zDc (cap:=cap) HV2.out)
 go_wp2_with fail
 refine HG.out.mono ?_;rintro e w3 ⟨rfl,hb⟩
 have HB3:=zL8 (HB2.out.trans (hb.mono HB2.out.size))
 have HV3:=zL8 (HV2.out.below hb)
 clear hb HG HV2
 go_upto_region 4 with fail
 obtain⟨gn,hgn⟩: ∃gn:Int,((zAr re:Nat):Int)=gn:=⟨_,rfl⟩
 rw[hgn]
 clear hgn
 have ha:=zML w3 (.cells #[.slice o2 re.length k2,.nilIface,.int .i64 gn] 148)
 have hb:Below w3.heap.size w3 (w3.alloc (.cells #[.slice o2 re.length k2,.nilIface,.int .i64 gn] 148)):=(zL9 _ _).alloc (zMA _) _
 obtain⟨V,hV⟩: ∃V,w3.alloc (.cells #[.slice o2 re.length k2,.nilIface,.int .i64 gn] 148)=V:=⟨_,rfl⟩
 rw[hV]at ha hb ⊢
 obtain⟨r,hr⟩: ∃r,w3.heap.size=r:=⟨_,rfl⟩
 rw[hr]at ha ⊢
 have HB4:=zL8 (HB3.out.trans (hb.mono HB3.out.size))
 have HV4:=zL8 (HV3.out.below hb)
 have HA:=zL8 ha
 have HRW:Hid (w.heap.size≤r):=zL8 (by rw[←hr];exact HB3.out.size)
 clear hV hr ha hb HB3 HV3
 have HR:=zL8 (zEu (cap:=cap) HV4.out)
 go_wp2_with fail
 refine HR.out.mono ?_;rintro e w5 ⟨rfl,hb⟩
 have HB5:=zL8 (HB4.out.trans (hb.mono HB4.out.size))
 have HV5:=zL8 (HV4.out.below hb)
 have ha:=(hb.block r (zMG.1 HA.out).1).trans HA.out
 have HA5:=zL8 ha
 clear hb HR HB4 HV4
 cases zEF re with
 |true=>
  have c1:w5.cell? ⟨r,1,none⟩=some .nilIface:=zMN _ _ 1 _ _ (0,0) ha
  have f1:=zAm ha 1
  have rl:=zMf _ _ c1
  clear ha
  go_wp2_with fail
  go_ret2
  exact⟨⟨_,_,rfl⟩,HB5.out.setCell (p:=⟨r,1,none⟩) HRW.out _⟩
 |false=>
 clear ha
 have HM:=zL8 (zEM (cap:=cap) HV5.out)
 go_wp2_with fail
 refine HM.out.mono ?_;rintro e w6 ⟨⟨om,nm,km,er,rfl⟩,hb⟩
 have HB6:=zL8 (HB5.out.trans (hb.mono HB5.out.size))
 have ha:=(hb.block r (zMG.1 HA5.out).1).trans HA5.out
 have HA6:=zL8 ha
 clear hb HM HB5 HV5 ha
 by_cases he:er=0
 ·subst he
  have c1:w6.cell? ⟨r,1,none⟩=some .nilIface:=zMN _ _ 1 _ _ (0,0) HA6.out
  have f1:=zAm HA6.out 1
  have rl:=zMf _ _ c1
  go_wp2_with fail
  go_ret2
  exact⟨⟨_,_,rfl⟩,HB6.out.setCell (p:=⟨r,1,none⟩) HRW.out _⟩
 ·have hne:(er !=0)=true:=by rw[bne_iff_ne];exact he
  clear he
  go_wp2_with fail
  go_ret2
  exact⟨⟨_,_,rfl⟩,HB6.out⟩
end
end
section
open Go.RowKit
section
variable {w w':World}
theorem zJu (w:World) {C:Array Value} {T:List Nat} (hC:C.toList=u8s T) (f:Nat × Nat):BtM (w.alloc (.cells C 5 f)) (some ⟨w.heap.size,0,none⟩) T:=fun _=>⟨w.heap.size,0,rfl,zAl _ _,fun i b hi=>by
 rw[zMN _ _ (0+i) _ _ f (zML w _),Nat.zero_add,←Array.getElem?_toList,hC]
 simp[u8s,hi]⟩
theorem StS.first {k:CK} {base:Nat} {mu:Bool} {oa:Option Addr} {m ca:Nat} (hm:MaS w k ⟨false,-1,0,0,0,false⟩ [] none) (hw:WlM w k.wb base mu oa m ca 0 0 0 (fun _=>none) []) (hb:k.wb<base) (hq:base≤k.qb):StS w k ⟨false,-1,0,0,0,false⟩ [] none base mu oa m ca 0 0 0 (fun _=>none) []:=
 ⟨hm,hw,hb,hq,fun x hx=>by obtain⟨i,_,e⟩:=hx;cases e⟩
theorem zDo:Calls Tryz.prog 18 #[] w fun e w'=>e= .returned (.bool true)∧Below w.heap.size w w':=by
 have hcv:=Lib.run_convert_bytes_const (P:=Tryz.prog) w 46 5 #[.int .u8 97,.int .u8 98] 2 2 Tryz.underlying46 Tryz.underlying5
 rw[show(#[Value.int .u8 97,.int .u8 98]:Array Value).size=2 from rfl]at hcv
 go_enter Tryz.func18,Tryz.ntmps18
 go_upto_region 2 with fail
 clear hcv
 have e1:(w.alloc (.cells #[.int .u8 97,.int .u8 98] 5 (2,3))).heap.size=w.heap.size+1:=by simp
 have h1: ∀j,(w.alloc (.cells #[.int .u8 97,.int .u8 98] 5 (2,3))).cell? ⟨w.heap.size,j,none⟩=(#[.int .u8 97,.int .u8 98]:Array Value)[j]?:=fun j=>zMN _ _ j _ _ (2,3) (zML w _)
 have b1:Below w.heap.size w (w.alloc (.cells #[.int .u8 97,.int .u8 98] 5 (2,3))):=(zL9 _ _).alloc (zMA _) _
 obtain⟨W1,hW1⟩: ∃V,w.alloc (.cells #[.int .u8 97,.int .u8 98] 5 (2,3))=V:=⟨_,rfl⟩
 rw[hW1]at e1 h1 b1 ⊢
 have h2:=zAL W1 #[.slice (some ⟨w.heap.size,0,none⟩) 2 2] 46 0
 have b2:Below W1.heap.size W1 (W1.alloc (.cells #[.slice (some ⟨w.heap.size,0,none⟩) 2 2] 46)):=(zL9 _ _).alloc (zMA _) _
 have e2:(W1.alloc (.cells #[.slice (some ⟨w.heap.size,0,none⟩) 2 2] 46)).heap.size=w.heap.size+1+1:=by simp[e1]
 obtain⟨W2,hW2⟩: ∃V,W1.alloc (.cells #[.slice (some ⟨w.heap.size,0,none⟩) 2 2] 46)=V:=⟨_,rfl⟩
 rw[hW2]at h2 b2 e2 ⊢
 rw[e1]at h2
 obtain⟨d,hd⟩: ∃d,w.heap.size=d:=⟨_,rfl⟩
 have HD:=zL8 hd
 rw[hd]at e1 e2 h1 h2 b1 ⊢
 have hwl:=WlM.anew W2 (d+3) false (some ⟨d+1,0,none⟩) 1 1
 have b3:Below W2.heap.size W2 (W2.alloc (.cells (zFP false (some ⟨d+1,0,none⟩) 1 1) 49)):=(zL9 _ _).alloc (zMA _) _
 have e3:(W2.alloc (.cells (zFP false (some ⟨d+1,0,none⟩) 1 1) 49)).heap.size=d+3:=by simp[e2]
 rw[e2]at hwl
 have hln:LnB (W2.alloc (.cells (zFP false (some ⟨d+1,0,none⟩) 1 1) 49)) (d+2) (some ⟨d+1,0,none⟩) [⟨some ⟨d,0,none⟩,2,[97,98]⟩]:=fun _=>⟨d+1,0,rfl,by omega,fun i l hl=>by
  obtain rfl:i=0:=by have:=(zMF.1 hl).1;simp at this;omega
  cases hl
  refine⟨(b3.cell (p:=⟨d+1,0,none⟩) (by show d+1<_;omega)).trans h2,(show 2≤140737488355328 by decide),fun _=>⟨d,0,rfl,by omega,fun j c hj=>?_⟩⟩
  refine(b3.cell (p:=⟨d,0+j,none⟩) (by show d<_;omega)).trans ((b2.cell (p:=⟨d,0+j,none⟩) (by show d<_;omega)).trans ((h1 (0+j)).trans ?_))
  rw[Nat.zero_add]
  have hj2:=(zMF.1 hj).1
  simp only[List.length_cons,List.length_nil]at hj2
  rcases(show j=0∨j=1 by omega)with rfl|rfl<;>cases hj<;>rfl⟩
 obtain⟨W3,hW3⟩: ∃V,W2.alloc (.cells (zFP false (some ⟨d+1,0,none⟩) 1 1) 49)=V:=⟨_,rfl⟩
 have bb:Below d w (W2.alloc (.cells (zFP false (some ⟨d+1,0,none⟩) 1 1) 49)):=(b1.trans (b2.mono (by omega))).trans (b3.mono (by omega))
 rw[hW3]at hwl hln e3 bb
 unfold zFP at hW3
 rw[hW3]
 have HWL:=zL8 hwl
 have HLN:=zL8 hln
 have HE3:=zL8 e3
 have HBB:=zL8 bb
 clear hW1 hW2 hW3 e1 h1 h2 b1 bb b2 e2 b3 e3 hwl hln hd
 have HPR:=zL8 (zFr (w:=W3))
 go_wp2_with fail
 refine HPR.out.mono ?_;rintro e w4 ⟨⟨nb,g,rfl,hr,hnb,hg⟩,hb4⟩
 have HNW:=zL8 (zHu (w:=w4) (nc:=1) (oc:=some ⟨nb,0,none⟩) (ot:=some ⟨g,0,none⟩) (cc:=1) (ct:=1) (l:=pcs) (.inr ⟨rfl,PcV.mine,nb,0,g,0,rfl,rfl,hr,hnb,hg⟩) (fun e=>by cases e) false (d+1+1))
 have HWL4:=zL8 (HWL.out.below hb4)
 have HLN4:Hid (LnB w4 (d+2) (some ⟨d+1,0,none⟩) [⟨some ⟨d,0,none⟩,2,[97,98]⟩]):=zL8 (HLN.out.below (hb4.mono (by have:=HE3.out;omega)))
 have HE4:Hid (d+3≤w4.heap.size):=zL8 (by have:=HE3.out;have:=hb4.size;omega)
 have HBB4:=zL8 (HBB.out.trans (hb4.mono (by have:=HE3.out;omega)))
 clear hr hnb hg hb4 HPR HWL HLN HE3
 go_wp2_with fail
 refine HNW.out.mono ?_;rintro e w5 ⟨⟨k,rfl,hma,hkw,hkn,hkq,hkb⟩,hb5⟩
 have hwl5:=HWL4.out.below hb5
 rw[show d+1+1=k.wb by rw[hkw]]at hwl5
 have HST:=zL8 (StS.first hma hwl5 (by omega) (by have:=HE4.out;omega))
 have HLN5:=zL8 (HLN4.out.below (hb5.mono (by have:=HE4.out;omega)))
 have HMA:=zL8 hma
 have HK:=zL8 (And.intro hkw (And.intro hkn hkq))
 have HAT:=zL8 (zIu hma)
 have HBB5:=zL8 (HBB4.out.trans (hb5.mono (by have:=HE4.out;omega)))
 clear hma hkw hkn hkq hkb hb5 hwl5 HNW HWL4 HLN4 HE4
 go_wp2_with fail
 refine HAT.out.mono ?_;rintro e wq ⟨rfl,hwq⟩
 subst hwq
 go_wp2_with fail
 have HW0:Hid (WkR w5 k (d+3) (some ⟨d+1,0,none⟩) 0):=zL8 ⟨_,_,_,_,_,_,_,_,HST.out,rfl,by decide,by decide,by decide,.inl ⟨rfl,rfl,rfl,rfl,rfl⟩⟩
 clear HAT HST HMA
 go_loopg [0,4] 5 (fun gk rv iv wr=>rv= .bool false∧ ∃i:Nat,iv= .int .i64 (i:Nat)∧gk=5 - i∧i≤4∧WkR wr k (d+3) (some ⟨d+1,0,none⟩) i∧Below (d+2) w5 wr)
 case atStart=>exact⟨rfl,0,rfl,rfl,by decide,HW0.out,zL9 _ _⟩
 case round=>
 obtain⟨rfl,i,rfl,hgk,hi4,hwk,hbw⟩:=hrel
 have HGK:=zL8 hgk
 have HWK:=zL8 hwk
 have HBW:=zL8 hbw
 clear hgk hwk hbw
 by_cases hi:i<4
 ·have hi':(i:Int)<4:=by omega
  have HSTP:=zL8 (zJ2 HWK.out hi HK.out.2.1 HK.out.2.2 (by have:=HK.out.1;omega) (HLN5.out.below HBW.out) rfl)
  clear hi4
  go_wp2_with fail
  refine HSTP.out.mono ?_;rintro e w6 ⟨rfl,hwk6,hb6⟩
  have HWK6:=zL8 hwk6
  have HB6:=zL8 (HBW.out.trans hb6)
  clear hwk6 hb6 HSTP
  go_wp2_with fail
  go_roundg (5 - (i+1))
  case measure=>have:=HGK.out;omega
  case rel=>exact⟨rfl,i+1,by go_num,rfl,by omega,HWK6.out,HB6.out⟩
 obtain rfl:i=4:=by omega
 clear hi hi4
 obtain⟨s,T,pk,n,u,z,O,A,hs,_,_,_,_,hc⟩:=HWK.out
 obtain⟨hp,rfl,rfl,hst,rfl⟩:s.pl= -2∧n=1∧A=[97,98,10,97,98,10]∧s.st=1∧T=[97,98]:=by
  rcases hc with ⟨h,_⟩|⟨h,_⟩|⟨h,_⟩|⟨h,_⟩|⟨_,h⟩
  ·cases h
  ·cases h
  ·cases h
  ·cases h
  ·exact h
 clear hc
 have HBR:=zL8 (HBB5.out.trans (HBW.out.mono (by omega)))
 have HDR:Hid (d≤wr.heap.size):=zL8 (by have:=hs.wl.lt;have:=HK.out.1;omega)
 have HS:=zL8 hs
 have hat:=zIu hs.ma
 rw[hp]at hat
 have HAT:=zL8 hat
 have hsc:=zGo hs.ma
 rw[hst]at hsc
 have HSC:=zL8 hsc
 obtain⟨v19,k19,cs19,q1,q2,q3,q4,_⟩:=hs.wl.rows 19 (by simp[zBW])
 obtain⟨rfl,rfl⟩:=q4 rfl
 obtain⟨oA,cA,rfl⟩:=zAI q2
 rw[HK.out.1]at q1
 have HQ1:=zL8 q1
 have HQ2:=zL8 q2
 clear hs hat hsc q2 q3 q4 hp hst
 have hbl:d+1+1<wr.heap.size:=by have:=HS.out.wl.lt;have:=HK.out.1;omega
 have hcv:=Lib.run_convert_bytes_const (P:=Tryz.prog) wr 46 5 #[.int .u8 97,.int .u8 98,.int .u8 10,.int .u8 97,.int .u8 98,.int .u8 10] 6 6 Tryz.underlying46 Tryz.underlying5
 rw[show(#[Value.int .u8 97,.int .u8 98,.int .u8 10,.int .u8 97,.int .u8 98,.int .u8 10]:Array Value).size=6 from rfl]at hcv
 go_wp2_with fail
 refine HAT.out.mono ?_;rintro e wq ⟨rfl,hwq⟩
 subst hwq
 go_wp2_with fail
 refine HSC.out.mono ?_;rintro e wq ⟨rfl,hwq⟩
 subst hwq
 replace q1:wr.cell? ⟨d+1+1,19,none⟩=some (.slice oA 6 cA):=q1
 have hba:Below wr.heap.size wr (wr.alloc (.cells #[.int .u8 97,.int .u8 98,.int .u8 10,.int .u8 97,.int .u8 98,.int .u8 10] 5 (6,7))):=(zL9 _ _).alloc (zMA _) _
 have HEQ:=zL8 (zGa (ca:=cA) (cb:=6) (T:=[97,98,10,97,98,10]) ((BtM.of_src (Src.own HQ2.out)).below hba) (zJu wr (C:= #[.int .u8 97,.int .u8 98,.int .u8 10,.int .u8 97,.int .u8 98,.int .u8 10]) rfl (6,7)) (by decide))
 have HSA:=zL8 (HS.out.ma.below hba)
 clear hba HQ1 HQ2 HS HAT HSC HWK HBW HGK
 go_wp2_with fail
 refine HEQ.out.mono ?_;rintro e w8 ⟨rfl,hb8⟩
 have hba8:Below wr.heap.size wr (wr.alloc (.cells #[.int .u8 97,.int .u8 98,.int .u8 10,.int .u8 97,.int .u8 98,.int .u8 10] 5 (6,7))):=(zL9 _ _).alloc (zMA _) _
 have HB8:=zL8 ((HBR.out.trans (hba8.mono HDR.out)).trans (hb8.mono (zMV HDR.out hba8.size)))
 have HD8:Hid (d≤w8.heap.size):=zL8 (zMV HDR.out (zMV hba8.size hb8.size))
 clear hba8
 have hma8:=HSA.out.below hb8
 have HMP:=zL8 (zEK hma8)
 clear hcv q1 hbl hb8 hma8 HEQ HSA
 go_wp2_with fail
 refine HMP.out.mono ?_;rintro e w9 ⟨⟨v,rfl,hv⟩,hb9⟩
 obtain⟨o9,k9,rfl⟩:=zAI hv
 have hcv:=Lib.run_convert_bytes_const (P:=Tryz.prog) w9 46 5 #[.int .u8 97,.int .u8 98] 2 2 Tryz.underlying46 Tryz.underlying5
 rw[show(#[Value.int .u8 97,.int .u8 98]:Array Value).size=2 from rfl]at hcv
 have hba:Below w9.heap.size w9 (w9.alloc (.cells #[.int .u8 97,.int .u8 98] 5 (2,3))):=(zL9 _ _).alloc (zMA _) _
 have HEQ:=zL8 (zGa (ca:=k9) (cb:=2) (T:=[97,98]) ((BtM.of_src (Src.own hv)).below hba) (zJu w9 (C:= #[.int .u8 97,.int .u8 98]) rfl (2,3)) (by decide))
 have HB9:=zL8 ((HB8.out.trans (hb9.mono HD8.out)).trans (hba.mono (zMV HD8.out hb9.size)))
 have HD9:Hid (d≤(w9.alloc (.cells #[.int .u8 97,.int .u8 98] 5 (2,3))).heap.size):=zL8 (zMV HD8.out (zMV hb9.size hba.size))
 clear hba hv hb9 HMP
 go_wp2_with fail
 refine HEQ.out.mono ?_;rintro e w10 ⟨rfl,hb10⟩
 have HB10:=zL8 (HB9.out.trans (hb10.mono HD9.out))
 clear hb10
 go_wp2_with fail
 go_ret
 exact⟨rfl,HD.out.symm▸HB10.out⟩
end
end
end Go.Proofs.YtfcemodgopdkkaaGreatDoor
