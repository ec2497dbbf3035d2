/- Parts: Fj. -/
import Derived.Test.YtmaagpbjahjmhaaGreatDoorQ7
import Derived.Test.YtmaagpbjahjmhaaGreatDoorQ1
import Derived.Test.YtmaagpbjahjmhaaGreatDoorQ25
set_option maxHeartbeats 6400000
set_option maxRecDepth 100000
namespace Go.Proofs.YtmaagpbjahjmhaaGreatDoor
open Go.RowKit
section
variable {w:World} {wb:Nat} {oa:Option Addr} {cap:Nat} {T:List Nat} {i:Nat}
def zQN (wb:Nat) (oa:Option Addr) (cap:Nat) (T:List Nat) (i base:Nat) (o:Option (List Mk × Nat)) (e:Ending) (w':World):Prop:=
 match o with
 |none=>e= .returned (.tuple #[.slice none 0 0,.int .i64 70])∧WdS w' wb oa cap T i
 |some (l,j)=> ∃v,e= .returned (.tuple #[v,.int .i64 0])∧Mks w' base v l∧WdS w' wb oa cap T j
theorem zDa {d:Nat} {ends:Bool} {n j:Nat} {acc:List Mk} (h:T.length≤j):zBu T d ends n j acc=none:=by
 cases n with
 |zero=>rfl
 |succ n=>rw[zBu,if_pos h]
theorem zGU {d:Nat} {ends:Bool} {j:Nat} {acc:List Mk} (hj:j<T.length) (hd:T.getD j 0=d):zBu T d ends (T.length - j) j acc=some (acc,j+1):=by
 rw[show T.length - j=(T.length - (j+1))+1 by omega,zBu,if_neg (by omega),if_pos hd]
theorem zHR {d:Nat} {ends:Bool} {j:Nat} {acc:List Mk} (hj:j<T.length) (hd: ¬T.getD j 0=d) (h10:T.getD j 0=10):zBu T d ends (T.length - j) j acc=none:=by
 rw[show T.length - j=(T.length - (j+1))+1 by omega,zBu,if_neg (by omega),if_neg hd,if_pos h10]
theorem zGT {d:Nat} {ends:Bool} {j:Nat} {acc:List Mk} (hj:j<T.length) (hd: ¬T.getD j 0=d) (h10: ¬T.getD j 0=10) (h92: ¬T.getD j 0=92):
  zBu T d ends (T.length - j) j acc=zBu T d ends (T.length - (j+1)) (j+1) (acc++[⟨T.getD j 0,false⟩]):=by
 rw[show T.length - j=(T.length - (j+1))+1 by omega,zBu,if_neg (by omega),if_neg hd,if_neg h10,if_neg h92]
theorem zHS {d:Nat} {ends:Bool} {j:Nat} {acc:List Mk} (_:j<T.length) (hd: ¬T.getD j 0=d) (h92:T.getD j 0=92) (hl:j+1=T.length):zBu T d ends (T.length - j) j acc=none:=by
 rw[show T.length - j=(T.length - (j+1))+1 by omega,zBu,if_neg (by omega),if_neg hd,if_neg (by omega),if_pos h92,if_pos (by omega)]
theorem zHQ {d:Nat} {j:Nat} {acc:List Mk} (_:j<T.length) (hd: ¬T.getD j 0=d) (h92:T.getD j 0=92) (hl:j+1<T.length) (h:T.getD (j+1) 0=10):zBu T d false (T.length - j) j acc=none:=by
 rw[show T.length - j=(T.length - (j+1))+1 by omega,zBu,if_neg (by omega),if_neg hd,if_neg (by omega),if_pos h92,if_neg (by omega),if_pos ⟨h,rfl⟩]
theorem zE1 {d:Nat} {ends:Bool} : ∀(n m j:Nat) (acc:List Mk),T.length≤j+n→T.length≤j+m→zBu T d ends n j acc=zBu T d ends m j acc
 |0,m,j,acc,h,_=>by rw[zDa (by omega),zDa (by omega)]
 |n+1,0,j,acc,_,h=>by rw[zDa (by omega),zDa (by omega)]
 |n+1,m+1,j,acc,h1,h2=>by
  unfold zBu
  rw[zE1 n m (j+2) _ (by omega) (by omega),zE1 n m (j+1) _ (by omega) (by omega)]
theorem zII {d:Nat} {ends:Bool} {j:Nat} {acc:List Mk} (_:j<T.length) (hd: ¬T.getD j 0=d) (h92:T.getD j 0=92) (hl:j+1<T.length) (h: ¬(T.getD (j+1) 0=10∧ends=false)):
  zBu T d ends (T.length - j) j acc=zBu T d ends (T.length - (j+2)) (j+2) (acc++(if T.getD (j+1) 0=d then [⟨d,true⟩]else [⟨92,false⟩,⟨T.getD (j+1) 0,false⟩])):=by
 rw[show T.length - j=(T.length - (j+1))+1 by omega,zBu,if_neg (by omega),if_neg hd,if_neg (by omega),if_pos h92,if_neg (by omega),if_neg h]
 exact zE1 _ _ _ _ (by omega) (by omega)
theorem zDm (hv:WdS w wb oa cap T i) {d:Nat} (hd:d<256) (ends:Bool):
  Calls Tryz.prog 178 #[.pointer (some ⟨wb,0,none⟩),.int .u8 (d:Nat),.bool ends] w fun e w'=>zQN wb oa cap T i w.heap.size (zBf T d ends i) e w'∧zBU w.heap.size wb w w':=by
 have HV:=zQr hv
 have c0:=hv.c0
 have c1:=hv.c1
 have c2:=hv.c2
 have lt:=hv.lt
 have hlen:=hv.len
 have hat:=hv.at_
 clear hv
 by_cases h92:d=92
 ·have HP:Hid (zBf T d ends i=none):=zQr (by unfold zBf;rw[if_pos (.inl h92)])
  subst h92
  go_enter Tryz.func178,Tryz.ntmps178
  go_wp2_with fail
  refine(zA4 c2).mono ?_;rintro e w1 ⟨rfl,rfl⟩
  go_wp2_with fail
  go_ret2
  exact⟨by rw[HP.out];exact⟨rfl,HV.out⟩,zBU.refl _ _ _⟩
 by_cases h10:d=10
 ·have HP:Hid (zBf T d ends i=none):=zQr (by unfold zBf;rw[if_pos (.inr h10)])
  subst h10
  go_enter Tryz.func178,Tryz.ntmps178
  go_wp2_with fail
  refine(zA4 c2).mono ?_;rintro e w1 ⟨rfl,rfl⟩
  go_wp2_with fail
  go_ret2
  exact⟨by rw[HP.out];exact⟨rfl,HV.out⟩,zBU.refl _ _ _⟩
 have q92:((d:Int)==92)=false:=zQx.2 (by omega)
 have q10:((d:Int)==10)=false:=zQx.2 (by omega)
 obtain⟨r,hr⟩: ∃r,zBf T d ends i=r:=⟨_,rfl⟩
 rw[hr]
 have HR:Hid (zBu T d ends (T.length - i) i []=r):=zQr (by rw[←hr];unfold zBf;rw[if_neg (by omega)])
 have H92:=zQr h92
 have H10:=zQr h10
 clear hr h92 h10
 go_enter Tryz.func178,Tryz.ntmps178
 go_wp2_with fail
 refine(zA4 c2).mono ?_;rintro e w1 ⟨rfl,rfl⟩
 go_wp2_with fail
 go_loopg [8,9] (T.length - i) (fun n lv iv wr=> ∃(j:Nat) (acc:List Mk),iv= .int .i64 (j:Nat)∧n=T.length - j∧i≤j∧j≤T.length∧acc.length≤j∧Hid (zBu T d ends (T.length - j) j acc=r)∧Mks wr w.heap.size lv acc∧Below w.heap.size w wr)
 case atStart=>exact⟨i,[],rfl,rfl,zQt _,hat,Nat.zero_le _,HR.out,Mks.nil _ _,zQs _ _⟩
 case round=>
  obtain⟨j,acc,rfl,hg,hij,hjl,hal,hn,hm,hb⟩:=hrel
  have HG:=zQr hg
  have HN:=zQr hn.out
  have HM:=zQr hm
  have HB:=zQr hb
  have HW:=zQr (HV.out.below hb)
  have hBs:=hb.size
  have k0:=HW.out.c0
  have kl:=HW.out.lt
  clear hg hn hm hb c0 c1 c2
  by_cases hlt:j<T.length
  ·have hlt':(j:Int)<(T.length:Int):=by omega
   obtain⟨g,hoa,hgw,hgl,hc⟩:=HW.out.tx (by omega)
   subst hoa
   obtain⟨b,hbe⟩: ∃b,T.getD j 0=b:=⟨_,rfl⟩
   have hx:=hc j hlt
   rw[hbe]at hx
   have HC:=zQr hc
   have HBE:=zQr hbe
   have hb256:b<256:=by have:=HW.out.u j;omega
   clear hc hbe
   by_cases hbd:b=d
   ·have HNX:=zQr ((zGU (acc:=acc) (ends:=ends) hlt (HBE.out.trans hbd)).symm.trans HN.out)
    have k1: ∃z,wr.cell? ⟨wb,1,none⟩=some z:=⟨_,HW.out.c1⟩
    have f1:=HW.out.fz 1
    have qd:((b:Int)==(d:Int))=true:=by rw[hbd];exact beq_self_eq_true _
    clear hbd
    obtain⟨z,k1⟩:=k1
    go_wp2_with fail
    go_ret2
    refine⟨?_,((zBU.refl w.heap.size wb w).below HB.out (zQt _)).store (.inl rfl) _ _⟩
    rw[←HNX.out]
    refine⟨_,rfl,HM.out.block fun g hg=>zQ1 _ _ _ _ (by have:=(HM.out.lt g hg).1;show g≠wb;omega),HW.out.setAt (by omega) (by go_num)⟩
   have qd:((b:Int)==(d:Int))=false:=zQx.2 (by omega)
   have HBD:=zQr hbd
   clear hbd
   by_cases hb10:b=10
   ·have HNX:=zQr ((zHR (acc:=acc) (ends:=ends) hlt (HBE.out▸HBD.out) (HBE.out.trans hb10)).symm.trans HN.out)
    have q1:((b:Int)==10)=true:=by rw[hb10];rfl
    clear hb10
    go_wp2_with fail
    go_ret2
    refine⟨?_,(zBU.refl w.heap.size wb w).below HB.out (zQt _)⟩
    rw[←HNX.out]
    exact⟨rfl,HV.out.below HB.out⟩
   have q1:((b:Int)==10)=false:=zQx.2 (by omega)
   have HB10:=zQr hb10
   clear hb10
   by_cases hb92:b=92
   ·have q2:((b:Int)==92)=true:=by rw[hb92];rfl
    have HB92:=zQr hb92
    clear hb92
    by_cases hjn:j+1=T.length
    ·have HNX:=zQr ((zHS (acc:=acc) (ends:=ends) hlt (HBE.out▸HBD.out) (HBE.out.trans HB92.out) hjn).symm.trans HN.out)
     have hjn':(j:Int)+1=(T.length:Int):=by omega
     clear hjn
     go_wp2_with fail
     go_ret2
     refine⟨?_,(zBU.refl w.heap.size wb w).below HB.out (zQt _)⟩
     rw[←HNX.out]
     exact⟨rfl,HV.out.below HB.out⟩
    have hjn': ¬(j:Int)+1=(T.length:Int):=by omega
    have hjl':(j:Int)+1<(T.length:Int):=by omega
    obtain⟨x,hxe⟩: ∃x,T.getD (j+1) 0=x:=⟨_,rfl⟩
    have hy:=HC.out (j+1) (by omega)
    rw[hxe]at hy
    have HXE:=zQr hxe
    have hx256:x<256:=by have:=HW.out.u (j+1);omega
    have HJN:Hid (j+1<T.length):=zQr (by omega)
    clear hxe
    by_cases hw:x=10∧ends=false
    ·obtain⟨rfl,rfl⟩:=hw
     have HNX:=zQr ((zHQ (acc:=acc) hlt (HBE.out▸HBD.out) (HBE.out.trans HB92.out) HJN.out HXE.out).symm.trans HN.out)
     go_wp2_with fail
     go_ret2
     refine⟨?_,(zBU.refl w.heap.size wb w).below HB.out (zQt _)⟩
     rw[←HNX.out]
     exact⟨rfl,HV.out.below HB.out⟩
    have HTW:=zQr ((zII (acc:=acc) hlt (HBE.out▸HBD.out) (HBE.out.trans HB92.out) HJN.out (HXE.out.symm▸hw)).symm.trans HN.out)
    rw[HXE.out]at HTW
    have HWR:=zQr hw
    clear hw
    by_cases hxd:x=d
    ·have q3:((x:Int)==10)=false:=zQx.2 (by have:=H10.out;omega)
     have q4:((x:Int)==(d:Int))=true:=by rw[hxd];exact beq_self_eq_true _
     have HNX:=zQr HTW.out
     rw[if_pos hxd]at HNX
     clear hxd
     have HM1:=zQr (HM.out.below ((zQs wr.heap.size wr).alloc (zQt _) (.cells #[.int .u8 (d:Nat),.bool true] 166)))
     go_wp2_with (at_builtin;refine zDn rfl _ _ rfl w.heap.size rfl HM1.out (ys:=[⟨d,true⟩]) rfl (Src.new wr (zF8 [⟨d,true⟩]) _ _ _) (by simp;omega) (by simp;omega) ?_)
     intro v1 w2 hm2 hgr2 hblk2
     have HM2:=zQr hm2
     have HB2:=zQr ((HB.out.alloc HB.out.size (.cells #[.int .u8 (d:Nat),.bool true] 166)).grown hgr2 (by simp;omega) (fun k hk=>(HM1.out.lt k hk).1))
     clear hm2 hgr2 hblk2
     go_wp2_with fail
     go_roundg (T.length - (j+2))
     case measure=>have:=HG.out;omega
     case rel=>exact⟨j+2,_,by go_num,rfl,by omega,by have:=HJN.out;omega,by simp;omega,HNX.out,HM2.out,HB2.out⟩
    have q4:((x:Int)==(d:Int))=false:=zQx.2 (by omega)
    have HNX:=zQr HTW.out
    rw[if_neg hxd]at HNX
    have HB92':=HB92.out
    clear hxd
    subst HB92'
    by_cases hx10:x=10
    ·have q3:((x:Int)==10)=true:=by rw[hx10];rfl
     cases ends with
     |false=>exact absurd ⟨hx10,rfl⟩ HWR.out
     |true=>
     clear hx10
     have HM1:=zQr (HM.out.below ((zQs wr.heap.size wr).alloc (zQt _) (.cells #[.int .u8 92,.bool false,.int .u8 (x:Nat),.bool false] 166)))
     go_wp2_with (at_builtin;refine zDn rfl _ _ rfl w.heap.size rfl HM1.out (ys:=[⟨92,false⟩,⟨x,false⟩]) rfl (Src.new wr (zF8 [⟨92,false⟩,⟨x,false⟩]) _ _ _) (by simp;omega) (by simp;omega) ?_)
     intro v1 w2 hm2 hgr2 hblk2
     have HM2:=zQr hm2
     have HB2:=zQr ((HB.out.alloc HB.out.size (.cells #[.int .u8 92,.bool false,.int .u8 (x:Nat),.bool false] 166)).grown hgr2 (by simp;omega) (fun k hk=>(HM1.out.lt k hk).1))
     clear hm2 hgr2 hblk2
     go_wp2_with fail
     go_roundg (T.length - (j+2))
     case measure=>have:=HG.out;omega
     case rel=>exact⟨j+2,_,by go_num,rfl,by omega,by have:=HJN.out;omega,by simp;omega,HNX.out,HM2.out,HB2.out⟩
    ·have q3:((x:Int)==10)=false:=zQx.2 (by omega)
     clear hx10
     have HM1:=zQr (HM.out.below ((zQs wr.heap.size wr).alloc (zQt _) (.cells #[.int .u8 92,.bool false,.int .u8 (x:Nat),.bool false] 166)))
     go_wp2_with (at_builtin;refine zDn rfl _ _ rfl w.heap.size rfl HM1.out (ys:=[⟨92,false⟩,⟨x,false⟩]) rfl (Src.new wr (zF8 [⟨92,false⟩,⟨x,false⟩]) _ _ _) (by simp;omega) (by simp;omega) ?_)
     intro v1 w2 hm2 hgr2 hblk2
     have HM2:=zQr hm2
     have HB2:=zQr ((HB.out.alloc HB.out.size (.cells #[.int .u8 92,.bool false,.int .u8 (x:Nat),.bool false] 166)).grown hgr2 (by simp;omega) (fun k hk=>(HM1.out.lt k hk).1))
     clear hm2 hgr2 hblk2
     go_wp2_with fail
     go_roundg (T.length - (j+2))
     case measure=>have:=HG.out;omega
     case rel=>exact⟨j+2,_,by go_num,rfl,by omega,by have:=HJN.out;omega,by simp;omega,HNX.out,HM2.out,HB2.out⟩
   have q2:((b:Int)==92)=false:=zQx.2 (by omega)
   have HNX:=zQr ((zGT (acc:=acc) (ends:=ends) hlt (HBE.out▸HBD.out) (HBE.out▸HB10.out) (HBE.out▸hb92)).symm.trans HN.out)
   rw[HBE.out]at HNX
   clear hb92
   have HM1:=zQr (HM.out.below ((zQs wr.heap.size wr).alloc (zQt _) (.cells #[.int .u8 (b:Nat),.bool false] 166)))
   go_wp2_with (at_builtin;refine zDn rfl _ _ rfl w.heap.size rfl HM1.out (ys:=[⟨b,false⟩]) rfl (Src.new wr (zF8 [⟨b,false⟩]) _ _ _) (by simp;omega) (by simp;omega) ?_)
   intro v1 w2 hm2 hgr2 hblk2
   have HM2:=zQr hm2
   have HB2:=zQr ((HB.out.alloc HB.out.size (.cells #[.int .u8 (b:Nat),.bool false] 166)).grown hgr2 (by simp;omega) (fun k hk=>(HM1.out.lt k hk).1))
   clear hm2 hgr2 hblk2
   go_wp2_with fail
   go_roundg (T.length - (j+1))
   case measure=>have:=HG.out;omega
   case rel=>exact⟨j+1,_,by go_num,rfl,by omega,by omega,by simp;omega,HNX.out,HM2.out,HB2.out⟩
  ·obtain rfl:j=T.length:=by omega
   have HNX:=zQr ((zDa (acc:=acc) (n:=T.length - T.length) (d:=d) (ends:=ends) (zQt _)).symm.trans HN.out)
   go_wp2_with fail
   go_ret2
   refine⟨?_,(zBU.refl w.heap.size wb w).below HB.out (zQt _)⟩
   rw[←HNX.out]
   exact⟨rfl,HV.out.below HB.out⟩
end
end Go.Proofs.YtmaagpbjahjmhaaGreatDoor
