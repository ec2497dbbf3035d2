/- Parts: Ik. -/
import Derived.Test.YtfjbnpdffillbaaGreatDoorQ27
import Derived.ChangeSlices
import Derived.Lib.SmallJoins
import Derived.SizedLaws
import Derived.OpenShut
namespace Go.Proofs.YtfjbnpdffillbaaGreatDoor
open Go.ChangeShapes Go.WideShapes Go.ChangeAt Go.RowKit Go.Joins Go.WideMaps Go.WideElems Go.Deep
section
variable {H:Type} {enc:TypeId × Value→H} {w:World} {spare:Nat→Bool} {held:Bool} {base:Nat}
set_option maxRecDepth 100000 in
theorem read_addr {v:Value} {d:DataW H} {p:List MemPlace} {b0:Nat} {r:Reach} (hv:Value.okWide Tryz.prog w r b0 54 v) (h:DataW.Trod enc Tryz.prog w 0 spare held 54 v d p):
  ∃(k n:Int) (oa:Option Addr) (ca:Nat) (re:List Nd),v= .agg #[.int .i8 k,.int .i64 n,.slice oa re.length ca]∧ -128≤k∧k≤127∧NdW w oa ca re∧
   (re.length=0∨ ∃el sp x y,d= .agg [x,y,.slice el sp]∧el.length=re.length):=by
 obtain⟨c0,c1,c2,y0,y1,y2,m,rfl,rfl,hp,g0,g1,g2⟩:=open_agg3 Tryz.underlying54 (by kernel_rfl) (by kernel_rfl) hv h
 obtain⟨k,hc0,_,w0⟩:=DataW.trod_int Tryz.underlying51 g0
 obtain⟨n,hc1,_,w1⟩:=DataW.trod_int Tryz.underlying3 g1
 simp only[List.cons.injEq,and_true]at hc0 hc1
 subst hc0 hc1
 have hform: ∃oa len ca,c2= .slice oa len ca:=by
  rcases open_slice Tryz.underlying52 g2 with ⟨h0,_⟩|⟨a,len2,cap2,m,n',D,Pl,hcs,_⟩
  ·simp only[List.cons.injEq,and_true]at h0;exact⟨_,_,_,h0⟩
  ·simp only[List.cons.injEq,and_true]at hcs;exact⟨_,_,_,hcs⟩
 obtain⟨oa,len,ca,rfl⟩:=hform
 obtain⟨re,hl,hm,hs⟩:=read_nodes (d:=y2.1) (p:=y2.2) Tryz.underlying52 ⟨m,g2⟩ rfl
 subst hl
 have hb:=bounds_i8 w0
 refine⟨k,n,oa,ca,re,rfl,hb.1,hb.2,hm,?_⟩
 rcases hs with hs|⟨el,sp,h1,h2⟩
 ·exact .inl hs
 ·exact .inr ⟨el,sp,y0.1,y1.1,by rw[h1],h2⟩
end
end Go.Proofs.YtfjbnpdffillbaaGreatDoor
