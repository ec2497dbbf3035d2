/- Parts: Yq. -/
import Derived.Test.YtmaagpbjahjmhaaGreatDoorQ36
import Derived.Test.YtmaagpbjahjmhaaGreatDoorQ39
import Derived.Test.YtmaagpbjahjmhaaGreatDoorQ31
import Derived.Test.YtmaagpbjahjmhaaGreatDoorQ13
import Derived.Shelf.Abstract
set_option maxRecDepth 100000
namespace Go.Proofs.YtmaagpbjahjmhaaGreatDoor
open Go.RowKit Go.Shelf
section
variable {w w':World} {E:PE} {i j k n:Nat} {l:List Value} {base:Nat} {c:Cm}
theorem zIL {a b:Value} :Calls Tryz.prog 87 #[a,b] w fun e w'=>e= .returned (.tuple #[])∧w=w':=by
 go_enter Tryz.func87,Tryz.ntmps87
 go_wp2_with fail
 go_end0
 exact⟨rfl,rfl⟩
theorem zOx (h:RS E w i l) (hm:CmM w base l c) (hb:E.wb<base∧E.cb<base):Calls Tryz.prog 93 #[.pointer (some ⟨E.rb,0,none⟩),.pointer (some ⟨E.cb,0,none⟩)] w (HdO E w base (zGA E.T i c)):=by
 refine(zF0 h).mono fun e w' hr=>?_
 unfold zGA
 unfold zPW at hr
 simp only
 by_cases hq:(zHd E.T i).1≠0
 ·rw[if_pos hq]at hr ⊢
  exact hr
 ·rw[if_neg hq]at hr ⊢
  obtain⟨k1,rfl,h1⟩:=hr
  exact⟨rfl,k1,l,h1,hm.kept k1 (zOo hb)⟩
theorem zK9 (h:RS E w i l) (hm:CmM w base l c) (hc:c.re=[]) (hb:E.wb<base∧E.cb<base) (hbw:base≤w.heap.size):
  Calls Tryz.prog (zPV c.nm) #[.pointer (some ⟨E.rb,0,none⟩),.pointer (some ⟨E.cb,0,none⟩)] w (HdO E w base (zIv E.ere E.T i c)):=by
 unfold zPV zIv
 by_cases h1:c.nm=123
 ·rw[if_pos h1,if_pos h1]
  exact zIL.mono fun e w' ⟨he,hw⟩=>hw▸⟨he,zAU.refl _ _,l,h,hm⟩
 rw[if_neg h1,if_neg h1]
 by_cases h2:c.nm=115
 ·rw[if_pos h2,if_pos h2]
  exact zIH h hm hc hb hbw
 rw[if_neg h2,if_neg h2]
 by_cases h3:c.nm=121
 ·rw[if_pos h3,if_pos h3]
  exact zJS h hm hb hbw
 rw[if_neg h3,if_neg h3]
 by_cases h4:c.nm=58∨c.nm=98∨c.nm=116
 ·rw[if_pos h4,if_pos h4]
  exact zJU h hm hb hbw
 rw[if_neg h4,if_neg h4]
 by_cases h5:c.nm=114∨c.nm=119
 ·rw[if_pos h5,if_pos h5]
  exact zGo h hm hb hbw
 rw[if_neg h5,if_neg h5]
 by_cases h6:c.nm=97∨c.nm=99∨c.nm=105
 ·rw[if_pos h6,if_pos h6]
  exact zK6 h hm hb hbw
 rw[if_neg h6,if_neg h6]
 exact zOx h hm hb
theorem zMl (nm:Nat):Enters Tryz.prog (zPV nm):=by
 unfold zPV
 split
 ·exact enters_of Tryz.func87 (by kernel_rfl) rfl
 split
 ·exact enters_of Tryz.func91 (by kernel_rfl) rfl
 split
 ·exact enters_of Tryz.func92 (by kernel_rfl) rfl
 split
 ·exact enters_of Tryz.func88 (by kernel_rfl) rfl
 split
 ·exact enters_of Tryz.func89 (by kernel_rfl) rfl
 split
 ·exact enters_of Tryz.func90 (by kernel_rfl) rfl
 ·exact enters_of Tryz.func93 (by kernel_rfl) rfl
theorem zN5 {ere:Bool} {T:List Nat} {n:Nat} {r:Cm × Nat} (h:zEi ere T i n= .ok r):zCd r.1.nm≠none∧r.1.re=[]∧n<4096:=by
 unfold zEi at h
 cases h1:zI0 ere T i with
 |error e=>rw[h1]at h;cases h
 |ok a=>
  rw[h1]at h
  simp only at h
  cases h2:zL9 ere T a.1 a.2 with
  |error e=>rw[h2]at h;cases h
  |ok b=>
   rw[h2]at h
   simp only at h
   cases h3:zCd (T.getD (zIM T b.2.2).1 0)with
   |none=>rw[h3]at h;cases h
   |some most=>
    rw[h3]at h
    simp only at h
    split at h
    ·cases h
    ·split at h
     ·cases h
     ·cases h
      exact⟨fun e=>(by rw[h3]at e;cases e),rfl,by omega⟩
end
end Go.Proofs.YtmaagpbjahjmhaaGreatDoor
