/- Parts: Kya. -/
import Derived.Test.YtfjbnpdffillbaaGreatDoorQ31
namespace Go.Proofs.YtfjbnpdffillbaaGreatDoor
open Go.RowKit
theorem MkIn.made {W:World} {g:Nat} {L:List Mk} (h:W.heap[g]?=some (.cells (mksC L).toArray 131 (0,0))) (hl:L.length≤1073741824) (hu: ∀m∈L,m.b<256):MkIn W (some ⟨g,0,none⟩) L:=
 ⟨hl,fun _=>⟨g,0,rfl,(Array.getElem?_eq_some_iff.1 h).1,fun i m hi=>by
  have hc:=mksC_at L i (List.getElem?_eq_some_iff.1 hi).1
  have hm:markAt L i=m:=by unfold markAt;rw[List.getD_eq_getElem?_getD,hi];rfl
  rw[hm]at hc
  have hcell: ∀j u,(mksC L)[j]?=some u→W.cell? ⟨g,j,none⟩=some u:=fun j u hj=>by
   simp[World.cell?,h,hj]
  refine⟨?_,?_,hu m (List.mem_of_getElem? hi)⟩
  ·rw[Nat.zero_add];exact hcell _ _ hc.1
  ·rw[Nat.zero_add];exact hcell _ _ hc.2⟩⟩
theorem BtIn.made {W:World} {g:Nat} {L:List Nat} {fz:Nat × Nat} (h:W.heap[g]?=some (.cells (u8s L).toArray 5 fz)) (hl:L.length≤4294967296):BtIn W (some ⟨g,0,none⟩) L:=
 ⟨hl,fun _=>⟨g,0,rfl,(Array.getElem?_eq_some_iff.1 h).1,fun i b hi=>by
  rw[Nat.zero_add]
  simp[World.cell?,h,u8s,hi]⟩⟩
end Go.Proofs.YtfjbnpdffillbaaGreatDoor
