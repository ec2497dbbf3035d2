/- Parts: Wc. -/
import Derived.Test.YtbdjcmhfcdamiaaGreatDoorQ2
import Derived.Test.YtbdjcmhfcdamiaaGreatDoorQ3
import Derived.Deep.DeepCutAuto
import Derived.Deep.RegionHeld3
/- Contract of class.Named. -/
namespace Go.Proofs.YtbdjcmhfcdamiaaGreatDoor
open Go.RowKit

/-- A block of four words. -/
def clsAt (w : World) (B : Nat) (c : Cls) : Prop := w.heap[B]? = some (.cells (clsCells c) 37 (0, 0))
theorem clsAt.lt {w : World} {B : Nat} {c : Cls} (h : clsAt w B c) : B < w.heap.size := (Array.getElem?_eq_some_iff.1 h).1
theorem clsAt.below {w w' : World} {B : Nat} {c : Cls} (h : clsAt w B c) (hb : Below w.heap.size w w') : clsAt w' B c := (hb.block B h.lt).trans h
theorem clsAt.cells {w : World} {B : Nat} {c : Cls} (h : clsAt w B c) :
    w.cell? ⟨B, 0, none⟩ = some (.int .u64 c.w0.toNat) ∧ w.cell? ⟨B, 1, none⟩ = some (.int .u64 c.w1.toNat) ∧ w.cell? ⟨B, 2, none⟩ = some (.int .u64 c.w2.toNat) ∧ w.cell? ⟨B, 3, none⟩ = some (.int .u64 c.w3.toNat) :=
  ⟨cell_cls h 0 (by omega), cell_cls h 1 (by omega), cell_cls h 2 (by omega), cell_cls h 3 (by omega)⟩

/-- Four words stored. -/
abbrev store4 (w : World) (B : Nat) (d : Cls) : World :=
  (((w.setCell ⟨B, 0, none⟩ (.int .u64 d.w0.toNat)).setCell ⟨B, 1, none⟩ (.int .u64 d.w1.toNat)).setCell ⟨B, 2, none⟩ (.int .u64 d.w2.toNat)).setCell ⟨B, 3, none⟩ (.int .u64 d.w3.toNat)
theorem store4_cls {w : World} {B : Nat} {c : Cls} (h : clsAt w B c) (d : Cls) : clsAt (store4 w B d) B d :=
  set_cls (set_cls (set_cls (set_cls h 0 (by omega) d.w0) 1 (by omega) d.w1) 2 (by omega) d.w2) 3 (by omega) d.w3
theorem store4_below {w : World} {B k : Nat} (h : k ≤ B) (d : Cls) : Below k w (store4 w B d) :=
  ((((Below.refl k w).setCell (p := ⟨B, 0, none⟩) h _).setCell (p := ⟨B, 1, none⟩) h _).setCell (p := ⟨B, 2, none⟩) h _).setCell (p := ⟨B, 3, none⟩) h _

end Go.Proofs.YtbdjcmhfcdamiaaGreatDoor
