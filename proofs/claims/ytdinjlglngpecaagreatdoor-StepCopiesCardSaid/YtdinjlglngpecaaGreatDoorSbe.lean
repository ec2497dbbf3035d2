/- bytes.Clone. Copied out of Fg by pick.py. No condition. -/
import Derived.Test.YtdinjlglngpecaaGreatDoorSbb
import Derived.Test.YtdinjlglngpecaaGreatDoorChecked
import Derived.Shelf.Bytes.SlClone
namespace Go.Proofs.YtdinjlglngpecaaGreatDoor
open Go.RowKit Go.Shelf

def bcRen : Go.Shelf.Ren := ⟨fun | 4 => 62 | n => n, fun | 4 => 4 | 22 => 33 | 5 => 5 | n => n, fun | n => n⟩
theorem bcLays : SlLaysK.n4 Tryz.prog bcRen := {
  mixed := by kernel_rfl
  f4 := Tryz.func62.trans (congrArg some (by kernel_rfl))
  t4 := Tryz.underlying4
  a4 := Tryz.isAgg4
  z4 := Tryz.sizeOf4
  v4 := Tryz.zeroValue4
  t22 := Tryz.underlying33
  a22 := Tryz.isAgg33
  z22 := Tryz.sizeOf33
  v22 := Tryz.zeroValue33
  t5 := Tryz.underlying5
  i5 := by kernel_rfl }
theorem clone_call {w : World} {oa : Option Addr} {cap : Nat} {T : List Nat} (h : TxIn w oa T) (hl : T.length ≤ 4294967296) (hs : ∀ g o s, oa ≠ some ⟨g, o, some s⟩) :
    Calls Tryz.prog 62 #[.slice oa T.length cap] w fun e w' => ∃ v, e = .returned v ∧ w'.ownsRow w.heap.size 5 1 v T.length (u8s T) ∧ Below w.heap.size w w' := by
  cases oa with
  | none =>
    have h0 : T = [] := by
      rcases T with _ | ⟨x, l⟩
      · rfl
      · obtain ⟨g, o, h1, _⟩ := h (by simp)
        cases h1
    subst h0
    refine (Any.bytes_Clone_nil bcLays _ _ w).mono ?_
    rintro e w' ⟨rfl, rfl⟩
    exact ⟨_, rfl, World.ownsRow_nil _ _ _ _, Below.refl _ _⟩
  | some a =>
    refine (Any.bytes_Clone_at bcLays a T.length cap (T.map fun b : Nat => (b : Int)) w (by simp) (by omega) ?_).mono ?_
    · intro i hi
      obtain ⟨g, o, h1, h2⟩ := h (by omega)
      injection h1 with h1
      subst h1
      rw [add_none, h2 i hi]
      simp [List.getD_eq_getElem?_getD, hi]
    · rintro e w' ⟨v, rfl, h1, _, h3⟩
      have h1' : w'.ownsRow w.heap.size 5 1 v T.length ((T.map fun b : Nat => (b : Int)).map (Value.int .u8)) := h1
      rw [List.map_map] at h1'
      exact ⟨v, rfl, h1', h3⟩
end Go.Proofs.YtdinjlglngpecaaGreatDoor
