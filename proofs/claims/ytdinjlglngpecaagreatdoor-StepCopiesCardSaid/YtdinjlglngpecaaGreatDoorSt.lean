/- Contracts: queue.New, space.New, address.New; package step: table. No condition. -/
import Derived.Test.YtdinjlglngpecaaGreatDoorSi
namespace Go.Proofs.YtdinjlglngpecaaGreatDoor
open Go.RowKit

theorem elBoS : ElT Tryz.prog 117 4 1 1 (.bool false) := ⟨Tryz.underlying117, by kernel_rfl, rfl, by decide⟩
section
variable {w w' : World}
theorem new_lt (w : World) (o : Obj) : w.heap.size < (w.alloc o).heap.size := by simp
theorem new_cell (w : World) (cs : Array Value) (t : TypeId) (j : Nat) : (w.alloc (.cells cs t)).cell? ⟨w.heap.size, j, none⟩ = cs[j]? := cell_of_row _ _ j _ _ (0, 0) (heap_alloc_new w _)
theorem new_fz (w : World) (cs : Array Value) (t : TypeId) (j : Nat) : (w.alloc (.cells cs t)).frozen? ⟨w.heap.size, j, none⟩ = false := frozen_cls (heap_alloc_new w _) j
set_option maxRecDepth 100000 in
set_option maxHeartbeats 800000 in
theorem qnew_call (w : World) : Calls Tryz.prog 17 #[] w fun e w' => e = .returned (.pointer (some ⟨w.heap.size, 0, none⟩)) ∧ QuE w' w.heap.size ∧ Below w.heap.size w w' := by
  go_enter Tryz.func17, Tryz.ntmps17
  go_wp2_with fail
  go_ret
  exact ⟨rfl, ⟨new_lt _ _, new_cell _ _ _ 0, new_cell _ _ _ 1, new_fz _ _ _⟩, (Below.refl _ _).alloc (Nat.le_refl _) _⟩
set_option maxRecDepth 100000 in
set_option maxHeartbeats 800000 in
theorem spnew_call (w : World) : Calls Tryz.prog 19 #[.int .i64 1048576] w fun e w' => e = .returned (.tuple #[.pointer (some ⟨w.heap.size, 0, none⟩), .int .i64 0]) ∧ SpcB w' w.heap.size [] none ∧ Below w.heap.size w w' := by
  go_enter Tryz.func19, Tryz.ntmps19
  go_wp2_with fail
  go_ret2
  exact ⟨rfl, ⟨new_lt _ _, ⟨_, new_cell _ _ _ 0, World.ownsRow_nil _ _ _ _, rfl⟩, ⟨_, new_cell _ _ _ 1⟩, new_cell _ _ _ 2, new_cell _ _ _ 3, new_fz _ _ _, by decide⟩, (Below.refl _ _).alloc (Nat.le_refl _) _⟩
set_option maxRecDepth 100000 in
set_option maxHeartbeats 1600000 in
theorem ganew_call {n : Nat} (hn : n ≤ 1) :
    Calls Tryz.prog 20 #[.int .i64 (n : Nat)] w fun e w' => ∃ gb og cg, e = .returned (.tuple #[.pointer (some ⟨gb, 0, none⟩), .int .i64 0]) ∧ w.heap.size ≤ gb ∧ gb < w'.heap.size ∧ w'.cell? ⟨gb, 0, none⟩ = some (.slice og n cg) ∧ Below w.heap.size w w' := by
  obtain ⟨i0, hi, hz0, hz1, hz2⟩ := info_parts (elBoS).hi
  have h1 : ¬ (n : Int) < 0 := by omega
  have h2 : ¬ (4096 : Int) < (n : Int) := by omega
  go_enter Tryz.func20, Tryz.ntmps20
  go_wp2_with (at_make; refine wpList_make_full _ rfl _ _ 117 rfl w.heap.size 4 i0 _ 1 Tryz.underlying117 hi hz0 hz1 .i64 .i64 (n : Int) (n : Int) n rfl rfl (by omega) (by omega) (by rw [hz2]; omega) (by unfold maxLen; omega) (Nat.le_refl _) ?_)
  intro w1 hown hgr
  have HB := Lib.hid ((Below.refl w.heap.size w).grown hgr (Nat.le_refl _) (fun k hk => by cases hk))
  have hs := HB.out.size
  clear hown hgr hi hz0 hz1 hz2
  go_wp2_with fail
  go_ret2
  exact ⟨_, _, _, rfl, hs, new_lt _ _, new_cell _ _ _ 0, HB.out.alloc hs _⟩
end
end Go.Proofs.YtdinjlglngpecaaGreatDoor
