/- Contract: prints. No condition. -/
import Derived.Test.YtdinjlglngpecaaGreatDoorSyb
namespace Go.Proofs.YtdinjlglngpecaaGreatDoor
open Go.RowKit

theorem pcs_arr : Tryz.zeroCells60.setIfInBounds 7 (.int .u8 112) = pcs.toArray := by
  apply Array.ext'
  rw [Array.toList_setIfInBounds]
  rfl
section
variable {w w' : World} {l : List Value} {q : Bool}
theorem ret_prog {fn : Func} {p : Tmp} {b : Nat} (hf : fn.results = #[.cell p 32]) {Q : Ending → World → Prop} {a : Act} {oc ot of_ : Option Addr} {nc cc nt ct nf cf : Nat} (hp : a.tmps.getD p undef = .pointer (some ⟨b, 0, none⟩)) (hd : a.defers = [])
    (h : PrB w b (.slice oc nc cc) (.slice ot nt ct) (.slice of_ nf cf) q) (hQ : Q (.returned (.agg #[.slice oc nc cc, .slice ot nt ct, .slice of_ nf cf, .bool q])) w) : bodyPost Tryz.prog fn Q .ret a w := by
  refine bodyPost_ret (v := .agg #[.slice oc nc cc, .slice ot nt ct, .slice of_ nf cf, .bool q]) ?_ hd hQ
  have c0 := h.c0
  have c1 := h.c1
  have c2 := h.c2
  have c3 := h.c3
  rw [results_cell1 hf, hp]
  simp [asAddr, go_sem, c0, c1, c2, c3, Result.andThen]
set_option maxRecDepth 100000 in
set_option maxHeartbeats 3200000 in
theorem prints_call : Calls Tryz.prog 6 #[] w fun e w' => (∃ nb g, e = .returned (.agg #[.slice (some ⟨nb, 0, none⟩) 1 1, .slice (some ⟨g, 0, none⟩) 1 1, .slice none 0 0, .bool false]) ∧ w'.rangeAt nb 0 pcs ∧ nb < w'.heap.size ∧ w'.cell? ⟨g, 0, none⟩ = some (.int .i64 (-1))) ∧ Below w.heap.size w w' := by
  go_enter Tryz.func6, Tryz.ntmps6
  go_upto_region 1 with fail
  go_wp2_with (refine wpList_one rfl _ rfl (congrArg Value.agg pcs_arr) PcV.mine.cl ?_)
  have hb1 : Below (w.heap.size + 1) (w.alloc (.cells #[.slice (some ⟨w.heap.size + 1, 0, none⟩) 1 1, .slice (some ⟨w.heap.size + 1 + 1, 0, none⟩) 1 1, .slice none 0 0, .bool false] 32)) (((w.alloc (.cells #[.slice (some ⟨w.heap.size + 1, 0, none⟩) 1 1, .slice (some ⟨w.heap.size + 1 + 1, 0, none⟩) 1 1, .slice none 0 0, .bool false] 32)).alloc (.cells pcs.toArray 60)).alloc (.cells #[.int .i64 (-1)] 3)) := ((Below.refl _ _).alloc (by simp) _).alloc (by simp) _
  have hp := (PrB.new w (.slice (some ⟨w.heap.size + 1, 0, none⟩) 1 1) (.slice (some ⟨w.heap.size + 1 + 1, 0, none⟩) 1 1) (.slice none 0 0) false).same (hb1.block _ (by omega)) (by simp)
  have e1 : (w.alloc (.cells #[.slice (some ⟨w.heap.size + 1, 0, none⟩) 1 1, .slice (some ⟨w.heap.size + 1 + 1, 0, none⟩) 1 1, .slice none 0 0, .bool false] 32)).heap.size = w.heap.size + 1 := by simp
  have hB : Below w.heap.size w (((w.alloc (.cells #[.slice (some ⟨w.heap.size + 1, 0, none⟩) 1 1, .slice (some ⟨w.heap.size + 1 + 1, 0, none⟩) 1 1, .slice none 0 0, .bool false] 32)).alloc (.cells pcs.toArray 60)).alloc (.cells #[.int .i64 (-1)] 3)) := (((Below.refl _ _).alloc (Nat.le_refl _) _).alloc (by simp) _).alloc (by simp; omega) _
  obtain ⟨W0, hW0⟩ : ∃ V, w.alloc (.cells #[.slice (some ⟨w.heap.size + 1, 0, none⟩) 1 1, .slice (some ⟨w.heap.size + 1 + 1, 0, none⟩) 1 1, .slice none 0 0, .bool false] 32) = V := ⟨_, rfl⟩
  rw [hW0] at hp e1 hB ⊢
  have h1 := heap_alloc_new W0 (.cells pcs.toArray 60)
  have h1' := (heap_alloc_old (W0.alloc (.cells pcs.toArray 60)) (.cells #[.int .i64 (-1)] 3) (r := W0.heap.size) (by simp)).trans h1
  have h2 := new_cell (W0.alloc (.cells pcs.toArray 60)) #[.int .i64 (-1)] 3 0
  have e2 : (W0.alloc (.cells pcs.toArray 60)).heap.size = w.heap.size + 1 + 1 := by simp [e1]
  rw [e1] at h1'
  rw [e2] at h2
  refine ret_prog (p := 0) rfl rfl rfl hp ⟨⟨_, _, rfl, fun j v hv => ?_, by simp [e1], h2⟩, hB⟩
  rw [cell_of_row _ _ (0 + j) _ _ (0, 0) h1', Nat.zero_add, List.getElem?_toArray, hv]
end
end Go.Proofs.YtdinjlglngpecaaGreatDoor
