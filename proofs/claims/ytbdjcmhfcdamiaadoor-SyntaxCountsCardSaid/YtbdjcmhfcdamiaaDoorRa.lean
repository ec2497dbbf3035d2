/- Package syntax's reader: nodes; one. -/
import Derived.Test.YtbdjcmhfcdamiaaDoorOwn
import Derived.Test.YtbdjcmhfcdamiaaDoorRt
namespace Go.Proofs.YtbdjcmhfcdamiaaDoor
open Go.RowKit

def ndCells (x : Nd) : Array Value := #[.int .i8 x.op, .int .u64 x.set.w0.toNat, .int .u64 x.set.w1.toNat, .int .u64 x.set.w2.toNat, .int .u64 x.set.w3.toNat, .int .i64 x.n, .int .i64 x.min, .int .i64 x.max, .int .i64 x.kids]
abbrev ndV (x : Nd) : Value := .agg #[.int .i8 x.op, .int .u64 x.set.w0.toNat, .int .u64 x.set.w1.toNat, .int .u64 x.set.w2.toNat, .int .u64 x.set.w3.toNat, .int .i64 x.n, .int .i64 x.min, .int .i64 x.max, .int .i64 x.kids]
/-- Is there a block of a node? -/
def isNd (w : World) (B : Nat) : Prop := ∃ cs : Array Value, cs.size = 9 ∧ w.heap[B]? = some (.cells cs 77 (0, 0))
theorem isNd.lt {w : World} {B : Nat} (h : isNd w B) : B < w.heap.size := by
  obtain ⟨_, _, h⟩ := h
  exact (Array.getElem?_eq_some_iff.1 h).1
/-- A node stored. -/
def setNd (w : World) (B : Nat) (s0 s1 s2 s3 s4 s5 s6 s7 s8 : Int) : World := (((((((((w).setCell ⟨B, 0, none⟩ (.int .i8 s0)).setCell ⟨B, 1, none⟩ (.int .u64 s1)).setCell ⟨B, 2, none⟩ (.int .u64 s2)).setCell ⟨B, 3, none⟩ (.int .u64 s3)).setCell ⟨B, 4, none⟩ (.int .u64 s4)).setCell ⟨B, 5, none⟩ (.int .i64 s5)).setCell ⟨B, 6, none⟩ (.int .i64 s6)).setCell ⟨B, 7, none⟩ (.int .i64 s7)).setCell ⟨B, 8, none⟩ (.int .i64 s8)
theorem fold_setNd (w : World) (B : Nat) (s0 s1 s2 s3 s4 s5 s6 s7 s8 : Int) : (((((((((w).setCell ⟨B, 0, none⟩ (.int .i8 s0)).setCell ⟨B, 1, none⟩ (.int .u64 s1)).setCell ⟨B, 2, none⟩ (.int .u64 s2)).setCell ⟨B, 3, none⟩ (.int .u64 s3)).setCell ⟨B, 4, none⟩ (.int .u64 s4)).setCell ⟨B, 5, none⟩ (.int .i64 s5)).setCell ⟨B, 6, none⟩ (.int .i64 s6)).setCell ⟨B, 7, none⟩ (.int .i64 s7)).setCell ⟨B, 8, none⟩ (.int .i64 s8) = setNd w B s0 s1 s2 s3 s4 s5 s6 s7 s8 := rfl
theorem setNd_at {w : World} {B : Nat} (h : isNd w B) (s0 s1 s2 s3 s4 s5 s6 s7 s8 : Int) : (setNd w B s0 s1 s2 s3 s4 s5 s6 s7 s8).heap[B]? = some (.cells #[.int .i8 s0, .int .u64 s1, .int .u64 s2, .int .u64 s3, .int .u64 s4, .int .i64 s5, .int .i64 s6, .int .i64 s7, .int .i64 s8] 77 (0, 0)) := by
  obtain ⟨cs, hs, h⟩ := h
  obtain ⟨a0, a1, a2, a3, a4, a5, a6, a7, a8, rfl⟩ : ∃ a0 a1 a2 a3 a4 a5 a6 a7 a8, cs = #[a0, a1, a2, a3, a4, a5, a6, a7, a8] := by
    obtain ⟨l⟩ := cs
    match l, hs with
    | [a0, a1, a2, a3, a4, a5, a6, a7, a8], _ => exact ⟨a0, a1, a2, a3, a4, a5, a6, a7, a8, rfl⟩
  simp [setNd, World.setCell, Array.getElem?_modify, h]
theorem setNd_below {w : World} {B k : Nat} (h : k ≤ B) (s0 s1 s2 s3 s4 s5 s6 s7 s8 : Int) : Below k w (setNd w B s0 s1 s2 s3 s4 s5 s6 s7 s8) := ((((((((((Below.refl k w).setCell (p := ⟨B, 0, none⟩) h _).setCell (p := ⟨B, 1, none⟩) h _).setCell (p := ⟨B, 2, none⟩) h _).setCell (p := ⟨B, 3, none⟩) h _).setCell (p := ⟨B, 4, none⟩) h _).setCell (p := ⟨B, 5, none⟩) h _).setCell (p := ⟨B, 6, none⟩) h _).setCell (p := ⟨B, 7, none⟩) h _).setCell (p := ⟨B, 8, none⟩) h _)
theorem setNd_size {w : World} {B : Nat} (s0 s1 s2 s3 s4 s5 s6 s7 s8 : Int) : (setNd w B s0 s1 s2 s3 s4 s5 s6 s7 s8).heap.size = w.heap.size := by simp [setNd]
theorem load_row9 {w1 : World} {B : Nat} {s0 s1 s2 s3 s4 s5 s6 s7 s8 : Int} (h1 : w1.heap[B]? = some (.cells #[.int .i8 s0, .int .u64 s1, .int .u64 s2, .int .u64 s3, .int .u64 s4, .int .i64 s5, .int .i64 s6, .int .i64 s7, .int .i64 s8] 77 (0, 0))) :
    (loadVar 77 ⟨B, 0, none⟩).run Tryd.prog w1 = .ok (.agg #[.int .i8 s0, .int .u64 s1, .int .u64 s2, .int .u64 s3, .int .u64 s4, .int .i64 s5, .int .i64 s6, .int .i64 s7, .int .i64 s8]) w1 := by
  have hc : ∀ j, w1.cell? ⟨B, j, none⟩ = (#[.int .i8 s0, .int .u64 s1, .int .u64 s2, .int .u64 s3, .int .u64 s4, .int .i64 s5, .int .i64 s6, .int .i64 s7, .int .i64 s8] : Array Value)[j]? := fun j => cell_of_row w1 B j _ _ (0, 0) h1
  have c0 := hc 0
  have c1 := hc 1
  have c2 := hc 2
  have c3 := hc 3
  have c4 := hc 4
  have c5 := hc 5
  have c6 := hc 6
  have c7 := hc 7
  have c8 := hc 8
  simp only [List.getElem?_toArray, List.getElem?_cons_zero, List.getElem?_cons_succ] at c0 c1 c2 c3 c4 c5 c6 c7 c8
  simp [go_sem, c0, c1, c2, c3, c4, c5, c6, c7, c8]
theorem results_cell1 {fn : Func} {p : Tmp} {ty : TypeId} (h : fn.results = #[.cell p ty]) (tmps : Array Value) (P : Program) (w : World) :
    (results fn tmps).run P w = ((asAddr (tmps.getD p undef)).run P w).andThen fun a w₁ => (loadVar ty a).run P w₁ := by
  simp only [results, h]
  simp [Sem.run_bind, Result.andThen]
theorem ret_nd {fn : Func} {p : Tmp} (h : fn.results = #[.cell p 77]) {a : Act} {w W w0 : World} {B : Nat} {s0 s1 s2 s3 s4 s5 s6 s7 s8 : Int} {x : Nd}
    (ha : a.tmps.getD p undef = .pointer (some ⟨B, 0, none⟩)) (hd : a.defers = []) (his : isNd w B) (hW : Below (B + 1) (setNd w B s0 s1 s2 s3 s4 s5 s6 s7 s8) W)
    (hx : ndV x = .agg #[.int .i8 s0, .int .u64 s1, .int .u64 s2, .int .u64 s3, .int .u64 s4, .int .i64 s5, .int .i64 s6, .int .i64 s7, .int .i64 s8]) (hb : Below w0.heap.size w0 w) (hB : w0.heap.size ≤ B) :
    bodyPost Tryd.prog fn (fun e w' => e = .returned (ndV x) ∧ Below w0.heap.size w0 w') .ret a W := by
  refine bodyPost_ret (v := ndV x) ?_ hd ⟨rfl, (hb.trans (setNd_below hB _ _ _ _ _ _ _ _ _)).trans (hW.mono (by omega))⟩
  rw [results_cell1 h, ha, hx]
  simp [asAddr, load_row9 ((hW.block B (Nat.lt_succ_self _)).trans (setNd_at his s0 s1 s2 s3 s4 s5 s6 s7 s8)), Result.andThen]

/-- A new node's block. -/
def newNd (w : World) : World := w.alloc (.cells #[.int .i8 0, .int .u64 0, .int .u64 0, .int .u64 0, .int .u64 0, .int .i64 0, .int .i64 0, .int .i64 0, .int .i64 0] 77)
theorem newNd_is (w : World) : isNd (newNd w) w.heap.size := ⟨_, rfl, heap_alloc_new w _⟩
theorem newNd_size (w : World) : (newNd w).heap.size = w.heap.size + 1 := by simp [newNd]
theorem newNd_below (w : World) : Below w.heap.size w (newNd w) := (Below.refl _ _).alloc (Nat.le_refl _) _
theorem fold_newNd (w : World) : w.alloc (.cells #[.int .i8 0, .int .u64 0, .int .u64 0, .int .u64 0, .int .u64 0, .int .i64 0, .int .i64 0, .int .i64 0, .int .i64 0] 77) = newNd w := rfl
theorem isNd.below {w w' : World} {B : Nat} (h : isNd w B) (hb : Below w.heap.size w w') : isNd w' B := by
  obtain ⟨cs, hs, hc⟩ := h
  exact ⟨cs, hs, (hb.block B (isNd.lt ⟨cs, hs, hc⟩)).trans hc⟩
theorem isNd.cells {w : World} {B : Nat} (h : isNd w B) : ∃ a0 a1 a2 a3 a4 a5 a6 a7 a8, w.cell? ⟨B, 0, none⟩ = some a0 ∧ w.cell? ⟨B, 1, none⟩ = some a1 ∧ w.cell? ⟨B, 2, none⟩ = some a2 ∧ w.cell? ⟨B, 3, none⟩ = some a3 ∧ w.cell? ⟨B, 4, none⟩ = some a4 ∧ w.cell? ⟨B, 5, none⟩ = some a5 ∧ w.cell? ⟨B, 6, none⟩ = some a6 ∧ w.cell? ⟨B, 7, none⟩ = some a7 ∧ w.cell? ⟨B, 8, none⟩ = some a8 ∧ (∀ o, w.frozen? ⟨B, o, none⟩ = false) := by
  obtain ⟨cs, hs, h⟩ := h
  obtain ⟨a0, a1, a2, a3, a4, a5, a6, a7, a8, rfl⟩ : ∃ a0 a1 a2 a3 a4 a5 a6 a7 a8, cs = #[a0, a1, a2, a3, a4, a5, a6, a7, a8] := by
    obtain ⟨l⟩ := cs
    match l, hs with
    | [a0, a1, a2, a3, a4, a5, a6, a7, a8], _ => exact ⟨a0, a1, a2, a3, a4, a5, a6, a7, a8, rfl⟩
  have hc : ∀ j, w.cell? ⟨B, j, none⟩ = (#[a0, a1, a2, a3, a4, a5, a6, a7, a8] : Array Value)[j]? := fun j => cell_of_row w B j _ _ (0, 0) h
  exact ⟨a0, a1, a2, a3, a4, a5, a6, a7, a8, hc 0, hc 1, hc 2, hc 3, hc 4, hc 5, hc 6, hc 7, hc 8, frozen_cls h⟩

set_option maxRecDepth 100000 in
set_option maxHeartbeats 800000 in
theorem one_any (b : Nat) (hb : b < 256) (w : World) :
    Calls Tryd.prog 91 #[.int .u8 (b : Nat)] w fun e w' => e = .returned (ndV (oneN b)) ∧ Below w.heap.size w w' := by
  have hof := of_new [b] #[.int .u8 (b : Nat)] rfl (by simpa using hb) (by simp)
  unfold oneN
  generalize Cls.of [b] = c at hof ⊢
  go_enter Tryd.func91, Tryd.ntmps91
  go_wp2_with fail
  rw [fold_newNd, ← newNd_size]
  refine (hof (newNd w)).mono ?_
  intro e w1 h
  obtain ⟨he, hb1⟩ := h
  subst he
  have hb2 : Below (newNd w).heap.size (newNd w) w1 := Below.trans ((Below.refl _ _).alloc (Nat.le_refl _) _) (hb1.mono (by simp))
  have hbe : Below w.heap.size w w1 := (newNd_below w).trans (hb2.mono (by rw [newNd_size]; omega))
  have his : isNd w1 w.heap.size := (newNd_is w).below hb2
  obtain ⟨a0, a1, a2, a3, a4, a5, a6, a7, a8, c0, c1, c2, c3, c4, c5, c6, c7, c8, f0⟩ := his.cells
  clear hof hb1 hb2
  obtain ⟨x0, x1, x2, x3⟩ := c
  have HI := Lib.hid his
  have HB := Lib.hid hbe
  clear his hbe
  go_wp2_with fail
  rw [fold_setNd]
  exact ret_nd Tryd.results91 rfl rfl HI.out (Below.refl _ _) rfl HB.out (Nat.le_refl _)
end Go.Proofs.YtbdjcmhfcdamiaaDoor
