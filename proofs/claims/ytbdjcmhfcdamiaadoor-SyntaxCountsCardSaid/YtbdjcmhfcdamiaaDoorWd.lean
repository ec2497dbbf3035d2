/- Contracts of package bracket's reader. -/
import Derived.Test.YtbdjcmhfcdamiaaDoorOwn
namespace Go.Proofs.YtbdjcmhfcdamiaaDoor
open Go.RowKit

/-- Marks in memory. -/
structure MkAt (w : World) (mb mo : Nat) (L : List Mk) : Prop where
  lt : mb < w.heap.size
  len : L.length ≤ 4096
  b : ∀ i, i < L.length → w.cell? ⟨mb, mo + i * 2, none⟩ = some (.int .u8 ((markAt L i).b : Int))
  p : ∀ i, i < L.length → w.cell? ⟨mb, mo + i * 2 + 1, none⟩ = some (.bool (markAt L i).p)
  u : ∀ i, i < L.length → (markAt L i).b < 256
theorem MkAt.below {w w' : World} {mb mo : Nat} {L : List Mk} (h : MkAt w mb mo L) (hb : Below w.heap.size w w') : MkAt w' mb mo L :=
  ⟨Nat.lt_of_lt_of_le h.lt hb.size, h.len, fun i hi => (hb.cell (p := ⟨mb, mo + i * 2, none⟩) h.lt).trans (h.b i hi), fun i hi => (hb.cell (p := ⟨mb, mo + i * 2 + 1, none⟩) h.lt).trans (h.p i hi), h.u⟩

/-- The bracket's reader. -/
structure Br (w : World) (rb mb mo cap : Nat) (L : List Mk) (at0 : Nat) : Prop where
  lt : rb < w.heap.size
  c0 : w.cell? ⟨rb, 0, none⟩ = some (.slice (some ⟨mb, mo, none⟩) L.length cap)
  c1 : w.cell? ⟨rb, 1, none⟩ = some (.int .i64 at0)
  m : MkAt w mb mo L
  h0 : at0 ≤ 4096
theorem Br.below {w w' : World} {rb mb mo cap : Nat} {L : List Mk} {at0 : Nat} (h : Br w rb mb mo cap L at0) (hb : Below w.heap.size w w') : Br w' rb mb mo cap L at0 :=
  ⟨Nat.lt_of_lt_of_le h.lt hb.size, (hb.cell (p := ⟨rb, 0, none⟩) h.lt).trans h.c0, (hb.cell (p := ⟨rb, 1, none⟩) h.lt).trans h.c1, h.m.below hb, h.h0⟩

set_option maxRecDepth 100000 in
set_option maxHeartbeats 800000 in
theorem bsign_any {rb mb mo cap : Nat} {L : List Mk} {at0 : Nat} {w : World} (h : Br w rb mb mo cap L at0) {i c : Int} (n k : Nat) (hi : i = n) (hc : c = k) :
    Calls Tryd.prog 105 #[.pointer (some ⟨rb, 0, none⟩), .int .i64 i, .int .u8 c] w fun e w' => e = .returned (.bool (signAt L n k)) ∧ w = w' := by
  subst hi
  subst hc
  obtain ⟨hrb, h0, _, hm, _⟩ := h
  have hL := hm.len
  by_cases hlt : n < L.length
  · have hb := hm.b n hlt
    have hp := hm.p n hlt
    have hs : Hid (signAt L n k = ((markAt L n).b == k && !(markAt L n).p)) := by simp [Hid, signAt, hlt]
    clear hm
    go_enter Tryd.func105, Tryd.ntmps105
    go_wp2_with fail
    all_goals
      go_ret
      refine ⟨ret_bool ?_, rfl⟩
      rw [hs.out]
      by_cases e : (markAt L n).b = k <;> cases hp' : (markAt L n).p <;> simp_all <;> omega
  · have hs : Hid (signAt L n k = false) := by simp [Hid, signAt, hlt]
    clear hm
    go_enter Tryd.func105, Tryd.ntmps105
    go_wp2_with fail
    go_ret
    exact ⟨ret_bool hs.out.symm, rfl⟩

/-- A fault, or none: a pointer to a block of two numbers, or nil. -/
def Flt (base : Nat) (w : World) (v : Value) : Option (Nat × Nat) → Prop
  | none => v = .pointer none
  | some (e, at_) => ∃ b, v = .pointer (some ⟨b, 0, none⟩) ∧ base ≤ b ∧ b < w.heap.size ∧ w.cell? ⟨b, 0, none⟩ = some (.int .i64 (e : Nat)) ∧ w.cell? ⟨b, 1, none⟩ = some (.int .i64 (at_ : Nat))
theorem Flt.below {base : Nat} {w w' : World} {v : Value} {f : Option (Nat × Nat)} (h : Flt base w v f) (hb : Below w.heap.size w w') : Flt base w' v f := by
  cases f with
  | none => exact h
  | some p =>
    obtain ⟨b, rfl, hge, hlt, h0, h1⟩ := h
    exact ⟨b, rfl, hge, Nat.lt_of_lt_of_le hlt hb.size, (hb.cell (p := ⟨b, 0, none⟩) hlt).trans h0, (hb.cell (p := ⟨b, 1, none⟩) hlt).trans h1⟩
theorem Flt.mono {base k : Nat} {w : World} {v : Value} {f : Option (Nat × Nat)} (h : Flt base w v f) (hk : k ≤ base) : Flt k w v f := by
  cases f with
  | none => exact h
  | some p =>
    obtain ⟨b, rfl, hge, rest⟩ := h
    exact ⟨b, rfl, by omega, rest⟩
theorem flt_at {base : Nat} {w : World} {n e at_ : Nat} {t : TypeId} (h : n = w.heap.size) (hb : base ≤ w.heap.size) : Flt base (w.alloc (.cells #[.int .i64 (e : Nat), .int .i64 (at_ : Nat)] t)) (.pointer (some ⟨n, 0, none⟩)) (some (e, at_)) := by
  subst h
  exact ⟨w.heap.size, rfl, hb, by simp, by rw [cell_of_row _ _ 0 _ t (0, 0) (heap_alloc_new w _)]; rfl, by rw [cell_of_row _ _ 1 _ t (0, 0) (heap_alloc_new w _)]; rfl⟩

theorem open_any {rb mb mo cap : Nat} {L : List Mk} {at0 : Nat} {w : World} (h : Br w rb mb mo cap L at0) :
    Calls Tryd.prog 122 #[.pointer (some ⟨rb, 0, none⟩)] w fun e w' => ∃ v, e = .returned v ∧ Flt w.heap.size w' v (some (32, at0)) ∧ Below w.heap.size w w' := by
  obtain ⟨hrb, h0, h1, hm, _⟩ := h
  clear hm
  go_enter Tryd.func122, Tryd.ntmps122
  go_wp2_with fail
  go_ret
  exact ⟨_, rfl, flt_at (e := 32) rfl (Nat.le_refl _), (by repeat (first | exact Below.refl _ _ | assumption | refine Below.drew ?_ | refine Below.alloc ?_ (by first | (simp; done) | (simp; omega) | omega) _ | refine Below.setCell ?_ (by first | (simp; done) | (simp; omega) | omega) _))⟩

/-- A thing, as cells. -/
def thCells (t : Th) : Array Value := #[.int .u64 t.set.w0.toNat, .int .u64 t.set.w1.toNat, .int .u64 t.set.w2.toNat, .int .u64 t.set.w3.toNat, .int .u8 (t.b : Nat), .bool t.fin, .int .i64 (t.next : Nat)]
abbrev thV (t : Th) : Value := .agg #[.int .u64 t.set.w0.toNat, .int .u64 t.set.w1.toNat, .int .u64 t.set.w2.toNat, .int .u64 t.set.w3.toNat, .int .u8 (t.b : Nat), .bool t.fin, .int .i64 (t.next : Nat)]
def thAt (w : World) (B : Nat) (t : Th) : Prop := w.heap[B]? = some (.cells (thCells t) 186 (0, 0))
theorem thAt.lt {w : World} {B : Nat} {t : Th} (h : thAt w B t) : B < w.heap.size := (Array.getElem?_eq_some_iff.1 h).1
theorem thAt.below {w w' : World} {B : Nat} {t : Th} (h : thAt w B t) (hb : Below w.heap.size w w') : thAt w' B t := (hb.block B h.lt).trans h
theorem thAt.cells {w : World} {B : Nat} {t : Th} (h : thAt w B t) :
    w.cell? ⟨B, 0, none⟩ = some (.int .u64 t.set.w0.toNat) ∧ w.cell? ⟨B, 1, none⟩ = some (.int .u64 t.set.w1.toNat) ∧ w.cell? ⟨B, 2, none⟩ = some (.int .u64 t.set.w2.toNat) ∧ w.cell? ⟨B, 3, none⟩ = some (.int .u64 t.set.w3.toNat) ∧
    w.cell? ⟨B, 4, none⟩ = some (.int .u8 (t.b : Nat)) ∧ w.cell? ⟨B, 5, none⟩ = some (.bool t.fin) ∧ w.cell? ⟨B, 6, none⟩ = some (.int .i64 (t.next : Nat)) := by
  refine ⟨?_, ?_, ?_, ?_, ?_, ?_, ?_⟩ <;> rw [cell_of_row w B _ _ _ (0, 0) h] <;> rfl

/-- What a function of the reader hands back: a thing, and a fault or none. -/
def ThRet (r : Th × Option (Nat × Nat)) (w : World) (e : Ending) (w' : World) : Prop := ∃ v, e = .returned (.tuple #[thV r.1, v]) ∧ Flt w.heap.size w' v r.2 ∧ Below w.heap.size w w'

theorem ret_cell_tmp {P : Program} {fn : Func} {p u : Tmp} {ty : TypeId} (h : fn.results = #[.cell p ty, .tmp u]) {a : Act} {w : World} {ad : Addr} {V x : Value} {R : Ending → World → Prop} (ha : a.tmps.getD p undef = .pointer (some ad))
    (hu : a.tmps.getD u undef = x) (hl : (loadVar ty ad).run P w = .ok V w) (hd : a.defers = []) (hR : R (.returned (.tuple #[V, x])) w) : bodyPost P fn R .ret a w := by
  refine bodyPost_ret (v := .tuple #[V, x]) ?_ hd hR
  rw [Go.results_cell_tmp h, ha, hu]
  simp [asAddr, hl, Result.andThen]
theorem load_th {w : World} {B : Nat} {t : Th} (h : thAt w B t) : (loadVar 186 ⟨B, 0, none⟩).run Tryd.prog w = .ok (thV t) w := by
  obtain ⟨z0, z1, z2, z3, z4, z5, z6⟩ := h.cells
  simp [go_sem, z0, z1, z2, z3, z4, z5, z6]
/-- Is there a block of a thing? -/
def isTh (w : World) (B : Nat) : Prop := ∃ a0 a1 a2 a3 a4 a5 a6 : Value, w.heap[B]? = some (.cells #[a0, a1, a2, a3, a4, a5, a6] 186 (0, 0))
theorem thAt.is {w : World} {B : Nat} {t : Th} (h : thAt w B t) : isTh w B := ⟨_, _, _, _, _, _, _, h⟩
theorem isTh.lt {w : World} {B : Nat} (h : isTh w B) : B < w.heap.size := by
  obtain ⟨_, _, _, _, _, _, _, h⟩ := h
  exact (Array.getElem?_eq_some_iff.1 h).1
theorem isTh.below {w w' : World} {B : Nat} (h : isTh w B) (hb : Below w.heap.size w w') : isTh w' B := by
  have hlt := h.lt
  obtain ⟨a0, a1, a2, a3, a4, a5, a6, h⟩ := h
  exact ⟨a0, a1, a2, a3, a4, a5, a6, (hb.block B hlt).trans h⟩
@[go_sem ↓ high] theorem isTh_alloc (w : World) (o : Obj) (B : Nat) (h : isTh w B) : isTh (w.alloc o) B = True := eq_true (h.below ((Below.refl _ _).alloc (Nat.le_refl _) o))
@[go_sem ↓ high] theorem isTh_drew (w : World) (B : Nat) (h : isTh w B) : isTh w.drew B = True := eq_true h
/-- A thing stored. -/
def setTh (w : World) (B : Nat) (s0 s1 s2 s3 b : Int) (e : Bool) (n : Int) : World :=
  ((((((w.setCell ⟨B, 0, none⟩ (.int .u64 s0)).setCell ⟨B, 1, none⟩ (.int .u64 s1)).setCell ⟨B, 2, none⟩ (.int .u64 s2)).setCell ⟨B, 3, none⟩ (.int .u64 s3)).setCell
    ⟨B, 4, none⟩ (.int .u8 b)).setCell ⟨B, 5, none⟩ (.bool e)).setCell ⟨B, 6, none⟩ (.int .i64 n)
theorem run_setTh (w : World) (B : Nat) (s0 s1 s2 s3 b : Int) (e : Bool) (n : Int) (h : isTh w B) :
    (Instr.storeAt 186 (.pointer (some ⟨B, 0, none⟩)) (.agg #[.int .u64 s0, .int .u64 s1, .int .u64 s2, .int .u64 s3, .int .u8 b, .bool e, .int .i64 n])).run Tryd.prog w = .ok () (setTh w B s0 s1 s2 s3 b e n) := by
  obtain ⟨a0, a1, a2, a3, a4, a5, a6, h⟩ := h
  have f0 := frozen_cls h
  have hc : ∀ j, w.cell? ⟨B, j, none⟩ = (#[a0, a1, a2, a3, a4, a5, a6] : Array Value)[j]? := fun j => cell_of_row w B j _ _ (0, 0) h
  have c0 := hc 0
  have c1 := hc 1
  have c2 := hc 2
  have c3 := hc 3
  have c4 := hc 4
  have c5 := hc 5
  have c6 := hc 6
  simp only [List.getElem?_toArray, List.getElem?_cons_zero, List.getElem?_cons_succ] at c0 c1 c2 c3 c4 c5 c6
  unfold setTh
  simp [go_sem, c0, c1, c2, c3, c4, c5, c6, f0]
theorem fold_setTh (w : World) (B : Nat) (s0 s1 s2 s3 b : Int) (e : Bool) (n : Int) :
    ((((((w.setCell ⟨B, 0, none⟩ (.int .u64 s0)).setCell ⟨B, 1, none⟩ (.int .u64 s1)).setCell ⟨B, 2, none⟩ (.int .u64 s2)).setCell ⟨B, 3, none⟩ (.int .u64 s3)).setCell
      ⟨B, 4, none⟩ (.int .u8 b)).setCell ⟨B, 5, none⟩ (.bool e)).setCell ⟨B, 6, none⟩ (.int .i64 n) = setTh w B s0 s1 s2 s3 b e n := rfl
theorem setTh_at {w : World} {B : Nat} (h : isTh w B) (s0 s1 s2 s3 b : Int) (e : Bool) (n : Int) :
    (setTh w B s0 s1 s2 s3 b e n).heap[B]? = some (.cells #[.int .u64 s0, .int .u64 s1, .int .u64 s2, .int .u64 s3, .int .u8 b, .bool e, .int .i64 n] 186 (0, 0)) := by
  obtain ⟨a0, a1, a2, a3, a4, a5, a6, h⟩ := h
  simp [setTh, World.setCell, Array.getElem?_modify, h]
theorem setTh_below {w : World} {B k : Nat} (h : k ≤ B) (s0 s1 s2 s3 b : Int) (e : Bool) (n : Int) : Below k w (setTh w B s0 s1 s2 s3 b e n) :=
  (((((((Below.refl k w).setCell (p := ⟨B, 0, none⟩) h _).setCell (p := ⟨B, 1, none⟩) h _).setCell (p := ⟨B, 2, none⟩) h _).setCell (p := ⟨B, 3, none⟩) h _).setCell (p := ⟨B, 4, none⟩) h _).setCell (p := ⟨B, 5, none⟩) h _).setCell (p := ⟨B, 6, none⟩) h _
theorem setTh_other {w : World} {B k : Nat} (h : k ≠ B) (s0 s1 s2 s3 b : Int) (e : Bool) (n : Int) : (setTh w B s0 s1 s2 s3 b e n).heap[k]? = w.heap[k]? := by
  unfold setTh
  rw [Below.heap_setCell _ _ _ _ h, Below.heap_setCell _ _ _ _ h, Below.heap_setCell _ _ _ _ h, Below.heap_setCell _ _ _ _ h, Below.heap_setCell _ _ _ _ h, Below.heap_setCell _ _ _ _ h, Below.heap_setCell _ _ _ _ h]
theorem setTh_size {w : World} {B : Nat} (s0 s1 s2 s3 b : Int) (e : Bool) (n : Int) : (setTh w B s0 s1 s2 s3 b e n).heap.size = w.heap.size := by simp [setTh]
theorem load_row7 {w1 : World} {B : Nat} {s0 s1 s2 s3 b : Int} {e : Bool} {n : Int} (h1 : w1.heap[B]? = some (.cells #[.int .u64 s0, .int .u64 s1, .int .u64 s2, .int .u64 s3, .int .u8 b, .bool e, .int .i64 n] 186 (0, 0))) :
    (loadVar 186 ⟨B, 0, none⟩).run Tryd.prog w1 = .ok (.agg #[.int .u64 s0, .int .u64 s1, .int .u64 s2, .int .u64 s3, .int .u8 b, .bool e, .int .i64 n]) w1 := by
  have hc : ∀ j, w1.cell? ⟨B, j, none⟩ = (#[.int .u64 s0, .int .u64 s1, .int .u64 s2, .int .u64 s3, .int .u8 b, .bool e, .int .i64 n] : Array Value)[j]? := fun j => cell_of_row w1 B j _ _ (0, 0) h1
  have c0 := hc 0
  have c1 := hc 1
  have c2 := hc 2
  have c3 := hc 3
  have c4 := hc 4
  have c5 := hc 5
  have c6 := hc 6
  simp only [List.getElem?_toArray, List.getElem?_cons_zero, List.getElem?_cons_succ] at c0 c1 c2 c3 c4 c5 c6
  simp [go_sem, c0, c1, c2, c3, c4, c5, c6]
/-- The end of a function that hands back a thing and a fault: the thing was stored into the result's block, then came what is 'Below'. -/
theorem ret_th {fn : Func} {p u : Tmp} (h : fn.results = #[.cell p 186, .tmp u]) {a : Act} {w W w0 : World} {B : Nat} {s0 s1 s2 s3 b : Int} {e : Bool} {n : Int} {v : Value} {r : Th × Option (Nat × Nat)}
    (ha : a.tmps.getD p undef = .pointer (some ⟨B, 0, none⟩)) (hu : a.tmps.getD u undef = v) (hd : a.defers = []) (his : isTh w B) (hW : Below (B + 1) (setTh w B s0 s1 s2 s3 b e n) W)
    (hv : thV r.1 = .agg #[.int .u64 s0, .int .u64 s1, .int .u64 s2, .int .u64 s3, .int .u8 b, .bool e, .int .i64 n]) (hf : Flt w0.heap.size W v r.2) (hb : Below w0.heap.size w0 w) (hB : w0.heap.size ≤ B) :
    bodyPost Tryd.prog fn (ThRet r w0) .ret a W := by
  refine ret_cell_tmp h ha hu (load_row7 ((hW.block B (Nat.lt_succ_self _)).trans (setTh_at his s0 s1 s2 s3 b e n))) hd ⟨v, ?_, hf, (hb.trans (setTh_below hB _ _ _ _ _ _ _)).trans (hW.mono (by omega))⟩
  rw [hv]

/-- A fault behind the store of a thing into another block. -/
theorem Flt.set {base : Nat} {w : World} {v : Value} {f : Option (Nat × Nat)} {B : Nat} (h : Flt base w v f) (hB : B < base) (s0 s1 s2 s3 b : Int) (e : Bool) (n : Int) : Flt base (setTh w B s0 s1 s2 s3 b e n) v f := by
  cases f with
  | none => simp only [Flt] at h ⊢; exact h
  | some p =>
    obtain ⟨c, rfl, hge, hlt, h0, h1⟩ := h
    have hne : c ≠ B := by omega
    refine ⟨c, rfl, hge, by rw [setTh_size]; exact hlt, ?_, ?_⟩
    · exact (World.cell?_of_block (a := ⟨c, 0, none⟩) (setTh_other (w := w) hne _ _ _ _ _ _ _)).trans h0
    · exact (World.cell?_of_block (a := ⟨c, 1, none⟩) (setTh_other (w := w) hne _ _ _ _ _ _ _)).trans h1

theorem name_done {L : List Mk} {at0 b0 n i : Nat} {s : List Nat} (h1 : signAt L i 58 = true) (h2 : signAt L (i + 1) 93 = true) :
    nameL L at0 b0 (n + 1) i s = match namedL s with | none => (Th.zero, some (31, b0)) | some c => (⟨c, 0, false, i + 2⟩, none) := by simp [nameL, h1, h2]; cases namedL s <;> rfl
theorem name_on {L : List Mk} {at0 b0 n i : Nat} {s : List Nat} (h : (signAt L i 58 && signAt L (i + 1) 93) = false) :
    nameL L at0 b0 (n + 1) i s = nameL L at0 b0 n (i + 1) (s ++ [(markAt L i).b]) := by simp [nameL, h]

end Go.Proofs.YtbdjcmhfcdamiaaDoor
