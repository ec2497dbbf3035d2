/- Contracts of package syntax's reader: duplication. -/
import Derived.Test.YtbdjcmhfcdamiaaDoorRd
namespace Go.Proofs.YtbdjcmhfcdamiaaDoor
open Go.RowKit

/-- A node in a block of its own. -/
def ndAt (w : World) (B : Nat) (x : Nd) : Prop := w.heap[B]? = some (.cells (ndCells x) 77 (0, 0))
section
variable {w w' : World} {B : Nat} {x : Nd}
theorem ndAt.lt (h : ndAt w B x) : B < w.heap.size := (Array.getElem?_eq_some_iff.1 h).1
theorem ndAt.is (h : ndAt w B x) : isNd w B := ⟨_, rfl, h⟩
theorem ndAt.block (h : ndAt w B x) (hb : w'.heap[B]? = w.heap[B]?) : ndAt w' B x := hb.trans h
theorem ndAt.below (h : ndAt w B x) (hb : Below w.heap.size w w') : ndAt w' B x := (hb.block B h.lt).trans h
theorem ndAt.store (h : ndAt w B x) {b : Nat} (hb : B ≠ b) (o : Nat) (v : Value) : ndAt (w.setCell ⟨b, o, none⟩ v) B x := (Below.heap_setCell _ _ _ _ hb).trans h
theorem isNd_block (h : isNd w B) (hb : w'.heap[B]? = w.heap[B]?) : isNd w' B := by
  obtain ⟨cs, hs, hc⟩ := h
  exact ⟨cs, hs, hb.trans hc⟩
theorem isNd_store (h : isNd w B) {b : Nat} (o : Nat) (v : Value) (hb : B ≠ b) : isNd (w.setCell ⟨b, o, none⟩ v) B := by
  obtain ⟨cs, hs, hc⟩ := h
  exact ⟨cs, hs, (Below.heap_setCell _ _ _ _ hb).trans hc⟩
theorem ndAt.cells (h : ndAt w B x) : w.cell? ⟨B, 0, none⟩ = some (.int .i8 x.op) ∧ w.cell? ⟨B, 1, none⟩ = some (.int .u64 x.set.w0.toNat) ∧ w.cell? ⟨B, 2, none⟩ = some (.int .u64 x.set.w1.toNat) ∧ w.cell? ⟨B, 3, none⟩ = some (.int .u64 x.set.w2.toNat) ∧ w.cell? ⟨B, 4, none⟩ = some (.int .u64 x.set.w3.toNat) ∧ w.cell? ⟨B, 5, none⟩ = some (.int .i64 x.n) ∧ w.cell? ⟨B, 6, none⟩ = some (.int .i64 x.min) ∧ w.cell? ⟨B, 7, none⟩ = some (.int .i64 x.max) ∧ w.cell? ⟨B, 8, none⟩ = some (.int .i64 x.kids) ∧ (∀ o, w.frozen? ⟨B, o, none⟩ = false) := by
  have hc : ∀ j, w.cell? ⟨B, j, none⟩ = (ndCells x)[j]? := fun j => cell_of_row w B j _ _ (0, 0) h
  exact ⟨hc 0, hc 1, hc 2, hc 3, hc 4, hc 5, hc 6, hc 7, hc 8, frozen_cls h⟩
theorem ret_ndR {fn : Func} {p : Tmp} (h : fn.results = #[.cell p 77]) {R : Ending → World → Prop} {a : Act} {W : World}
    (ha : a.tmps.getD p undef = .pointer (some ⟨B, 0, none⟩)) (hd : a.defers = []) (hB : ndAt W B x) (hR : R (.returned (ndV x)) W) : bodyPost Tryd.prog fn R .ret a W := by
  refine bodyPost_ret (v := ndV x) ?_ hd hR
  rw [results_cell1 h, ha]
  simp [asAddr, load_row9 hB, Result.andThen]
/-- A node stored into a node's block. -/
theorem ndAt_set (h : isNd w B) (s0 s1 s2 s3 s4 s5 s6 s7 s8 : Int) (hx : ndCells x = #[.int .i8 s0, .int .u64 s1, .int .u64 s2, .int .u64 s3, .int .u64 s4, .int .i64 s5, .int .i64 s6, .int .i64 s7, .int .i64 s8]) : ndAt (setNd w B s0 s1 s2 s3 s4 s5 s6 s7 s8) B x := by
  unfold ndAt
  rw [hx]
  exact setNd_at h _ _ _ _ _ _ _ _ _
end
section
variable {w w' : World} {rb : Nat} {ere : Bool} {mb mo cap : Nat} {L : List Mk} {s : Rst} {k : Nat} {ev : Value}
theorem RdS.belowB {B : Nat} (h : RdS w rb ere mb mo cap L s k ev) (hb : Below B w w') (hr : rb < B) (he : ∀ g, ev.ownBlock = some g → g < B) : RdS w' rb ere mb mo cap L s k ev :=
  h.block (fun g hg => hb.block g (he g hg)) (hb.block rb hr) (hb.block mb (Nat.lt_trans h.mlt hr)) hb.size
theorem RBut.belowB {eb : Option Nat} {w0 : World} (h : RBut rb eb w0 w) (hb : Below w0.heap.size w w') : RBut rb eb w0 w' :=
  ⟨hb.os.trans h.os, hb.tape.trans h.tape, hb.output.trans h.output, Nat.le_trans h.size hb.size, fun k hk h1 h2 => (hb.block k hk).trans (h.block k hk h1 h2)⟩
end
section
variable {w : World} {rb : Nat} {ere : Bool} {mb mo cap : Nat} {L : List Mk} {s : Rst} {k : Nat} {ev : Value}

set_option maxRecDepth 100000 in
set_option maxHeartbeats 1600000 in
theorem duplication_any (hv : RdS w rb ere mb mo cap L s k ev) (hs : repeatsL ere L s.i = true) :
    Calls Tryd.prog 94 #[.pointer (some ⟨rb, 0, none⟩)] w (Post w rb ere mb mo cap L k ev (dupL ere L s) fun d v _ ev' => v = ndV d ∧ ev' = ev) := by
  have hlen := hv.m.len
  have hW : ∃ W B2 B3, W = (newNd w).alloc (.cells #[.int .i8 6, .int .u64 0, .int .u64 0, .int .u64 0, .int .u64 0, .int .i64 0, .int .i64 0, .int .i64 (-1), .int .i64 1] 77) ∧ B2 = w.heap.size ∧ B3 = w.heap.size + 1 ∧ RdS W rb ere mb mo cap L s k ev ∧ RBut rb ev.ownBlock w W ∧ isNd W B2 ∧ ndAt W B3 (repN 0 (-1)) ∧ W.heap.size = B2 + 2 ∧ Below w.heap.size w W := by
    refine ⟨_, _, _, rfl, rfl, rfl, ?_, ?_, ?_, ?_, ?_, ?_⟩
    · exact (hv.below (newNd_below w)).alloc _
    · exact ((RBut.refl _ _ _).below (newNd_below w)).alloc _
    · exact (newNd_is w).below ((Below.refl _ _).alloc (Nat.le_refl _) _)
    · have h := heap_alloc_new (newNd w) (.cells #[.int .i8 6, .int .u64 0, .int .u64 0, .int .u64 0, .int .u64 0, .int .i64 0, .int .i64 0, .int .i64 (-1), .int .i64 1] 77)
      rw [newNd_size] at h
      exact h
    · simp [newNd_size]
    · exact (newNd_below w).alloc (by rw [newNd_size]; omega) _
  obtain ⟨W, B2, B3, hW, hB2, hB3, hr, hb, hA, hN, hZ, hBl⟩ := hW
  have hrlt := hv.lt
  have n2 : ¬ rb = B2 := by omega
  have n3 : ¬ rb = B3 := by omega
  have n4 : ¬ B2 = B3 := by omega
  have hel : ∀ g, ev.ownBlock = some g → g < B2 := fun g hg => by have := (hv.own.lt g hg).2; omega
  go_enter Tryd.func94, Tryd.ntmps94
  go_wp2_with fail
  rw [fold_newNd, ← hW, ← hB3, ← hB2]
  have HB2 := Lib.hid hB2
  have HB3 := Lib.hid hB3
  have HEL := Lib.hid hel
  clear hW hB2 hB3 hel
  cases h1 : seesAt L s.i [42] with
  | true =>
    have HF : Hid (dupL ere L s = .ok (repN 0 (-1)) ⟨s.i + 1, s.ended⟩) := by simp [Hid, dupL, h1]
    have hj : s.i + 1 ≤ L.length := by simpa using seesAt_le (by decide) h1
    refine (sees_as _ _ _ (by decide) (by rfl) h1 hr.v).mono ?_; rintro e WX ⟨rfl, hb9⟩
    have hrX := hr.below hb9
    have hbX := hb.below hb9
    have hAX := hA.below hb9
    have hNX := hN.below hb9
    clear hb9
    have HR := Lib.hid hrX
    have HB := Lib.hid hbX
    have HA := Lib.hid hAX
    have HN := Lib.hid hNX
    have rbl := hrX.lt
    have d2 := hrX.c2
    have f2 := hrX.fz 2
    obtain ⟨a0, a1, a2, a3, a4, a5, a6, a7, a8, A0, A1, A2, A3, A4, A5, A6, A7, A8, g0⟩ := hAX.cells
    obtain ⟨N0, N1, N2, N3, N4, N5, N6, N7, N8, g1⟩ := hNX.cells
    simp only [repN, Cls.zero] at N0 N1 N2 N3 N4 N5 N6 N7 N8
    have l2 := hAX.lt
    have l3 := hNX.lt
    clear hrX hbX hAX hNX
    go_wp2_with fail
    rw [fold_setNd]
    have hlt : rb < B2 := by rw [HB2.out]; exact hrlt
    have h23 : B2 ≤ B3 := by rw [HB2.out, HB3.out]; omega
    have hwB : w.heap.size ≤ B3 := by rw [HB3.out]; omega
    have hrZ := (HR.out).setAt (j := s.i + 1) hj
    have hbZ := (HB.out).store 2 (.int .i64 ((s.i + 1 : Nat) : Int))
    rw [Int.natCast_add, show ((1 : Nat) : Int) = 1 from rfl] at hrZ hbZ
    refine ret_ndR Tryd.results94 rfl rfl (x := repN 0 (-1)) (ndAt_set (isNd_store (HA.out) _ _ (Ne.symm n2)) _ _ _ _ _ _ _ _ _ rfl) ⟨hbZ.belowB (setNd_below (by rw [HB2.out]; exact Nat.le_refl _) _ _ _ _ _ _ _ _ _), ?_⟩
    rw [HF.out]
    exact ⟨_, ev, rfl, hrZ.belowB (setNd_below (Nat.le_refl _) _ _ _ _ _ _ _ _ _) hlt HEL.out, newOr.refl _ _, rfl, rfl⟩
  | false =>
    refine (sees_as _ _ _ (by decide) (by rfl) h1 hr.v).mono ?_; rintro e W1 ⟨rfl, hb9⟩
    have hr1 := hr.below hb9
    have hb1 := hb.below hb9
    have hA1 := hA.below hb9
    have hN1 := hN.below hb9
    clear hb9
    cases h2 : seesAt L s.i [43] with
    | true =>
      have HF : Hid (dupL ere L s = .ok (repN 1 (-1)) ⟨s.i + 1, s.ended⟩) := by simp [Hid, dupL, h1, h2]
      have hj : s.i + 1 ≤ L.length := by simpa using seesAt_le (by decide) h2
      go_wp2_with fail
      refine (sees_as _ _ _ (by decide) (by rfl) h2 hr1.v).mono ?_; rintro e WX ⟨rfl, hb9⟩
      have hrX := hr1.below hb9
      have hbX := hb1.below hb9
      have hAX := hA1.below hb9
      have hNX := hN1.below hb9
      clear hb9
      have HR := Lib.hid hrX
      have HB := Lib.hid hbX
      have HA := Lib.hid hAX
      have HN := Lib.hid hNX
      have rbl := hrX.lt
      have d2 := hrX.c2
      have f2 := hrX.fz 2
      obtain ⟨a0, a1, a2, a3, a4, a5, a6, a7, a8, A0, A1, A2, A3, A4, A5, A6, A7, A8, g0⟩ := hAX.cells
      obtain ⟨N0, N1, N2, N3, N4, N5, N6, N7, N8, g1⟩ := hNX.cells
      simp only [repN, Cls.zero] at N0 N1 N2 N3 N4 N5 N6 N7 N8
      have l2 := hAX.lt
      have l3 := hNX.lt
      clear hrX hbX hAX hNX
      go_wp2_with fail
      rw [fold_setNd]
      have hlt : rb < B2 := by rw [HB2.out]; exact hrlt
      have h23 : B2 ≤ B3 := by rw [HB2.out, HB3.out]; omega
      have hwB : w.heap.size ≤ B3 := by rw [HB3.out]; omega
      have hrY0 := (HR.out).belowB (B := B2) ((Below.refl _ _).setCell (p := ⟨B3, 6, none⟩) h23 (.int .i64 1)) hlt HEL.out
      have hbY0 := (HB.out).belowB ((Below.refl _ _).setCell (p := ⟨B3, 6, none⟩) hwB (.int .i64 1))
      have hAY0 := isNd_store (HA.out) 6 (.int .i64 1) n4
      have hrZ := (hrY0).setAt (j := s.i + 1) hj
      have hbZ := (hbY0).store 2 (.int .i64 ((s.i + 1 : Nat) : Int))
      rw [Int.natCast_add, show ((1 : Nat) : Int) = 1 from rfl] at hrZ hbZ
      refine ret_ndR Tryd.results94 rfl rfl (x := repN 1 (-1)) (ndAt_set (isNd_store (hAY0) _ _ (Ne.symm n2)) _ _ _ _ _ _ _ _ _ rfl) ⟨hbZ.belowB (setNd_below (by rw [HB2.out]; exact Nat.le_refl _) _ _ _ _ _ _ _ _ _), ?_⟩
      rw [HF.out]
      exact ⟨_, ev, rfl, hrZ.belowB (setNd_below (Nat.le_refl _) _ _ _ _ _ _ _ _ _) hlt HEL.out, newOr.refl _ _, rfl, rfl⟩
    | false =>
      go_wp2_with fail
      refine (sees_as _ _ _ (by decide) (by rfl) h2 hr1.v).mono ?_; rintro e W2 ⟨rfl, hb9⟩
      have hr2 := hr1.below hb9
      have hb2 := hb1.below hb9
      have hA2 := hA1.below hb9
      have hN2 := hN1.below hb9
      clear hb9
      cases h3 : seesAt L s.i [63] with
      | true =>
        have HF : Hid (dupL ere L s = .ok (repN 0 1) ⟨s.i + 1, s.ended⟩) := by simp [Hid, dupL, h1, h2, h3]
        have hj : s.i + 1 ≤ L.length := by simpa using seesAt_le (by decide) h3
        go_wp2_with fail
        refine (sees_as _ _ _ (by decide) (by rfl) h3 hr2.v).mono ?_; rintro e WX ⟨rfl, hb9⟩
        have hrX := hr2.below hb9
        have hbX := hb2.below hb9
        have hAX := hA2.below hb9
        have hNX := hN2.below hb9
        clear hb9
        have HR := Lib.hid hrX
        have HB := Lib.hid hbX
        have HA := Lib.hid hAX
        have HN := Lib.hid hNX
        have rbl := hrX.lt
        have d2 := hrX.c2
        have f2 := hrX.fz 2
        obtain ⟨a0, a1, a2, a3, a4, a5, a6, a7, a8, A0, A1, A2, A3, A4, A5, A6, A7, A8, g0⟩ := hAX.cells
        obtain ⟨N0, N1, N2, N3, N4, N5, N6, N7, N8, g1⟩ := hNX.cells
        simp only [repN, Cls.zero] at N0 N1 N2 N3 N4 N5 N6 N7 N8
        have l2 := hAX.lt
        have l3 := hNX.lt
        clear hrX hbX hAX hNX
        go_wp2_with fail
        rw [fold_setNd]
        have hlt : rb < B2 := by rw [HB2.out]; exact hrlt
        have h23 : B2 ≤ B3 := by rw [HB2.out, HB3.out]; omega
        have hwB : w.heap.size ≤ B3 := by rw [HB3.out]; omega
        have hrY0 := (HR.out).belowB (B := B2) ((Below.refl _ _).setCell (p := ⟨B3, 7, none⟩) h23 (.int .i64 1)) hlt HEL.out
        have hbY0 := (HB.out).belowB ((Below.refl _ _).setCell (p := ⟨B3, 7, none⟩) hwB (.int .i64 1))
        have hAY0 := isNd_store (HA.out) 7 (.int .i64 1) n4
        have hrZ := (hrY0).setAt (j := s.i + 1) hj
        have hbZ := (hbY0).store 2 (.int .i64 ((s.i + 1 : Nat) : Int))
        rw [Int.natCast_add, show ((1 : Nat) : Int) = 1 from rfl] at hrZ hbZ
        refine ret_ndR Tryd.results94 rfl rfl (x := repN 0 1) (ndAt_set (isNd_store (hAY0) _ _ (Ne.symm n2)) _ _ _ _ _ _ _ _ _ rfl) ⟨hbZ.belowB (setNd_below (by rw [HB2.out]; exact Nat.le_refl _) _ _ _ _ _ _ _ _ _), ?_⟩
        rw [HF.out]
        exact ⟨_, ev, rfl, hrZ.belowB (setNd_below (Nat.le_refl _) _ _ _ _ _ _ _ _ _) hlt HEL.out, newOr.refl _ _, rfl, rfl⟩
      | false =>
        go_wp2_with fail
        refine (sees_as _ _ _ (by decide) (by rfl) h3 hr2.v).mono ?_; rintro e W3 ⟨rfl, hb9⟩
        have hr3 := hr2.below hb9
        have hb3 := hb2.below hb9
        have hA3 := hA2.below hb9
        have hN3 := hN2.below hb9
        clear hb9
        have hs2 : s.i + wideB ere ≤ L.length := by
          refine seesSign_le (c := 123) ?_
          have h := hs
          simp only [repeatsL, h1, h2, h3] at h
          simpa using h
        go_wp2_with fail
        refine (interval_any hr3 hs2).mono ?_
        rintro e W4 ⟨hb4, hp⟩
        cases hi : intervalL ere L s with
        | no er pl =>
          have HF : Hid (dupL ere L s = .no er pl) := by simp [Hid, dupL, h1, h2, h3, hi]
          rw [hi] at hp
          simp only [faults] at hp
          subst hp
          have hb5 := hb3.trans (.inl rfl) hb4
          go_wp2_with fail
          exact ⟨rfl, hb5, by rw [HF.out]; rfl⟩
        | ok a t =>
          obtain ⟨lo, hh⟩ := a
          have HF : Hid (dupL ere L s = .ok (repN lo hh) t) := by simp [Hid, dupL, h1, h2, h3, hi]
          rw [hi] at hp
          simp only at hp
          obtain ⟨v, ev', rfl, hrX, hn4, rfl, rfl⟩ := hp
          have hbX := hb3.trans (.inl rfl) hb4
          have hAX : isNd W4 B2 := isNd_block hA3 (hb4.block _ hA3.lt (Ne.symm n2) (by intro e; have := HEL.out _ e.symm; omega))
          have hNX : ndAt W4 B3 (repN 0 (-1)) := hN3.block (hb4.block _ hN3.lt (Ne.symm n3) (by intro e; have := HEL.out _ e.symm; have := HB2.out; have := HB3.out; omega))
          have HR := Lib.hid hrX
          have HB := Lib.hid hbX
          have HA := Lib.hid hAX
          have HN := Lib.hid hNX
          have rbl := hrX.lt
          have d2 := hrX.c2
          have f2 := hrX.fz 2
          obtain ⟨a0, a1, a2, a3, a4, a5, a6, a7, a8, A0, A1, A2, A3, A4, A5, A6, A7, A8, g0⟩ := hAX.cells
          obtain ⟨N0, N1, N2, N3, N4, N5, N6, N7, N8, g1⟩ := hNX.cells
          simp only [repN, Cls.zero] at N0 N1 N2 N3 N4 N5 N6 N7 N8
          have l2 := hAX.lt
          have l3 := hNX.lt
          clear hrX hbX hAX hNX
          go_wp2_with fail
          rw [fold_setNd]
          have hlt : rb < B2 := by rw [HB2.out]; exact hrlt
          have h23 : B2 ≤ B3 := by rw [HB2.out, HB3.out]; omega
          have hwB : w.heap.size ≤ B3 := by rw [HB3.out]; omega
          have hrY0 := (HR.out).belowB (B := B2) ((Below.refl _ _).setCell (p := ⟨B3, 6, none⟩) h23 (.int .i64 lo)) hlt HEL.out
          have hbY0 := (HB.out).belowB ((Below.refl _ _).setCell (p := ⟨B3, 6, none⟩) hwB (.int .i64 lo))
          have hAY0 := isNd_store (HA.out) 6 (.int .i64 lo) n4
          have hrY1 := (hrY0).belowB (B := B2) ((Below.refl _ _).setCell (p := ⟨B3, 7, none⟩) h23 (.int .i64 hh)) hlt HEL.out
          have hbY1 := (hbY0).belowB ((Below.refl _ _).setCell (p := ⟨B3, 7, none⟩) hwB (.int .i64 hh))
          have hAY1 := isNd_store (hAY0) 7 (.int .i64 hh) n4
          refine ret_ndR Tryd.results94 rfl rfl (x := repN lo hh) (ndAt_set (hAY1) _ _ _ _ _ _ _ _ _ rfl) ⟨(hbY1).belowB (setNd_below (by rw [HB2.out]; exact Nat.le_refl _) _ _ _ _ _ _ _ _ _), ?_⟩
          rw [HF.out]
          exact ⟨_, _, rfl, (hrY1).belowB (setNd_below (Nat.le_refl _) _ _ _ _ _ _ _ _ _) hlt HEL.out, newOr.refl _ _, rfl, rfl⟩
end
end Go.Proofs.YtbdjcmhfcdamiaaDoor
