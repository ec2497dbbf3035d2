/- Contracts of package syntax's reader: anything, bracket, begin, end. -/
import Derived.Test.YtbdjcmhfcdamiaaDoorRe
import Derived.Test.YtbdjcmhfcdamiaaDoorWh
namespace Go.Proofs.YtbdjcmhfcdamiaaDoor
open Go.RowKit

/-- What an atom hands back: its nodes, and whether it takes a duplication. -/
def AtomR (w0 : World) (a : List Nd × Bool) (v : Value) (w' : World) (ev' : Value) : Prop := ∃ v1, v = .tuple #[v1, .bool a.2] ∧ NdRow w0 a.1 v1 w' ev'
theorem ndCells_size (x : Nd) : (ndCells x).size = 9 := rfl
theorem NdRow.lit {w0 w : World} {ev : Value} (x : Nd) (hs : w0.heap.size ≤ w.heap.size) (he : ∀ g, ev.ownBlock = some g → g < w.heap.size) :
    NdRow w0 [x] (.slice (some ⟨w.heap.size, 0, none⟩) 1 1) (w.alloc (.cells (ndCells x) 77)) ev := by
  refine ⟨?_, ?_⟩
  · have h := World.ownsRow_lit (base := w0.heap.size) (e := 77) (size := 9) w (ndCells x) 1 hs (by decide) (by rw [ndCells_size])
    simpa using h
  · intro g hg he'
    simp only [Value.ownBlock, Option.some.injEq] at hg
    have := he g he'.symm
    omega
theorem NdRow.drew {w0 w : World} {re : List Nd} {v ev : Value} (h : NdRow w0 re v w ev) : NdRow w0 re v w.drew ev := ⟨h.1.drew, h.2⟩
theorem ownsRow_mono {w : World} {base base' : Nat} {e : TypeId} {size : Nat} {v : Value} {n : Nat} {xs : List Value} (h : w.ownsRow base e size v n xs) (hb : base' ≤ base) : w.ownsRow base' e size v n xs := by
  refine ⟨h.1, ?_⟩
  rcases h.2 with h2 | ⟨g, cap, cur, hv, hg, r⟩
  · exact .inl h2
  · exact .inr ⟨g, cap, cur, hv, Nat.le_trans hb hg, r⟩
theorem NdRow.mono {w0 w1 w : World} {re : List Nd} {v ev : Value} (h : NdRow w1 re v w ev) (hs : w0.heap.size ≤ w1.heap.size) : NdRow w0 re v w ev := ⟨ownsRow_mono h.1 hs, h.2⟩
section
variable {w : World} {rb : Nat} {ere : Bool} {mb mo cap : Nat} {L : List Mk} {s : Rst} {k : Nat} {ev : Value}
theorem RdS.evlt (h : RdS w rb ere mb mo cap L s k ev) : ∀ g, ev.ownBlock = some g → g < w.heap.size := fun g hg => (h.own.lt g hg).2
/-- The end of an atom of one node: the world where its list is laid. -/
theorem atom_post {w0 : World} {o : Out (List Nd × Bool)} {x : Nd} {b : Bool} {t : Rst} (ho : o = .ok ([x], b) t) (hr : RdS w rb ere mb mo cap L t k ev) (hb : RBut rb ev.ownBlock w0 w) {n : Nat} (hn : w.heap.size = n) :
    Post w0 rb ere mb mo cap L k ev o (AtomR w0) (.returned (.tuple #[.slice (some ⟨n, 0, none⟩) 1 1, .bool b])) (w.alloc (.cells (ndCells x) 77)) := by
  subst ho hn
  exact ⟨hb.alloc _, _, ev, rfl, hr.alloc _, newOr.refl _ _, _, rfl, NdRow.lit x hb.size hr.evlt⟩

set_option maxRecDepth 100000 in
set_option maxHeartbeats 800000 in
theorem anything_any (hv : RdS w rb ere mb mo cap L s k ev) (hs : s.i < L.length) (fb : Bool) :
    Calls Tryd.prog 70 #[.pointer (some ⟨rb, 0, none⟩), .bool fb] w (Post w rb ere mb mo cap L k ev (anyL s) (AtomR w)) := by
  have hlen := hv.m.len
  have hrz := range_any 0 255 (by decide) (by decide)
  have HF : Hid (anyL s = .ok ([setN (Cls.range 0 255)], true) ⟨s.i + 1, s.ended⟩) := rfl
  generalize Cls.range 0 255 = c at hrz HF
  obtain ⟨x0, x1, x2, x3⟩ := c
  have rbl := hv.lt
  have d2 := hv.c2
  have f2 := hv.fz 2
  go_enter Tryd.func70, Tryd.ntmps70
  go_wp2_with fail
  have hr1 := hv.setAt (j := s.i + 1) hs
  have hb1 := (RBut.refl rb ev.ownBlock w).store 2 (.int .i64 ((s.i + 1 : Nat) : Int))
  rw [Int.natCast_add, show ((1 : Nat) : Int) = 1 from rfl] at hr1 hb1
  refine (hrz _).mono ?_; rintro e w1 ⟨rfl, hb2⟩
  have HR := Lib.hid (hr1.below hb2)
  have HB := Lib.hid (hb1.below hb2)
  clear hr1 hb1 hb2 hrz
  go_wp2_with fail
  go_ret2
  exact atom_post HF.out HR.out HB.out (by simp)

set_option maxRecDepth 100000 in
set_option maxHeartbeats 800000 in
theorem begin_any (hv : RdS w rb ere mb mo cap L s k ev) (hs : s.i < L.length) (fb : Bool) :
    Calls Tryd.prog 73 #[.pointer (some ⟨rb, 0, none⟩), .bool fb] w (Post w rb ere mb mo cap L k ev (beginL ere fb s) (AtomR w)) := by
  have hlen := hv.m.len
  have rbl := hv.lt
  have c0 := hv.c0
  have d2 := hv.c2
  have f2 := hv.fz 2
  have hr1 := hv.setAt (j := s.i + 1) hs
  have hb1 := (RBut.refl rb ev.ownBlock w).store 2 (.int .i64 ((s.i + 1 : Nat) : Int))
  rw [Int.natCast_add, show ((1 : Nat) : Int) = 1 from rfl] at hr1 hb1
  have HR := Lib.hid hr1
  have HB := Lib.hid hb1
  clear hr1 hb1
  have one : ere = false → fb = false → Calls Tryd.prog 73 #[.pointer (some ⟨rb, 0, none⟩), .bool fb] w (Post w rb ere mb mo cap L k ev (beginL ere fb s) (AtomR w)) := by
    rintro rfl rfl
    have HF : Hid (beginL false false s = .ok ([oneN 94], true) ⟨s.i + 1, s.ended⟩) := rfl
    go_enter Tryd.func73, Tryd.ntmps73
    go_wp2_with fail
    refine (one_any 94 (by decide) _).mono ?_; rintro e w1 ⟨rfl, hb2⟩
    have HR1 := Lib.hid (HR.out.below hb2)
    have HB1 := Lib.hid (HB.out.below hb2)
    clear hb2
    generalize oneN 94 = x at HF ⊢
    obtain ⟨op, ⟨x0, x1, x2, x3⟩, xn, xmin, xmax, xk⟩ := x
    go_wp2_with fail
    go_ret2
    exact atom_post HF.out HR1.out HB1.out rfl
  have other : (ere = true ∨ fb = true) → Calls Tryd.prog 73 #[.pointer (some ⟨rb, 0, none⟩), .bool fb] w (Post w rb ere mb mo cap L k ev (beginL ere fb s) (AtomR w)) := by
    intro h
    have HF : Hid (beginL ere fb s = .ok ([beginN], false) ⟨s.i + 1, s.ended⟩) := by rcases h with rfl | rfl <;> simp [Hid, beginL]
    cases ere with
    | true =>
      go_enter Tryd.func73, Tryd.ntmps73
      go_wp2_with fail
      go_ret2
      exact atom_post HF.out HR.out HB.out (by simp [World.setCell])
    | false =>
      have hf : fb = true := by simpa using h
      subst hf
      go_enter Tryd.func73, Tryd.ntmps73
      go_wp2_with fail
      go_ret2
      exact atom_post HF.out HR.out HB.out (by simp [World.setCell])
  cases ere with
  | true => exact other (.inl rfl)
  | false =>
    cases fb with
    | true => exact other (.inr rfl)
    | false => exact one rfl rfl

set_option maxRecDepth 100000 in
set_option maxHeartbeats 800000 in
theorem end_any (hv : RdS w rb ere mb mo cap L s k ev) (hs : s.i < L.length) (fb : Bool) :
    Calls Tryd.prog 74 #[.pointer (some ⟨rb, 0, none⟩), .bool fb] w (Post w rb ere mb mo cap L k ev (endL ere L s) (AtomR w)) := by
  have hlen := hv.m.len
  have rbl := hv.lt
  have d2 := hv.c2
  have f2 := hv.fz 2
  have hr1 := hv.setAt (j := s.i + 1) hs
  have hb1 := (RBut.refl rb ev.ownBlock w).store 2 (.int .i64 ((s.i + 1 : Nat) : Int))
  rw [Int.natCast_add, show ((1 : Nat) : Int) = 1 from rfl] at hr1 hb1
  have HR := Lib.hid hr1
  have HB := Lib.hid hb1
  have R0 := hr1.c0
  have R1 := hr1.c1
  have R2 := hr1.c2
  have RL := hr1.lt
  rw [Int.natCast_add, show ((1 : Nat) : Int) = 1 from rfl] at R2
  clear hr1 hb1
  go_enter Tryd.func74, Tryd.ntmps74
  go_upto_region 2 with fail
  clear d2 f2 rbl
  revert HR HB R0 R1 R2 RL
  generalize w.setCell ⟨rb, 2, none⟩ (.int .i64 ((s.i : Int) + 1)) = W
  intro HR HB R0 R1 R2 RL
  cases ere with
  | true =>
    have HF : Hid (endL true L s = .ok ([endN], false) ⟨s.i + 1, s.ended⟩) := rfl
    refine wp_region_segs (X := none) 22 [([0, 1, 2, 3, 4, 5, 6, 7, 8, 9, 10, 11, 12, 13, 14, 15, 16, 17, 18], 19)] [20, 21] (by kernel_rfl) (by kernel_rfl) rfl (fun _ _ _ _ _ h => h) ?_
    simp only [wpSegs, pickSegs_nil, pickSegs_cons, pickOps_nil, pickOps_cons, List.getD_cons_zero, List.getD_cons_succ, List.drop_succ_cons, List.drop_nil]
    repeat (go_big_quiet_step (fail))
    refine wpQuiet_nil ?_
    go_wp2_with fail
    refine ⟨Keeps.refl _, ?_⟩
    repeat (go_big_quiet_step (fail))
    refine wpQuiet_nil ?_
    go_wp2_with fail
    go_ret2
    exact atom_post HF.out HR.out.drew HB.out.drew rfl
  | false =>
    by_cases hlt : s.i + 1 < L.length
    · have hlt' : ((s.i : Int) + 1 < (L.length : Int)) := by omega
      cases hc : seesAt L (s.i + 1) [92, 41] with
      | true =>
        have HF : Hid (endL false L s = .ok ([endN], false) ⟨s.i + 1, s.ended⟩) := by simp [Hid, endL, hc]
        refine wp_region_segs (X := none) 22 [([0, 1, 2, 3, 4, 5, 6, 7, 8, 9, 10, 11, 12, 13, 14, 15, 16, 17, 18], 19)] [20, 21] (by kernel_rfl) (by kernel_rfl) rfl (fun _ _ _ _ _ h => h) ?_
        simp only [wpSegs, pickSegs_nil, pickSegs_cons, pickOps_nil, pickOps_cons, List.getD_cons_zero, List.getD_cons_succ, List.drop_succ_cons, List.drop_nil]
        repeat (go_big_quiet_step (fail))
        refine wpQuiet_nil ?_
        go_wp2_with fail
        refine (sees_as _ _ _ (by decide) (by rfl) hc HR.out.drew.v).mono ?_; rintro e w1 ⟨rfl, hb2⟩
        have HR1 := Lib.hid (HR.out.drew.below hb2)
        have HB1 := Lib.hid (HB.out.drew.below hb2)
        have hk := Keeps.of_below (X := none) hb2
        go_wp2_with fail
        refine ⟨hk, ?_⟩
        repeat (go_big_quiet_step (fail))
        refine wpQuiet_nil ?_
        clear hk hb2
        go_wp2_with fail
        go_ret2
        exact atom_post HF.out HR1.out HB1.out rfl
      | false =>
        have HF : Hid (endL false L s = .ok ([oneN 36], true) ⟨s.i + 1, s.ended⟩) := by simp [Hid, endL, hc, hlt]
        refine wp_region_segs (X := none) 22 [([0, 1, 2, 3, 4, 5, 6, 7, 8, 9, 10, 11, 12, 13, 14, 15, 16, 17, 18], 19)] [20, 21] (by kernel_rfl) (by kernel_rfl) rfl (fun _ _ _ _ _ h => h) ?_
        simp only [wpSegs, pickSegs_nil, pickSegs_cons, pickOps_nil, pickOps_cons, List.getD_cons_zero, List.getD_cons_succ, List.drop_succ_cons, List.drop_nil]
        repeat (go_big_quiet_step (fail))
        refine wpQuiet_nil ?_
        go_wp2_with fail
        refine (sees_as _ _ _ (by decide) (by rfl) hc HR.out.drew.v).mono ?_; rintro e w1 ⟨rfl, hb2⟩
        have HR1 := HR.out.drew.below hb2
        have HB1 := HB.out.drew.below hb2
        have hk := Keeps.of_below (X := none) hb2
        go_wp2_with fail
        refine ⟨hk, ?_⟩
        repeat (go_big_quiet_step (fail))
        refine wpQuiet_nil ?_
        clear hk hb2
        go_wp2_with fail
        refine (one_any 36 (by decide) _).mono ?_; rintro e w2 ⟨rfl, hb2⟩
        have HR2 := Lib.hid (HR1.below hb2)
        have HB2 := Lib.hid (HB1.below hb2)
        clear hb2 HR1 HB1
        generalize oneN 36 = x at HF ⊢
        obtain ⟨op, ⟨x0, x1, x2, x3⟩, xn, xmin, xmax, xk⟩ := x
        go_wp2_with fail
        go_ret2
        exact atom_post HF.out HR2.out HB2.out rfl
    · have hlt' : ¬ ((s.i : Int) + 1 < (L.length : Int)) := by omega
      have HF : Hid (endL false L s = .ok ([endN], false) ⟨s.i + 1, s.ended⟩) := by simp [Hid, endL, hlt]
      refine wp_region_segs (X := none) 22 [([0, 1, 2, 3, 4, 5, 6, 7, 8, 9, 10, 11, 12, 13, 14, 15, 16, 17, 18], 19)] [20, 21] (by kernel_rfl) (by kernel_rfl) rfl (fun _ _ _ _ _ h => h) ?_
      simp only [wpSegs, pickSegs_nil, pickSegs_cons, pickOps_nil, pickOps_cons, List.getD_cons_zero, List.getD_cons_succ, List.drop_succ_cons, List.drop_nil]
      repeat (go_big_quiet_step (fail))
      refine wpQuiet_nil ?_
      go_wp2_with fail
      refine ⟨Keeps.refl _, ?_⟩
      repeat (go_big_quiet_step (fail))
      refine wpQuiet_nil ?_
      go_wp2_with fail
      go_ret2
      exact atom_post HF.out HR.out.drew HB.out.drew rfl
end
end Go.Proofs.YtbdjcmhfcdamiaaDoor
