/- Contract of bracket.Parse. -/
import Derived.Test.YtbdjcmhfcdamiaaDoorWg
namespace Go.Proofs.YtbdjcmhfcdamiaaDoor
open Go.RowKit

/-- Is there a block of a class? -/
def isCl (w : World) (B : Nat) : Prop := ∃ a0 a1 a2 a3 : Value, w.heap[B]? = some (.cells #[a0, a1, a2, a3] 75 (0, 0))
theorem clsAt.is {w : World} {B : Nat} {c : Cls} (h : clsAt w B c) : isCl w B := ⟨_, _, _, _, h⟩
theorem isCl.lt {w : World} {B : Nat} (h : isCl w B) : B < w.heap.size := by
  obtain ⟨_, _, _, _, h⟩ := h
  exact (Array.getElem?_eq_some_iff.1 h).1
/-- A class stored. -/
def setCl (w : World) (B : Nat) (s0 s1 s2 s3 : Int) : World :=
  (((w.setCell ⟨B, 0, none⟩ (.int .u64 s0)).setCell ⟨B, 1, none⟩ (.int .u64 s1)).setCell ⟨B, 2, none⟩ (.int .u64 s2)).setCell ⟨B, 3, none⟩ (.int .u64 s3)
theorem fold_setCl (w : World) (B : Nat) (s0 s1 s2 s3 : Int) :
    (((w.setCell ⟨B, 0, none⟩ (.int .u64 s0)).setCell ⟨B, 1, none⟩ (.int .u64 s1)).setCell ⟨B, 2, none⟩ (.int .u64 s2)).setCell ⟨B, 3, none⟩ (.int .u64 s3) = setCl w B s0 s1 s2 s3 := rfl
theorem setCl_at {w : World} {B : Nat} (h : isCl w B) (s0 s1 s2 s3 : Int) :
    (setCl w B s0 s1 s2 s3).heap[B]? = some (.cells #[.int .u64 s0, .int .u64 s1, .int .u64 s2, .int .u64 s3] 75 (0, 0)) := by
  obtain ⟨a0, a1, a2, a3, h⟩ := h
  simp [setCl, World.setCell, Array.getElem?_modify, h]
theorem setCl_below {w : World} {B k : Nat} (h : k ≤ B) (s0 s1 s2 s3 : Int) : Below k w (setCl w B s0 s1 s2 s3) :=
  ((((Below.refl k w).setCell (p := ⟨B, 0, none⟩) h _).setCell (p := ⟨B, 1, none⟩) h _).setCell (p := ⟨B, 2, none⟩) h _).setCell (p := ⟨B, 3, none⟩) h _
theorem setCl_other {w : World} {B k : Nat} (h : k ≠ B) (s0 s1 s2 s3 : Int) : (setCl w B s0 s1 s2 s3).heap[k]? = w.heap[k]? := by
  unfold setCl
  rw [Below.heap_setCell _ _ _ _ h, Below.heap_setCell _ _ _ _ h, Below.heap_setCell _ _ _ _ h, Below.heap_setCell _ _ _ _ h]
theorem setCl_size {w : World} {B : Nat} (s0 s1 s2 s3 : Int) : (setCl w B s0 s1 s2 s3).heap.size = w.heap.size := by simp [setCl]
theorem load_row4 {w1 : World} {B : Nat} {s0 s1 s2 s3 : Int} (h1 : w1.heap[B]? = some (.cells #[.int .u64 s0, .int .u64 s1, .int .u64 s2, .int .u64 s3] 75 (0, 0))) :
    (loadVar 75 ⟨B, 0, none⟩).run Tryd.prog w1 = .ok (.agg #[.int .u64 s0, .int .u64 s1, .int .u64 s2, .int .u64 s3]) w1 := by
  have hc : ∀ j, w1.cell? ⟨B, j, none⟩ = (#[.int .u64 s0, .int .u64 s1, .int .u64 s2, .int .u64 s3] : Array Value)[j]? := fun j => cell_of_row w1 B j _ _ (0, 0) h1
  have c0 := hc 0
  have c1 := hc 1
  have c2 := hc 2
  have c3 := hc 3
  simp only [List.getElem?_toArray, List.getElem?_cons_zero, List.getElem?_cons_succ] at c0 c1 c2 c3
  simp [go_sem, c0, c1, c2, c3]

theorem results_cell_tmp2 {fn : Func} {p u v : Tmp} {ty : TypeId} (h : fn.results = #[.cell p ty, .tmp u, .tmp v]) (tmps : Array Value) (P : Program) (w : World) :
    (results fn tmps).run P w =
      ((asAddr (tmps.getD p undef)).run P w).andThen fun a w₁ => ((loadVar ty a).run P w₁).andThen fun x w₂ => .ok (.tuple #[x, tmps.getD u undef, tmps.getD v undef]) w₂ := by
  simp only [results, h]
  simp [Sem.run_bind, Result.andThen]

/-- What bracket.Parse hands back. -/
def brV : Except (Nat × Nat) (Cls × Nat) → Value
  | .error (f, p) => .tuple #[clsV Cls.zero, .int .i64 (p : Nat), .int .i64 (f : Nat)]
  | .ok (c, i) => .tuple #[clsV c, .int .i64 (i : Nat), .int .i64 0]

theorem ret_br {fn : Func} {p u v : Tmp} (h : fn.results = #[.cell p 75, .tmp u, .tmp v]) {a : Act} {w W w0 : World} {B : Nat} {s0 s1 s2 s3 : Int} {x y : Value} {r : Except (Nat × Nat) (Cls × Nat)}
    (ha : a.tmps.getD p undef = .pointer (some ⟨B, 0, none⟩)) (hu : a.tmps.getD u undef = x) (hv : a.tmps.getD v undef = y) (hd : a.defers = []) (his : isCl w B) (hW : Below (B + 1) (setCl w B s0 s1 s2 s3) W)
    (hr : brV r = .tuple #[.agg #[.int .u64 s0, .int .u64 s1, .int .u64 s2, .int .u64 s3], x, y]) (hb : Below w0.heap.size w0 w) (hB : w0.heap.size ≤ B) :
    bodyPost Tryd.prog fn (fun e w' => e = .returned (brV r) ∧ Below w0.heap.size w0 w') .ret a W := by
  refine bodyPost_ret (v := brV r) ?_ hd ⟨rfl, (hb.trans (setCl_below hB _ _ _ _)).trans (hW.mono (by omega))⟩
  rw [results_cell_tmp2 h, ha, hu, hv, hr]
  simp [asAddr, load_row4 ((hW.block B (Nat.lt_succ_self _)).trans (setCl_at his s0 s1 s2 s3)), Result.andThen]

set_option maxRecDepth 100000 in
set_option maxHeartbeats 3200000 in
theorem parse_any {mb mo cap : Nat} {L : List Mk} {w : World} (hm : MkAt w mb mo L) {a : Int} (at0 : Nat) (ha : a = at0) (hs : signAt L at0 91 = true) :
    Calls Tryd.prog 89 #[.slice (some ⟨mb, mo, none⟩) L.length cap, .int .i64 a] w fun e w' => e = .returned (brV (bracketL L at0)) ∧ Below w.heap.size w w' := by
  -- WALK
  subst ha
  have hL := hm.len
  have hmb := hm.lt
  have hat := signAt_lt hs
  have h1 : Br ((w.alloc (.cells #[.int .u64 0, .int .u64 0, .int .u64 0, .int .u64 0] 75)).alloc (.cells #[.slice (some ⟨mb, mo, none⟩) L.length cap, .int .i64 (at0 : Nat)] 183)) (w.heap.size + 1) mb mo cap L at0 := ⟨by simp, by rw [cell_of_row _ _ 0 _ _ (0, 0) (made_at (by simp))]; rfl, by rw [cell_of_row _ _ 1 _ _ (0, 0) (made_at (by simp))]; rfl, hm.below (by repeat (first | exact Below.refl _ _ | assumption | refine Below.drew ?_ | refine Below.alloc ?_ (by first | (simp; done) | (simp; omega) | omega) _ | refine Below.setCell ?_ (by first | (simp; done) | (simp; omega) | omega) _)), by omega⟩
  have hz : clsAt ((w.alloc (.cells #[.int .u64 0, .int .u64 0, .int .u64 0, .int .u64 0] 75)).alloc (.cells #[.slice (some ⟨mb, mo, none⟩) L.length cap, .int .i64 (at0 : Nat)] 183)) w.heap.size Cls.zero := (heap_alloc_old _ _ (by simp)).trans (heap_alloc_new _ _)
  have hb0 : Below w.heap.size w ((w.alloc (.cells #[.int .u64 0, .int .u64 0, .int .u64 0, .int .u64 0] 75)).alloc (.cells #[.slice (some ⟨mb, mo, none⟩) L.length cap, .int .i64 (at0 : Nat)] 183)) := (by repeat (first | exact Below.refl _ _ | assumption | refine Below.drew ?_ | refine Below.alloc ?_ (by first | (simp; done) | (simp; omega) | omega) _ | refine Below.setCell ?_ (by first | (simp; done) | (simp; omega) | omega) _))
  have hsr : w.heap.size + 1 < ((w.alloc (.cells #[.int .u64 0, .int .u64 0, .int .u64 0, .int .u64 0] 75)).alloc (.cells #[.slice (some ⟨mb, mo, none⟩) L.length cap, .int .i64 (at0 : Nat)] 183)).heap.size := by simp
  go_enter Tryd.func89, Tryd.ntmps89
  go_upto_region 2 with fail
  revert h1 hz hb0 hsr
  generalize (w.alloc (.cells #[.int .u64 0, .int .u64 0, .int .u64 0, .int .u64 0] 75)).alloc (.cells #[.slice (some ⟨mb, mo, none⟩) L.length cap, .int .i64 (at0 : Nat)] 183) = wq
  intro h1 hz hb0 hsr
  have HZ := Lib.hid hz
  obtain ⟨z0, z1, z2, z3⟩ := hz.cells
  have f0 := frozen_cls hz
  have hbw := hb0
  clear hz
  cases e1 : signAt L (at0 + 1) 94 with
  | false =>
    have hi0 : ∃ i0, i0 = at0 + 1 ∧ i0 ≤ L.length := ⟨at0 + 1, rfl, by omega⟩
    obtain ⟨i0, hi0, hi1⟩ := hi0
    have HB : Hid (bracketL L at0 = match itemsL L at0 (L.length + 2) Cls.zero i0 true with | .error f => .error f | .ok (c, i) => .ok (c, i + 1)) := by
      simp only [Hid, bracketL, e1, hi0]
      rfl
    go_wp2_with fail
    refine (bsign_any h1 at0 91 rfl rfl).mono ?_; rintro e ww ⟨rfl, rfl⟩
    go_wp2_with fail
    refine (bsign_any h1 (at0 + 1) 94 (by omega) rfl).mono ?_; rintro e ww ⟨rfl, rfl⟩
    go_wp2_with fail
    go_loopw [8, 11] (fun i f wr => ∃ (k n : Nat) (c : Cls) (first : Bool), i = .int .i64 n ∧ f = .bool first ∧ n ≤ L.length ∧ i0 ≤ n ∧ L.length + 2 ≤ k + n ∧
        Hid (itemsL L at0 (L.length + 2) Cls.zero i0 true = itemsL L at0 k c n first) ∧ clsAt wr wq.heap.size c ∧ Below wq.heap.size wq wr) (fun i _ _ => L.length - (intOf i).toNat)
    case atStart => exact ⟨L.length + 2, i0, Cls.zero, true, by rw [hi0]; go_num, rfl, hi1, Nat.le_refl _, by omega, rfl, heap_alloc_new wq _, (by repeat (first | exact Below.refl _ _ | assumption | refine Below.drew ?_ | refine Below.alloc ?_ (by first | (simp; done) | (simp; omega) | omega) _ | refine Below.setCell ?_ (by first | (simp; done) | (simp; omega) | omega) _))⟩
    case round =>
      obtain ⟨k, n, c, first, rfl, rfl, hn1, hn2, hk, HS, hc, hbe⟩ := hrel
      have h2 := h1.below hbe
      have hz2 := HZ.out.below hbe
      have hls := hb0.size
      clear z0 z1 z2 z3 f0
      obtain ⟨z0, z1, z2, z3⟩ := hz2.cells
      have f0 := frozen_cls hz2
      obtain ⟨q0, q1, q2, q3⟩ := hc.cells
      have g0 := frozen_cls hc
      have hcl := hc.lt
      have HC := Lib.hid hc
      have HZX := Lib.hid hz2
      clear hc hz2
      cases first with
      | true =>
        go_wp2_with fail
        refine (item_any h2 n rfl (by omega) true).mono ?_; rintro e w2 ⟨v, rfl, hf, hb1⟩
        obtain ⟨kk, rfl⟩ : ∃ m, k = m + 1 := ⟨k - 1, by omega⟩
        generalize hit : itemTh L at0 n true = r at *
        obtain ⟨a, fa⟩ := r
        have HT := Lib.hid hit
        clear hit
        simp only at hf
        go_upto_region 13 with fail
        have hx : thAt (w2.alloc (.cells #[.int .u64 a.set.w0.toNat, .int .u64 a.set.w1.toNat, .int .u64 a.set.w2.toNat, .int .u64 a.set.w3.toNat, .int .u8 (a.b : Nat), .bool a.fin, .int .i64 (a.next : Nat)] 186)) w2.heap.size a := heap_alloc_new w2 _
        have hbx : Below w2.heap.size w2 (w2.alloc (.cells #[.int .u64 a.set.w0.toNat, .int .u64 a.set.w1.toNat, .int .u64 a.set.w2.toNat, .int .u64 a.set.w3.toNat, .int .u8 (a.b : Nat), .bool a.fin, .int .i64 (a.next : Nat)] 186)) := (Below.refl _ _).alloc (Nat.le_refl _) _
        have hsx : w2.heap.size < (w2.alloc (.cells #[.int .u64 a.set.w0.toNat, .int .u64 a.set.w1.toNat, .int .u64 a.set.w2.toNat, .int .u64 a.set.w3.toNat, .int .u8 (a.b : Nat), .bool a.fin, .int .i64 (a.next : Nat)] 186)).heap.size := by simp
        revert hx hbx hsx
        generalize w2.alloc (.cells #[.int .u64 a.set.w0.toNat, .int .u64 a.set.w1.toNat, .int .u64 a.set.w2.toNat, .int .u64 a.set.w3.toNat, .int .u8 (a.b : Nat), .bool a.fin, .int .i64 (a.next : Nat)] 186) = w3
        intro hx hbx hsx
        have hb3 : Below wr.heap.size wr w3 := hb1.trans (hbx.mono hb1.size)
        have hfx := hf.below hbx
        have hbe3 := hbe.trans (hb3.mono hbe.size)
        have hc3 := HC.out.below hb3
        have hz3 := HZ.out.below hbe3
        clear z0 z1 z2 z3 f0 q0 q1 q2 q3 g0
        obtain ⟨z0, z1, z2, z3⟩ := hz3.cells
        have f0 := frozen_cls hz3
        have his3 := hz3.is
        obtain ⟨q0, q1, q2, q3⟩ := hc3.cells
        have g0 := frozen_cls hc3
        obtain ⟨x0, x1, x2, x3, x4, x5, x6⟩ := hx.cells
        have hl3 := hb3.size
        have hlx := hbe.size
        have hls := hb0.size
        have h4 : w.heap.size < w3.heap.size := by omega
        have h5 : wq.heap.size < w3.heap.size := by omega
        have HC3 := Lib.hid hc3
        have HZ3 := Lib.hid hz3
        have hl2 := hb1.size
        clear hc3 hz3 hf hbx
        generalize w2.heap.size = b9 at *
        cases fa with
        | some f =>
          obtain ⟨fe, fp⟩ := f
          have HE : Hid (bracketL L at0 = .error (fe, fp)) := by
            simp only [Hid]
            rw [HB.out, HS.out]
            simp [itemsL, HT.out]
          obtain ⟨fb, rfl, hfge, hflt, hfc0, hfc1⟩ := hfx
          have hne : w.heap.size ≠ fb := by omega
          go_wp2_with fail
          refine wp_region_segs (X := (some w.heap.size)) 12 [([0, 1, 2, 3, 4, 5, 6, 7, 8], 9)] [10, 11] (by kernel_rfl) (by kernel_rfl) rfl (fun _ _ _ _ _ h => h) ?_
          simp only [wpSegs, pickSegs_nil, pickSegs_cons, pickOps_nil, pickOps_cons, List.getD_cons_zero, List.getD_cons_succ, List.drop_succ_cons, List.drop_nil]
          repeat (go_big_quiet_step (fail))
          refine wpQuiet_nil ?_
          go_wp2_with fail
          refine ⟨(((Keeps.of_setCell _).trans (Keeps.of_setCell _)).trans (Keeps.of_setCell _)).trans (Keeps.of_setCell _), ?_⟩
          repeat (go_big_quiet_step (fail))
          refine wpQuiet_nil ?_
          go_wp2_with fail
          rw [fold_setCl]
          rw [HE.out]
          exact ret_br Tryd.results89 rfl rfl rfl rfl his3 (Below.refl _ _).drew rfl (hbw.trans (hbe3.mono hls)) (Nat.le_refl _)
        | none =>
          have hv : v = .pointer none := hfx
          subst hv
          clear hfx
          obtain ⟨hn3, hn4⟩ := itemTh_next HT.out h2.m.u
          have HS2 : Hid (itemsL L at0 (L.length + 2) Cls.zero i0 true = itemsL L at0 kk (c.or a.set) a.next false) := by
            simp only [Hid]
            rw [HS.out]
            simp [itemsL, HT.out]
          have hne : wq.heap.size ≠ b9 := by omega
          go_wp2_with fail
          refine wp_region_segs (X := (some wq.heap.size)) 8 [([1, 2, 4, 5], 0), ([], 3), ([], 6)] [7] (by kernel_rfl) (by kernel_rfl) rfl (fun _ _ _ _ _ h => h) ?_
          simp only [wpSegs, pickSegs_nil, pickSegs_cons, pickOps_nil, pickOps_cons, List.getD_cons_zero, List.getD_cons_succ, List.drop_succ_cons, List.drop_nil]
          repeat (go_big_quiet_step (fail))
          refine wpQuiet_nil ?_
          go_wp2_with fail
          refine ⟨Keeps.refl _, ?_⟩
          repeat (go_big_quiet_step (fail))
          refine wpQuiet_nil ?_
          go_wp2_with fail
          refine (or_any c a.set _).mono ?_; rintro e w4 ⟨rfl, hb4⟩
          have hkp := Keeps.of_below (X := some wq.heap.size) hb4
          replace hb4 : Below w3.heap.size w3 w4 := Below.trans (Below.refl _ _).drew hb4
          have hc4 := HC3.out.below hb4
          clear q0 q1 q2 q3 g0
          obtain ⟨q0, q1, q2, q3⟩ := hc4.cells
          have g0 := frozen_cls hc4
          have HC4 := Lib.hid hc4
          clear hc4
          go_wp2_with fail
          refine ⟨hkp, ?_⟩
          clear hkp
          repeat (go_big_quiet_step (fail))
          refine wpQuiet_nil ?_
          go_wp2_with fail
          refine ⟨(((Keeps.of_setCell _).trans (Keeps.of_setCell _)).trans (Keeps.of_setCell _)).trans (Keeps.of_setCell _), ?_⟩
          repeat (go_big_quiet_step (fail))
          refine wpQuiet_nil ?_
          go_wp2_with fail
          go_roundw
          case rel => exact ⟨kk, a.next, c.or a.set, false, rfl, rfl, hn4, by omega, by omega, HS2, store4_cls HC4.out (c.or a.set), (hbe3.trans (hb4.mono (by omega))).trans (store4_below (Nat.le_refl _) _)⟩
          case measure => simp [intOf]; omega
      | false =>
        cases e2 : signAt L n 93 with
        | false =>
          go_wp2_with fail
          refine (bsign_any h2 n 93 rfl rfl).mono ?_; rintro e ww ⟨rfl, rfl⟩
          go_wp2_with fail
          refine (item_any h2 n rfl (by omega) false).mono ?_; rintro e w2 ⟨v, rfl, hf, hb1⟩
          obtain ⟨kk, rfl⟩ : ∃ m, k = m + 1 := ⟨k - 1, by omega⟩
          generalize hit : itemTh L at0 n false = r at *
          obtain ⟨a, fa⟩ := r
          have HT := Lib.hid hit
          clear hit
          simp only at hf
          go_upto_region 13 with fail
          have hx : thAt (w2.alloc (.cells #[.int .u64 a.set.w0.toNat, .int .u64 a.set.w1.toNat, .int .u64 a.set.w2.toNat, .int .u64 a.set.w3.toNat, .int .u8 (a.b : Nat), .bool a.fin, .int .i64 (a.next : Nat)] 186)) w2.heap.size a := heap_alloc_new w2 _
          have hbx : Below w2.heap.size w2 (w2.alloc (.cells #[.int .u64 a.set.w0.toNat, .int .u64 a.set.w1.toNat, .int .u64 a.set.w2.toNat, .int .u64 a.set.w3.toNat, .int .u8 (a.b : Nat), .bool a.fin, .int .i64 (a.next : Nat)] 186)) := (Below.refl _ _).alloc (Nat.le_refl _) _
          have hsx : w2.heap.size < (w2.alloc (.cells #[.int .u64 a.set.w0.toNat, .int .u64 a.set.w1.toNat, .int .u64 a.set.w2.toNat, .int .u64 a.set.w3.toNat, .int .u8 (a.b : Nat), .bool a.fin, .int .i64 (a.next : Nat)] 186)).heap.size := by simp
          revert hx hbx hsx
          generalize w2.alloc (.cells #[.int .u64 a.set.w0.toNat, .int .u64 a.set.w1.toNat, .int .u64 a.set.w2.toNat, .int .u64 a.set.w3.toNat, .int .u8 (a.b : Nat), .bool a.fin, .int .i64 (a.next : Nat)] 186) = w3
          intro hx hbx hsx
          have hb3 : Below wr.heap.size wr w3 := hb1.trans (hbx.mono hb1.size)
          have hfx := hf.below hbx
          have hbe3 := hbe.trans (hb3.mono hbe.size)
          have hc3 := HC.out.below hb3
          have hz3 := HZ.out.below hbe3
          clear z0 z1 z2 z3 f0 q0 q1 q2 q3 g0
          obtain ⟨z0, z1, z2, z3⟩ := hz3.cells
          have f0 := frozen_cls hz3
          have his3 := hz3.is
          obtain ⟨q0, q1, q2, q3⟩ := hc3.cells
          have g0 := frozen_cls hc3
          obtain ⟨x0, x1, x2, x3, x4, x5, x6⟩ := hx.cells
          have hl3 := hb3.size
          have hlx := hbe.size
          have hls := hb0.size
          have h4 : w.heap.size < w3.heap.size := by omega
          have h5 : wq.heap.size < w3.heap.size := by omega
          have HC3 := Lib.hid hc3
          have HZ3 := Lib.hid hz3
          have hl2 := hb1.size
          clear hc3 hz3 hf hbx
          generalize w2.heap.size = b9 at *
          cases fa with
          | some f =>
            obtain ⟨fe, fp⟩ := f
            have HE : Hid (bracketL L at0 = .error (fe, fp)) := by
              simp only [Hid]
              rw [HB.out, HS.out]
              simp [itemsL, HT.out, e2]
            obtain ⟨fb, rfl, hfge, hflt, hfc0, hfc1⟩ := hfx
            have hne : w.heap.size ≠ fb := by omega
            go_wp2_with fail
            refine wp_region_segs (X := (some w.heap.size)) 12 [([0, 1, 2, 3, 4, 5, 6, 7, 8], 9)] [10, 11] (by kernel_rfl) (by kernel_rfl) rfl (fun _ _ _ _ _ h => h) ?_
            simp only [wpSegs, pickSegs_nil, pickSegs_cons, pickOps_nil, pickOps_cons, List.getD_cons_zero, List.getD_cons_succ, List.drop_succ_cons, List.drop_nil]
            repeat (go_big_quiet_step (fail))
            refine wpQuiet_nil ?_
            go_wp2_with fail
            refine ⟨(((Keeps.of_setCell _).trans (Keeps.of_setCell _)).trans (Keeps.of_setCell _)).trans (Keeps.of_setCell _), ?_⟩
            repeat (go_big_quiet_step (fail))
            refine wpQuiet_nil ?_
            go_wp2_with fail
            rw [fold_setCl]
            rw [HE.out]
            exact ret_br Tryd.results89 rfl rfl rfl rfl his3 (Below.refl _ _).drew rfl (hbw.trans (hbe3.mono hls)) (Nat.le_refl _)
          | none =>
            have hv : v = .pointer none := hfx
            subst hv
            clear hfx
            obtain ⟨hn3, hn4⟩ := itemTh_next HT.out h2.m.u
            have HS2 : Hid (itemsL L at0 (L.length + 2) Cls.zero i0 true = itemsL L at0 kk (c.or a.set) a.next false) := by
              simp only [Hid]
              rw [HS.out]
              simp [itemsL, HT.out, e2]
            have hne : wq.heap.size ≠ b9 := by omega
            go_wp2_with fail
            refine wp_region_segs (X := (some wq.heap.size)) 8 [([1, 2, 4, 5], 0), ([], 3), ([], 6)] [7] (by kernel_rfl) (by kernel_rfl) rfl (fun _ _ _ _ _ h => h) ?_
            simp only [wpSegs, pickSegs_nil, pickSegs_cons, pickOps_nil, pickOps_cons, List.getD_cons_zero, List.getD_cons_succ, List.drop_succ_cons, List.drop_nil]
            repeat (go_big_quiet_step (fail))
            refine wpQuiet_nil ?_
            go_wp2_with fail
            refine ⟨Keeps.refl _, ?_⟩
            repeat (go_big_quiet_step (fail))
            refine wpQuiet_nil ?_
            go_wp2_with fail
            refine (or_any c a.set _).mono ?_; rintro e w4 ⟨rfl, hb4⟩
            have hkp := Keeps.of_below (X := some wq.heap.size) hb4
            replace hb4 : Below w3.heap.size w3 w4 := Below.trans (Below.refl _ _).drew hb4
            have hc4 := HC3.out.below hb4
            clear q0 q1 q2 q3 g0
            obtain ⟨q0, q1, q2, q3⟩ := hc4.cells
            have g0 := frozen_cls hc4
            have HC4 := Lib.hid hc4
            clear hc4
            go_wp2_with fail
            refine ⟨hkp, ?_⟩
            clear hkp
            repeat (go_big_quiet_step (fail))
            refine wpQuiet_nil ?_
            go_wp2_with fail
            refine ⟨(((Keeps.of_setCell _).trans (Keeps.of_setCell _)).trans (Keeps.of_setCell _)).trans (Keeps.of_setCell _), ?_⟩
            repeat (go_big_quiet_step (fail))
            refine wpQuiet_nil ?_
            go_wp2_with fail
            go_roundw
            case rel => exact ⟨kk, a.next, c.or a.set, false, rfl, rfl, hn4, by omega, by omega, HS2, store4_cls HC4.out (c.or a.set), (hbe3.trans (hb4.mono (by omega))).trans (store4_below (Nat.le_refl _) _)⟩
            case measure => simp [intOf]; omega
        | true =>
          go_wp2_with fail
          refine (bsign_any h2 n 93 rfl rfl).mono ?_; rintro e ww ⟨rfl, rfl⟩
          go_wp2_with fail
          have HE : Hid (bracketL L at0 = .ok (c, n + 1)) := by
            obtain ⟨kk, rfl⟩ : ∃ m, k = m + 1 := ⟨k - 1, by omega⟩
            simp only [Hid]
            rw [HB.out, HS.out]
            simp [itemsL, e2]
          go_wp2_with fail
          rw [fold_setCl]
          rw [HE.out]
          exact ret_br Tryd.results89 rfl rfl rfl rfl HZX.out.is (Below.refl _ _) (by simp [brV]) (hbw.trans (hbe.mono hls)) (Nat.le_refl _)
  | true =>
    have hi0 : ∃ i0, i0 = at0 + 2 ∧ i0 ≤ L.length := ⟨at0 + 2, rfl, by have := signAt_lt e1; omega⟩
    obtain ⟨i0, hi0, hi1⟩ := hi0
    have HB : Hid (bracketL L at0 = match itemsL L at0 (L.length + 2) Cls.zero i0 true with | .error f => .error f | .ok (c, i) => .ok (c.not, i + 1)) := by
      simp only [Hid, bracketL, e1, hi0]
      rfl
    go_wp2_with fail
    refine (bsign_any h1 at0 91 rfl rfl).mono ?_; rintro e ww ⟨rfl, rfl⟩
    go_wp2_with fail
    refine (bsign_any h1 (at0 + 1) 94 (by omega) rfl).mono ?_; rintro e ww ⟨rfl, rfl⟩
    go_wp2_with fail
    go_loopw [8, 11] (fun i f wr => ∃ (k n : Nat) (c : Cls) (first : Bool), i = .int .i64 n ∧ f = .bool first ∧ n ≤ L.length ∧ i0 ≤ n ∧ L.length + 2 ≤ k + n ∧
        Hid (itemsL L at0 (L.length + 2) Cls.zero i0 true = itemsL L at0 k c n first) ∧ clsAt wr wq.heap.size c ∧ Below wq.heap.size wq wr) (fun i _ _ => L.length - (intOf i).toNat)
    case atStart => exact ⟨L.length + 2, i0, Cls.zero, true, by rw [hi0]; go_num, rfl, hi1, Nat.le_refl _, by omega, rfl, heap_alloc_new wq _, (by repeat (first | exact Below.refl _ _ | assumption | refine Below.drew ?_ | refine Below.alloc ?_ (by first | (simp; done) | (simp; omega) | omega) _ | refine Below.setCell ?_ (by first | (simp; done) | (simp; omega) | omega) _))⟩
    case round =>
      obtain ⟨k, n, c, first, rfl, rfl, hn1, hn2, hk, HS, hc, hbe⟩ := hrel
      have h2 := h1.below hbe
      have hz2 := HZ.out.below hbe
      have hls := hb0.size
      clear z0 z1 z2 z3 f0
      obtain ⟨z0, z1, z2, z3⟩ := hz2.cells
      have f0 := frozen_cls hz2
      obtain ⟨q0, q1, q2, q3⟩ := hc.cells
      have g0 := frozen_cls hc
      have hcl := hc.lt
      have HC := Lib.hid hc
      have HZX := Lib.hid hz2
      clear hc hz2
      cases first with
      | true =>
        go_wp2_with fail
        refine (item_any h2 n rfl (by omega) true).mono ?_; rintro e w2 ⟨v, rfl, hf, hb1⟩
        obtain ⟨kk, rfl⟩ : ∃ m, k = m + 1 := ⟨k - 1, by omega⟩
        generalize hit : itemTh L at0 n true = r at *
        obtain ⟨a, fa⟩ := r
        have HT := Lib.hid hit
        clear hit
        simp only at hf
        go_upto_region 13 with fail
        have hx : thAt (w2.alloc (.cells #[.int .u64 a.set.w0.toNat, .int .u64 a.set.w1.toNat, .int .u64 a.set.w2.toNat, .int .u64 a.set.w3.toNat, .int .u8 (a.b : Nat), .bool a.fin, .int .i64 (a.next : Nat)] 186)) w2.heap.size a := heap_alloc_new w2 _
        have hbx : Below w2.heap.size w2 (w2.alloc (.cells #[.int .u64 a.set.w0.toNat, .int .u64 a.set.w1.toNat, .int .u64 a.set.w2.toNat, .int .u64 a.set.w3.toNat, .int .u8 (a.b : Nat), .bool a.fin, .int .i64 (a.next : Nat)] 186)) := (Below.refl _ _).alloc (Nat.le_refl _) _
        have hsx : w2.heap.size < (w2.alloc (.cells #[.int .u64 a.set.w0.toNat, .int .u64 a.set.w1.toNat, .int .u64 a.set.w2.toNat, .int .u64 a.set.w3.toNat, .int .u8 (a.b : Nat), .bool a.fin, .int .i64 (a.next : Nat)] 186)).heap.size := by simp
        revert hx hbx hsx
        generalize w2.alloc (.cells #[.int .u64 a.set.w0.toNat, .int .u64 a.set.w1.toNat, .int .u64 a.set.w2.toNat, .int .u64 a.set.w3.toNat, .int .u8 (a.b : Nat), .bool a.fin, .int .i64 (a.next : Nat)] 186) = w3
        intro hx hbx hsx
        have hb3 : Below wr.heap.size wr w3 := hb1.trans (hbx.mono hb1.size)
        have hfx := hf.below hbx
        have hbe3 := hbe.trans (hb3.mono hbe.size)
        have hc3 := HC.out.below hb3
        have hz3 := HZ.out.below hbe3
        clear z0 z1 z2 z3 f0 q0 q1 q2 q3 g0
        obtain ⟨z0, z1, z2, z3⟩ := hz3.cells
        have f0 := frozen_cls hz3
        have his3 := hz3.is
        obtain ⟨q0, q1, q2, q3⟩ := hc3.cells
        have g0 := frozen_cls hc3
        obtain ⟨x0, x1, x2, x3, x4, x5, x6⟩ := hx.cells
        have hl3 := hb3.size
        have hlx := hbe.size
        have hls := hb0.size
        have h4 : w.heap.size < w3.heap.size := by omega
        have h5 : wq.heap.size < w3.heap.size := by omega
        have HC3 := Lib.hid hc3
        have HZ3 := Lib.hid hz3
        have hl2 := hb1.size
        clear hc3 hz3 hf hbx
        generalize w2.heap.size = b9 at *
        cases fa with
        | some f =>
          obtain ⟨fe, fp⟩ := f
          have HE : Hid (bracketL L at0 = .error (fe, fp)) := by
            simp only [Hid]
            rw [HB.out, HS.out]
            simp [itemsL, HT.out]
          obtain ⟨fb, rfl, hfge, hflt, hfc0, hfc1⟩ := hfx
          have hne : w.heap.size ≠ fb := by omega
          go_wp2_with fail
          refine wp_region_segs (X := (some w.heap.size)) 12 [([0, 1, 2, 3, 4, 5, 6, 7, 8], 9)] [10, 11] (by kernel_rfl) (by kernel_rfl) rfl (fun _ _ _ _ _ h => h) ?_
          simp only [wpSegs, pickSegs_nil, pickSegs_cons, pickOps_nil, pickOps_cons, List.getD_cons_zero, List.getD_cons_succ, List.drop_succ_cons, List.drop_nil]
          repeat (go_big_quiet_step (fail))
          refine wpQuiet_nil ?_
          go_wp2_with fail
          refine ⟨(((Keeps.of_setCell _).trans (Keeps.of_setCell _)).trans (Keeps.of_setCell _)).trans (Keeps.of_setCell _), ?_⟩
          repeat (go_big_quiet_step (fail))
          refine wpQuiet_nil ?_
          go_wp2_with fail
          rw [fold_setCl]
          rw [HE.out]
          exact ret_br Tryd.results89 rfl rfl rfl rfl his3 (Below.refl _ _).drew rfl (hbw.trans (hbe3.mono hls)) (Nat.le_refl _)
        | none =>
          have hv : v = .pointer none := hfx
          subst hv
          clear hfx
          obtain ⟨hn3, hn4⟩ := itemTh_next HT.out h2.m.u
          have HS2 : Hid (itemsL L at0 (L.length + 2) Cls.zero i0 true = itemsL L at0 kk (c.or a.set) a.next false) := by
            simp only [Hid]
            rw [HS.out]
            simp [itemsL, HT.out]
          have hne : wq.heap.size ≠ b9 := by omega
          go_wp2_with fail
          refine wp_region_segs (X := (some wq.heap.size)) 8 [([1, 2, 4, 5], 0), ([], 3), ([], 6)] [7] (by kernel_rfl) (by kernel_rfl) rfl (fun _ _ _ _ _ h => h) ?_
          simp only [wpSegs, pickSegs_nil, pickSegs_cons, pickOps_nil, pickOps_cons, List.getD_cons_zero, List.getD_cons_succ, List.drop_succ_cons, List.drop_nil]
          repeat (go_big_quiet_step (fail))
          refine wpQuiet_nil ?_
          go_wp2_with fail
          refine ⟨Keeps.refl _, ?_⟩
          repeat (go_big_quiet_step (fail))
          refine wpQuiet_nil ?_
          go_wp2_with fail
          refine (or_any c a.set _).mono ?_; rintro e w4 ⟨rfl, hb4⟩
          have hkp := Keeps.of_below (X := some wq.heap.size) hb4
          replace hb4 : Below w3.heap.size w3 w4 := Below.trans (Below.refl _ _).drew hb4
          have hc4 := HC3.out.below hb4
          clear q0 q1 q2 q3 g0
          obtain ⟨q0, q1, q2, q3⟩ := hc4.cells
          have g0 := frozen_cls hc4
          have HC4 := Lib.hid hc4
          clear hc4
          go_wp2_with fail
          refine ⟨hkp, ?_⟩
          clear hkp
          repeat (go_big_quiet_step (fail))
          refine wpQuiet_nil ?_
          go_wp2_with fail
          refine ⟨(((Keeps.of_setCell _).trans (Keeps.of_setCell _)).trans (Keeps.of_setCell _)).trans (Keeps.of_setCell _), ?_⟩
          repeat (go_big_quiet_step (fail))
          refine wpQuiet_nil ?_
          go_wp2_with fail
          go_roundw
          case rel => exact ⟨kk, a.next, c.or a.set, false, rfl, rfl, hn4, by omega, by omega, HS2, store4_cls HC4.out (c.or a.set), (hbe3.trans (hb4.mono (by omega))).trans (store4_below (Nat.le_refl _) _)⟩
          case measure => simp [intOf]; omega
      | false =>
        cases e2 : signAt L n 93 with
        | false =>
          go_wp2_with fail
          refine (bsign_any h2 n 93 rfl rfl).mono ?_; rintro e ww ⟨rfl, rfl⟩
          go_wp2_with fail
          refine (item_any h2 n rfl (by omega) false).mono ?_; rintro e w2 ⟨v, rfl, hf, hb1⟩
          obtain ⟨kk, rfl⟩ : ∃ m, k = m + 1 := ⟨k - 1, by omega⟩
          generalize hit : itemTh L at0 n false = r at *
          obtain ⟨a, fa⟩ := r
          have HT := Lib.hid hit
          clear hit
          simp only at hf
          go_upto_region 13 with fail
          have hx : thAt (w2.alloc (.cells #[.int .u64 a.set.w0.toNat, .int .u64 a.set.w1.toNat, .int .u64 a.set.w2.toNat, .int .u64 a.set.w3.toNat, .int .u8 (a.b : Nat), .bool a.fin, .int .i64 (a.next : Nat)] 186)) w2.heap.size a := heap_alloc_new w2 _
          have hbx : Below w2.heap.size w2 (w2.alloc (.cells #[.int .u64 a.set.w0.toNat, .int .u64 a.set.w1.toNat, .int .u64 a.set.w2.toNat, .int .u64 a.set.w3.toNat, .int .u8 (a.b : Nat), .bool a.fin, .int .i64 (a.next : Nat)] 186)) := (Below.refl _ _).alloc (Nat.le_refl _) _
          have hsx : w2.heap.size < (w2.alloc (.cells #[.int .u64 a.set.w0.toNat, .int .u64 a.set.w1.toNat, .int .u64 a.set.w2.toNat, .int .u64 a.set.w3.toNat, .int .u8 (a.b : Nat), .bool a.fin, .int .i64 (a.next : Nat)] 186)).heap.size := by simp
          revert hx hbx hsx
          generalize w2.alloc (.cells #[.int .u64 a.set.w0.toNat, .int .u64 a.set.w1.toNat, .int .u64 a.set.w2.toNat, .int .u64 a.set.w3.toNat, .int .u8 (a.b : Nat), .bool a.fin, .int .i64 (a.next : Nat)] 186) = w3
          intro hx hbx hsx
          have hb3 : Below wr.heap.size wr w3 := hb1.trans (hbx.mono hb1.size)
          have hfx := hf.below hbx
          have hbe3 := hbe.trans (hb3.mono hbe.size)
          have hc3 := HC.out.below hb3
          have hz3 := HZ.out.below hbe3
          clear z0 z1 z2 z3 f0 q0 q1 q2 q3 g0
          obtain ⟨z0, z1, z2, z3⟩ := hz3.cells
          have f0 := frozen_cls hz3
          have his3 := hz3.is
          obtain ⟨q0, q1, q2, q3⟩ := hc3.cells
          have g0 := frozen_cls hc3
          obtain ⟨x0, x1, x2, x3, x4, x5, x6⟩ := hx.cells
          have hl3 := hb3.size
          have hlx := hbe.size
          have hls := hb0.size
          have h4 : w.heap.size < w3.heap.size := by omega
          have h5 : wq.heap.size < w3.heap.size := by omega
          have HC3 := Lib.hid hc3
          have HZ3 := Lib.hid hz3
          have hl2 := hb1.size
          clear hc3 hz3 hf hbx
          generalize w2.heap.size = b9 at *
          cases fa with
          | some f =>
            obtain ⟨fe, fp⟩ := f
            have HE : Hid (bracketL L at0 = .error (fe, fp)) := by
              simp only [Hid]
              rw [HB.out, HS.out]
              simp [itemsL, HT.out, e2]
            obtain ⟨fb, rfl, hfge, hflt, hfc0, hfc1⟩ := hfx
            have hne : w.heap.size ≠ fb := by omega
            go_wp2_with fail
            refine wp_region_segs (X := (some w.heap.size)) 12 [([0, 1, 2, 3, 4, 5, 6, 7, 8], 9)] [10, 11] (by kernel_rfl) (by kernel_rfl) rfl (fun _ _ _ _ _ h => h) ?_
            simp only [wpSegs, pickSegs_nil, pickSegs_cons, pickOps_nil, pickOps_cons, List.getD_cons_zero, List.getD_cons_succ, List.drop_succ_cons, List.drop_nil]
            repeat (go_big_quiet_step (fail))
            refine wpQuiet_nil ?_
            go_wp2_with fail
            refine ⟨(((Keeps.of_setCell _).trans (Keeps.of_setCell _)).trans (Keeps.of_setCell _)).trans (Keeps.of_setCell _), ?_⟩
            repeat (go_big_quiet_step (fail))
            refine wpQuiet_nil ?_
            go_wp2_with fail
            rw [fold_setCl]
            rw [HE.out]
            exact ret_br Tryd.results89 rfl rfl rfl rfl his3 (Below.refl _ _).drew rfl (hbw.trans (hbe3.mono hls)) (Nat.le_refl _)
          | none =>
            have hv : v = .pointer none := hfx
            subst hv
            clear hfx
            obtain ⟨hn3, hn4⟩ := itemTh_next HT.out h2.m.u
            have HS2 : Hid (itemsL L at0 (L.length + 2) Cls.zero i0 true = itemsL L at0 kk (c.or a.set) a.next false) := by
              simp only [Hid]
              rw [HS.out]
              simp [itemsL, HT.out, e2]
            have hne : wq.heap.size ≠ b9 := by omega
            go_wp2_with fail
            refine wp_region_segs (X := (some wq.heap.size)) 8 [([1, 2, 4, 5], 0), ([], 3), ([], 6)] [7] (by kernel_rfl) (by kernel_rfl) rfl (fun _ _ _ _ _ h => h) ?_
            simp only [wpSegs, pickSegs_nil, pickSegs_cons, pickOps_nil, pickOps_cons, List.getD_cons_zero, List.getD_cons_succ, List.drop_succ_cons, List.drop_nil]
            repeat (go_big_quiet_step (fail))
            refine wpQuiet_nil ?_
            go_wp2_with fail
            refine ⟨Keeps.refl _, ?_⟩
            repeat (go_big_quiet_step (fail))
            refine wpQuiet_nil ?_
            go_wp2_with fail
            refine (or_any c a.set _).mono ?_; rintro e w4 ⟨rfl, hb4⟩
            have hkp := Keeps.of_below (X := some wq.heap.size) hb4
            replace hb4 : Below w3.heap.size w3 w4 := Below.trans (Below.refl _ _).drew hb4
            have hc4 := HC3.out.below hb4
            clear q0 q1 q2 q3 g0
            obtain ⟨q0, q1, q2, q3⟩ := hc4.cells
            have g0 := frozen_cls hc4
            have HC4 := Lib.hid hc4
            clear hc4
            go_wp2_with fail
            refine ⟨hkp, ?_⟩
            clear hkp
            repeat (go_big_quiet_step (fail))
            refine wpQuiet_nil ?_
            go_wp2_with fail
            refine ⟨(((Keeps.of_setCell _).trans (Keeps.of_setCell _)).trans (Keeps.of_setCell _)).trans (Keeps.of_setCell _), ?_⟩
            repeat (go_big_quiet_step (fail))
            refine wpQuiet_nil ?_
            go_wp2_with fail
            go_roundw
            case rel => exact ⟨kk, a.next, c.or a.set, false, rfl, rfl, hn4, by omega, by omega, HS2, store4_cls HC4.out (c.or a.set), (hbe3.trans (hb4.mono (by omega))).trans (store4_below (Nat.le_refl _) _)⟩
            case measure => simp [intOf]; omega
        | true =>
          go_wp2_with fail
          refine (bsign_any h2 n 93 rfl rfl).mono ?_; rintro e ww ⟨rfl, rfl⟩
          go_wp2_with fail
          have HE : Hid (bracketL L at0 = .ok (c.not, n + 1)) := by
            obtain ⟨kk, rfl⟩ : ∃ m, k = m + 1 := ⟨k - 1, by omega⟩
            simp only [Hid]
            rw [HB.out, HS.out]
            simp [itemsL, e2]
          go_wp2_with fail
          refine (not_any c _).mono ?_; rintro e w4 ⟨rfl, hb4⟩
          have hc4 := HC.out.below hb4
          have hz4 := HZX.out.below hb4
          clear z0 z1 z2 z3 f0 q0 q1 q2 q3 g0
          obtain ⟨q0, q1, q2, q3⟩ := hc4.cells
          have g0 := frozen_cls hc4
          obtain ⟨z0, z1, z2, z3⟩ := hz4.cells
          have f0 := frozen_cls hz4
          have HZ4 := Lib.hid hz4
          have hlx := hbe.size
          have hbe4 := hbe.trans (hb4.mono hbe.size)
          clear hz4 hc4
          go_wp2_with fail
          rw [fold_setCl]
          rw [fold_setCl]
          rw [HE.out]
          have hzs : clsAt (setCl w4 wq.heap.size c.not.w0.toNat c.not.w1.toNat c.not.w2.toNat c.not.w3.toNat) w.heap.size Cls.zero := (setCl_other (by omega) _ _ _ _).trans HZ4.out
          exact ret_br Tryd.results89 rfl rfl rfl rfl hzs.is (Below.refl _ _) (by simp [brV]) ((hbw.trans (hbe4.mono hls)).trans (setCl_below hls _ _ _ _)) (Nat.le_refl _)
end Go.Proofs.YtbdjcmhfcdamiaaDoor
