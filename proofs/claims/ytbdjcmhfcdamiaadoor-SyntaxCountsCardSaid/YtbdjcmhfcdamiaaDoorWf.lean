/- Contracts of the reader's enclosed and thing. -/
import Derived.Test.YtbdjcmhfcdamiaaDoorWe
namespace Go.Proofs.YtbdjcmhfcdamiaaDoor
open Go.RowKit

theorem beq_nat (a b : Nat) : ((a : Int) == (b : Int)) = (a == b) := by
  rw [Bool.eq_iff_iff]; simp; omega

set_option maxRecDepth 100000 in
set_option maxHeartbeats 1600000 in
theorem enclosed_any {rb mb mo cap : Nat} {L : List Mk} {at0 : Nat} {w : World} (h : Br w rb mb mo cap L at0) {b c : Int} (n k : Nat) (hbi : b = n) (hck : c = k) (hn : n + 1 < L.length) :
    Calls Tryd.prog 126 #[.pointer (some ⟨rb, 0, none⟩), .int .i64 b, .int .u8 c] w (ThRet (enclosedTh L at0 n k) w) := by
  subst hbi
  subst hck
  have hL := h.m.len
  have hrb := h.lt
  have h1 := h.below ((Below.refl _ _).alloc (Nat.le_refl _) (.cells #[.int .u64 0, .int .u64 0, .int .u64 0, .int .u64 0, .int .u8 0, .bool false, .int .i64 0] 186))
  have hz : thAt (w.alloc (.cells #[.int .u64 0, .int .u64 0, .int .u64 0, .int .u64 0, .int .u8 0, .bool false, .int .i64 0] 186)) w.heap.size Th.zero := heap_alloc_new w _
  have hb0 : Below w.heap.size w (w.alloc (.cells #[.int .u64 0, .int .u64 0, .int .u64 0, .int .u64 0, .int .u8 0, .bool false, .int .i64 0] 186)) := (by repeat (first | exact Below.refl _ _ | assumption | refine Below.drew ?_ | refine Below.alloc ?_ (by first | (simp; done) | (simp; omega) | omega) _ | refine Below.setCell ?_ (by first | (simp; done) | (simp; omega) | omega) _))
  have hs0 : w.heap.size < (w.alloc (.cells #[.int .u64 0, .int .u64 0, .int .u64 0, .int .u64 0, .int .u8 0, .bool false, .int .i64 0] 186)).heap.size := by simp
  go_enter Tryd.func126, Tryd.ntmps126
  go_wp2_with fail
  revert h1 hz hb0 hs0
  generalize w.alloc (.cells #[.int .u64 0, .int .u64 0, .int .u64 0, .int .u64 0, .int .u8 0, .bool false, .int .i64 0] 186) = wr
  intro h1 hz hb0 hs0
  have c0 := h1.c0
  have hrb' := h1.lt
  have his := hz.is
  obtain ⟨z0, z1, z2, z3, z4, z5, z6⟩ := hz.cells
  have f0 := frozen_cls hz
  have HZ := Lib.hid hz
  clear hz
  have i0 : ∀ w, (Instr.index 212 (.agg #[.int .u8 (k : Nat), .int .u8 93]) (.int .i64 0)).run Tryd.prog w = .ok (.int .u8 (k : Nat)) w := fun _ => by kernel_rfl
  have i1 : ∀ w, (Instr.index 212 (.agg #[.int .u8 (k : Nat), .int .u8 93]) (.int .i64 1)).run Tryd.prog w = .ok (.int .u8 93) w := fun _ => by kernel_rfl
  have hle := hb0.size
  refine wp_loop_rounds 3 ?_
  by_cases g1 : L.length ≤ n + 3
  · have HE : Hid (enclosedTh L at0 n k = (Th.zero, some (32, at0))) := by simp [Hid, enclosedTh, g1]
    rw [rounds_succ]
    go_wp2_with fail
    refine (open_any h1).mono ?_; rintro e w1 ⟨v, rfl, hf, hb1⟩
    have hf1 := hf.mono hb0.size
    have hbe1 := hb0.trans (hb1.mono hb0.size)
    have hz1 := HZ.out.below hb1
    have his1 := hz1.is
    obtain ⟨z0, z1, z2, z3, z4, z5, z6⟩ := hz1.cells
    have f0 := frozen_cls hz1
    have HF := Lib.hid hf
    clear hf hf1 hb1 hz1
    go_wp2_with fail
    rw [fold_setTh]
    rw [HE.out]
    exact ret_th Tryd.results126 rfl rfl rfl his1 (Below.refl _ _) rfl ((HF.out.set hs0 _ _ _ _ _ _ _).mono hb0.size) hbe1 (Nat.le_refl _)
  · cases e1 : signAt L (n + 3) k with
    | false =>
      have HE : Hid (enclosedTh L at0 n k = (Th.zero, some (31, n))) := by simp [Hid, enclosedTh, g1, e1]
      rw [rounds_succ]
      go_wp2_with fail
      refine (bsign_any h1 (n + 3) k (by omega) rfl).mono ?_; rintro e w1 ⟨rfl, rfl⟩
      go_wp2_with fail
      rw [fold_setTh]
      rw [HE.out]
      exact ret_th Tryd.results126 rfl rfl rfl his ((Below.refl _ _).alloc (by simp [setTh_size]; omega) _) rfl (flt_at (e := 31) (by simp [setTh_size]) (by simp [setTh_size]; omega)) hb0 (Nat.le_refl _)
    | true =>
      by_cases g2 : L.length ≤ n + 4
      · have HE : Hid (enclosedTh L at0 n k = (Th.zero, some (32, at0))) := by simp [Hid, enclosedTh, g1, e1, g2]
        rw [rounds_succ]
        go_wp2_with fail
        refine (bsign_any h1 (n + 3) k (by omega) rfl).mono ?_; rintro e w1 ⟨rfl, rfl⟩
        go_wp2_with fail
        rw [rounds_succ]
        go_wp2_with fail
        refine (open_any h1).mono ?_; rintro e w1 ⟨v, rfl, hf, hb1⟩
        have hf1 := hf.mono hb0.size
        have hbe1 := hb0.trans (hb1.mono hb0.size)
        have hz1 := HZ.out.below hb1
        have his1 := hz1.is
        obtain ⟨z0, z1, z2, z3, z4, z5, z6⟩ := hz1.cells
        have f0 := frozen_cls hz1
        have HF := Lib.hid hf
        clear hf hf1 hb1 hz1
        go_wp2_with fail
        rw [fold_setTh]
        rw [HE.out]
        exact ret_th Tryd.results126 rfl rfl rfl his1 (Below.refl _ _) rfl ((HF.out.set hs0 _ _ _ _ _ _ _).mono hb0.size) hbe1 (Nat.le_refl _)
      · cases e2 : signAt L (n + 4) 93 with
        | false =>
          have HE : Hid (enclosedTh L at0 n k = (Th.zero, some (31, n))) := by simp [Hid, enclosedTh, g1, e1, g2, e2]
          rw [rounds_succ]
          go_wp2_with fail
          refine (bsign_any h1 (n + 3) k (by omega) rfl).mono ?_; rintro e w1 ⟨rfl, rfl⟩
          go_wp2_with fail
          rw [rounds_succ]
          go_wp2_with fail
          refine (bsign_any h1 (n + 4) 93 (by omega) rfl).mono ?_; rintro e w1 ⟨rfl, rfl⟩
          go_wp2_with fail
          rw [fold_setTh]
          rw [HE.out]
          exact ret_th Tryd.results126 rfl rfl rfl his ((Below.refl _ _).alloc (by simp [setTh_size]; omega) _) rfl (flt_at (e := 31) (by simp [setTh_size]) (by simp [setTh_size]; omega)) hb0 (Nat.le_refl _)
        | true =>
          have HE : Hid (enclosedTh L at0 n k = (⟨Cls.of [(markAt L (n + 2)).b], (markAt L (n + 2)).b, k == 46, n + 5⟩, none)) := by simp [Hid, enclosedTh, g1, e1, g2, e2]
          have hm2 := h1.m.b (n + 2) (by omega)
          have hu2 := h1.m.u (n + 2) (by omega)
          have hmb := h1.m.lt
          rw [rounds_succ]
          go_wp2_with fail
          refine (bsign_any h1 (n + 3) k (by omega) rfl).mono ?_; rintro e w1 ⟨rfl, rfl⟩
          go_wp2_with fail
          rw [rounds_succ]
          go_wp2_with fail
          refine (bsign_any h1 (n + 4) 93 (by omega) rfl).mono ?_; rintro e w1 ⟨rfl, rfl⟩
          go_wp2_with fail
          rw [rounds_succ]
          go_wp2_with fail
          refine (of_new [(markAt L (n + 2)).b] #[.int .u8 (markAt L (n + 2)).b] rfl (by simpa using hu2) (by simp) _).mono ?_; rintro e w1 ⟨rfl, hb1⟩
          have hb2 : Below wr.heap.size wr w1 := Below.trans (by repeat (first | exact Below.refl _ _ | assumption | refine Below.drew ?_ | refine Below.alloc ?_ (by first | (simp; done) | (simp; omega) | omega) _ | refine Below.setCell ?_ (by first | (simp; done) | (simp; omega) | omega) _)) (hb1.mono (by simp))
          have hbe1 := hb0.trans (hb2.mono hb0.size)
          have hz1 := HZ.out.below hb2
          have his1 := hz1.is
          obtain ⟨z0, z1, z2, z3, z4, z5, z6⟩ := hz1.cells
          have f0 := frozen_cls hz1
          clear hb1 hb2 hz1
          go_wp2_with fail
          rw [fold_setTh]
          rw [HE.out]
          exact ret_th Tryd.results126 rfl rfl rfl his1 (Below.refl _ _) (by rw [show ((k : Int) == 46) = (k == 46) from beq_nat k 46]; rfl) rfl hbe1 (Nat.le_refl _)

set_option maxRecDepth 100000 in
set_option maxHeartbeats 3200000 in
theorem thing_any {rb mb mo cap : Nat} {L : List Mk} {at0 : Nat} {w : World} (h : Br w rb mb mo cap L at0) {b : Int} (n : Nat) (hbi : b = n) (hn : n ≤ 65536) :
    Calls Tryd.prog 121 #[.pointer (some ⟨rb, 0, none⟩), .int .i64 b] w (ThRet (thingTh L at0 n) w) := by
  subst hbi
  have hL := h.m.len
  have hrb := h.lt
  have h1 := h.below ((Below.refl _ _).alloc (Nat.le_refl _) (.cells #[.int .u64 0, .int .u64 0, .int .u64 0, .int .u64 0, .int .u8 0, .bool false, .int .i64 0] 186))
  have hz : thAt (w.alloc (.cells #[.int .u64 0, .int .u64 0, .int .u64 0, .int .u64 0, .int .u8 0, .bool false, .int .i64 0] 186)) w.heap.size Th.zero := heap_alloc_new w _
  have hb0 : Below w.heap.size w (w.alloc (.cells #[.int .u64 0, .int .u64 0, .int .u64 0, .int .u64 0, .int .u8 0, .bool false, .int .i64 0] 186)) := (by repeat (first | exact Below.refl _ _ | assumption | refine Below.drew ?_ | refine Below.alloc ?_ (by first | (simp; done) | (simp; omega) | omega) _ | refine Below.setCell ?_ (by first | (simp; done) | (simp; omega) | omega) _))
  have hs0 : w.heap.size < (w.alloc (.cells #[.int .u64 0, .int .u64 0, .int .u64 0, .int .u64 0, .int .u8 0, .bool false, .int .i64 0] 186)).heap.size := by simp
  go_enter Tryd.func121, Tryd.ntmps121
  go_upto_region 1 with fail
  revert h1 hz hb0 hs0
  generalize w.alloc (.cells #[.int .u64 0, .int .u64 0, .int .u64 0, .int .u64 0, .int .u8 0, .bool false, .int .i64 0] 186) = wr
  intro h1 hz hb0 hs0
  have c0 := h1.c0
  have hrb' := h1.lt
  have his := hz.is
  obtain ⟨z0, z1, z2, z3, z4, z5, z6⟩ := hz.cells
  have f0 := frozen_cls hz
  have HZ := Lib.hid hz
  clear hz
  have hle := hb0.size
  by_cases g1 : L.length ≤ n
  · have HE : Hid (thingTh L at0 n = (Th.zero, some (32, at0))) := by simp [Hid, thingTh, g1]
    go_wp2_with fail
    refine (open_any h1).mono ?_; rintro e w1 ⟨v, rfl, hf, hb1⟩
    have hbe1 := hb0.trans (hb1.mono hle)
    have hz1 := HZ.out.below hb1
    have his1 := hz1.is
    obtain ⟨z0, z1, z2, z3, z4, z5, z6⟩ := hz1.cells
    have f0 := frozen_cls hz1
    have HF := Lib.hid hf
    clear hf hb1 hz1
    go_wp2_with fail
    rw [fold_setTh]
    rw [HE.out]
    exact ret_th Tryd.results121 rfl rfl rfl his1 (Below.refl _ _) rfl ((HF.out.set hs0 _ _ _ _ _ _ _).mono hle) hbe1 (Nat.le_refl _)
  · have hm := h1.m.b n (by omega)
    have hu := h1.m.u n (by omega)
    have hmb := h1.m.lt
    cases e1 : signAt L n 91 with
    | false =>
      have HE : Hid (thingTh L at0 n = (⟨Cls.of [(markAt L n).b], (markAt L n).b, true, n + 1⟩, none)) := by simp [Hid, thingTh, g1, e1]
      go_wp2_with fail
      refine (bsign_any h1 n 91 rfl rfl).mono ?_; rintro e w1 ⟨rfl, rfl⟩
      go_wp2_with fail
      refine (of_new [(markAt L n).b] #[.int .u8 (markAt L n).b] rfl (by simpa using hu) (by simp) _).mono ?_; rintro e w1 ⟨rfl, hb1⟩
      have hb2 : Below wr.heap.size wr w1 := Below.trans (by repeat (first | exact Below.refl _ _ | assumption | refine Below.drew ?_ | refine Below.alloc ?_ (by first | (simp; done) | (simp; omega) | omega) _ | refine Below.setCell ?_ (by first | (simp; done) | (simp; omega) | omega) _)) (hb1.mono (by simp))
      have hbe1 := hb0.trans (hb2.mono hle)
      have hz1 := HZ.out.below hb2
      have his1 := hz1.is
      obtain ⟨z0, z1, z2, z3, z4, z5, z6⟩ := hz1.cells
      have f0 := frozen_cls hz1
      clear hb1 hb2 hz1
      go_wp2_with fail
      rw [fold_setTh]
      rw [HE.out]
      exact ret_th Tryd.results121 rfl rfl rfl his1 (Below.refl _ _) rfl rfl hbe1 (Nat.le_refl _)
    | true =>
      by_cases g2 : n + 1 < L.length
      · have hm1 := h1.m.b (n + 1) g2
        have hp1 := h1.m.p (n + 1) g2
        cases e2 : (markAt L (n + 1)).p with
        | true =>
          have HE : Hid (thingTh L at0 n = (⟨Cls.of [(markAt L n).b], (markAt L n).b, true, n + 1⟩, none)) := by simp [Hid, thingTh, g1, e1, e2]
          rw [e2] at hp1
          go_wp2_with fail
          refine (bsign_any h1 n 91 rfl rfl).mono ?_; rintro e w1 ⟨rfl, rfl⟩
          go_wp2_with fail
          refine (of_new [(markAt L n).b] #[.int .u8 (markAt L n).b] rfl (by simpa using hu) (by simp) _).mono ?_; rintro e w1 ⟨rfl, hb1⟩
          have hb2 : Below wr.heap.size wr w1 := Below.trans (by repeat (first | exact Below.refl _ _ | assumption | refine Below.drew ?_ | refine Below.alloc ?_ (by first | (simp; done) | (simp; omega) | omega) _ | refine Below.setCell ?_ (by first | (simp; done) | (simp; omega) | omega) _)) (hb1.mono (by simp))
          have hbe1 := hb0.trans (hb2.mono hle)
          have hz1 := HZ.out.below hb2
          have his1 := hz1.is
          obtain ⟨z0, z1, z2, z3, z4, z5, z6⟩ := hz1.cells
          have f0 := frozen_cls hz1
          clear hb1 hb2 hz1
          go_wp2_with fail
          rw [fold_setTh]
          rw [HE.out]
          exact ret_th Tryd.results121 rfl rfl rfl his1 (Below.refl _ _) rfl rfl hbe1 (Nat.le_refl _)
        | false =>
          rw [e2] at hp1
          by_cases q1 : (markAt L (n + 1)).b = 58
          · have HE : Hid (thingTh L at0 n = nameTh L at0 n) := by simp [Hid, thingTh, g1, g2, e1, e2, q1]
            have t1 : (((markAt L (n + 1)).b : Int) == 58) = true := by rw [q1]; rfl
            clear q1
            go_wp2_with fail
            refine (bsign_any h1 n 91 rfl rfl).mono ?_; rintro e w1 ⟨rfl, rfl⟩
            go_wp2_with fail
            refine (name_any h1 n rfl g2).mono ?_; rintro e w1 ⟨v, rfl, hf, hb1⟩
            have hbe1 := hb0.trans (hb1.mono hle)
            have hz1 := HZ.out.below hb1
            have his1 := hz1.is
            obtain ⟨z0, z1, z2, z3, z4, z5, z6⟩ := hz1.cells
            have f0 := frozen_cls hz1
            have HF := Lib.hid hf
            clear hf hb1 hz1
            go_wp2_with fail
            rw [fold_setTh]
            rw [HE.out]
            exact ret_th Tryd.results121 rfl rfl rfl his1 (Below.refl _ _) rfl ((HF.out.set hs0 _ _ _ _ _ _ _).mono hle) hbe1 (Nat.le_refl _)
          · have t1 : (((markAt L (n + 1)).b : Int) == 58) = false := (show (((markAt L (n + 1)).b : Int) == 58) = ((markAt L (n + 1)).b == 58) from beq_nat _ 58).trans (by simpa using q1)
            by_cases q2 : (markAt L (n + 1)).b = 61
            · have HE : Hid (thingTh L at0 n = enclosedTh L at0 n (markAt L (n + 1)).b) := by simp [Hid, thingTh, g1, g2, e1, e2, q2]
              have t2 : (((markAt L (n + 1)).b : Int) == 61) = true := by rw [q2]; rfl
              clear q1 q2
              go_wp2_with fail
              refine (bsign_any h1 n 91 rfl rfl).mono ?_; rintro e w1 ⟨rfl, rfl⟩
              go_wp2_with fail
              refine (enclosed_any h1 n _ rfl rfl g2).mono ?_; rintro e w1 ⟨v, rfl, hf, hb1⟩
              have hbe1 := hb0.trans (hb1.mono hle)
              have hz1 := HZ.out.below hb1
              have his1 := hz1.is
              obtain ⟨z0, z1, z2, z3, z4, z5, z6⟩ := hz1.cells
              have f0 := frozen_cls hz1
              have HF := Lib.hid hf
              clear hf hb1 hz1
              go_wp2_with fail
              rw [fold_setTh]
              rw [HE.out]
              exact ret_th Tryd.results121 rfl rfl rfl his1 (Below.refl _ _) rfl ((HF.out.set hs0 _ _ _ _ _ _ _).mono hle) hbe1 (Nat.le_refl _)
            · have t2 : (((markAt L (n + 1)).b : Int) == 61) = false := (show (((markAt L (n + 1)).b : Int) == 61) = ((markAt L (n + 1)).b == 61) from beq_nat _ 61).trans (by simpa using q2)
              by_cases q3 : (markAt L (n + 1)).b = 46
              · have HE : Hid (thingTh L at0 n = enclosedTh L at0 n (markAt L (n + 1)).b) := by simp [Hid, thingTh, g1, g2, e1, e2, q3]
                have t3 : (((markAt L (n + 1)).b : Int) == 46) = true := by rw [q3]; rfl
                clear q1 q2 q3
                go_wp2_with fail
                refine (bsign_any h1 n 91 rfl rfl).mono ?_; rintro e w1 ⟨rfl, rfl⟩
                go_wp2_with fail
                refine (enclosed_any h1 n _ rfl rfl g2).mono ?_; rintro e w1 ⟨v, rfl, hf, hb1⟩
                have hbe1 := hb0.trans (hb1.mono hle)
                have hz1 := HZ.out.below hb1
                have his1 := hz1.is
                obtain ⟨z0, z1, z2, z3, z4, z5, z6⟩ := hz1.cells
                have f0 := frozen_cls hz1
                have HF := Lib.hid hf
                clear hf hb1 hz1
                go_wp2_with fail
                rw [fold_setTh]
                rw [HE.out]
                exact ret_th Tryd.results121 rfl rfl rfl his1 (Below.refl _ _) rfl ((HF.out.set hs0 _ _ _ _ _ _ _).mono hle) hbe1 (Nat.le_refl _)
              · have t3 : (((markAt L (n + 1)).b : Int) == 46) = false := (show (((markAt L (n + 1)).b : Int) == 46) = ((markAt L (n + 1)).b == 46) from beq_nat _ 46).trans (by simpa using q3)
                have HE : Hid (thingTh L at0 n = (⟨Cls.of [(markAt L n).b], (markAt L n).b, true, n + 1⟩, none)) := by simp [Hid, thingTh, g1, e1, e2, q1, q2, q3]
                clear q1 q2 q3
                go_wp2_with fail
                refine (bsign_any h1 n 91 rfl rfl).mono ?_; rintro e w1 ⟨rfl, rfl⟩
                go_wp2_with fail
                refine (of_new [(markAt L n).b] #[.int .u8 (markAt L n).b] rfl (by simpa using hu) (by simp) _).mono ?_; rintro e w1 ⟨rfl, hb1⟩
                have hb2 : Below wr.heap.size wr w1 := Below.trans (by repeat (first | exact Below.refl _ _ | assumption | refine Below.drew ?_ | refine Below.alloc ?_ (by first | (simp; done) | (simp; omega) | omega) _ | refine Below.setCell ?_ (by first | (simp; done) | (simp; omega) | omega) _)) (hb1.mono (by simp))
                have hbe1 := hb0.trans (hb2.mono hle)
                have hz1 := HZ.out.below hb2
                have his1 := hz1.is
                obtain ⟨z0, z1, z2, z3, z4, z5, z6⟩ := hz1.cells
                have f0 := frozen_cls hz1
                clear hb1 hb2 hz1
                go_wp2_with fail
                rw [fold_setTh]
                rw [HE.out]
                exact ret_th Tryd.results121 rfl rfl rfl his1 (Below.refl _ _) rfl rfl hbe1 (Nat.le_refl _)
      · have HE : Hid (thingTh L at0 n = (⟨Cls.of [(markAt L n).b], (markAt L n).b, true, n + 1⟩, none)) := by simp [Hid, thingTh, g1, e1, g2]
        go_wp2_with fail
        refine (bsign_any h1 n 91 rfl rfl).mono ?_; rintro e w1 ⟨rfl, rfl⟩
        go_wp2_with fail
        refine (of_new [(markAt L n).b] #[.int .u8 (markAt L n).b] rfl (by simpa using hu) (by simp) _).mono ?_; rintro e w1 ⟨rfl, hb1⟩
        have hb2 : Below wr.heap.size wr w1 := Below.trans (by repeat (first | exact Below.refl _ _ | assumption | refine Below.drew ?_ | refine Below.alloc ?_ (by first | (simp; done) | (simp; omega) | omega) _ | refine Below.setCell ?_ (by first | (simp; done) | (simp; omega) | omega) _)) (hb1.mono (by simp))
        have hbe1 := hb0.trans (hb2.mono hle)
        have hz1 := HZ.out.below hb2
        have his1 := hz1.is
        obtain ⟨z0, z1, z2, z3, z4, z5, z6⟩ := hz1.cells
        have f0 := frozen_cls hz1
        clear hb1 hb2 hz1
        go_wp2_with fail
        rw [fold_setTh]
        rw [HE.out]
        exact ret_th Tryd.results121 rfl rfl rfl his1 (Below.refl _ _) rfl rfl hbe1 (Nat.le_refl _)
end Go.Proofs.YtbdjcmhfcdamiaaDoor
