/- Contract of the reader's item. -/
import Derived.Test.YtbdjcmhfcdamiaaDoorWf
import Derived.Test.YtbdjcmhfcdamiaaDoorSb
namespace Go.Proofs.YtbdjcmhfcdamiaaDoor
open Go.RowKit

theorem Flt.drew {base : Nat} {w : World} {v : Value} {f : Option (Nat × Nat)} (h : Flt base w v f) : Flt base w.drew v f := h.below (Below.refl _ _).drew

set_option maxRecDepth 100000 in
set_option maxHeartbeats 6400000 in
theorem item_any {rb mb mo cap : Nat} {L : List Mk} {at0 : Nat} {w : World} (h : Br w rb mb mo cap L at0) {b : Int} (n : Nat) (hbi : b = n) (hn : n ≤ 65530) (first : Bool) :
    Calls Tryd.prog 106 #[.pointer (some ⟨rb, 0, none⟩), .int .i64 b, .bool first] w (ThRet (itemTh L at0 n first) w) := by
  subst hbi
  have hL := h.m.len
  have h0 := h.below ((Below.refl _ _).alloc (Nat.le_refl _) (.cells #[.int .u64 0, .int .u64 0, .int .u64 0, .int .u64 0, .int .u8 0, .bool false, .int .i64 0] 186))
  have hz0 : thAt (w.alloc (.cells #[.int .u64 0, .int .u64 0, .int .u64 0, .int .u64 0, .int .u8 0, .bool false, .int .i64 0] 186)) w.heap.size Th.zero := heap_alloc_new w _
  go_enter Tryd.func106, Tryd.ntmps106
  go_wp2_with fail
  refine (thing_any h0 n rfl (by omega)).mono ?_; rintro e w1 ⟨v, rfl, hf, hb1⟩
  generalize hth : thingTh L at0 n = r at *
  obtain ⟨a, fa⟩ := r
  have HT := Lib.hid hth
  clear hth
  simp only at hf
  have hbw : Below w.heap.size w w1 := Below.trans (by repeat (first | exact Below.refl _ _ | assumption | refine Below.drew ?_ | refine Below.alloc ?_ (by first | (simp; done) | (simp; omega) | omega) _ | refine Below.setCell ?_ (by first | (simp; done) | (simp; omega) | omega) _)) (hb1.mono (by simp))
  have hz1 := hz0.below hb1
  have h1 := h0.below hb1
  have hs1 : w.heap.size < w1.heap.size := by have := hb1.size; simp at this; omega
  have hfw : Flt (w.heap.size + 1) w1 v fa := by simpa using hf
  clear hf hz0 h0 hb1
  go_upto_region 2 with fail
  have hx : thAt (w1.alloc (.cells #[.int .u64 a.set.w0.toNat, .int .u64 a.set.w1.toNat, .int .u64 a.set.w2.toNat, .int .u64 a.set.w3.toNat, .int .u8 (a.b : Nat), .bool a.fin, .int .i64 (a.next : Nat)] 186)) w1.heap.size a := heap_alloc_new w1 _
  have hbx : Below w1.heap.size w1 (w1.alloc (.cells #[.int .u64 a.set.w0.toNat, .int .u64 a.set.w1.toNat, .int .u64 a.set.w2.toNat, .int .u64 a.set.w3.toNat, .int .u8 (a.b : Nat), .bool a.fin, .int .i64 (a.next : Nat)] 186)) := (Below.refl _ _).alloc (Nat.le_refl _) _
  have hsx : w1.heap.size < (w1.alloc (.cells #[.int .u64 a.set.w0.toNat, .int .u64 a.set.w1.toNat, .int .u64 a.set.w2.toNat, .int .u64 a.set.w3.toNat, .int .u8 (a.b : Nat), .bool a.fin, .int .i64 (a.next : Nat)] 186)).heap.size := by simp
  revert hx hbx hsx
  generalize w1.alloc (.cells #[.int .u64 a.set.w0.toNat, .int .u64 a.set.w1.toNat, .int .u64 a.set.w2.toNat, .int .u64 a.set.w3.toNat, .int .u8 (a.b : Nat), .bool a.fin, .int .i64 (a.next : Nat)] 186) = wx
  intro hx hbx hsx
  have hb0 : Below w.heap.size w wx := hbw.trans (hbx.mono (by omega))
  have h1 := h1.below hbx
  have hz1 := hz1.below hbx
  have his := hz1.is
  have hfx := hfw.below hbx
  have HX := Lib.hid hx
  have HZ := Lib.hid hz1
  obtain ⟨z0, z1, z2, z3, z4, z5, z6⟩ := hz1.cells
  have f0 := frozen_cls hz1
  obtain ⟨x0, x1, x2, x3, x4, x5, x6⟩ := hx.cells
  have hle := hb0.size
  have hlx : w.heap.size < wx.heap.size := by omega
  have c0 := h1.c0
  have hrb := h1.lt
  clear hbw hz1 hfw hbx hx
  generalize w1.heap.size = b8 at *
  cases fa with
  | some f =>
    have HE : Hid (itemTh L at0 n first = (a, some f)) := by simp only [Hid, itemTh, HT.out]
    obtain ⟨fe, fat⟩ := f
    obtain ⟨fb, rfl, hfge, hflt, hfc0, hfc1⟩ := hfx
    have hfl : Hid (Flt (w.heap.size + 1) wx (.pointer (some ⟨fb, 0, none⟩)) (some (fe, fat))) := ⟨fb, rfl, hfge, hflt, hfc0, hfc1⟩
    clear hfc0 hfc1
    go_wp2_with fail
    rw [fold_setTh]
    rw [HE.out]
    exact ret_th Tryd.results106 rfl rfl rfl his (Below.refl _ _) rfl ((hfl.out.set (Nat.lt_succ_self _) _ _ _ _ _ _ _).mono (Nat.le_succ _)) hb0 (Nat.le_refl _)
  | none =>
    have hv : v = .pointer none := hfx
    subst hv
    clear hfx
    obtain ⟨hn1, hn2, hab⟩ := thingTh_next HT.out h1.m.u
    have hIT : Hid (itemTh L at0 n first = if signAt L n 45 && !first && !signAt L (n + 1) 93 then
        if L.length ≤ n + 1 then (a, some (32, at0)) else (a, some (30, n))
      else if !signAt L a.next 45 || decide (L.length ≤ a.next + 1) || signAt L (a.next + 1) 93 then (a, none)
      else if !a.fin then (a, some (30, n))
      else match thingTh L at0 (a.next + 1) with
        | (b, some f) => (b, some f)
        | (b, none) => if !b.fin || decide (b.b < a.b) then (b, some (30, n)) else (⟨Cls.range a.b b.b, 0, false, b.next⟩, none)) := by
      simp only [Hid, itemTh, HT.out]; rfl
    cases e1 : signAt L n 45 with
    | false =>
      go_wp2_with fail
      refine (bsign_any h1 (n) 45 (rfl) rfl).mono ?_; rintro e ww ⟨rfl, rfl⟩
      cases e3 : signAt L a.next 45 with
      | false =>
        have HE : Hid (itemTh L at0 n first = (a, none)) := hIT.out.trans (by simp [e1, e3])
        go_wp2_with fail
        refine wp_region_segs (X := none) 23 [([0, 1, 2], 3), ([4, 5, 6, 7, 8, 9, 10, 11, 12, 13, 14, 15, 16, 17, 18, 19, 20], 21)] [22] (by kernel_rfl) (by kernel_rfl) rfl (fun _ _ _ _ _ h => h) ?_
        simp only [wpSegs, pickSegs_nil, pickSegs_cons, pickOps_nil, pickOps_cons, List.getD_cons_zero, List.getD_cons_succ, List.drop_succ_cons, List.drop_nil]
        repeat (go_big_quiet_step (fail))
        refine wpQuiet_nil ?_
        go_wp2_with fail
        refine (bsign_any (h1.below (Below.refl _ _).drew) (a.next) 45 (rfl) rfl).mono ?_; rintro e ww ⟨rfl, rfl⟩
        go_wp2_with fail
        refine ⟨Keeps.refl _, ?_⟩
        repeat (go_big_quiet_step (fail))
        refine wpQuiet_nil ?_
        go_wp2_with fail
        refine ⟨Keeps.refl _, ?_⟩
        repeat (go_big_quiet_step (fail))
        refine wpQuiet_nil ?_
        go_wp2_with fail
        rw [fold_setTh]
        rw [HE.out]
        exact ret_th Tryd.results106 rfl rfl rfl his (Below.refl _ _).drew rfl rfl hb0 (Nat.le_refl _)
      | true =>
        by_cases g2 : L.length ≤ a.next + 1
        ·
          have t2 : decide ((L.length : Int) ≤ (a.next : Int) + 1) = true := by simp; omega
          have HE : Hid (itemTh L at0 n first = (a, none)) := hIT.out.trans (by simp [e1, e3, g2])
          go_wp2_with fail
          refine wp_region_segs (X := none) 23 [([0, 1, 2], 3), ([4, 5, 6, 7, 8, 9, 10, 11, 12, 13, 14, 15, 16, 17, 18, 19, 20], 21)] [22] (by kernel_rfl) (by kernel_rfl) rfl (fun _ _ _ _ _ h => h) ?_
          simp only [wpSegs, pickSegs_nil, pickSegs_cons, pickOps_nil, pickOps_cons, List.getD_cons_zero, List.getD_cons_succ, List.drop_succ_cons, List.drop_nil]
          repeat (go_big_quiet_step (fail))
          refine wpQuiet_nil ?_
          go_wp2_with fail
          refine (bsign_any (h1.below (Below.refl _ _).drew) (a.next) 45 (rfl) rfl).mono ?_; rintro e ww ⟨rfl, rfl⟩
          go_wp2_with fail
          refine ⟨Keeps.refl _, ?_⟩
          repeat (go_big_quiet_step (fail))
          refine wpQuiet_nil ?_
          go_wp2_with fail
          refine ⟨Keeps.refl _, ?_⟩
          repeat (go_big_quiet_step (fail))
          refine wpQuiet_nil ?_
          go_wp2_with fail
          rw [fold_setTh]
          rw [HE.out]
          exact ret_th Tryd.results106 rfl rfl rfl his (Below.refl _ _).drew rfl rfl hb0 (Nat.le_refl _)
        · have t2 : decide ((L.length : Int) ≤ (a.next : Int) + 1) = false := by simp; omega
          cases e4 : signAt L (a.next + 1) 93 with
          | true =>
            have HE : Hid (itemTh L at0 n first = (a, none)) := hIT.out.trans (by simp [e1, e3, g2, e4])
            go_wp2_with fail
            refine wp_region_segs (X := none) 23 [([0, 1, 2], 3), ([4, 5, 6, 7, 8, 9, 10, 11, 12, 13, 14, 15, 16, 17, 18, 19, 20], 21)] [22] (by kernel_rfl) (by kernel_rfl) rfl (fun _ _ _ _ _ h => h) ?_
            simp only [wpSegs, pickSegs_nil, pickSegs_cons, pickOps_nil, pickOps_cons, List.getD_cons_zero, List.getD_cons_succ, List.drop_succ_cons, List.drop_nil]
            repeat (go_big_quiet_step (fail))
            refine wpQuiet_nil ?_
            go_wp2_with fail
            refine (bsign_any (h1.below (Below.refl _ _).drew) (a.next) 45 (rfl) rfl).mono ?_; rintro e ww ⟨rfl, rfl⟩
            go_wp2_with fail
            refine ⟨Keeps.refl _, ?_⟩
            repeat (go_big_quiet_step (fail))
            refine wpQuiet_nil ?_
            go_wp2_with fail
            refine (bsign_any (h1.below (Below.refl _ _).drew) (a.next + 1) 93 (rfl) rfl).mono ?_; rintro e ww ⟨rfl, rfl⟩
            go_wp2_with fail
            refine ⟨Keeps.refl _, ?_⟩
            repeat (go_big_quiet_step (fail))
            refine wpQuiet_nil ?_
            go_wp2_with fail
            rw [fold_setTh]
            rw [HE.out]
            exact ret_th Tryd.results106 rfl rfl rfl his (Below.refl _ _).drew rfl rfl hb0 (Nat.le_refl _)
          | false =>
            cases e5 : a.fin with
            | false =>
              rw [e5] at x5
              have HE : Hid (itemTh L at0 n first = (a, some (30, n))) := hIT.out.trans (by simp [e1, e3, g2, e4, e5])
              go_wp2_with fail
              refine wp_region_segs (X := none) 23 [([0, 1, 2], 3), ([4, 5, 6, 7, 8, 9, 10, 11, 12, 13, 14, 15, 16, 17, 18, 19, 20], 21)] [22] (by kernel_rfl) (by kernel_rfl) rfl (fun _ _ _ _ _ h => h) ?_
              simp only [wpSegs, pickSegs_nil, pickSegs_cons, pickOps_nil, pickOps_cons, List.getD_cons_zero, List.getD_cons_succ, List.drop_succ_cons, List.drop_nil]
              repeat (go_big_quiet_step (fail))
              refine wpQuiet_nil ?_
              go_wp2_with fail
              refine (bsign_any (h1.below (Below.refl _ _).drew) (a.next) 45 (rfl) rfl).mono ?_; rintro e ww ⟨rfl, rfl⟩
              go_wp2_with fail
              refine ⟨Keeps.refl _, ?_⟩
              repeat (go_big_quiet_step (fail))
              refine wpQuiet_nil ?_
              go_wp2_with fail
              refine (bsign_any (h1.below (Below.refl _ _).drew) (a.next + 1) 93 (rfl) rfl).mono ?_; rintro e ww ⟨rfl, rfl⟩
              go_wp2_with fail
              refine ⟨Keeps.refl _, ?_⟩
              repeat (go_big_quiet_step (fail))
              refine wpQuiet_nil ?_
              go_wp2_with fail
              rw [fold_setTh]
              rw [HE.out]
              exact ret_th Tryd.results106 rfl rfl rfl his ((Below.refl _ _).alloc (by simp [setTh_size]; omega) _).drew (by simp only [thV, e5]) (flt_at (e := 30) (by simp [setTh_size]) (by simp [setTh_size]; omega)).drew hb0 (Nat.le_refl _)
            | true =>
              rw [e5] at x5
              go_wp2_with fail
              refine wp_region_segs (X := none) 23 [([0, 1, 2], 3), ([4, 5, 6, 7, 8, 9, 10, 11, 12, 13, 14, 15, 16, 17, 18, 19, 20], 21)] [22] (by kernel_rfl) (by kernel_rfl) rfl (fun _ _ _ _ _ h => h) ?_
              simp only [wpSegs, pickSegs_nil, pickSegs_cons, pickOps_nil, pickOps_cons, List.getD_cons_zero, List.getD_cons_succ, List.drop_succ_cons, List.drop_nil]
              repeat (go_big_quiet_step (fail))
              refine wpQuiet_nil ?_
              go_wp2_with fail
              refine (bsign_any (h1.below (Below.refl _ _).drew) (a.next) 45 (rfl) rfl).mono ?_; rintro e ww ⟨rfl, rfl⟩
              go_wp2_with fail
              refine ⟨Keeps.refl _, ?_⟩
              repeat (go_big_quiet_step (fail))
              refine wpQuiet_nil ?_
              go_wp2_with fail
              refine (bsign_any (h1.below (Below.refl _ _).drew) (a.next + 1) 93 (rfl) rfl).mono ?_; rintro e ww ⟨rfl, rfl⟩
              go_wp2_with fail
              refine ⟨Keeps.refl _, ?_⟩
              repeat (go_big_quiet_step (fail))
              refine wpQuiet_nil ?_
              go_wp2_with fail
              refine (thing_any (h1.below (Below.refl _ _).drew) (a.next + 1) (by omega) (by omega)).mono ?_; rintro e w2 ⟨v, rfl, hf, hb1⟩
              generalize hth2 : thingTh L at0 (a.next + 1) = r2 at *
              obtain ⟨c, fc⟩ := r2
              have HT2 := Lib.hid hth2
              clear hth2
              simp only at hf
              have hbd : Below wx.heap.size wx w2 := Below.trans (Below.refl _ _).drew hb1
              go_upto_region 13 with fail
              have hy : thAt (w2.alloc (.cells #[.int .u64 c.set.w0.toNat, .int .u64 c.set.w1.toNat, .int .u64 c.set.w2.toNat, .int .u64 c.set.w3.toNat, .int .u8 (c.b : Nat), .bool c.fin, .int .i64 (c.next : Nat)] 186)) w2.heap.size c := heap_alloc_new w2 _
              have hby : Below w2.heap.size w2 (w2.alloc (.cells #[.int .u64 c.set.w0.toNat, .int .u64 c.set.w1.toNat, .int .u64 c.set.w2.toNat, .int .u64 c.set.w3.toNat, .int .u8 (c.b : Nat), .bool c.fin, .int .i64 (c.next : Nat)] 186)) := (Below.refl _ _).alloc (Nat.le_refl _) _
              have hsy : w2.heap.size < (w2.alloc (.cells #[.int .u64 c.set.w0.toNat, .int .u64 c.set.w1.toNat, .int .u64 c.set.w2.toNat, .int .u64 c.set.w3.toNat, .int .u8 (c.b : Nat), .bool c.fin, .int .i64 (c.next : Nat)] 186)).heap.size := by simp
              revert hy hby hsy
              generalize w2.alloc (.cells #[.int .u64 c.set.w0.toNat, .int .u64 c.set.w1.toNat, .int .u64 c.set.w2.toNat, .int .u64 c.set.w3.toNat, .int .u8 (c.b : Nat), .bool c.fin, .int .i64 (c.next : Nat)] 186) = wy
              intro hy hby hsy
              have hbw2 : Below wx.heap.size wx wy := hbd.trans (hby.mono hbd.size)
              have hbe2 := hb0.trans (hbw2.mono hle)
              have hz2 := HZ.out.below hbw2
              have his2 := hz2.is
              clear z0 z1 z2 z3 z4 z5 z6 f0
              obtain ⟨z0, z1, z2, z3, z4, z5, z6⟩ := hz2.cells
              have f0 := frozen_cls hz2
              clear x0 x1 x2 x3 x4 x5 x6
              obtain ⟨x0, x1, x2, x3, x4, x5, x6⟩ := (HX.out.below hbw2).cells
              obtain ⟨y0, y1, y2, y3, y4, y5, y6⟩ := hy.cells
              have hfy : Flt wx.heap.size wy v fc := (by exact hf : Flt wx.heap.size w2 v fc).below hby
              have hly := hbw2.size
              have hlz : w.heap.size < wy.heap.size := by omega
              have hlb : b8 < wy.heap.size := by omega
              have hlr : rb < wy.heap.size := by omega
              clear hbd hby hz2 hf hb1 hy
              generalize w2.heap.size = b9 at *
              cases fc with
              | some f =>
                have HE : Hid (itemTh L at0 n first = (c, some f)) := hIT.out.trans (by simp [e1, e3, g2, e4, e5])
                obtain ⟨fe, fat⟩ := f
                obtain ⟨fb, rfl, hfge, hflt, hfc0, hfc1⟩ := hfy
                have hfl : Hid (Flt wx.heap.size wy (.pointer (some ⟨fb, 0, none⟩)) (some (fe, fat))) := ⟨fb, rfl, hfge, hflt, hfc0, hfc1⟩
                clear hfc0 hfc1
                go_wp2_with fail
                rw [fold_setTh]
                rw [HE.out]
                exact ret_th Tryd.results106 rfl rfl rfl his2 (Below.refl _ _) rfl ((hfl.out.set hlx _ _ _ _ _ _ _).mono hle) hbe2 (Nat.le_refl _)
              | none =>
                have hv : v = .pointer none := hfy
                subst hv
                clear hfy
                obtain ⟨hc1, hc2, hcb⟩ := thingTh_next HT2.out h1.m.u
                cases e6 : c.fin with
                | false =>
                  rw [e6] at y5
                  have HE : Hid (itemTh L at0 n first = (c, some (30, n))) := hIT.out.trans (by simp [e1, e3, g2, e4, e5, e6])
                  go_wp2_with fail
                  rw [fold_setTh]
                  rw [HE.out]
                  exact ret_th Tryd.results106 rfl rfl rfl his2 ((Below.refl _ _).alloc (by simp [setTh_size]; omega) _) (by simp only [thV, e6]) (flt_at (e := 30) (by simp [setTh_size]) (by simp [setTh_size]; omega)) hbe2 (Nat.le_refl _)
                | true =>
                  by_cases g3 : c.b < a.b
                  ·
                    rw [e6] at y5
                    have HE : Hid (itemTh L at0 n first = (c, some (30, n))) := hIT.out.trans (by simp [e1, e3, g2, e4, e5, e6, g3])
                    go_wp2_with fail
                    rw [fold_setTh]
                    rw [HE.out]
                    exact ret_th Tryd.results106 rfl rfl rfl his2 ((Below.refl _ _).alloc (by simp [setTh_size]; omega) _) (by simp only [thV, e6]) (flt_at (e := 30) (by simp [setTh_size]) (by simp [setTh_size]; omega)) hbe2 (Nat.le_refl _)
                  ·
                    rw [e6] at y5
                    have HE : Hid (itemTh L at0 n first = (⟨Cls.range a.b c.b, 0, false, c.next⟩, none)) := hIT.out.trans (by simp [e1, e3, g2, e4, e5, e6, g3])
                    go_wp2_with fail
                    refine wp_region_segs (X := none) 8 [([0, 1, 2, 3, 5, 6], 4)] [7] (by kernel_rfl) (by kernel_rfl) rfl (fun _ _ _ _ _ h => h) ?_
                    simp only [wpSegs, pickSegs_nil, pickSegs_cons, pickOps_nil, pickOps_cons, List.getD_cons_zero, List.getD_cons_succ, List.drop_succ_cons, List.drop_zero]
                    repeat (go_big_quiet_step (fail))
                    refine wpQuiet_nil ?_
                    go_wp2_with fail
                    refine (range_int _ _ (by omega) (by omega) (by omega) (by omega) _).mono ?_; rintro e w3 ⟨rfl, hb3⟩
                    have hkp := Keeps.of_below (X := none) hb3
                    replace hb3 : Below wy.heap.size wy w3 := Below.trans (Below.refl _ _).drew hb3
                    have hbe3 := hbe2.trans (hb3.mono (by omega))
                    have hz3 := HZ.out.below (hbw2.trans (hb3.mono hly))
                    have his3 := hz3.is
                    clear z0 z1 z2 z3 z4 z5 z6 f0
                    obtain ⟨z0, z1, z2, z3, z4, z5, z6⟩ := hz3.cells
                    have f0 := frozen_cls hz3
                    clear hz3
                    go_wp2_with fail
                    refine ⟨hkp, ?_⟩
                    clear hkp
                    repeat (go_big_quiet_step (fail))
                    refine wpQuiet_nil ?_
                    go_wp2_with fail
                    rw [fold_setTh]
                    rw [HE.out]
                    exact ret_th Tryd.results106 rfl rfl rfl his3 (Below.refl _ _) rfl rfl hbe3 (Nat.le_refl _)
    | true =>
      cases first with
      | true =>
        go_wp2_with fail
        refine (bsign_any h1 (n) 45 (rfl) rfl).mono ?_; rintro e ww ⟨rfl, rfl⟩
        cases e3 : signAt L a.next 45 with
        | false =>
          have HE : Hid (itemTh L at0 n true = (a, none)) := hIT.out.trans (by simp [e1, e3])
          go_wp2_with fail
          refine wp_region_segs (X := none) 23 [([0, 1, 2], 3), ([4, 5, 6, 7, 8, 9, 10, 11, 12, 13, 14, 15, 16, 17, 18, 19, 20], 21)] [22] (by kernel_rfl) (by kernel_rfl) rfl (fun _ _ _ _ _ h => h) ?_
          simp only [wpSegs, pickSegs_nil, pickSegs_cons, pickOps_nil, pickOps_cons, List.getD_cons_zero, List.getD_cons_succ, List.drop_succ_cons, List.drop_nil]
          repeat (go_big_quiet_step (fail))
          refine wpQuiet_nil ?_
          go_wp2_with fail
          refine (bsign_any (h1.below (Below.refl _ _).drew) (a.next) 45 (rfl) rfl).mono ?_; rintro e ww ⟨rfl, rfl⟩
          go_wp2_with fail
          refine ⟨Keeps.refl _, ?_⟩
          repeat (go_big_quiet_step (fail))
          refine wpQuiet_nil ?_
          go_wp2_with fail
          refine ⟨Keeps.refl _, ?_⟩
          repeat (go_big_quiet_step (fail))
          refine wpQuiet_nil ?_
          go_wp2_with fail
          rw [fold_setTh]
          rw [HE.out]
          exact ret_th Tryd.results106 rfl rfl rfl his (Below.refl _ _).drew rfl rfl hb0 (Nat.le_refl _)
        | true =>
          by_cases g2 : L.length ≤ a.next + 1
          ·
            have t2 : decide ((L.length : Int) ≤ (a.next : Int) + 1) = true := by simp; omega
            have HE : Hid (itemTh L at0 n true = (a, none)) := hIT.out.trans (by simp [e1, e3, g2])
            go_wp2_with fail
            refine wp_region_segs (X := none) 23 [([0, 1, 2], 3), ([4, 5, 6, 7, 8, 9, 10, 11, 12, 13, 14, 15, 16, 17, 18, 19, 20], 21)] [22] (by kernel_rfl) (by kernel_rfl) rfl (fun _ _ _ _ _ h => h) ?_
            simp only [wpSegs, pickSegs_nil, pickSegs_cons, pickOps_nil, pickOps_cons, List.getD_cons_zero, List.getD_cons_succ, List.drop_succ_cons, List.drop_nil]
            repeat (go_big_quiet_step (fail))
            refine wpQuiet_nil ?_
            go_wp2_with fail
            refine (bsign_any (h1.below (Below.refl _ _).drew) (a.next) 45 (rfl) rfl).mono ?_; rintro e ww ⟨rfl, rfl⟩
            go_wp2_with fail
            refine ⟨Keeps.refl _, ?_⟩
            repeat (go_big_quiet_step (fail))
            refine wpQuiet_nil ?_
            go_wp2_with fail
            refine ⟨Keeps.refl _, ?_⟩
            repeat (go_big_quiet_step (fail))
            refine wpQuiet_nil ?_
            go_wp2_with fail
            rw [fold_setTh]
            rw [HE.out]
            exact ret_th Tryd.results106 rfl rfl rfl his (Below.refl _ _).drew rfl rfl hb0 (Nat.le_refl _)
          · have t2 : decide ((L.length : Int) ≤ (a.next : Int) + 1) = false := by simp; omega
            cases e4 : signAt L (a.next + 1) 93 with
            | true =>
              have HE : Hid (itemTh L at0 n true = (a, none)) := hIT.out.trans (by simp [e1, e3, g2, e4])
              go_wp2_with fail
              refine wp_region_segs (X := none) 23 [([0, 1, 2], 3), ([4, 5, 6, 7, 8, 9, 10, 11, 12, 13, 14, 15, 16, 17, 18, 19, 20], 21)] [22] (by kernel_rfl) (by kernel_rfl) rfl (fun _ _ _ _ _ h => h) ?_
              simp only [wpSegs, pickSegs_nil, pickSegs_cons, pickOps_nil, pickOps_cons, List.getD_cons_zero, List.getD_cons_succ, List.drop_succ_cons, List.drop_nil]
              repeat (go_big_quiet_step (fail))
              refine wpQuiet_nil ?_
              go_wp2_with fail
              refine (bsign_any (h1.below (Below.refl _ _).drew) (a.next) 45 (rfl) rfl).mono ?_; rintro e ww ⟨rfl, rfl⟩
              go_wp2_with fail
              refine ⟨Keeps.refl _, ?_⟩
              repeat (go_big_quiet_step (fail))
              refine wpQuiet_nil ?_
              go_wp2_with fail
              refine (bsign_any (h1.below (Below.refl _ _).drew) (a.next + 1) 93 (rfl) rfl).mono ?_; rintro e ww ⟨rfl, rfl⟩
              go_wp2_with fail
              refine ⟨Keeps.refl _, ?_⟩
              repeat (go_big_quiet_step (fail))
              refine wpQuiet_nil ?_
              go_wp2_with fail
              rw [fold_setTh]
              rw [HE.out]
              exact ret_th Tryd.results106 rfl rfl rfl his (Below.refl _ _).drew rfl rfl hb0 (Nat.le_refl _)
            | false =>
              cases e5 : a.fin with
              | false =>
                rw [e5] at x5
                have HE : Hid (itemTh L at0 n true = (a, some (30, n))) := hIT.out.trans (by simp [e1, e3, g2, e4, e5])
                go_wp2_with fail
                refine wp_region_segs (X := none) 23 [([0, 1, 2], 3), ([4, 5, 6, 7, 8, 9, 10, 11, 12, 13, 14, 15, 16, 17, 18, 19, 20], 21)] [22] (by kernel_rfl) (by kernel_rfl) rfl (fun _ _ _ _ _ h => h) ?_
                simp only [wpSegs, pickSegs_nil, pickSegs_cons, pickOps_nil, pickOps_cons, List.getD_cons_zero, List.getD_cons_succ, List.drop_succ_cons, List.drop_nil]
                repeat (go_big_quiet_step (fail))
                refine wpQuiet_nil ?_
                go_wp2_with fail
                refine (bsign_any (h1.below (Below.refl _ _).drew) (a.next) 45 (rfl) rfl).mono ?_; rintro e ww ⟨rfl, rfl⟩
                go_wp2_with fail
                refine ⟨Keeps.refl _, ?_⟩
                repeat (go_big_quiet_step (fail))
                refine wpQuiet_nil ?_
                go_wp2_with fail
                refine (bsign_any (h1.below (Below.refl _ _).drew) (a.next + 1) 93 (rfl) rfl).mono ?_; rintro e ww ⟨rfl, rfl⟩
                go_wp2_with fail
                refine ⟨Keeps.refl _, ?_⟩
                repeat (go_big_quiet_step (fail))
                refine wpQuiet_nil ?_
                go_wp2_with fail
                rw [fold_setTh]
                rw [HE.out]
                exact ret_th Tryd.results106 rfl rfl rfl his ((Below.refl _ _).alloc (by simp [setTh_size]; omega) _).drew (by simp only [thV, e5]) (flt_at (e := 30) (by simp [setTh_size]) (by simp [setTh_size]; omega)).drew hb0 (Nat.le_refl _)
              | true =>
                rw [e5] at x5
                go_wp2_with fail
                refine wp_region_segs (X := none) 23 [([0, 1, 2], 3), ([4, 5, 6, 7, 8, 9, 10, 11, 12, 13, 14, 15, 16, 17, 18, 19, 20], 21)] [22] (by kernel_rfl) (by kernel_rfl) rfl (fun _ _ _ _ _ h => h) ?_
                simp only [wpSegs, pickSegs_nil, pickSegs_cons, pickOps_nil, pickOps_cons, List.getD_cons_zero, List.getD_cons_succ, List.drop_succ_cons, List.drop_nil]
                repeat (go_big_quiet_step (fail))
                refine wpQuiet_nil ?_
                go_wp2_with fail
                refine (bsign_any (h1.below (Below.refl _ _).drew) (a.next) 45 (rfl) rfl).mono ?_; rintro e ww ⟨rfl, rfl⟩
                go_wp2_with fail
                refine ⟨Keeps.refl _, ?_⟩
                repeat (go_big_quiet_step (fail))
                refine wpQuiet_nil ?_
                go_wp2_with fail
                refine (bsign_any (h1.below (Below.refl _ _).drew) (a.next + 1) 93 (rfl) rfl).mono ?_; rintro e ww ⟨rfl, rfl⟩
                go_wp2_with fail
                refine ⟨Keeps.refl _, ?_⟩
                repeat (go_big_quiet_step (fail))
                refine wpQuiet_nil ?_
                go_wp2_with fail
                refine (thing_any (h1.below (Below.refl _ _).drew) (a.next + 1) (by omega) (by omega)).mono ?_; rintro e w2 ⟨v, rfl, hf, hb1⟩
                generalize hth2 : thingTh L at0 (a.next + 1) = r2 at *
                obtain ⟨c, fc⟩ := r2
                have HT2 := Lib.hid hth2
                clear hth2
                simp only at hf
                have hbd : Below wx.heap.size wx w2 := Below.trans (Below.refl _ _).drew hb1
                go_upto_region 13 with fail
                have hy : thAt (w2.alloc (.cells #[.int .u64 c.set.w0.toNat, .int .u64 c.set.w1.toNat, .int .u64 c.set.w2.toNat, .int .u64 c.set.w3.toNat, .int .u8 (c.b : Nat), .bool c.fin, .int .i64 (c.next : Nat)] 186)) w2.heap.size c := heap_alloc_new w2 _
                have hby : Below w2.heap.size w2 (w2.alloc (.cells #[.int .u64 c.set.w0.toNat, .int .u64 c.set.w1.toNat, .int .u64 c.set.w2.toNat, .int .u64 c.set.w3.toNat, .int .u8 (c.b : Nat), .bool c.fin, .int .i64 (c.next : Nat)] 186)) := (Below.refl _ _).alloc (Nat.le_refl _) _
                have hsy : w2.heap.size < (w2.alloc (.cells #[.int .u64 c.set.w0.toNat, .int .u64 c.set.w1.toNat, .int .u64 c.set.w2.toNat, .int .u64 c.set.w3.toNat, .int .u8 (c.b : Nat), .bool c.fin, .int .i64 (c.next : Nat)] 186)).heap.size := by simp
                revert hy hby hsy
                generalize w2.alloc (.cells #[.int .u64 c.set.w0.toNat, .int .u64 c.set.w1.toNat, .int .u64 c.set.w2.toNat, .int .u64 c.set.w3.toNat, .int .u8 (c.b : Nat), .bool c.fin, .int .i64 (c.next : Nat)] 186) = wy
                intro hy hby hsy
                have hbw2 : Below wx.heap.size wx wy := hbd.trans (hby.mono hbd.size)
                have hbe2 := hb0.trans (hbw2.mono hle)
                have hz2 := HZ.out.below hbw2
                have his2 := hz2.is
                clear z0 z1 z2 z3 z4 z5 z6 f0
                obtain ⟨z0, z1, z2, z3, z4, z5, z6⟩ := hz2.cells
                have f0 := frozen_cls hz2
                clear x0 x1 x2 x3 x4 x5 x6
                obtain ⟨x0, x1, x2, x3, x4, x5, x6⟩ := (HX.out.below hbw2).cells
                obtain ⟨y0, y1, y2, y3, y4, y5, y6⟩ := hy.cells
                have hfy : Flt wx.heap.size wy v fc := (by exact hf : Flt wx.heap.size w2 v fc).below hby
                have hly := hbw2.size
                have hlz : w.heap.size < wy.heap.size := by omega
                have hlb : b8 < wy.heap.size := by omega
                have hlr : rb < wy.heap.size := by omega
                clear hbd hby hz2 hf hb1 hy
                generalize w2.heap.size = b9 at *
                cases fc with
                | some f =>
                  have HE : Hid (itemTh L at0 n true = (c, some f)) := hIT.out.trans (by simp [e1, e3, g2, e4, e5])
                  obtain ⟨fe, fat⟩ := f
                  obtain ⟨fb, rfl, hfge, hflt, hfc0, hfc1⟩ := hfy
                  have hfl : Hid (Flt wx.heap.size wy (.pointer (some ⟨fb, 0, none⟩)) (some (fe, fat))) := ⟨fb, rfl, hfge, hflt, hfc0, hfc1⟩
                  clear hfc0 hfc1
                  go_wp2_with fail
                  rw [fold_setTh]
                  rw [HE.out]
                  exact ret_th Tryd.results106 rfl rfl rfl his2 (Below.refl _ _) rfl ((hfl.out.set hlx _ _ _ _ _ _ _).mono hle) hbe2 (Nat.le_refl _)
                | none =>
                  have hv : v = .pointer none := hfy
                  subst hv
                  clear hfy
                  obtain ⟨hc1, hc2, hcb⟩ := thingTh_next HT2.out h1.m.u
                  cases e6 : c.fin with
                  | false =>
                    rw [e6] at y5
                    have HE : Hid (itemTh L at0 n true = (c, some (30, n))) := hIT.out.trans (by simp [e1, e3, g2, e4, e5, e6])
                    go_wp2_with fail
                    rw [fold_setTh]
                    rw [HE.out]
                    exact ret_th Tryd.results106 rfl rfl rfl his2 ((Below.refl _ _).alloc (by simp [setTh_size]; omega) _) (by simp only [thV, e6]) (flt_at (e := 30) (by simp [setTh_size]) (by simp [setTh_size]; omega)) hbe2 (Nat.le_refl _)
                  | true =>
                    by_cases g3 : c.b < a.b
                    ·
                      rw [e6] at y5
                      have HE : Hid (itemTh L at0 n true = (c, some (30, n))) := hIT.out.trans (by simp [e1, e3, g2, e4, e5, e6, g3])
                      go_wp2_with fail
                      rw [fold_setTh]
                      rw [HE.out]
                      exact ret_th Tryd.results106 rfl rfl rfl his2 ((Below.refl _ _).alloc (by simp [setTh_size]; omega) _) (by simp only [thV, e6]) (flt_at (e := 30) (by simp [setTh_size]) (by simp [setTh_size]; omega)) hbe2 (Nat.le_refl _)
                    ·
                      rw [e6] at y5
                      have HE : Hid (itemTh L at0 n true = (⟨Cls.range a.b c.b, 0, false, c.next⟩, none)) := hIT.out.trans (by simp [e1, e3, g2, e4, e5, e6, g3])
                      go_wp2_with fail
                      refine wp_region_segs (X := none) 8 [([0, 1, 2, 3, 5, 6], 4)] [7] (by kernel_rfl) (by kernel_rfl) rfl (fun _ _ _ _ _ h => h) ?_
                      simp only [wpSegs, pickSegs_nil, pickSegs_cons, pickOps_nil, pickOps_cons, List.getD_cons_zero, List.getD_cons_succ, List.drop_succ_cons, List.drop_zero]
                      repeat (go_big_quiet_step (fail))
                      refine wpQuiet_nil ?_
                      go_wp2_with fail
                      refine (range_int _ _ (by omega) (by omega) (by omega) (by omega) _).mono ?_; rintro e w3 ⟨rfl, hb3⟩
                      have hkp := Keeps.of_below (X := none) hb3
                      replace hb3 : Below wy.heap.size wy w3 := Below.trans (Below.refl _ _).drew hb3
                      have hbe3 := hbe2.trans (hb3.mono (by omega))
                      have hz3 := HZ.out.below (hbw2.trans (hb3.mono hly))
                      have his3 := hz3.is
                      clear z0 z1 z2 z3 z4 z5 z6 f0
                      obtain ⟨z0, z1, z2, z3, z4, z5, z6⟩ := hz3.cells
                      have f0 := frozen_cls hz3
                      clear hz3
                      go_wp2_with fail
                      refine ⟨hkp, ?_⟩
                      clear hkp
                      repeat (go_big_quiet_step (fail))
                      refine wpQuiet_nil ?_
                      go_wp2_with fail
                      rw [fold_setTh]
                      rw [HE.out]
                      exact ret_th Tryd.results106 rfl rfl rfl his3 (Below.refl _ _) rfl rfl hbe3 (Nat.le_refl _)
      | false =>
        cases e2 : signAt L (n + 1) 93 with
        | true =>
          go_wp2_with fail
          refine (bsign_any h1 (n) 45 (rfl) rfl).mono ?_; rintro e ww ⟨rfl, rfl⟩
          go_wp2_with fail
          refine (bsign_any h1 (n + 1) 93 (by omega) rfl).mono ?_; rintro e ww ⟨rfl, rfl⟩
          cases e3 : signAt L a.next 45 with
          | false =>
            have HE : Hid (itemTh L at0 n false = (a, none)) := hIT.out.trans (by simp [e1, e2, e3])
            go_wp2_with fail
            refine wp_region_segs (X := none) 23 [([0, 1, 2], 3), ([4, 5, 6, 7, 8, 9, 10, 11, 12, 13, 14, 15, 16, 17, 18, 19, 20], 21)] [22] (by kernel_rfl) (by kernel_rfl) rfl (fun _ _ _ _ _ h => h) ?_
            simp only [wpSegs, pickSegs_nil, pickSegs_cons, pickOps_nil, pickOps_cons, List.getD_cons_zero, List.getD_cons_succ, List.drop_succ_cons, List.drop_nil]
            repeat (go_big_quiet_step (fail))
            refine wpQuiet_nil ?_
            go_wp2_with fail
            refine (bsign_any (h1.below (Below.refl _ _).drew) (a.next) 45 (rfl) rfl).mono ?_; rintro e ww ⟨rfl, rfl⟩
            go_wp2_with fail
            refine ⟨Keeps.refl _, ?_⟩
            repeat (go_big_quiet_step (fail))
            refine wpQuiet_nil ?_
            go_wp2_with fail
            refine ⟨Keeps.refl _, ?_⟩
            repeat (go_big_quiet_step (fail))
            refine wpQuiet_nil ?_
            go_wp2_with fail
            rw [fold_setTh]
            rw [HE.out]
            exact ret_th Tryd.results106 rfl rfl rfl his (Below.refl _ _).drew rfl rfl hb0 (Nat.le_refl _)
          | true =>
            by_cases g2 : L.length ≤ a.next + 1
            ·
              have t2 : decide ((L.length : Int) ≤ (a.next : Int) + 1) = true := by simp; omega
              have HE : Hid (itemTh L at0 n false = (a, none)) := hIT.out.trans (by simp [e1, e2, e3, g2])
              go_wp2_with fail
              refine wp_region_segs (X := none) 23 [([0, 1, 2], 3), ([4, 5, 6, 7, 8, 9, 10, 11, 12, 13, 14, 15, 16, 17, 18, 19, 20], 21)] [22] (by kernel_rfl) (by kernel_rfl) rfl (fun _ _ _ _ _ h => h) ?_
              simp only [wpSegs, pickSegs_nil, pickSegs_cons, pickOps_nil, pickOps_cons, List.getD_cons_zero, List.getD_cons_succ, List.drop_succ_cons, List.drop_nil]
              repeat (go_big_quiet_step (fail))
              refine wpQuiet_nil ?_
              go_wp2_with fail
              refine (bsign_any (h1.below (Below.refl _ _).drew) (a.next) 45 (rfl) rfl).mono ?_; rintro e ww ⟨rfl, rfl⟩
              go_wp2_with fail
              refine ⟨Keeps.refl _, ?_⟩
              repeat (go_big_quiet_step (fail))
              refine wpQuiet_nil ?_
              go_wp2_with fail
              refine ⟨Keeps.refl _, ?_⟩
              repeat (go_big_quiet_step (fail))
              refine wpQuiet_nil ?_
              go_wp2_with fail
              rw [fold_setTh]
              rw [HE.out]
              exact ret_th Tryd.results106 rfl rfl rfl his (Below.refl _ _).drew rfl rfl hb0 (Nat.le_refl _)
            · have t2 : decide ((L.length : Int) ≤ (a.next : Int) + 1) = false := by simp; omega
              cases e4 : signAt L (a.next + 1) 93 with
              | true =>
                have HE : Hid (itemTh L at0 n false = (a, none)) := hIT.out.trans (by simp [e1, e2, e3, g2, e4])
                go_wp2_with fail
                refine wp_region_segs (X := none) 23 [([0, 1, 2], 3), ([4, 5, 6, 7, 8, 9, 10, 11, 12, 13, 14, 15, 16, 17, 18, 19, 20], 21)] [22] (by kernel_rfl) (by kernel_rfl) rfl (fun _ _ _ _ _ h => h) ?_
                simp only [wpSegs, pickSegs_nil, pickSegs_cons, pickOps_nil, pickOps_cons, List.getD_cons_zero, List.getD_cons_succ, List.drop_succ_cons, List.drop_nil]
                repeat (go_big_quiet_step (fail))
                refine wpQuiet_nil ?_
                go_wp2_with fail
                refine (bsign_any (h1.below (Below.refl _ _).drew) (a.next) 45 (rfl) rfl).mono ?_; rintro e ww ⟨rfl, rfl⟩
                go_wp2_with fail
                refine ⟨Keeps.refl _, ?_⟩
                repeat (go_big_quiet_step (fail))
                refine wpQuiet_nil ?_
                go_wp2_with fail
                refine (bsign_any (h1.below (Below.refl _ _).drew) (a.next + 1) 93 (rfl) rfl).mono ?_; rintro e ww ⟨rfl, rfl⟩
                go_wp2_with fail
                refine ⟨Keeps.refl _, ?_⟩
                repeat (go_big_quiet_step (fail))
                refine wpQuiet_nil ?_
                go_wp2_with fail
                rw [fold_setTh]
                rw [HE.out]
                exact ret_th Tryd.results106 rfl rfl rfl his (Below.refl _ _).drew rfl rfl hb0 (Nat.le_refl _)
              | false =>
                cases e5 : a.fin with
                | false =>
                  rw [e5] at x5
                  have HE : Hid (itemTh L at0 n false = (a, some (30, n))) := hIT.out.trans (by simp [e1, e2, e3, g2, e4, e5])
                  go_wp2_with fail
                  refine wp_region_segs (X := none) 23 [([0, 1, 2], 3), ([4, 5, 6, 7, 8, 9, 10, 11, 12, 13, 14, 15, 16, 17, 18, 19, 20], 21)] [22] (by kernel_rfl) (by kernel_rfl) rfl (fun _ _ _ _ _ h => h) ?_
                  simp only [wpSegs, pickSegs_nil, pickSegs_cons, pickOps_nil, pickOps_cons, List.getD_cons_zero, List.getD_cons_succ, List.drop_succ_cons, List.drop_nil]
                  repeat (go_big_quiet_step (fail))
                  refine wpQuiet_nil ?_
                  go_wp2_with fail
                  refine (bsign_any (h1.below (Below.refl _ _).drew) (a.next) 45 (rfl) rfl).mono ?_; rintro e ww ⟨rfl, rfl⟩
                  go_wp2_with fail
                  refine ⟨Keeps.refl _, ?_⟩
                  repeat (go_big_quiet_step (fail))
                  refine wpQuiet_nil ?_
                  go_wp2_with fail
                  refine (bsign_any (h1.below (Below.refl _ _).drew) (a.next + 1) 93 (rfl) rfl).mono ?_; rintro e ww ⟨rfl, rfl⟩
                  go_wp2_with fail
                  refine ⟨Keeps.refl _, ?_⟩
                  repeat (go_big_quiet_step (fail))
                  refine wpQuiet_nil ?_
                  go_wp2_with fail
                  rw [fold_setTh]
                  rw [HE.out]
                  exact ret_th Tryd.results106 rfl rfl rfl his ((Below.refl _ _).alloc (by simp [setTh_size]; omega) _).drew (by simp only [thV, e5]) (flt_at (e := 30) (by simp [setTh_size]) (by simp [setTh_size]; omega)).drew hb0 (Nat.le_refl _)
                | true =>
                  rw [e5] at x5
                  go_wp2_with fail
                  refine wp_region_segs (X := none) 23 [([0, 1, 2], 3), ([4, 5, 6, 7, 8, 9, 10, 11, 12, 13, 14, 15, 16, 17, 18, 19, 20], 21)] [22] (by kernel_rfl) (by kernel_rfl) rfl (fun _ _ _ _ _ h => h) ?_
                  simp only [wpSegs, pickSegs_nil, pickSegs_cons, pickOps_nil, pickOps_cons, List.getD_cons_zero, List.getD_cons_succ, List.drop_succ_cons, List.drop_nil]
                  repeat (go_big_quiet_step (fail))
                  refine wpQuiet_nil ?_
                  go_wp2_with fail
                  refine (bsign_any (h1.below (Below.refl _ _).drew) (a.next) 45 (rfl) rfl).mono ?_; rintro e ww ⟨rfl, rfl⟩
                  go_wp2_with fail
                  refine ⟨Keeps.refl _, ?_⟩
                  repeat (go_big_quiet_step (fail))
                  refine wpQuiet_nil ?_
                  go_wp2_with fail
                  refine (bsign_any (h1.below (Below.refl _ _).drew) (a.next + 1) 93 (rfl) rfl).mono ?_; rintro e ww ⟨rfl, rfl⟩
                  go_wp2_with fail
                  refine ⟨Keeps.refl _, ?_⟩
                  repeat (go_big_quiet_step (fail))
                  refine wpQuiet_nil ?_
                  go_wp2_with fail
                  refine (thing_any (h1.below (Below.refl _ _).drew) (a.next + 1) (by omega) (by omega)).mono ?_; rintro e w2 ⟨v, rfl, hf, hb1⟩
                  generalize hth2 : thingTh L at0 (a.next + 1) = r2 at *
                  obtain ⟨c, fc⟩ := r2
                  have HT2 := Lib.hid hth2
                  clear hth2
                  simp only at hf
                  have hbd : Below wx.heap.size wx w2 := Below.trans (Below.refl _ _).drew hb1
                  go_upto_region 13 with fail
                  have hy : thAt (w2.alloc (.cells #[.int .u64 c.set.w0.toNat, .int .u64 c.set.w1.toNat, .int .u64 c.set.w2.toNat, .int .u64 c.set.w3.toNat, .int .u8 (c.b : Nat), .bool c.fin, .int .i64 (c.next : Nat)] 186)) w2.heap.size c := heap_alloc_new w2 _
                  have hby : Below w2.heap.size w2 (w2.alloc (.cells #[.int .u64 c.set.w0.toNat, .int .u64 c.set.w1.toNat, .int .u64 c.set.w2.toNat, .int .u64 c.set.w3.toNat, .int .u8 (c.b : Nat), .bool c.fin, .int .i64 (c.next : Nat)] 186)) := (Below.refl _ _).alloc (Nat.le_refl _) _
                  have hsy : w2.heap.size < (w2.alloc (.cells #[.int .u64 c.set.w0.toNat, .int .u64 c.set.w1.toNat, .int .u64 c.set.w2.toNat, .int .u64 c.set.w3.toNat, .int .u8 (c.b : Nat), .bool c.fin, .int .i64 (c.next : Nat)] 186)).heap.size := by simp
                  revert hy hby hsy
                  generalize w2.alloc (.cells #[.int .u64 c.set.w0.toNat, .int .u64 c.set.w1.toNat, .int .u64 c.set.w2.toNat, .int .u64 c.set.w3.toNat, .int .u8 (c.b : Nat), .bool c.fin, .int .i64 (c.next : Nat)] 186) = wy
                  intro hy hby hsy
                  have hbw2 : Below wx.heap.size wx wy := hbd.trans (hby.mono hbd.size)
                  have hbe2 := hb0.trans (hbw2.mono hle)
                  have hz2 := HZ.out.below hbw2
                  have his2 := hz2.is
                  clear z0 z1 z2 z3 z4 z5 z6 f0
                  obtain ⟨z0, z1, z2, z3, z4, z5, z6⟩ := hz2.cells
                  have f0 := frozen_cls hz2
                  clear x0 x1 x2 x3 x4 x5 x6
                  obtain ⟨x0, x1, x2, x3, x4, x5, x6⟩ := (HX.out.below hbw2).cells
                  obtain ⟨y0, y1, y2, y3, y4, y5, y6⟩ := hy.cells
                  have hfy : Flt wx.heap.size wy v fc := (by exact hf : Flt wx.heap.size w2 v fc).below hby
                  have hly := hbw2.size
                  have hlz : w.heap.size < wy.heap.size := by omega
                  have hlb : b8 < wy.heap.size := by omega
                  have hlr : rb < wy.heap.size := by omega
                  clear hbd hby hz2 hf hb1 hy
                  generalize w2.heap.size = b9 at *
                  cases fc with
                  | some f =>
                    have HE : Hid (itemTh L at0 n false = (c, some f)) := hIT.out.trans (by simp [e1, e2, e3, g2, e4, e5])
                    obtain ⟨fe, fat⟩ := f
                    obtain ⟨fb, rfl, hfge, hflt, hfc0, hfc1⟩ := hfy
                    have hfl : Hid (Flt wx.heap.size wy (.pointer (some ⟨fb, 0, none⟩)) (some (fe, fat))) := ⟨fb, rfl, hfge, hflt, hfc0, hfc1⟩
                    clear hfc0 hfc1
                    go_wp2_with fail
                    rw [fold_setTh]
                    rw [HE.out]
                    exact ret_th Tryd.results106 rfl rfl rfl his2 (Below.refl _ _) rfl ((hfl.out.set hlx _ _ _ _ _ _ _).mono hle) hbe2 (Nat.le_refl _)
                  | none =>
                    have hv : v = .pointer none := hfy
                    subst hv
                    clear hfy
                    obtain ⟨hc1, hc2, hcb⟩ := thingTh_next HT2.out h1.m.u
                    cases e6 : c.fin with
                    | false =>
                      rw [e6] at y5
                      have HE : Hid (itemTh L at0 n false = (c, some (30, n))) := hIT.out.trans (by simp [e1, e2, e3, g2, e4, e5, e6])
                      go_wp2_with fail
                      rw [fold_setTh]
                      rw [HE.out]
                      exact ret_th Tryd.results106 rfl rfl rfl his2 ((Below.refl _ _).alloc (by simp [setTh_size]; omega) _) (by simp only [thV, e6]) (flt_at (e := 30) (by simp [setTh_size]) (by simp [setTh_size]; omega)) hbe2 (Nat.le_refl _)
                    | true =>
                      by_cases g3 : c.b < a.b
                      ·
                        rw [e6] at y5
                        have HE : Hid (itemTh L at0 n false = (c, some (30, n))) := hIT.out.trans (by simp [e1, e2, e3, g2, e4, e5, e6, g3])
                        go_wp2_with fail
                        rw [fold_setTh]
                        rw [HE.out]
                        exact ret_th Tryd.results106 rfl rfl rfl his2 ((Below.refl _ _).alloc (by simp [setTh_size]; omega) _) (by simp only [thV, e6]) (flt_at (e := 30) (by simp [setTh_size]) (by simp [setTh_size]; omega)) hbe2 (Nat.le_refl _)
                      ·
                        rw [e6] at y5
                        have HE : Hid (itemTh L at0 n false = (⟨Cls.range a.b c.b, 0, false, c.next⟩, none)) := hIT.out.trans (by simp [e1, e2, e3, g2, e4, e5, e6, g3])
                        go_wp2_with fail
                        refine wp_region_segs (X := none) 8 [([0, 1, 2, 3, 5, 6], 4)] [7] (by kernel_rfl) (by kernel_rfl) rfl (fun _ _ _ _ _ h => h) ?_
                        simp only [wpSegs, pickSegs_nil, pickSegs_cons, pickOps_nil, pickOps_cons, List.getD_cons_zero, List.getD_cons_succ, List.drop_succ_cons, List.drop_zero]
                        repeat (go_big_quiet_step (fail))
                        refine wpQuiet_nil ?_
                        go_wp2_with fail
                        refine (range_int _ _ (by omega) (by omega) (by omega) (by omega) _).mono ?_; rintro e w3 ⟨rfl, hb3⟩
                        have hkp := Keeps.of_below (X := none) hb3
                        replace hb3 : Below wy.heap.size wy w3 := Below.trans (Below.refl _ _).drew hb3
                        have hbe3 := hbe2.trans (hb3.mono (by omega))
                        have hz3 := HZ.out.below (hbw2.trans (hb3.mono hly))
                        have his3 := hz3.is
                        clear z0 z1 z2 z3 z4 z5 z6 f0
                        obtain ⟨z0, z1, z2, z3, z4, z5, z6⟩ := hz3.cells
                        have f0 := frozen_cls hz3
                        clear hz3
                        go_wp2_with fail
                        refine ⟨hkp, ?_⟩
                        clear hkp
                        repeat (go_big_quiet_step (fail))
                        refine wpQuiet_nil ?_
                        go_wp2_with fail
                        rw [fold_setTh]
                        rw [HE.out]
                        exact ret_th Tryd.results106 rfl rfl rfl his3 (Below.refl _ _) rfl rfl hbe3 (Nat.le_refl _)
        | false =>
          by_cases g1 : L.length ≤ n + 1
          ·
            have HE : Hid (itemTh L at0 n false = (a, some (32, at0))) := hIT.out.trans (by simp [e1, e2, g1])
            go_wp2_with fail
            refine (bsign_any h1 (n) 45 (rfl) rfl).mono ?_; rintro e ww ⟨rfl, rfl⟩
            go_wp2_with fail
            refine (bsign_any h1 (n + 1) 93 (by omega) rfl).mono ?_; rintro e ww ⟨rfl, rfl⟩
            go_wp2_with fail
            refine wp_region_segs (X := none) 3 [([0, 1], 2)] [] (by kernel_rfl) (by kernel_rfl) rfl (fun _ _ _ _ _ h => h) ?_
            simp only [wpSegs, pickSegs_nil, pickSegs_cons, pickOps_nil, pickOps_cons, List.getD_cons_zero, List.getD_cons_succ, List.drop_succ_cons, List.drop_zero]
            repeat (go_big_quiet_step (fail))
            refine wpQuiet_nil ?_
            go_wp2_with fail
            refine (open_any (h1.below (Below.refl _ _).drew)).mono ?_; rintro e w2 ⟨v, rfl, hf, hb1⟩
            have hkp := Keeps.of_below (X := none) hb1
            replace hb1 : Below wx.heap.size wx w2 := Below.trans (Below.refl _ _).drew hb1
            have hz1 := HZ.out.below hb1
            have his1 := hz1.is
            have hbe1 := hb0.trans (hb1.mono hle)
            have HF := Lib.hid (by exact hf : Flt wx.heap.size w2 v (some (32, at0)))
            obtain ⟨z0, z1, z2, z3, z4, z5, z6⟩ := hz1.cells
            have f0 := frozen_cls hz1
            clear hf hb1 hz1
            go_wp2_with fail
            refine ⟨hkp, wpQuiet_nil ?_⟩
            clear hkp
            go_wp2_with fail
            rw [fold_setTh]
            rw [HE.out]
            exact ret_th Tryd.results106 rfl rfl rfl his1 (Below.refl _ _) rfl ((HF.out.set hlx _ _ _ _ _ _ _).mono hle) hbe1 (Nat.le_refl _)
          ·
            have HE : Hid (itemTh L at0 n false = (a, some (30, n))) := hIT.out.trans (by simp [e1, e2, g1])
            go_wp2_with fail
            refine (bsign_any h1 (n) 45 (rfl) rfl).mono ?_; rintro e ww ⟨rfl, rfl⟩
            go_wp2_with fail
            refine (bsign_any h1 (n + 1) 93 (by omega) rfl).mono ?_; rintro e ww ⟨rfl, rfl⟩
            go_wp2_with fail
            rw [fold_setTh]
            rw [HE.out]
            exact ret_th Tryd.results106 rfl rfl rfl his ((Below.refl _ _).alloc (by simp [setTh_size]; omega) _) rfl (flt_at (e := 30) (by simp [setTh_size]) (by simp [setTh_size]; omega)) hb0 (Nat.le_refl _)
end Go.Proofs.YtbdjcmhfcdamiaaDoor
