/- Contracts of package syntax's reader: interval, duplication. -/
import Derived.Test.YtbdjcmhfcdamiaaDoorRc
namespace Go.Proofs.YtbdjcmhfcdamiaaDoor
open Go.RowKit

theorem wideB_le (ere : Bool) : wideB ere ≤ 2 := by cases ere <;> decide
theorem RBut.none {rb : Nat} {w w' : World} (h : RBut rb none w w') (eb : Option Nat) : RBut rb eb w w' := ⟨h.os, h.tape, h.output, h.size, fun k hk h1 _ => h.block k hk h1 (by simp)⟩
theorem numberL_bounds (L : List Mk) : ∀ (f : Nat) (n : Int) (i : Nat), -1 ≤ n → n ≤ 256 → -1 ≤ (numberL L f n i).1 ∧ (numberL L f n i).1 ≤ 256
  | 0, n, i, h1, h2 => ⟨h1, h2⟩
  | f + 1, n, i, h1, h2 => by
    unfold numberL
    split
    · exact ⟨h1, h2⟩
    · split
      · exact ⟨h1, h2⟩
      · rename_i h3
        simp only [Bool.or_eq_true, decide_eq_true_eq, not_or] at h3
        exact numberL_bounds L f _ _ (by omega) (by omega)
theorem numL_bounds (L : List Mk) (i : Nat) : -1 ≤ (numL L i).1 ∧ (numL L i).1 ≤ 256 := numberL_bounds L _ _ _ (by omega) (by omega)
section
variable {w : World} {rb : Nat} {ere : Bool} {mb mo cap : Nat} {L : List Mk} {s : Rst} {k : Nat} {ev : Value}
/-- The last part of an interval. -/
def intervalE (ere : Bool) (L : List Mk) (s : Rst) (lo hi : Int) (p : Nat) : Out (Int × Int) :=
  if decide (lo < 0) || decide (255 < lo) || decide (255 < hi) || (decide (0 ≤ hi) && decide (hi < lo)) || !seesAt L p (signB ere 125) then .no 43 s.i
  else .ok (lo, hi) ⟨p + wideB ere, s.ended⟩
theorem intervalL_eq (ere : Bool) (L : List Mk) (s : Rst) : intervalL ere L s = (let a := numL L (s.i + wideB ere); let b := if seesAt L a.2 [44] then numL L (a.2 + 1) else a; intervalE ere L s a.1 b.1 b.2) := rfl

set_option maxRecDepth 100000 in
set_option maxHeartbeats 1600000 in
theorem interval_any (hv : RdS w rb ere mb mo cap L s k ev) (hs : s.i + wideB ere ≤ L.length) :
    Calls Tryd.prog 111 #[.pointer (some ⟨rb, 0, none⟩)] w (Post w rb ere mb mo cap L k ev (intervalL ere L s) fun a v _ ev' => v = .tuple #[.int .i64 a.1, .int .i64 a.2] ∧ ev' = ev) := by
  have hlen := hv.m.len
  have hw := wideB_le ere
  have hz := sgn_size ere 123
  have hz2 := sgn_size ere 125
  have c0 := hv.c0
  have c2 := hv.c2
  have rbl := hv.lt
  have f2 := hv.fz 2
  go_enter Tryd.func111, Tryd.ntmps111
  go_wp2_with fail
  refine wp_region_segs (X := none) 10 [([0, 1, 2, 3, 4], 5)] [6, 7, 8, 9] (by kernel_rfl) (by kernel_rfl) rfl (fun _ _ _ _ _ h => h) ?_
  simp only [wpSegs, pickSegs_nil, pickSegs_cons, pickOps_nil, pickOps_cons, List.getD_cons_zero, List.getD_cons_succ, List.drop_succ_cons, List.drop_zero]
  repeat (go_big_quiet_step (fail))
  refine wpQuiet_nil ?_
  go_wp2_with fail
  refine (sign_as 123 (w := w.drew) c0).mono ?_; rintro e w1 ⟨rfl, rfl⟩
  go_wp2_with fail
  refine ⟨Keeps.refl _, ?_⟩
  repeat (go_big_quiet_step (fail))
  refine wpQuiet_nil ?_
  go_wp2_with fail
  have hr1 := (hv.setAt hs).drew
  have hb1 := ((RBut.refl rb ev.ownBlock w).store 2 (.int .i64 ((s.i + wideB ere : Nat) : Int))).drew
  rw [Int.natCast_add] at hr1 hb1
  have HE : Hid (intervalL ere L s = (let b := if seesAt L (numL L (s.i + wideB ere)).2 [44] then numL L ((numL L (s.i + wideB ere)).2 + 1) else numL L (s.i + wideB ere); intervalE ere L s (numL L (s.i + wideB ere)).1 b.1 b.2)) := rfl
  have hnb := numL_bounds L (s.i + wideB ere)
  refine (number_any hr1).mono ?_; rintro e w2 ⟨rfl, hr2, hb2⟩
  simp only at hr2
  generalize numL L (s.i + wideB ere) = a at hr2 HE hnb ⊢
  obtain ⟨lo, p⟩ := a
  simp only at hr2 HE hnb
  have hbe2 : RBut rb ev.ownBlock w w2 := hb1.trans (.inl rfl) (hb2.none _)
  have hp := hr2.at_
  simp only at hp
  clear hr1 hb1 hb2 hv c0 c2 f2
  have rbl2 := hr2.lt
  have d2 := hr2.c2
  have f2 := hr2.fz 2
  cases hc : seesAt L p [44] with
  | true =>
    have hp1 := seesAt_le (by decide) hc
    go_wp2_with fail
    refine (sees_as _ _ _ (by decide) (by rfl) hc hr2.v).mono ?_; rintro e w3 ⟨rfl, hb3⟩
    have hr3 := hr2.below hb3
    have hbe3 := hbe2.below hb3
    have rbl3 := hr3.lt
    have d3 := hr3.c2
    have f3 := hr3.fz 2
    clear d2 f2 hb3
    go_wp2_with fail
    have hr4 := hr3.setAt (j := p + 1) (by simpa using hp1)
    have hb4 := hbe3.store 2 (.int .i64 ((p + 1 : Nat) : Int))
    rw [Int.natCast_add, show ((1 : Nat) : Int) = 1 from rfl] at hr4 hb4
    have hnh := numL_bounds L (p + 1)
    simp only [hc, if_true] at HE
    refine (number_any hr4).mono ?_; rintro e wA ⟨rfl, hrA, hb5⟩
    simp only at hrA
    have hbA : RBut rb ev.ownBlock w wA := hb4.trans (.inl rfl) (hb5.none _)
    generalize numL L (p + 1) = bq at hrA HE hnh ⊢
    obtain ⟨hi, q⟩ := bq
    simp only at hrA HE hnh
    clear hr2 hr3 hr4 hbe3 hb4 hb5 d3 f3 hbe2 hp1 rbl3
    have hqL := hrA.at_
    simp only at hqL
    have rblA := hrA.lt
    have cA := hrA.c0
    have dA := hrA.c2
    have fA := hrA.fz 2
    have HB := Lib.hid hbA
    have HR := Lib.hid hrA
    clear hbA hrA
    by_cases g1 : lo < 0
    · have HF : Hid (intervalL ere L s = .no 43 s.i) := by rw [Hid, HE.out]; simp [intervalE, g1]
      go_wp2_with fail
      refine (give_any 43 s.i rfl rfl _).mono ?_; rintro e w9 ⟨rfl, rfl⟩
      go_wp2_with fail
      exact ⟨rfl, HB.out, by rw [HF.out]; rfl⟩
    by_cases g2 : 255 < lo
    · have HF : Hid (intervalL ere L s = .no 43 s.i) := by rw [Hid, HE.out]; simp [intervalE, g2]
      go_wp2_with fail
      refine (give_any 43 s.i rfl rfl _).mono ?_; rintro e w9 ⟨rfl, rfl⟩
      go_wp2_with fail
      exact ⟨rfl, HB.out, by rw [HF.out]; rfl⟩
    by_cases g3 : 255 < hi
    · have HF : Hid (intervalL ere L s = .no 43 s.i) := by rw [Hid, HE.out]; simp [intervalE, g3]
      go_wp2_with fail
      refine (give_any 43 s.i rfl rfl _).mono ?_; rintro e w9 ⟨rfl, rfl⟩
      go_wp2_with fail
      exact ⟨rfl, HB.out, by rw [HF.out]; rfl⟩
    by_cases g4 : 0 ≤ hi
    · by_cases g5 : hi < lo
      · have HF : Hid (intervalL ere L s = .no 43 s.i) := by rw [Hid, HE.out]; simp [intervalE, g4, g5]
        go_wp2_with fail
        refine (give_any 43 s.i rfl rfl _).mono ?_; rintro e w9 ⟨rfl, rfl⟩
        go_wp2_with fail
        exact ⟨rfl, HB.out, by rw [HF.out]; rfl⟩
      have HG : Hid (intervalE ere L s lo hi q = if !seesAt L q (signB ere 125) then .no 43 s.i else .ok (lo, hi) ⟨q + wideB ere, s.ended⟩) := by simp [Hid, intervalE, g1, g2, g3, g4, g5]
      cases hd : seesAt L q (signB ere 125) with
      | false =>
        have HF : Hid (intervalL ere L s = .no 43 s.i) := by rw [Hid, HE.out, HG.out, hd]; rfl
        go_wp2_with fail
        refine (sign_as 125 cA).mono ?_; rintro e w8 ⟨rfl, rfl⟩
        go_wp2_with fail
        refine (sees_as _ _ _ (by rw [hz2]; omega) (sgn_bytes _ _) hd HR.out.v).mono ?_; rintro e w8 ⟨rfl, hb8⟩
        have HB8 := Lib.hid (HB.out.below hb8)
        clear hb8
        go_wp2_with fail
        refine (give_any 43 s.i rfl rfl _).mono ?_; rintro e w9 ⟨rfl, rfl⟩
        go_wp2_with fail
        exact ⟨rfl, HB8.out, by rw [HF.out]; rfl⟩
      | true =>
        have hq9 := seesSign_le hd
        have HF : Hid (intervalL ere L s = .ok (lo, hi) ⟨q + wideB ere, s.ended⟩) := by rw [Hid, HE.out, HG.out, hd]; rfl
        go_wp2_with fail
        refine (sign_as 125 cA).mono ?_; rintro e w8 ⟨rfl, rfl⟩
        go_wp2_with fail
        refine (sees_as _ _ _ (by rw [hz2]; omega) (sgn_bytes _ _) hd HR.out.v).mono ?_; rintro e w8 ⟨rfl, hb8⟩
        have HB8 := Lib.hid (HB.out.below hb8)
        have hr8 := HR.out.below hb8
        have HR8 := Lib.hid hr8
        have rbl8 := hr8.lt
        have c8 := hr8.c0
        have d8 := hr8.c2
        have f8 := hr8.fz 2
        clear hb8 hr8 cA dA fA
        go_wp2_with fail
        refine wp_region_segs (X := none) 10 [([0, 1, 2, 3, 4], 5)] [6, 7, 8, 9] (by kernel_rfl) (by kernel_rfl) rfl (fun _ _ _ _ _ h => h) ?_
        simp only [wpSegs, pickSegs_nil, pickSegs_cons, pickOps_nil, pickOps_cons, List.getD_cons_zero, List.getD_cons_succ, List.drop_succ_cons, List.drop_zero]
        repeat (go_big_quiet_step (fail))
        refine wpQuiet_nil ?_
        go_wp2_with fail
        refine (sign_as 125 (w := w8.drew) c8).mono ?_; rintro e w10 ⟨rfl, rfl⟩
        go_wp2_with fail
        refine ⟨Keeps.refl _, ?_⟩
        repeat (go_big_quiet_step (fail))
        refine wpQuiet_nil ?_
        go_wp2_with fail
        have hrZ := (HR8.out.setAt (j := q + wideB ere) hq9).drew
        have hbZ := (HB8.out.store 2 (.int .i64 ((q + wideB ere : Nat) : Int))).drew
        rw [Int.natCast_add] at hrZ hbZ
        go_ret2
        refine ⟨hbZ, ?_⟩
        rw [HF.out]
        exact ⟨_, ev, rfl, hrZ, newOr.refl _ _, rfl, rfl⟩
    have HG : Hid (intervalE ere L s lo hi q = if !seesAt L q (signB ere 125) then .no 43 s.i else .ok (lo, hi) ⟨q + wideB ere, s.ended⟩) := by simp [Hid, intervalE, g1, g2, g3, g4]
    cases hd : seesAt L q (signB ere 125) with
    | false =>
      have HF : Hid (intervalL ere L s = .no 43 s.i) := by rw [Hid, HE.out, HG.out, hd]; rfl
      go_wp2_with fail
      refine (sign_as 125 cA).mono ?_; rintro e w8 ⟨rfl, rfl⟩
      go_wp2_with fail
      refine (sees_as _ _ _ (by rw [hz2]; omega) (sgn_bytes _ _) hd HR.out.v).mono ?_; rintro e w8 ⟨rfl, hb8⟩
      have HB8 := Lib.hid (HB.out.below hb8)
      clear hb8
      go_wp2_with fail
      refine (give_any 43 s.i rfl rfl _).mono ?_; rintro e w9 ⟨rfl, rfl⟩
      go_wp2_with fail
      exact ⟨rfl, HB8.out, by rw [HF.out]; rfl⟩
    | true =>
      have hq9 := seesSign_le hd
      have HF : Hid (intervalL ere L s = .ok (lo, hi) ⟨q + wideB ere, s.ended⟩) := by rw [Hid, HE.out, HG.out, hd]; rfl
      go_wp2_with fail
      refine (sign_as 125 cA).mono ?_; rintro e w8 ⟨rfl, rfl⟩
      go_wp2_with fail
      refine (sees_as _ _ _ (by rw [hz2]; omega) (sgn_bytes _ _) hd HR.out.v).mono ?_; rintro e w8 ⟨rfl, hb8⟩
      have HB8 := Lib.hid (HB.out.below hb8)
      have hr8 := HR.out.below hb8
      have HR8 := Lib.hid hr8
      have rbl8 := hr8.lt
      have c8 := hr8.c0
      have d8 := hr8.c2
      have f8 := hr8.fz 2
      clear hb8 hr8 cA dA fA
      go_wp2_with fail
      refine wp_region_segs (X := none) 10 [([0, 1, 2, 3, 4], 5)] [6, 7, 8, 9] (by kernel_rfl) (by kernel_rfl) rfl (fun _ _ _ _ _ h => h) ?_
      simp only [wpSegs, pickSegs_nil, pickSegs_cons, pickOps_nil, pickOps_cons, List.getD_cons_zero, List.getD_cons_succ, List.drop_succ_cons, List.drop_zero]
      repeat (go_big_quiet_step (fail))
      refine wpQuiet_nil ?_
      go_wp2_with fail
      refine (sign_as 125 (w := w8.drew) c8).mono ?_; rintro e w10 ⟨rfl, rfl⟩
      go_wp2_with fail
      refine ⟨Keeps.refl _, ?_⟩
      repeat (go_big_quiet_step (fail))
      refine wpQuiet_nil ?_
      go_wp2_with fail
      have hrZ := (HR8.out.setAt (j := q + wideB ere) hq9).drew
      have hbZ := (HB8.out.store 2 (.int .i64 ((q + wideB ere : Nat) : Int))).drew
      rw [Int.natCast_add] at hrZ hbZ
      go_ret2
      refine ⟨hbZ, ?_⟩
      rw [HF.out]
      exact ⟨_, ev, rfl, hrZ, newOr.refl _ _, rfl, rfl⟩
  | false =>
    go_wp2_with fail
    refine (sees_as _ _ _ (by decide) (by rfl) hc hr2.v).mono ?_; rintro e wA ⟨rfl, hb3⟩
    have hrA := hr2.below hb3
    have hbA := hbe2.below hb3
    simp only [hc, Bool.false_eq_true, if_false] at HE
    clear d2 f2 hb3 hr2 hbe2
    have hqL := hrA.at_
    simp only at hqL
    have rblA := hrA.lt
    have cA := hrA.c0
    have dA := hrA.c2
    have fA := hrA.fz 2
    have HB := Lib.hid hbA
    have HR := Lib.hid hrA
    clear hbA hrA
    by_cases g1 : lo < 0
    · have HF : Hid (intervalL ere L s = .no 43 s.i) := by rw [Hid, HE.out]; simp [intervalE, g1]
      go_wp2_with fail
      refine (give_any 43 s.i rfl rfl _).mono ?_; rintro e w9 ⟨rfl, rfl⟩
      go_wp2_with fail
      exact ⟨rfl, HB.out, by rw [HF.out]; rfl⟩
    by_cases g2 : 255 < lo
    · have HF : Hid (intervalL ere L s = .no 43 s.i) := by rw [Hid, HE.out]; simp [intervalE, g2]
      go_wp2_with fail
      refine (give_any 43 s.i rfl rfl _).mono ?_; rintro e w9 ⟨rfl, rfl⟩
      go_wp2_with fail
      exact ⟨rfl, HB.out, by rw [HF.out]; rfl⟩
    have g5 : ¬ lo < lo := by omega
    have g4 : 0 ≤ lo := by omega
    have HG : Hid (intervalE ere L s lo lo p = if !seesAt L p (signB ere 125) then .no 43 s.i else .ok (lo, lo) ⟨p + wideB ere, s.ended⟩) := by simp [Hid, intervalE, g1, g2]
    cases hd : seesAt L p (signB ere 125) with
    | false =>
      have HF : Hid (intervalL ere L s = .no 43 s.i) := by rw [Hid, HE.out, HG.out, hd]; rfl
      go_wp2_with fail
      refine (sign_as 125 cA).mono ?_; rintro e w8 ⟨rfl, rfl⟩
      go_wp2_with fail
      refine (sees_as _ _ _ (by rw [hz2]; omega) (sgn_bytes _ _) hd HR.out.v).mono ?_; rintro e w8 ⟨rfl, hb8⟩
      have HB8 := Lib.hid (HB.out.below hb8)
      clear hb8
      go_wp2_with fail
      refine (give_any 43 s.i rfl rfl _).mono ?_; rintro e w9 ⟨rfl, rfl⟩
      go_wp2_with fail
      exact ⟨rfl, HB8.out, by rw [HF.out]; rfl⟩
    | true =>
      have hq9 := seesSign_le hd
      have HF : Hid (intervalL ere L s = .ok (lo, lo) ⟨p + wideB ere, s.ended⟩) := by rw [Hid, HE.out, HG.out, hd]; rfl
      go_wp2_with fail
      refine (sign_as 125 cA).mono ?_; rintro e w8 ⟨rfl, rfl⟩
      go_wp2_with fail
      refine (sees_as _ _ _ (by rw [hz2]; omega) (sgn_bytes _ _) hd HR.out.v).mono ?_; rintro e w8 ⟨rfl, hb8⟩
      have HB8 := Lib.hid (HB.out.below hb8)
      have hr8 := HR.out.below hb8
      have HR8 := Lib.hid hr8
      have rbl8 := hr8.lt
      have c8 := hr8.c0
      have d8 := hr8.c2
      have f8 := hr8.fz 2
      clear hb8 hr8 cA dA fA
      go_wp2_with fail
      refine wp_region_segs (X := none) 10 [([0, 1, 2, 3, 4], 5)] [6, 7, 8, 9] (by kernel_rfl) (by kernel_rfl) rfl (fun _ _ _ _ _ h => h) ?_
      simp only [wpSegs, pickSegs_nil, pickSegs_cons, pickOps_nil, pickOps_cons, List.getD_cons_zero, List.getD_cons_succ, List.drop_succ_cons, List.drop_zero]
      repeat (go_big_quiet_step (fail))
      refine wpQuiet_nil ?_
      go_wp2_with fail
      refine (sign_as 125 (w := w8.drew) c8).mono ?_; rintro e w10 ⟨rfl, rfl⟩
      go_wp2_with fail
      refine ⟨Keeps.refl _, ?_⟩
      repeat (go_big_quiet_step (fail))
      refine wpQuiet_nil ?_
      go_wp2_with fail
      have hrZ := (HR8.out.setAt (j := p + wideB ere) hq9).drew
      have hbZ := (HB8.out.store 2 (.int .i64 ((p + wideB ere : Nat) : Int))).drew
      rw [Int.natCast_add] at hrZ hbZ
      go_ret2
      refine ⟨hbZ, ?_⟩
      rw [HF.out]
      exact ⟨_, ev, rfl, hrZ, newOr.refl _ _, rfl, rfl⟩
end
end Go.Proofs.YtbdjcmhfcdamiaaDoor
