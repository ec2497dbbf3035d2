/- Contracts of package syntax's reader: bracket. -/
import Derived.Test.YtbdjcmhfcdamiaaDoorRf
namespace Go.Proofs.YtbdjcmhfcdamiaaDoor
open Go.RowKit

theorem nameL_err {L : List Mk} {at0 b0 : Nat} : ∀ (n i : Nat) (s : List Nat) (a : Th) (f : Nat × Nat), nameL L at0 b0 n i s = (a, some f) → 0 < f.1
  | 0, _, _, _, _, h => by simp only [nameL, Prod.mk.injEq, Option.some.injEq] at h; rw [← h.2]; show 0 < 32; decide
  | n + 1, i, s, a, f, h => by
    unfold nameL at h
    split at h
    · split at h
      · simp only [Prod.mk.injEq, Option.some.injEq] at h; rw [← h.2]; show 0 < 31; decide
      · simp at h
    · exact nameL_err n _ _ _ _ h
theorem enclosedTh_err {L : List Mk} {at0 b0 c : Nat} {a : Th} {f : Nat × Nat} (h : enclosedTh L at0 b0 c = (a, some f)) : 0 < f.1 := by
  unfold enclosedTh at h
  split at h
  · simp only [Prod.mk.injEq, Option.some.injEq] at h; rw [← h.2]; show 0 < 32; decide
  · split at h
    · simp only [Prod.mk.injEq, Option.some.injEq] at h; rw [← h.2]; show 0 < 31; decide
    · split at h
      · simp only [Prod.mk.injEq, Option.some.injEq] at h; rw [← h.2]; show 0 < 32; decide
      · split at h
        · simp only [Prod.mk.injEq, Option.some.injEq] at h; rw [← h.2]; show 0 < 31; decide
        · simp at h
theorem thingTh_err {L : List Mk} {at0 n : Nat} {a : Th} {f : Nat × Nat} (h : thingTh L at0 n = (a, some f)) : 0 < f.1 := by
  unfold thingTh at h
  split at h
  · simp only [Prod.mk.injEq, Option.some.injEq] at h; rw [← h.2]; show 0 < 32; decide
  · split at h
    · exact nameL_err _ _ _ _ _ h
    · split at h
      · exact enclosedTh_err h
      · simp at h
theorem itemTh_err {L : List Mk} {at0 n : Nat} {first : Bool} {a : Th} {f : Nat × Nat} (h : itemTh L at0 n first = (a, some f)) : 0 < f.1 := by
  unfold itemTh at h
  split at h
  · rename_i hx
    simp only [Prod.mk.injEq, Option.some.injEq] at h
    rw [← h.2]; exact thingTh_err hx
  · split at h
    · split at h
      · simp only [Prod.mk.injEq, Option.some.injEq] at h; rw [← h.2]; show 0 < 32; decide
      · simp only [Prod.mk.injEq, Option.some.injEq] at h; rw [← h.2]; show 0 < 30; decide
    · split at h
      · simp at h
      · split at h
        · simp only [Prod.mk.injEq, Option.some.injEq] at h; rw [← h.2]; show 0 < 30; decide
        · split at h
          · rename_i hx
            simp only [Prod.mk.injEq, Option.some.injEq] at h
            rw [← h.2]; exact thingTh_err hx
          · split at h
            · simp only [Prod.mk.injEq, Option.some.injEq] at h; rw [← h.2]; show 0 < 30; decide
            · simp at h
theorem itemsL_err {L : List Mk} {at0 : Nat} : ∀ (n : Nat) (c : Cls) (i : Nat) (first : Bool) (f : Nat × Nat), itemsL L at0 n c i first = .error f → 0 < f.1
  | 0, _, _, _, _, h => by simp only [itemsL, Except.error.injEq] at h; rw [← h]; show 0 < 32; decide
  | n + 1, c, i, first, f, h => by
    unfold itemsL at h
    split at h
    · cases h
    · split at h
      · rename_i hx
        cases h
        exact itemTh_err hx
      · exact itemsL_err n _ _ _ _ h
theorem bracketL_err {L : List Mk} {at0 e p : Nat} (h : bracketL L at0 = .error (e, p)) : 0 < e := by
  unfold bracketL at h
  simp only at h
  split at h
  · rename_i hx
    cases h
    exact itemsL_err _ _ _ _ _ hx
  · cases h

section
variable {w : World} {rb : Nat} {ere : Bool} {mb mo cap : Nat} {L : List Mk} {s : Rst} {k : Nat} {ev : Value}
set_option maxRecDepth 100000 in
set_option maxHeartbeats 800000 in
theorem bracket_any (hv : RdS w rb ere mb mo cap L s k ev) (hs : signAt L s.i 91 = true) (fb : Bool) :
    Calls Tryd.prog 71 #[.pointer (some ⟨rb, 0, none⟩), .bool fb] w (Post w rb ere mb mo cap L k ev (brackL L s) (AtomR w)) := by
  have hlen := hv.m.len
  have rbl := hv.lt
  have c1 := hv.c1
  have c2 := hv.c2
  have HV := Lib.hid hv
  have hpa : ∀ wx, Below w.heap.size w wx → Calls Tryd.prog 89 #[.slice (some ⟨mb, mo, none⟩) L.length cap, .int .i64 (s.i : Nat)] wx fun e w' => e = .returned (brV (bracketL L s.i)) ∧ Below wx.heap.size wx w' := fun wx hb => parse_any (hv.below hb).m s.i rfl hs
  have HP := Lib.hid hpa
  clear hv hpa
  cases hbr : bracketL L s.i with
  | error f =>
    obtain ⟨f, p⟩ := f
    have hf := bracketL_err hbr
    have HF : Hid (brackL L s = .no f p) := by simp [Hid, brackL, hbr]
    rw [hbr] at HP
    go_enter Tryd.func71, Tryd.ntmps71
    go_upto_region 1 with fail
    refine wp_region_comb (X := none) 14 13 [([0, 1, 2, 3, 4, 5, 6, 7], 8)] [9, 10, 11, 12] (by kernel_rfl) (by kernel_rfl) rfl (fun _ _ _ _ _ h => h) ?_
    simp only [wpComb, wpSegs, pickSegs_nil, pickSegs_cons, pickOps_nil, pickOps_cons, List.getD_cons_zero, List.getD_cons_succ, List.drop_succ_cons, List.drop_zero]
    repeat (go_big_quiet_step (fail))
    refine wpQuiet_nil ?_
    refine ⟨?_, ?_⟩
    · go_wp2_with fail
      refine (HP.out _ (Below.refl _ _).drew).mono ?_; rintro e w1 ⟨rfl, hb1⟩
      have hk := Keeps.of_below (X := none) hb1
      simp only [brV, clsV, Cls.zero]
      go_wp2_with fail
      refine ⟨hk, ?_⟩
      repeat (go_big_quiet_step (fail))
      refine wpQuiet_nil ?_
      go_wp2_with fail
      refine ⟨keeps_alloc _ _, wpQuiet_nil ?_⟩
      clear hk
      have hfi : ¬ ((f : Int) = 0) := by omega
      go_wp2_with fail
      refine (give_any f p rfl rfl _).mono ?_; rintro e w9 ⟨rfl, rfl⟩
      go_wp2_with fail
      exact ⟨rfl, (((RBut.refl _ _ _).below (Below.refl _ _).drew).below hb1).alloc _, by rw [HF.out]; rfl⟩
    · go_wp2_with fail
      refine ⟨keeps_drew (keeps_alloc _ _), wpQuiet_nil ?_⟩
      go_wp2_with fail
      have hba := ((Below.refl w.heap.size w).alloc (Nat.le_refl _) (.cells (clsCells Cls.zero) 75)).drew
      have hz0 : clsAt (w.alloc (.cells (clsCells Cls.zero) 75)).drew w.heap.size Cls.zero := heap_alloc_new w _
      simp only [clsCells, Cls.zero, show (0#64).toNat = 0 from rfl, Int.natCast_zero] at hba
      refine (HP.out _ hba).mono ?_; rintro e w1 ⟨rfl, hb1⟩
      have hk := Keeps.of_below (X := none) hb1
      have hz1 := hz0.below hb1
      obtain ⟨z0, z1, z2, z3⟩ := hz1.cells
      have g0 := frozen_cls hz1
      simp only [brV, clsV, Cls.zero]
      go_wp2_with fail
      refine ⟨hk, ?_⟩
      repeat (go_big_quiet_step (fail))
      refine wpQuiet_nil ?_
      clear hk
      have hfi : ¬ ((f : Int) = 0) := by omega
      have HB := Lib.hid (((RBut.refl rb ev.ownBlock w).belowB hba).below hb1)
      have hsz := hba.size
      clear hba hb1
      go_wp2_with fail
      rw [fold_setCl]
      refine (give_any f p rfl rfl _).mono ?_; rintro e w9 ⟨rfl, rfl⟩
      go_wp2_with fail
      exact ⟨rfl, HB.out.belowB (setCl_below (Nat.le_refl _) _ _ _ _), by rw [HF.out]; rfl⟩
  | ok a =>
    obtain ⟨c, p⟩ := a
    have HF : Hid (brackL L s = .ok ([setN c], true) ⟨p, s.ended⟩) := by simp [Hid, brackL, hbr]
    have hp := (bracketL_next HV.out.m.u hbr).2
    have f2 := HV.out.fz 2
    rw [hbr] at HP
    simp only at hp
    obtain ⟨x0, x1, x2, x3⟩ := c
    go_enter Tryd.func71, Tryd.ntmps71
    go_upto_region 1 with fail
    refine wp_region_comb (X := none) 14 13 [([0, 1, 2, 3, 4, 5, 6, 7], 8)] [9, 10, 11, 12] (by kernel_rfl) (by kernel_rfl) rfl (fun _ _ _ _ _ h => h) ?_
    simp only [wpComb, wpSegs, pickSegs_nil, pickSegs_cons, pickOps_nil, pickOps_cons, List.getD_cons_zero, List.getD_cons_succ, List.drop_succ_cons, List.drop_zero]
    repeat (go_big_quiet_step (fail))
    refine wpQuiet_nil ?_
    refine ⟨?_, ?_⟩
    · go_wp2_with fail
      refine (HP.out _ (Below.refl _ _).drew).mono ?_; rintro e w1 ⟨rfl, hb1⟩
      have hk := Keeps.of_below (X := none) hb1
      have hr1 := HV.out.drew.below hb1
      have HR := Lib.hid hr1
      have HB := Lib.hid (((RBut.refl rb ev.ownBlock w).below (Below.refl _ _).drew).below hb1)
      have rbl1 := hr1.lt
      have d2 := hr1.c2
      have g2 := hr1.fz 2
      clear hr1
      simp only [brV, clsV]
      go_wp2_with fail
      refine ⟨hk, ?_⟩
      repeat (go_big_quiet_step (fail))
      refine wpQuiet_nil ?_
      go_wp2_with fail
      refine ⟨keeps_alloc _ _, wpQuiet_nil ?_⟩
      clear hk hb1
      go_wp2_with fail
      go_ret2
      exact atom_post HF.out ((HR.out.setAt hp).alloc _) ((HB.out.store 2 _).alloc _) (by simp)
    · go_wp2_with fail
      refine ⟨keeps_drew (keeps_alloc _ _), wpQuiet_nil ?_⟩
      go_wp2_with fail
      have hba := ((Below.refl w.heap.size w).alloc (Nat.le_refl _) (.cells (clsCells Cls.zero) 75)).drew
      have hz0 : clsAt (w.alloc (.cells (clsCells Cls.zero) 75)).drew w.heap.size Cls.zero := heap_alloc_new w _
      simp only [clsCells, Cls.zero, show (0#64).toNat = 0 from rfl, Int.natCast_zero] at hba
      refine (HP.out _ hba).mono ?_; rintro e w1 ⟨rfl, hb1⟩
      have hk := Keeps.of_below (X := none) hb1
      have hz1 := hz0.below hb1
      obtain ⟨z0, z1, z2, z3⟩ := hz1.cells
      have g0 := frozen_cls hz1
      have hbb := hba.trans (hb1.mono hba.size)
      have hr1 := HV.out.below hbb
      have HR := Lib.hid hr1
      have HB := Lib.hid ((RBut.refl rb ev.ownBlock w).below hbb)
      have rbl1 := hr1.lt
      have d2 := hr1.c2
      have g2 := hr1.fz 2
      have HI := Lib.hid hz1.is
      have hsz := hz1.lt
      have hne : ¬ rb = w.heap.size := by omega
      clear hr1 hba hbb hz0 hz1
      simp only [brV, clsV]
      go_wp2_with fail
      refine ⟨hk, ?_⟩
      repeat (go_big_quiet_step (fail))
      refine wpQuiet_nil ?_
      clear hk hb1
      go_wp2_with fail
      go_ret2
      rw [fold_setCl]
      exact atom_post HF.out ((HR.out.belowB (setCl_below (Nat.le_refl _) _ _ _ _) rbl HV.out.evlt).setAt hp) ((HB.out.belowB (setCl_below (Nat.le_refl _) _ _ _ _)).store 2 _) (by simp [setCl_size])
end
end Go.Proofs.YtbdjcmhfcdamiaaDoor
