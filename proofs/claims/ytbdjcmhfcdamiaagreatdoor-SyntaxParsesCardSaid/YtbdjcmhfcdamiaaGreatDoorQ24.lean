/- Parts: Di Dj Dk Dl. -/
import Derived.Test.YtbdjcmhfcdamiaaGreatDoorQ23
import Derived.Test.YtbdjcmhfcdamiaaGreatDoorQ13
import Derived.Test.YtbdjcmhfcdamiaaGreatDoorQ18
import Derived.Test.YtbdjcmhfcdamiaaGreatDoorQ28
import Derived.Test.YtbdjcmhfcdamiaaGreatDoorQ26
import Derived.Test.YtbdjcmhfcdamiaaGreatDoorQ19
import Derived.Test.YtbdjcmhfcdamiaaGreatDoorQ20
/- The document's reader: atom, given its group. -/
namespace Go.Proofs.YtbdjcmhfcdamiaaGreatDoor
open Go.RowKit

theorem range_all : Cls.range 0 255 = ⟨18446744073709551615#64, 18446744073709551615#64, 18446744073709551615#64, 18446744073709551615#64⟩ := by decide +kernel
section
variable {rb : Nat} {ere : Bool} {mb mo cap : Nat} {L : List Mk} {k : Nat}
theorem atom_split {fb : Bool} {grp : Rst → Out (List Nd)} {s : Rst} {bb : Nat} (h : markAt L s.i = ⟨bb, false⟩) (hs : s.i < L.length) : atomL ere fb L grp s =
    if (bb == 94 && (ere || fb)) = true then .ok ([beginN], false) ⟨s.i + 1, s.ended⟩
    else if (bb == 36 && (ere || decide (s.i + 1 = L.length) || seesAt L (s.i + 1) [92, 41])) = true then .ok ([endN], false) ⟨s.i + 1, s.ended⟩
    else if bb = 46 then .ok ([setN (Cls.range 0 255)], true) ⟨s.i + 1, s.ended⟩
    else if bb = 91 then brackL L s
    else if seesAt L s.i (signB ere 40) = true then withTrue (grp s)
    else if bb = 92 then withTrue (escL ere L s)
    else .ok ([oneN bb], true) ⟨s.i + 1, s.ended⟩ := by
  have h1 : ∀ c, signAt L s.i c = (bb == c) := fun c => by simp [signAt, hs, h]
  rw [sees_sgn, h1, h1]
  unfold atomL
  simp only [h]
  by_cases a1 : bb = 46
  · subst a1; simp [anyL]
  by_cases a2 : bb = 91
  · subst a2; simp
  by_cases a3 : bb = 92
  · subst a3
    cases ere with
    | true => simp [escape_split]
    | false =>
      cases h5 : signAt L (s.i + 1) 40 with
      | false => simp [escape_split, h5]
      | true =>
        have h6 := signAt_lt h5
        simp only [signAt, Bool.and_eq_true, beq_iff_eq, Bool.not_eq_true'] at h5
        simp [escapeL, show ¬ s.i + 1 = L.length by omega, h5.2.1, h5.2.2]
  by_cases a4 : bb = 94
  · subst a4
    cases ere <;> cases fb <;> simp [beginL]
  by_cases a5 : bb = 36
  · subst a5
    unfold endL
    by_cases h6 : s.i + 1 < L.length
    · cases ere <;> cases h7 : seesAt L (s.i + 1) [92, 41] <;> simp [h6, show ¬ s.i + 1 = L.length by omega]
    · cases ere <;> simp [show s.i + 1 = L.length by omega]
  cases ere <;> by_cases a6 : bb = 40 <;> simp [a1, a2, a3, a4, a5, a6]
/-- In atom: the reader, what has stayed, the mark's block. -/
structure AtS (w : World) (rb : Nat) (ere : Bool) (mb mo cap : Nat) (L : List Mk) (s : Rst) (k : Nat) (ev : Value) (B bb : Nat) (pl : Bool) (W : World) : Prop where
  r : RfS W rb ere mb mo cap L s k ev
  b : RBut rb ev.ownBlock w W
  m0 : W.cell? ⟨B, 0, none⟩ = some (.int .u8 (bb : Nat))
  m1 : W.cell? ⟨B, 1, none⟩ = some (.bool pl)
  lt : B < W.heap.size
  hb : w.heap.size ≤ B
  hr : rb < w.heap.size
  ho : ∀ g, ev.ownBlock = some g → g < w.heap.size
section
variable {w W W' : World} {s : Rst} {ev : Value} {B bb : Nat} {pl : Bool}
theorem AtS.below (h : AtS w rb ere mb mo cap L s k ev B bb pl W) (hb : Below W.heap.size W W') : AtS w rb ere mb mo cap L s k ev B bb pl W' :=
  ⟨h.r.below hb, h.b.below hb, (hb.cell (p := ⟨B, 0, none⟩) h.lt).trans h.m0, (hb.cell (p := ⟨B, 1, none⟩) h.lt).trans h.m1, Nat.lt_of_lt_of_le h.lt hb.size, h.hb, h.hr, h.ho⟩
theorem AtS.store {j : Nat} (h : AtS w rb ere mb mo cap L s k ev B bb pl W) (hb : Below j W W') (hj : w.heap.size ≤ j) (hB : B < j) : AtS w rb ere mb mo cap L s k ev B bb pl W' :=
  ⟨h.r.belowK hb (Nat.lt_of_lt_of_le h.hr hj) (fun g hg => Nat.lt_of_lt_of_le (h.ho g hg) hj), h.b.belowK hj hb, (World.cell?_of_block (a := ⟨B, 0, none⟩) (hb.block B hB)).trans h.m0, (World.cell?_of_block (a := ⟨B, 1, none⟩) (hb.block B hB)).trans h.m1, Nat.lt_of_lt_of_le h.lt hb.size, h.hb, h.hr, h.ho⟩
theorem AtS.step (h : AtS w rb ere mb mo cap L s k ev B bb pl W) (hs : s.i < L.length) : AtS w rb ere mb mo cap L ⟨s.i + 1, s.ended⟩ k ev B bb pl (W.setCell ⟨rb, 2, none⟩ (.int .i64 ((s.i : Int) + 1))) := by
  have h1 := h.r.setAt (j := s.i + 1) hs
  have h2 := h.b.store 2 (.int .i64 ((s.i + 1 : Nat) : Int))
  rw [Int.natCast_add, show ((1 : Nat) : Int) = 1 from rfl] at h1 h2
  have hne : B ≠ rb := by have := h.hb; have := h.hr; omega
  exact ⟨h1, h2, (World.cell?_of_block (a := ⟨B, 0, none⟩) (Below.heap_setCell _ _ _ _ (by exact hne))).trans h.m0, (World.cell?_of_block (a := ⟨B, 1, none⟩) (Below.heap_setCell _ _ _ _ (by exact hne))).trans h.m1, by simpa [World.setCell] using h.lt, h.hb, h.hr, h.ho⟩
end
def RAtomC (rb : Nat) (ere : Bool) (mb mo cap : Nat) (L : List Mk) (k : Nat) : Prop := ∀ (w : World) (s : Rst) (ev : Value) (fb : Bool), RfS w rb ere mb mo cap L s k ev → s.i < L.length →
  Calls Tryz.prog 113 #[.pointer (some ⟨rb, 0, none⟩), .bool fb] w (RPost w rb ere mb mo cap L k ev (atomL ere fb L (groupL ere L k) s) (.tuple #[.slice none 0 0, .bool false]) fun a v w' => ∃ u, v = .tuple #[u, .bool (!a.2)] ∧ Nds w' w.heap.size u a.1)
set_option maxRecDepth 100000 in
set_option maxHeartbeats 25600000 in
theorem ratom_call (hg : Hid (RGroupC rb ere mb mo cap L k)) : RAtomC rb ere mb mo cap L k := by
  intro w s ev fb hv hs
  have hlen := hv.m.len
  have HU := Lib.hid hv.m.u
  have cb := hv.m.b s.i hs
  have cp := hv.m.p s.i hs
  have hu := hv.m.u s.i hs
  have c1 := hv.c1
  have c2 := hv.c2
  have rbl := hv.lt
  have mbl := hv.m.lt
  have hs' : (s.i : Int) < (L.length : Int) := by omega
  have HPLN := Lib.hid (show (markAt L s.i).p = true → atomL ere fb L (groupL ere L k) s = .ok ([oneN (markAt L s.i).b], true) ⟨s.i + 1, s.ended⟩ from fun h => by unfold atomL; simp only [h, if_true])
  have HSPL := Lib.hid (fun (bb : Nat) (h : markAt L s.i = ⟨bb, false⟩) => atom_split (ere := ere) (fb := fb) (grp := groupL ere L k) h hs)
  obtain ⟨mk, hmk⟩ : ∃ mk, markAt L s.i = mk := ⟨_, rfl⟩
  rw [hmk] at cb cp hu HPLN HSPL
  have HMK := Lib.hid hmk
  obtain ⟨bb, pl⟩ := mk
  simp only at cb cp hu
  have HV := Lib.hid hv
  clear hv hmk
  obtain ⟨A, hA⟩ : ∃ A, atomL ere fb L (groupL ere L k) s = A := ⟨_, rfl⟩
  rw [hA] at HPLN HSPL ⊢
  clear hA
  go_enter Tryz.func113, Tryz.ntmps113
  go_wp2_with fail
  refine wp_region_segs (X := none) 11 [([0, 1, 2, 3, 4, 5, 6, 7, 8, 9], 10)] [] (by kernel_rfl) (by kernel_rfl) rfl (fun _ _ _ _ _ h => h) ?_
  simp only [wpSegs, pickSegs_nil, pickSegs_cons, pickOps_nil, pickOps_cons, List.getD_cons_zero, List.getD_cons_succ, List.drop_succ_cons, List.drop_zero]
  repeat (go_big_quiet_step (fail))
  refine wpQuiet_nil ?_
  go_wp2_with fail
  refine ⟨keeps_drew (keeps_alloc _ _), wpQuiet_nil ?_⟩
  go_upto_region 2 with fail
  have hba : Below w.heap.size w ((w.alloc (.cells #[.int .u8 (bb : Nat), .bool pl] 33)).drew) := ((Below.refl _ _).alloc (Nat.le_refl _) _).drew
  have S5 := Lib.hid (show AtS w rb ere mb mo cap L s k ev w.heap.size bb pl ((w.alloc (.cells #[.int .u8 (bb : Nat), .bool pl] 33)).drew) from
    ⟨HV.out.below hba, RBut.of_below hba, (cell_of_row (w.alloc (.cells #[.int .u8 (bb : Nat), .bool pl] 33)) w.heap.size 0 _ _ (0, 0) (heap_alloc_new w _)).trans rfl, (cell_of_row (w.alloc (.cells #[.int .u8 (bb : Nat), .bool pl] 33)) w.heap.size 1 _ _ (0, 0) (heap_alloc_new w _)).trans rfl, by show w.heap.size < (w.alloc _).heap.size; simp, Nat.le_refl _, HV.out.lt, HV.out.evlt⟩)
  clear hba HV cb cp c1 c2 rbl mbl
  revert S5
  generalize (w.alloc (.cells #[.int .u8 (bb : Nat), .bool pl] 33)).drew = W5
  generalize hBB : w.heap.size = B
  intro S5
  have HBB := Lib.hid hBB
  clear hBB
  have m0 := S5.out.m0
  have m1 := S5.out.m1
  have ml := S5.out.lt
  cases pl with
  | true =>
    have HE := Lib.hid (HPLN.out rfl)
    clear HPLN HSPL
    have c2 := S5.out.r.c2
    have f2 := S5.out.r.fz 2
    have rbl := S5.out.r.lt
    have S1 := Lib.hid (S5.out.step hs)
    go_upto_region 25 with fail
    clear c2 f2 rbl m0 m1 ml
    revert S1
    generalize World.setCell _ ⟨rb, 2, none⟩ (.int .i64 ((s.i : Int) + 1)) = w7
    intro S1
    have m0 := S1.out.m0
    have ml := S1.out.lt
    go_wp2_with fail
    refine (rset5_call hu).mono ?_; rintro e w8 ⟨⟨v, rfl, hv⟩, hb8⟩
    have HV := Lib.hid (hv.mono S1.out.b.size)
    have HR8 := Lib.hid (S1.out.r.below hb8)
    have HB8 := Lib.hid (S1.out.b.below hb8)
    clear hv hb8
    go_wp2_with fail
    go_ret2
    exact ⟨HB8.out, by rw [HE.out]; exact ⟨_, ev, rfl, HR8.out, newOr.refl _ _, _, rfl, HV.out⟩⟩
  | false =>
    have HS0 := Lib.hid (HSPL.out bb rfl)
    clear HPLN HSPL
    have c0 := S5.out.r.c0
    have rbl := S5.out.r.lt
    go_upto_region 3 with fail
    go_cut [24] (fun x wc => x = .bool (bb == 94 && (ere || fb)) ∧ W5 = wc)
    case first =>
      clear HS0
      by_cases a1 : bb = 94
      · have a1' : ((bb : Int) == 94) = true := by rw [a1]; rfl
        have A1 := Lib.hid a1
        clear a1
        cases ere with
        | true =>
          go_wp2_with fail
          go_meet
          exact ⟨by rw [A1.out]; rfl, rfl⟩
        | false =>
          go_wp2_with fail
          go_meet
          exact ⟨by rw [A1.out]; rfl, rfl⟩
      · have a1' : ((bb : Int) == 94) = false := beq_eq_false_iff_ne.2 (by omega)
        have A1 := Lib.hid (show (bb == 94) = false from beq_eq_false_iff_ne.2 a1)
        clear a1
        go_wp2_with fail
        go_meet
        exact ⟨by rw [A1.out]; rfl, rfl⟩
    case rest =>
      obtain ⟨hx, rfl⟩ := hcut
      cases hc : (bb == 94 && (ere || fb)) with
      | true =>
        have HE := Lib.hid (show A = .ok ([beginN], false) ⟨s.i + 1, s.ended⟩ by rw [HS0.out, if_pos hc])
        rw [hc] at hx
        subst hx
        clear HS0 hc c0 rbl
        have c2 := S5.out.r.c2
        have f2 := S5.out.r.fz 2
        have rbl := S5.out.r.lt
        have S1 := Lib.hid (S5.out.step hs)
        go_upto_region 5 with fail
        clear c2 f2 rbl m0 m1 ml
        revert S1
        generalize World.setCell _ ⟨rb, 2, none⟩ (.int .i64 ((s.i : Int) + 1)) = w7
        intro S1
        have HL := Lib.hid (Nds.lit w7 w.heap.size beginN S1.out.b.size)
        have HR8 := Lib.hid (S1.out.r.alloc (.cells (ndCells beginN) 39))
        have HB8 := Lib.hid (S1.out.b.alloc (.cells (ndCells beginN) 39))
        go_wp2_with fail
        go_ret2
        exact ⟨HB8.out, by rw [HE.out]; exact ⟨_, ev, rfl, HR8.out, newOr.refl _ _, _, rfl, HL.out⟩⟩
      | false =>
        have HS1 := Lib.hid (show A = _ by rw [HS0.out, if_neg (by rw [hc]; decide)])
        rw [hc] at hx
        subst hx
        clear HS0 hc
        have c1 := S5.out.r.c1
        have c2 := S5.out.r.c2
        obtain ⟨ec, hec⟩ : ∃ ec, (ere || decide (s.i + 1 = L.length) || seesAt L (s.i + 1) [92, 41]) = ec := ⟨_, rfl⟩
        rw [hec] at HS1
        have HEC := Lib.hid hec
        clear hec
        go_upto_region 6 with fail
        go_cut [46] (fun x wc => x = .bool (bb == 36 && ec) ∧ AtS w rb ere mb mo cap L s k ev B bb false wc)
        case first =>
          clear HS1
          by_cases a1 : bb = 36
          · have a1' : ((bb : Int) == 36) = true := by rw [a1]; rfl
            have A1 := Lib.hid (show (bb == 36) = true by rw [a1]; rfl)
            clear a1
            cases ere with
            | true =>
              have HQ := Lib.hid (show ec = true from HEC.out.symm)
              refine wp_region_segs (X := none) 31 [([0, 1, 2, 3, 4, 5, 6, 7, 8, 9, 10, 11, 12, 13, 14, 15, 16, 17, 18, 19, 20, 21, 22], 23), ([24, 25], 26)] [27, 28, 29, 30] (by kernel_rfl) (by kernel_rfl) rfl (fun _ _ _ _ _ h => h) ?_
              simp only [wpSegs, pickSegs_nil, pickSegs_cons, pickOps_nil, pickOps_cons, List.getD_cons_zero, List.getD_cons_succ, List.drop_succ_cons, List.drop_nil]
              repeat (go_big_quiet_step (fail))
              refine wpQuiet_nil ?_
              go_wp2_with fail
              refine ⟨Keeps.refl _, ?_⟩
              repeat (go_big_quiet_step (fail))
              refine wpQuiet_nil ?_
              go_wp2_with fail
              refine ⟨Keeps.refl _, ?_⟩
              repeat (go_big_quiet_step (fail))
              refine wpQuiet_nil ?_
              go_wp2_with fail
              go_meet
              exact ⟨by rw [A1.out, HQ.out]; rfl, (S5.out.below (Below.refl _ _).drew)⟩
            | false =>
              by_cases h3 : s.i + 1 = L.length
              · have h3' : ((s.i : Int) + 1 == (L.length : Int)) = true := by rw [beq_iff_eq]; omega
                have HQ := Lib.hid (show ec = true by rw [← HEC.out, decide_eq_true h3]; rfl)
                clear h3
                refine wp_region_segs (X := none) 31 [([0, 1, 2, 3, 4, 5, 6, 7, 8, 9, 10, 11, 12, 13, 14, 15, 16, 17, 18, 19, 20, 21, 22], 23), ([24, 25], 26)] [27, 28, 29, 30] (by kernel_rfl) (by kernel_rfl) rfl (fun _ _ _ _ _ h => h) ?_
                simp only [wpSegs, pickSegs_nil, pickSegs_cons, pickOps_nil, pickOps_cons, List.getD_cons_zero, List.getD_cons_succ, List.drop_succ_cons, List.drop_nil]
                repeat (go_big_quiet_step (fail))
                refine wpQuiet_nil ?_
                go_wp2_with fail
                refine ⟨Keeps.refl _, ?_⟩
                repeat (go_big_quiet_step (fail))
                refine wpQuiet_nil ?_
                go_wp2_with fail
                refine ⟨Keeps.refl _, ?_⟩
                repeat (go_big_quiet_step (fail))
                refine wpQuiet_nil ?_
                go_wp2_with fail
                go_meet
                exact ⟨by rw [A1.out, HQ.out]; rfl, (S5.out.below (Below.refl _ _).drew)⟩
              · have h3' : ((s.i : Int) + 1 == (L.length : Int)) = false := beq_eq_false_iff_ne.2 (by omega)
                have HQ := Lib.hid (show ec = (signAt L (s.i + 1) 92 && signAt L (s.i + 2) 41) by rw [← HEC.out, decide_eq_false h3, sees_sign2]; rfl)
                clear h3
                obtain ⟨b92, h92⟩ : ∃ b, signAt L (s.i + 1) 92 = b := ⟨_, rfl⟩
                have H92 := Lib.hid h92
                clear h92
                refine wp_region_segs (X := none) 31 [([0, 1, 2, 3, 4, 5, 6, 7, 8, 9, 10, 11, 12, 13, 14, 15, 16, 17, 18, 19, 20, 21, 22], 23), ([24, 25], 26)] [27, 28, 29, 30] (by kernel_rfl) (by kernel_rfl) rfl (fun _ _ _ _ _ h => h) ?_
                simp only [wpSegs, pickSegs_nil, pickSegs_cons, pickOps_nil, pickOps_cons, List.getD_cons_zero, List.getD_cons_succ, List.drop_succ_cons, List.drop_nil]
                repeat (go_big_quiet_step (fail))
                refine wpQuiet_nil ?_
                go_wp2_with fail
                refine (ris_call (S5.out.r.drew).v 1 rfl (by omega) 92 rfl).mono ?_; rintro e w1 ⟨rfl, hb1⟩
                rw [H92.out]
                have hkp := Keeps.of_below (X := none) hb1
                have S6 := Lib.hid ((S5.out.below (Below.refl _ _).drew).below hb1)
                clear hb1 m0 m1 ml c0 rbl c1 c2
                have m0 := S6.out.m0
                have ml := S6.out.lt
                go_wp2_with fail
                refine ⟨hkp, ?_⟩
                clear hkp
                cases b92 with
                | false =>
                  repeat (go_big_quiet_step (fail))
                  refine wpQuiet_nil ?_
                  go_wp2_with fail
                  refine ⟨Keeps.refl _, ?_⟩
                  repeat (go_big_quiet_step (fail))
                  refine wpQuiet_nil ?_
                  go_wp2_with fail
                  go_meet
                  exact ⟨by rw [A1.out, HQ.out, H92.out]; rfl, S6.out⟩
                | true =>
                  obtain ⟨b41, h41⟩ : ∃ b, signAt L (s.i + 2) 41 = b := ⟨_, rfl⟩
                  have H41 := Lib.hid h41
                  clear h41
                  repeat (go_big_quiet_step (fail))
                  refine wpQuiet_nil ?_
                  go_wp2_with fail
                  refine (ris_call S6.out.r.v 2 rfl (by omega) 41 rfl).mono ?_; rintro e w2 ⟨rfl, hb2⟩
                  rw [H41.out]
                  have hkp := Keeps.of_below (X := none) hb2
                  have S7 := Lib.hid (S6.out.below hb2)
                  clear hb2
                  go_wp2_with fail
                  refine ⟨hkp, ?_⟩
                  clear hkp
                  repeat (go_big_quiet_step (fail))
                  refine wpQuiet_nil ?_
                  go_wp2_with fail
                  go_meet
                  exact ⟨by rw [A1.out, HQ.out, H92.out, H41.out]; cases b41 <;> rfl, S7.out⟩
          · have a1' : ((bb : Int) == 36) = false := beq_eq_false_iff_ne.2 (by omega)
            have A1 := Lib.hid (show (bb == 36) = false from beq_eq_false_iff_ne.2 a1)
            clear a1
            refine wp_region_segs (X := none) 31 [([0, 1, 2, 3, 4, 5, 6, 7, 8, 9, 10, 11, 12, 13, 14, 15, 16, 17, 18, 19, 20, 21, 22], 23), ([24, 25], 26)] [27, 28, 29, 30] (by kernel_rfl) (by kernel_rfl) rfl (fun _ _ _ _ _ h => h) ?_
            simp only [wpSegs, pickSegs_nil, pickSegs_cons, pickOps_nil, pickOps_cons, List.getD_cons_zero, List.getD_cons_succ, List.drop_succ_cons, List.drop_nil]
            repeat (go_big_quiet_step (fail))
            refine wpQuiet_nil ?_
            go_wp2_with fail
            refine ⟨Keeps.refl _, ?_⟩
            repeat (go_big_quiet_step (fail))
            refine wpQuiet_nil ?_
            go_wp2_with fail
            refine ⟨Keeps.refl _, ?_⟩
            repeat (go_big_quiet_step (fail))
            refine wpQuiet_nil ?_
            go_wp2_with fail
            go_meet
            exact ⟨by rw [A1.out]; rfl, (S5.out.below (Below.refl _ _).drew)⟩
        case rest =>
          obtain ⟨hx, hs6⟩ := hcut
          have S5' := Lib.hid hs6
          clear hs6 S5 m0 m1 ml c0 rbl c1 c2 HEC
          obtain ⟨S5⟩ : Nonempty (Hid (AtS w rb ere mb mo cap L s k ev B bb false wc)) := ⟨S5'⟩
          clear S5'
          have m0 := S5.out.m0
          have m1 := S5.out.m1
          have ml := S5.out.lt
          cases hc : (bb == 36 && ec) with
          | true =>
            have HE := Lib.hid (show A = .ok ([endN], false) ⟨s.i + 1, s.ended⟩ by rw [HS1.out, if_pos hc])
            rw [hc] at hx
            subst hx
            clear HS1 hc
            have c2 := S5.out.r.c2
            have f2 := S5.out.r.fz 2
            have rbl := S5.out.r.lt
            have S1 := Lib.hid (S5.out.step hs)
            go_upto_region 8 with fail
            clear c2 f2 rbl m0 m1 ml
            revert S1
            generalize World.setCell _ ⟨rb, 2, none⟩ (.int .i64 ((s.i : Int) + 1)) = w7
            intro S1
            have HL := Lib.hid (Nds.lit w7 w.heap.size endN S1.out.b.size)
            have HR8 := Lib.hid (S1.out.r.alloc (.cells (ndCells endN) 39))
            have HB8 := Lib.hid (S1.out.b.alloc (.cells (ndCells endN) 39))
            go_wp2_with fail
            go_ret2
            exact ⟨HB8.out, by rw [HE.out]; exact ⟨_, ev, rfl, HR8.out, newOr.refl _ _, _, rfl, HL.out⟩⟩
          | false =>
            have HS2 := Lib.hid (show A = _ by rw [HS1.out, if_neg (by rw [hc]; decide)])
            rw [hc] at hx
            subst hx
            clear HS1 hc
            by_cases a2 : bb = 46
            · have a2' : ((bb : Int) == 46) = true := by rw [a2]; rfl
              have HE0 := Lib.hid (show A = .ok ([setN (Cls.range 0 255)], true) ⟨s.i + 1, s.ended⟩ by rw [HS2.out, if_pos a2])
              have HE := HE0.out
              rw [range_all] at HE
              have HE := Lib.hid HE
              clear a2 HS2 HE0
              have c2 := S5.out.r.c2
              have f2 := S5.out.r.fz 2
              have rbl := S5.out.r.lt
              have S1 := Lib.hid (S5.out.step hs)
              go_upto_region 12 with fail
              clear c2 f2 rbl m0 m1 ml
              revert S1
              generalize World.setCell _ ⟨rb, 2, none⟩ (.int .i64 ((s.i : Int) + 1)) = w7
              intro S1
              have HL := Lib.hid (Nds.lit w7 w.heap.size (setN ⟨18446744073709551615#64, 18446744073709551615#64, 18446744073709551615#64, 18446744073709551615#64⟩) S1.out.b.size)
              have HR8 := Lib.hid (S1.out.r.alloc (.cells (ndCells (setN ⟨18446744073709551615#64, 18446744073709551615#64, 18446744073709551615#64, 18446744073709551615#64⟩)) 39))
              have HB8 := Lib.hid (S1.out.b.alloc (.cells (ndCells (setN ⟨18446744073709551615#64, 18446744073709551615#64, 18446744073709551615#64, 18446744073709551615#64⟩)) 39))
              go_wp2_with fail
              go_ret2
              exact ⟨HB8.out, by rw [HE.out]; exact ⟨_, ev, rfl, HR8.out, newOr.refl _ _, _, rfl, HL.out⟩⟩
            have a2' : ((bb : Int) == 46) = false := beq_eq_false_iff_ne.2 (by omega)
            have HS3 := Lib.hid (show A = _ by rw [HS2.out, if_neg a2])
            clear HS2 a2
            by_cases a3 : bb = 91
            · have a3' : ((bb : Int) == 91) = true := by rw [a3]; rfl
              have HS4 := Lib.hid (show A = match bracketL L s.i with | .error (e, i) => .no e i | .ok (c, i) => .ok ([setN c], true) ⟨i, s.ended⟩ by rw [HS3.out, if_pos a3]; rfl)
              have hsg : signAt L s.i 91 = true := by simp [signAt, hs, HMK.out, a3]
              have HBK := Lib.hid (fun (W : World) (hM : MkAt W mb mo L) => rbracket_call (cap := cap) hM s.i hsg)
              have c1 := S5.out.r.c1
              have c2 := S5.out.r.c2
              have rbl := S5.out.r.lt
              clear a3 HS3 hsg
              cases hbr : bracketL L s.i with
              | error q =>
                obtain ⟨er, p⟩ := q
                rw [hbr] at HS4
                have HE := Lib.hid (show A = .no er p from HS4.out)
                have HBC := Lib.hid (show ∀ (W : World), MkAt W mb mo L → Calls Tryz.prog 134 #[.slice (some ⟨mb, mo, none⟩) L.length cap, .int .i64 (s.i : Nat)] W fun e w' => (∃ c : Cls, e = .returned (.tuple #[clsV c, .int .i64 (p : Nat), .int .i64 (er : Nat)]) ∧ ((er : Int) != 0) = true ∧ Hid (er ≠ 0)) ∧ Below W.heap.size W w' from fun W hM =>
                  (HBK.out W hM).mono fun e w' h => by
                    obtain ⟨⟨v, h1, h2⟩, h3⟩ := h
                    rw [hbr] at h2
                    obtain ⟨c, rfl, h4⟩ := h2
                    exact ⟨⟨c, h1, by rw [bne_iff_ne]; omega, h4⟩, h3⟩)
                clear HBK hbr HS4
                go_wp2_with fail
                refine wp_region_comb (X := none) 14 13 [([0, 1, 2, 3, 4, 5, 6, 7], 8)] [9, 10, 11, 12] (by kernel_rfl) (by kernel_rfl) rfl (fun _ _ _ _ _ h => h) ?_
                simp only [wpComb, wpSegs, pickSegs_nil, pickSegs_cons, pickOps_nil, pickOps_cons, List.getD_cons_zero, List.getD_cons_succ, List.drop_succ_cons, List.drop_zero]
                repeat (go_big_quiet_step (fail))
                refine wpQuiet_nil ?_
                refine ⟨?_, ?_⟩
                · go_wp2_with fail
                  refine (HBC.out _ (S5.out.r.m.below (Below.refl _ _).drew)).mono ?_; rintro e w1 ⟨⟨c, rfl, hne, HNE⟩, hb1⟩
                  have hkp := Keeps.of_below (X := none) hb1
                  have hbx : Below wc.heap.size wc w1 := (Below.refl _ _).drew.trans hb1
                  have S6 := Lib.hid (S5.out.below hbx)
                  clear hb1 hbx m0 m1 ml c1 c2 rbl
                  go_wp2_with fail
                  refine ⟨hkp, ?_⟩
                  clear hkp
                  repeat (go_big_quiet_step (fail))
                  refine wpQuiet_nil ?_
                  go_wp2_with fail
                  refine ⟨keeps_alloc _ _, wpQuiet_nil ?_⟩
                  go_upto_region 15 with fail
                  have hal : Below w1.heap.size w1 (w1.alloc (.cells (clsCells c) 37)) := (by repeat (first | exact Below.refl _ _ | assumption | refine Below.drew ?_ | refine Below.alloc ?_ (by first | (simp; done) | (simp; omega) | omega) _ | refine Below.setCell ?_ (by first | (simp; done) | (simp; omega) | omega) _))
                  have hcl : clsAt (w1.alloc (.cells (clsCells c) 37)) w1.heap.size c := heap_alloc_new w1 _
                  have S7 := Lib.hid (S6.out.below hal)
                  have hBr : rb < w1.heap.size := S6.out.r.lt
                  clear hal S6
                  change Code.wp _ _ _ _ (w1.alloc (.cells (clsCells c) 37))
                  revert hcl S7 hBr
                  generalize w1.alloc (.cells (clsCells c) 37) = w2
                  generalize w1.heap.size = Bc
                  intro hcl S7 hBr
                  have HCL := Lib.hid hcl
                  clear hcl
                  go_wp2_with fail
                  refine (rfail_call S7.out.r er p rfl rfl).mono ?_; rintro e wf ⟨rfl, hnt⟩
                  have HNT := Lib.hid hnt
                  clear hnt
                  go_wp2_with fail
                  go_ret2
                  exact RPost.no HE.out S7.out.b HNT.out HNE.out
                · go_wp2_with fail
                  refine ⟨keeps_drew (keeps_alloc _ _), wpQuiet_nil ?_⟩
                  go_wp2_with fail
                  have hba : Below wc.heap.size wc (wc.alloc (.cells #[.int .u64 0, .int .u64 0, .int .u64 0, .int .u64 0] 37)).drew := ((Below.refl _ _).alloc (Nat.le_refl _) _).drew
                  refine (HBC.out _ (S5.out.r.m.below hba)).mono ?_; rintro e w1 ⟨⟨c, rfl, hne, HNE⟩, hb1⟩
                  have hkp := Keeps.of_below (X := none) hb1
                  have hcz : clsAt w1 wc.heap.size Cls.zero := clsAt.below (w := (wc.alloc (.cells #[.int .u64 0, .int .u64 0, .int .u64 0, .int .u64 0] 37)).drew) (heap_alloc_new wc _) hb1
                  have S6 := Lib.hid (S5.out.below (hba.trans (hb1.mono hba.size)))
                  have hszb : w.heap.size ≤ wc.heap.size := S5.out.b.size
                  have HCZ := Lib.hid hcz
                  obtain ⟨q0, q1, q2, q3⟩ := hcz.cells
                  have g0 := frozen_cls hcz
                  have ql := hcz.lt
                  clear hb1 hba hcz m0 m1 ml c1 c2 rbl
                  go_wp2_with fail
                  refine ⟨hkp, ?_⟩
                  clear hkp
                  repeat (go_big_quiet_step (fail))
                  refine wpQuiet_nil ?_
                  go_upto_region 15 with fail
                  have hcl : clsAt (store4 w1 wc.heap.size c) wc.heap.size c := store4_cls HCZ.out c
                  have S7 := Lib.hid (S6.out.store (store4_below (Nat.le_refl wc.heap.size) c) hszb S5.out.lt)
                  have hBr : rb < wc.heap.size := S5.out.r.lt
                  clear S6 HCZ q0 q1 q2 q3 g0 ql
                  change Code.wp _ _ _ _ (store4 w1 wc.heap.size c)
                  revert hcl S7 hBr
                  generalize store4 w1 wc.heap.size c = w2
                  generalize wc.heap.size = Bc
                  intro hcl S7 hBr
                  have HCL := Lib.hid hcl
                  clear hcl
                  go_wp2_with fail
                  refine (rfail_call S7.out.r er p rfl rfl).mono ?_; rintro e wf ⟨rfl, hnt⟩
                  have HNT := Lib.hid hnt
                  clear hnt
                  go_wp2_with fail
                  go_ret2
                  exact RPost.no HE.out S7.out.b HNT.out HNE.out
              | ok q =>
                obtain ⟨c, p⟩ := q
                rw [hbr] at HS4
                have HE := Lib.hid (show A = .ok ([setN c], true) ⟨p, s.ended⟩ from HS4.out)
                have hpl := (bracketL_next HU.out hbr).2
                simp only at hpl
                have HBC := Lib.hid (show ∀ (W : World), MkAt W mb mo L → Calls Tryz.prog 134 #[.slice (some ⟨mb, mo, none⟩) L.length cap, .int .i64 (s.i : Nat)] W fun e w' => e = .returned (.tuple #[clsV c, .int .i64 (p : Nat), .int .i64 0]) ∧ Below W.heap.size W w' from fun W hM =>
                  (HBK.out W hM).mono fun e w' h => by
                    obtain ⟨⟨v, h1, h2⟩, h3⟩ := h
                    rw [hbr] at h2
                    have h4 : v = .tuple #[clsV c, .int .i64 (p : Nat), .int .i64 0] := h2
                    exact ⟨by rw [h1, h4], h3⟩)
                clear HBK hbr HS4
                go_wp2_with fail
                refine wp_region_comb (X := none) 14 13 [([0, 1, 2, 3, 4, 5, 6, 7], 8)] [9, 10, 11, 12] (by kernel_rfl) (by kernel_rfl) rfl (fun _ _ _ _ _ h => h) ?_
                simp only [wpComb, wpSegs, pickSegs_nil, pickSegs_cons, pickOps_nil, pickOps_cons, List.getD_cons_zero, List.getD_cons_succ, List.drop_succ_cons, List.drop_zero]
                repeat (go_big_quiet_step (fail))
                refine wpQuiet_nil ?_
                refine ⟨?_, ?_⟩
                · go_wp2_with fail
                  refine (HBC.out _ (S5.out.r.m.below (Below.refl _ _).drew)).mono ?_; rintro e w1 ⟨rfl, hb1⟩
                  have hkp := Keeps.of_below (X := none) hb1
                  have hbx : Below wc.heap.size wc w1 := (Below.refl _ _).drew.trans hb1
                  have S6 := Lib.hid (S5.out.below hbx)
                  clear hb1 hbx m0 m1 ml c1 c2 rbl
                  go_wp2_with fail
                  refine ⟨hkp, ?_⟩
                  clear hkp
                  repeat (go_big_quiet_step (fail))
                  refine wpQuiet_nil ?_
                  go_wp2_with fail
                  refine ⟨keeps_alloc _ _, wpQuiet_nil ?_⟩
                  go_upto_region 15 with fail
                  have hal : Below w1.heap.size w1 (w1.alloc (.cells (clsCells c) 37)) := (by repeat (first | exact Below.refl _ _ | assumption | refine Below.drew ?_ | refine Below.alloc ?_ (by first | (simp; done) | (simp; omega) | omega) _ | refine Below.setCell ?_ (by first | (simp; done) | (simp; omega) | omega) _))
                  have hcl : clsAt (w1.alloc (.cells (clsCells c) 37)) w1.heap.size c := heap_alloc_new w1 _
                  have S7 := Lib.hid (S6.out.below hal)
                  have hBr : rb < w1.heap.size := S6.out.r.lt
                  clear hal S6
                  change Code.wp _ _ _ _ (w1.alloc (.cells (clsCells c) 37))
                  revert hcl S7 hBr
                  generalize w1.alloc (.cells (clsCells c) 37) = w2
                  generalize w1.heap.size = Bc
                  intro hcl S7 hBr
                  obtain ⟨d0, d1, d2, d3⟩ := c
                  obtain ⟨y0, y1, y2, y3⟩ := hcl.cells
                  have yl := hcl.lt
                  have rbl := S7.out.r.lt
                  have f2 := S7.out.r.fz 2
                  have c2 := S7.out.r.c2
                  have hr8 := S7.out.r.setAt (j := p) hpl
                  have hb8 := S7.out.b.store 2 (.int .i64 (p : Nat))
                  have hc8 : clsAt (w2.setCell ⟨rb, 2, none⟩ (.int .i64 (p : Nat))) Bc ⟨d0, d1, d2, d3⟩ := (Below.heap_setCell _ _ _ _ (by show Bc ≠ rb; omega)).trans hcl
                  clear hcl
                  go_upto_region 19 with fail
                  clear y0 y1 y2 y3 yl rbl f2 c2
                  revert hr8 hb8 hc8
                  generalize w2.setCell ⟨rb, 2, none⟩ (.int .i64 (p : Nat)) = w3
                  intro hr8 hb8 hc8
                  obtain ⟨y0, y1, y2, y3⟩ := hc8.cells
                  have yl := hc8.lt
                  have HL := Lib.hid (Nds.lit w3 w.heap.size (setN ⟨d0, d1, d2, d3⟩) hb8.size)
                  have HR8 := Lib.hid (hr8.alloc (.cells (ndCells (setN ⟨d0, d1, d2, d3⟩)) 39))
                  have HB8 := Lib.hid (hb8.alloc (.cells (ndCells (setN ⟨d0, d1, d2, d3⟩)) 39))
                  clear hr8 hb8 hc8
                  go_wp2_with fail
                  go_ret2
                  exact ⟨HB8.out, by rw [HE.out]; exact ⟨_, ev, rfl, HR8.out, newOr.refl _ _, _, rfl, HL.out⟩⟩
                · go_wp2_with fail
                  refine ⟨keeps_drew (keeps_alloc _ _), wpQuiet_nil ?_⟩
                  go_wp2_with fail
                  have hba : Below wc.heap.size wc (wc.alloc (.cells #[.int .u64 0, .int .u64 0, .int .u64 0, .int .u64 0] 37)).drew := ((Below.refl _ _).alloc (Nat.le_refl _) _).drew
                  refine (HBC.out _ (S5.out.r.m.below hba)).mono ?_; rintro e w1 ⟨rfl, hb1⟩
                  have hkp := Keeps.of_below (X := none) hb1
                  have hcz : clsAt w1 wc.heap.size Cls.zero := clsAt.below (w := (wc.alloc (.cells #[.int .u64 0, .int .u64 0, .int .u64 0, .int .u64 0] 37)).drew) (heap_alloc_new wc _) hb1
                  have S6 := Lib.hid (S5.out.below (hba.trans (hb1.mono hba.size)))
                  have hszb : w.heap.size ≤ wc.heap.size := S5.out.b.size
                  have HCZ := Lib.hid hcz
                  obtain ⟨q0, q1, q2, q3⟩ := hcz.cells
                  have g0 := frozen_cls hcz
                  have ql := hcz.lt
                  clear hb1 hba hcz m0 m1 ml c1 c2 rbl
                  go_wp2_with fail
                  refine ⟨hkp, ?_⟩
                  clear hkp
                  repeat (go_big_quiet_step (fail))
                  refine wpQuiet_nil ?_
                  go_upto_region 15 with fail
                  have hcl : clsAt (store4 w1 wc.heap.size c) wc.heap.size c := store4_cls HCZ.out c
                  have S7 := Lib.hid (S6.out.store (store4_below (Nat.le_refl wc.heap.size) c) hszb S5.out.lt)
                  have hBr : rb < wc.heap.size := S5.out.r.lt
                  clear S6 HCZ q0 q1 q2 q3 g0 ql
                  change Code.wp _ _ _ _ (store4 w1 wc.heap.size c)
                  revert hcl S7 hBr
                  generalize store4 w1 wc.heap.size c = w2
                  generalize wc.heap.size = Bc
                  intro hcl S7 hBr
                  obtain ⟨d0, d1, d2, d3⟩ := c
                  obtain ⟨y0, y1, y2, y3⟩ := hcl.cells
                  have yl := hcl.lt
                  have rbl := S7.out.r.lt
                  have f2 := S7.out.r.fz 2
                  have c2 := S7.out.r.c2
                  have hr8 := S7.out.r.setAt (j := p) hpl
                  have hb8 := S7.out.b.store 2 (.int .i64 (p : Nat))
                  have hc8 : clsAt (w2.setCell ⟨rb, 2, none⟩ (.int .i64 (p : Nat))) Bc ⟨d0, d1, d2, d3⟩ := (Below.heap_setCell _ _ _ _ (by show Bc ≠ rb; omega)).trans hcl
                  clear hcl
                  go_upto_region 19 with fail
                  clear y0 y1 y2 y3 yl rbl f2 c2
                  revert hr8 hb8 hc8
                  generalize w2.setCell ⟨rb, 2, none⟩ (.int .i64 (p : Nat)) = w3
                  intro hr8 hb8 hc8
                  obtain ⟨y0, y1, y2, y3⟩ := hc8.cells
                  have yl := hc8.lt
                  have HL := Lib.hid (Nds.lit w3 w.heap.size (setN ⟨d0, d1, d2, d3⟩) hb8.size)
                  have HR8 := Lib.hid (hr8.alloc (.cells (ndCells (setN ⟨d0, d1, d2, d3⟩)) 39))
                  have HB8 := Lib.hid (hb8.alloc (.cells (ndCells (setN ⟨d0, d1, d2, d3⟩)) 39))
                  clear hr8 hb8 hc8
                  go_wp2_with fail
                  go_ret2
                  exact ⟨HB8.out, by rw [HE.out]; exact ⟨_, ev, rfl, HR8.out, newOr.refl _ _, _, rfl, HL.out⟩⟩
            have a3' : ((bb : Int) == 91) = false := beq_eq_false_iff_ne.2 (by omega)
            have HS4 := Lib.hid (show A = _ by rw [HS3.out, if_neg a3])
            clear HS3 a3
            obtain ⟨sg, hsg⟩ : ∃ b, seesAt L s.i (signB ere 40) = b := ⟨_, rfl⟩
            rw [hsg] at HS4
            have HSG := Lib.hid hsg
            have hsl : sg = true → s.i + wideB ere ≤ L.length := fun h => by rw [h] at hsg; exact seesSign_le hsg
            clear hsg
            go_wp2_with fail
            refine (rsign5_call S5.out.r.v 40 rfl).mono ?_; rintro e w1 ⟨rfl, hb1⟩
            rw [HSG.out]
            have S6 := Lib.hid (S5.out.below hb1)
            clear hb1 m0 m1 ml S5
            have m0 := S6.out.m0
            have m1 := S6.out.m1
            have ml := S6.out.lt
            cases sg with
            | true =>
              have HE0 := Lib.hid (show A = withTrue (groupL ere L k s) by rw [HS4.out, if_pos rfl])
              have hsl2 := hsl rfl
              clear HS4 hsl
              go_wp2_with fail
              refine (hg.out _ _ _ S6.out.r hsl2).mono ?_
              rintro e w2 ⟨hb2, hp2⟩
              have HB2 := Lib.hid (S6.out.b.trans (newOr.refl _ _) hb2)
              cases hgr : groupL ere L k s with
              | no er p =>
                rw [hgr] at hp2 HE0
                obtain ⟨rfl, her, q1, q2, q3⟩ := hp2
                have HQF := Lib.hid (show er ≠ 0 ∧ rb < w2.heap.size ∧ w2.cell? ⟨rb, 6, none⟩ = some (.int .i64 er) ∧ w2.cell? ⟨rb, 7, none⟩ = some (.int .i64 p) from ⟨her, q1, q2, q3⟩)
                clear hb2 hgr her q1 q2 q3
                go_wp2_with fail
                go_ret2
                exact ⟨HB2.out, by rw [HE0.out]; exact ⟨rfl, HQF.out⟩⟩
              | ok re t =>
                rw [hgr] at hp2 HE0
                obtain ⟨v, ev2, rfl, hr2, hn2, hnd2⟩ := hp2
                have HR2 := Lib.hid hr2
                have HN2 := Lib.hid hn2
                have HND := Lib.hid (hnd2.mono S6.out.b.size)
                have HNO := Lib.hid (show newOr w ev.ownBlock ev2.ownBlock from (newOr.refl _ _).trans S6.out.b.size hn2)
                clear hb2 hgr hr2 hn2 hnd2
                go_wp2_with fail
                go_ret2
                exact ⟨HB2.out, by rw [HE0.out]; exact ⟨_, ev2, rfl, HR2.out, HNO.out, _, rfl, HND.out⟩⟩
            | false =>
              have HS5 := Lib.hid (show A = _ by rw [HS4.out, if_neg (by decide)])
              clear HS4 hsl
              by_cases a4 : bb = 92
              · have a4' : ((bb : Int) == 92) = true := by rw [a4]; rfl
                have HE0 := Lib.hid (show A = withTrue (escL ere L s) by rw [HS5.out, if_pos a4])
                clear a4 HS5
                go_wp2_with fail
                refine (rescape_call S6.out.r hs).mono ?_
                rintro e w2 ⟨hb2, hp2⟩
                have HB2 := Lib.hid (S6.out.b.trans (newOr.refl _ _) hb2)
                cases hgr : escL ere L s with
                | no er p =>
                  rw [hgr] at hp2 HE0
                  obtain ⟨rfl, her, q1, q2, q3⟩ := hp2
                  have HQF := Lib.hid (show er ≠ 0 ∧ rb < w2.heap.size ∧ w2.cell? ⟨rb, 6, none⟩ = some (.int .i64 er) ∧ w2.cell? ⟨rb, 7, none⟩ = some (.int .i64 p) from ⟨her, q1, q2, q3⟩)
                  clear hb2 hgr her q1 q2 q3
                  go_wp2_with fail
                  go_ret2
                  exact ⟨HB2.out, by rw [HE0.out]; exact ⟨rfl, HQF.out⟩⟩
                | ok re t =>
                  rw [hgr] at hp2 HE0
                  obtain ⟨v, ev2, rfl, hr2, hn2, hnd2⟩ := hp2
                  have HR2 := Lib.hid hr2
                  have HND := Lib.hid (hnd2.mono S6.out.b.size)
                  have HNO := Lib.hid (show newOr w ev.ownBlock ev2.ownBlock from (newOr.refl _ _).trans S6.out.b.size hn2)
                  clear hb2 hgr hr2 hn2 hnd2
                  go_wp2_with fail
                  go_ret2
                  exact ⟨HB2.out, by rw [HE0.out]; exact ⟨_, ev2, rfl, HR2.out, HNO.out, _, rfl, HND.out⟩⟩
              · have a4' : ((bb : Int) == 92) = false := beq_eq_false_iff_ne.2 (by omega)
                have HE := Lib.hid (show A = .ok ([oneN bb], true) ⟨s.i + 1, s.ended⟩ by rw [HS5.out, if_neg a4])
                clear a4 HS5
                have c2 := S6.out.r.c2
                have f2 := S6.out.r.fz 2
                have rbl := S6.out.r.lt
                have S1 := Lib.hid (S6.out.step hs)
                go_upto_region 25 with fail
                clear c2 f2 rbl m0 m1 ml
                revert S1
                generalize World.setCell _ ⟨rb, 2, none⟩ (.int .i64 ((s.i : Int) + 1)) = w7
                intro S1
                have m0 := S1.out.m0
                have ml := S1.out.lt
                go_wp2_with fail
                refine (rset5_call hu).mono ?_; rintro e w8 ⟨⟨v, rfl, hv⟩, hb8⟩
                have HV := Lib.hid (hv.mono S1.out.b.size)
                have HR8 := Lib.hid (S1.out.r.below hb8)
                have HB8 := Lib.hid (S1.out.b.below hb8)
                clear hv hb8
                go_wp2_with fail
                go_ret2
                exact ⟨HB8.out, by rw [HE.out]; exact ⟨_, ev, rfl, HR8.out, newOr.refl _ _, _, rfl, HV.out⟩⟩
end
end Go.Proofs.YtbdjcmhfcdamiaaGreatDoor

/- The document's reader: row, given its atom. -/
namespace Go.Proofs.YtbdjcmhfcdamiaaGreatDoor
open Go.RowKit

theorem elLL : ElT Tryz.prog 49 22 1 24 (.slice none 0 0) := ⟨Tryz.underlying49, by kernel_rfl, rfl, by decide⟩
section
variable {rb : Nat} {ere : Bool} {mb mo cap : Nat} {L : List Mk} {k : Nat}
theorem flat_snoc (ls : List (List Nd)) (l : List Nd) : (ls ++ [l]).flatten.length = ls.flatten.length + l.length := by simp
theorem escL_takes {s : Rst} {re : List Nd} {t : Rst} (h : escL ere L s = .ok re t) : (re.getD 0 Nd.zero).op ≠ 2 := by
  unfold escL at h
  repeat' split at h
  all_goals first
    | (cases h; done)
    | (simp only [Out.ok.injEq] at h; rw [← h.1]; simp [oneN, refN])
theorem groupL_takes {s : Rst} {re : List Nd} {t : Rst} : ∀ {k : Nat}, groupL ere L k s = .ok re t → (re.getD 0 Nd.zero).op ≠ 2
  | 0, h => by cases h
  | k + 1, h => by
    unfold groupL at h
    split at h
    · cases h
    · split at h
      · cases h
      · split at h
        · cases h
        · simp only [Out.ok.injEq] at h; rw [← h.1]; simp [groupN]
/-- An anchor is no atom that may be repeated, and begins nothing else. -/
theorem atom_kind {fb : Bool} {s : Rst} {re : List Nd} {tk : Bool} {t : Rst} (h : atomL ere fb L (groupL ere L k) s = .ok (re, tk) t) (hs : s.i < L.length) : (tk = true ∧ (re.getD 0 Nd.zero).op ≠ 2) ∨ (tk = false ∧ (re = [beginN] ∨ re = [endN])) := by
  obtain ⟨m, hm⟩ : ∃ m, markAt L s.i = m := ⟨_, rfl⟩
  obtain ⟨bb, pl⟩ := m
  cases pl with
  | true =>
    unfold atomL at h
    simp only [hm, if_true, Out.ok.injEq, Prod.mk.injEq] at h
    exact .inl ⟨h.1.2.symm, by rw [← h.1.1]; simp [oneN]⟩
  | false =>
    rw [atom_split hm hs] at h
    split at h
    · simp only [Out.ok.injEq, Prod.mk.injEq] at h; exact .inr ⟨h.1.2.symm, .inl h.1.1.symm⟩
    split at h
    · simp only [Out.ok.injEq, Prod.mk.injEq] at h; exact .inr ⟨h.1.2.symm, .inr h.1.1.symm⟩
    split at h
    · simp only [Out.ok.injEq, Prod.mk.injEq] at h; exact .inl ⟨h.1.2.symm, by rw [← h.1.1]; simp [setN]⟩
    split at h
    · unfold brackL at h
      split at h
      · cases h
      · simp only [Out.ok.injEq, Prod.mk.injEq] at h; exact .inl ⟨h.1.2.symm, by rw [← h.1.1]; simp [setN]⟩
    split at h
    · cases hg : groupL ere L k s with
      | no e i => rw [hg] at h; cases h
      | ok a u =>
        rw [hg] at h
        simp only [withTrue, Out.ok.injEq, Prod.mk.injEq] at h
        exact .inl ⟨h.1.2.symm, by rw [← h.1.1]; exact groupL_takes hg⟩
    split at h
    · cases hg : escL ere L s with
      | no e i => rw [hg] at h; cases h
      | ok a u =>
        rw [hg] at h
        simp only [withTrue, Out.ok.injEq, Prod.mk.injEq] at h
        exact .inl ⟨h.1.2.symm, by rw [← h.1.1]; exact escL_takes hg⟩
    · simp only [Out.ok.injEq, Prod.mk.injEq] at h; exact .inl ⟨h.1.2.symm, by rw [← h.1.1]; simp [oneN]⟩
/-- The state in a row. -/
structure St4 (w : World) (rb : Nat) (ere : Bool) (mb mo cap : Nat) (L : List Mk) (k : Nat) (ev : Value) (W : World) (t : Rst) (ev1 : Value) (ls : List (List Nd)) (va : Value) (vs : List Value) : Prop where
  r : RfS W rb ere mb mo cap L t k ev1
  b : RBut rb ev.ownBlock w W
  n : newOr w ev.ownBlock ev1.ownBlock
  a : NdLL W w.heap.size va ls vs
section
variable {w W W' : World} {ev ev1 va : Value} {t : Rst} {ls : List (List Nd)} {vs : List Value}
theorem St4.below (h : St4 w rb ere mb mo cap L k ev W t ev1 ls va vs) (hb : Below W.heap.size W W') : St4 w rb ere mb mo cap L k ev W' t ev1 ls va vs := ⟨h.r.below hb, h.b.below hb, h.n, h.a.below hb⟩
theorem St4.step (h : St4 w rb ere mb mo cap L k ev W t ev1 ls va vs) {t' : Rst} {ev2 : Value} (hb : RBut rb ev1.ownBlock W W') (hr : RfS W' rb ere mb mo cap L t' k ev2) (hn : newOr W ev1.ownBlock ev2.ownBlock) (hrw : rb < w.heap.size) : St4 w rb ere mb mo cap L k ev W' t' ev2 ls va vs :=
  ⟨hr, h.b.trans h.n hb, h.n.trans h.b.size hn, h.a.part h.r.own hb hrw⟩
theorem St4.push (h : St4 w rb ere mb mo cap L k ev W t ev1 ls va vs) {u v' : Value} {l : List Nd} (hu : Nds W w.heap.size u l) (ho : W'.ownsRow w.heap.size 22 1 v' (ls.length + 1) (vs ++ [u])) (hg : (W.alloc (.cells #[u] 22)).grownBy W' va.ownBlock) (hrw : rb < w.heap.size) :
    St4 w rb ere mb mo cap L k ev W' t ev1 (ls ++ [l]) v' (vs ++ [u]) := by
  have hal : Below W.heap.size W (W.alloc (.cells #[u] 22)) := (Below.refl _ _).alloc (Nat.le_refl _) _
  have ha := h.a.below hal
  have hr := h.r.below hal
  refine ⟨hr.beside hg (fun g hgv => ?_) (fun g hgv => ?_), (h.b.below hal).beside hg fun g hgv => (ha.row.lt g hgv).1, h.n, ha.push (hu.below hal) ho hg⟩
  · have := (ha.row.lt g hgv).1; omega
  · exact rows_apart hr.own ha.row ll_bool.symm g hgv
end
def RRow5C (rb : Nat) (ere : Bool) (mb mo cap : Nat) (L : List Mk) (k : Nat) : Prop := ∀ (w : World) (s : Rst) (ev : Value), RfS w rb ere mb mo cap L s k ev →
  Calls Tryz.prog 88 #[.pointer (some ⟨rb, 0, none⟩)] w (RPost w rb ere mb mo cap L k ev (rowS ere (k == 64) L (groupL ere L k) s) (.slice none 0 0) fun a v w' => ∃ ls vs, ls.length = a.1 ∧ ls.flatten = a.2 ∧ NdLL w' w.heap.size v ls vs)
set_option maxRecDepth 100000 in
set_option maxHeartbeats 25600000 in
theorem rrow5_call (hat : Hid (RAtomC rb ere mb mo cap L k)) : RRow5C rb ere mb mo cap L k := by
  intro w s ev hv
  have hlen := hv.m.len
  have HU := Lib.hid hv.m.u
  have hrw := hv.lt
  have hsi := hv.at_
  have hkl := hv.kl
  have HV := Lib.hid hv
  obtain ⟨o, ho⟩ : ∃ o : Nat, 64 - k = o := ⟨_, rfl⟩
  have HO := Lib.hid ho
  clear hv ho
  go_enter Tryz.func88, Tryz.ntmps88
  go_wp2_with fail
  go_loopg [3, 4] (L.length + 1) (fun f va ld wr => ∃ (st : Rst) (ls : List (List Nd)) (vs : List Value) (lead : Bool) (ev' : Value), ld = .bool lead ∧ RfS wr rb ere mb mo cap L st k ev' ∧ RBut rb ev.ownBlock w wr ∧ newOr w ev.ownBlock ev'.ownBlock ∧ NdLL wr w.heap.size va ls vs ∧
    Hid (rowS ere (k == 64) L (groupL ere L k) s = rowL ere (k == 64) L (groupL ere L k) f ls.flatten ls.length lead st) ∧ L.length < f + st.i ∧ ls.length + s.i ≤ st.i ∧ ls.flatten.length + 4 * s.i ≤ 4 * st.i)
  case atStart => exact ⟨s, [], [], true, ev, rfl, HV.out, RBut.refl _ _ _, newOr.refl _ _, NdLL.nil _ _, rfl, by omega, by simp, by simp⟩
  case round =>
    obtain ⟨st, ls, vs, lead, ev', rfl, hr, hb, hn, hal, HS, hf, hm, hal4⟩ := hrel
    have hst := hr.at_
    obtain ⟨f, hfg⟩ : ∃ f', gk = f' + 1 := ⟨gk - 1, by omega⟩
    rw [hfg] at HS hf
    have HFG := Lib.hid hfg
    have c1 := hr.c1
    have c2 := hr.c2
    have c5 := hr.c5
    rw [HO.out] at c5
    have rbl := hr.lt
    have S0 := Lib.hid (show St4 w rb ere mb mo cap L k ev wr st ev' ls u3 vs from ⟨hr, hb, hn, hal⟩)
    clear hr hb hn hal hfg HV
    revert S0
    generalize u3 = va
    intro S0
    obtain ⟨br, hbr⟩ : ∃ b, (ere && seesAt L st.i [124]) = b := ⟨_, rfl⟩
    obtain ⟨cl, hcl⟩ : ∃ b, seesAt L st.i (signB ere 41) = b := ⟨_, rfl⟩
    have HBR := Lib.hid hbr
    have HCL := Lib.hid hcl
    have HS0 := Lib.hid (show rowS ere (k == 64) L (groupL ere L k) s = if L.length ≤ st.i then .ok (ls.length, ls.flatten) st
          else if br then .ok (ls.length, ls.flatten) st
          else if cl then if k == 64 then .no 41 st.i else .ok (ls.length, ls.flatten) st
          else if repeatsL ere L st.i && (ere || !lead || !seesAt L st.i [42]) then .no 42 st.i
          else match atomL ere (ls.length == 0) L (groupL ere L k) st with
            | .no e i => .no e i
            | .ok (re, takes) t =>
              if takes && repeatsL ere L t.i then
                match dupL ere L t with
                | .no e i => .no e i
                | .ok d u => rowL ere (k == 64) L (groupL ere L k) f (ls.flatten ++ d :: re) (ls.length + 1) ((re.getD 0 Nd.zero).op == 2) u
              else rowL ere (k == 64) L (groupL ere L k) f (ls.flatten ++ re) (ls.length + 1) ((re.getD 0 Nd.zero).op == 2) t by rw [HS.out, rowL, ← hbr, ← hcl]; rfl)
    clear HS hbr hcl
    go_upto_region 3 with fail
    go_cut [34] (fun x wc => x = .bool (decide (st.i < L.length) && !br && !(!(k == 64) && cl)) ∧ St4 w rb ere mb mo cap L k ev wc st ev' ls va vs)
    case first =>
      clear HS0
      by_cases hlt : st.i < L.length
      · have hlt' : (st.i : Int) < (L.length : Int) := by omega
        have HLT := Lib.hid (decide_eq_true hlt)
        clear hlt
        refine wp_region_segs (X := none) 10 [] [0, 1, 2, 3, 4, 5, 6, 7, 8, 9] (by kernel_rfl) (by kernel_rfl) rfl (fun _ _ _ _ _ h => h) ?_
        simp only [wpSegs, pickSegs_nil, pickOps_nil, pickOps_cons, List.getD_cons_zero, List.getD_cons_succ, List.drop_succ_cons, List.drop_zero]
        repeat (go_big_quiet_step (fail))
        refine wpQuiet_nil ?_
        go_wp2_with fail
        refine (rbar_call (S0.out.r.drew).v).mono ?_; rintro e w1 ⟨rfl, hb1⟩
        rw [HBR.out]
        have S1 := Lib.hid ((S0.out.below (Below.refl _ _).drew).below hb1)
        clear hb1 c1 c2 c5 rbl
        have c5 := S1.out.r.c5
        rw [HO.out] at c5
        have rbl := S1.out.r.lt
        cases br with
        | true =>
          go_wp2_with fail
          go_meet
          exact ⟨by rw [HLT.out]; rfl, S1.out⟩
        | false =>
          by_cases h64 : k = 64
          · have ho0 : o = 0 := by have := HO.out; omega
            have h0' : ¬ (0 : Int) < (o : Int) := by omega
            subst ho0
            have HK := Lib.hid (show (k == 64) = true by rw [h64]; rfl)
            clear h64
            go_wp2_with fail
            go_meet
            exact ⟨by rw [HLT.out, HK.out]; rfl, S1.out⟩
          · have h0 : 0 < o := by have := HO.out; omega
            have h0' : (0 : Int) < (o : Int) := by omega
            have HK := Lib.hid (show (k == 64) = false from beq_eq_false_iff_ne.2 h64)
            clear h64
            go_wp2_with fail
            refine (rsign5_call S1.out.r.v 41 rfl).mono ?_; rintro e w2 ⟨rfl, hb2⟩
            rw [HCL.out]
            have S2 := Lib.hid (S1.out.below hb2)
            clear hb2
            go_wp2_with fail
            go_meet
            exact ⟨by rw [HLT.out, HK.out]; cases cl <;> rfl, S2.out⟩
      · have hlt' : ¬ (st.i : Int) < (L.length : Int) := by omega
        have HLT := Lib.hid (decide_eq_false hlt)
        clear hlt
        refine wp_region_segs (X := none) 10 [] [0, 1, 2, 3, 4, 5, 6, 7, 8, 9] (by kernel_rfl) (by kernel_rfl) rfl (fun _ _ _ _ _ h => h) ?_
        simp only [wpSegs, pickSegs_nil, pickOps_nil, pickOps_cons, List.getD_cons_zero, List.getD_cons_succ, List.drop_succ_cons, List.drop_zero]
        repeat (go_big_quiet_step (fail))
        refine wpQuiet_nil ?_
        go_wp2_with fail
        go_meet
        exact ⟨by rw [HLT.out]; rfl, S0.out.below (Below.refl _ _).drew⟩
    case rest =>
      obtain ⟨hx, hs1⟩ := hcut
      have S1 := Lib.hid hs1
      clear hs1 S0 c1 c2 c5 rbl HBR
      cases hc : (decide (st.i < L.length) && !br && !(!(k == 64) && cl)) with
      | false =>
        have HE := Lib.hid (show rowS ere (k == 64) L (groupL ere L k) s = .ok (ls.length, ls.flatten) st by
          rw [HS0.out]
          by_cases h1 : L.length ≤ st.i
          · rw [if_pos h1]
          rw [if_neg h1]
          have h2 : decide (st.i < L.length) = true := decide_eq_true (by omega)
          rw [h2] at hc
          cases br with
          | true => rfl
          | false =>
            cases cl with
            | true =>
              cases hk : (k == 64) with
              | true => rw [hk] at hc; cases hc
              | false => rfl
            | false => cases hk : (k == 64) <;> (rw [hk] at hc; cases hc))
        rw [hc] at hx
        subst hx
        clear HS0 hc
        go_wp2_with fail
        go_ret
        exact ⟨S1.out.b, by rw [HE.out]; exact ⟨_, ev', rfl, S1.out.r, S1.out.n, ls, vs, rfl, rfl, S1.out.a⟩⟩
      | true =>
        have hlt : st.i < L.length := by
          simp only [Bool.and_eq_true, decide_eq_true_eq] at hc
          exact hc.1.1
        have hbr : br = false := by
          simp only [Bool.and_eq_true, Bool.not_eq_true'] at hc
          exact hc.1.2
        subst hbr
        have HS1 := Lib.hid (show rowS ere (k == 64) L (groupL ere L k) s = _ by rw [HS0.out, if_neg (by omega), if_neg (by decide)])
        have HTOP := Lib.hid (show cl = true → (k == 64) = true from fun h => by
          subst h
          cases hk : (k == 64) with
          | true => rfl
          | false => rw [hk] at hc; simp at hc)
        rw [hc] at hx
        subst hx
        clear HS0 hc
        go_wp2_with fail
        refine (rsign5_call S1.out.r.v 41 rfl).mono ?_; rintro e w2 ⟨rfl, hb2⟩
        rw [HCL.out]
        have S2 := Lib.hid (S1.out.below hb2)
        clear hb2 S1 HCL
        have c0 := S2.out.r.c0
        have c2 := S2.out.r.c2
        have rbl := S2.out.r.lt
        cases cl with
        | true =>
          have HE := Lib.hid (show rowS ere (k == 64) L (groupL ere L k) s = .no 41 st.i by rw [HS1.out, if_pos rfl, if_pos (HTOP.out rfl)])
          clear HS1 HTOP
          go_wp2_with fail
          refine (rfail_call S2.out.r 41 st.i rfl rfl).mono ?_; rintro e wf ⟨rfl, hnt⟩
          have HNT := Lib.hid hnt
          clear hnt
          go_wp2_with fail
          go_ret
          exact RPost.no HE.out S2.out.b HNT.out (by decide)
        | false =>
          have HS2 := Lib.hid (show rowS ere (k == 64) L (groupL ere L k) s = _ by rw [HS1.out, if_neg (by decide)])
          clear HS1 HTOP
          obtain ⟨rp, hrp⟩ : ∃ b, repeatsL ere L st.i = b := ⟨_, rfl⟩
          rw [hrp, sees_sign1] at HS2
          have HRP := Lib.hid hrp
          clear hrp
          obtain ⟨st42, h42⟩ : ∃ b, signAt L st.i 42 = b := ⟨_, rfl⟩
          rw [h42] at HS2
          have H42 := Lib.hid h42
          clear h42
          go_upto_region 7 with fail
          go_cut [59] (fun x wc => x = .bool (rp && (ere || !lead || !st42)) ∧ St4 w rb ere mb mo cap L k ev wc st ev' ls va vs)
          case first =>
            clear HS2
            go_wp2_with fail
            refine (rrepeats_call S2.out.r.v).mono ?_; rintro e w3 ⟨rfl, hb3⟩
            rw [HRP.out]
            have S3 := Lib.hid (S2.out.below hb3)
            clear hb3 c0 c2 rbl S2
            have c0 := S3.out.r.c0
            have rbl := S3.out.r.lt
            cases rp with
            | false =>
              go_wp2_with fail
              go_meet
              exact ⟨rfl, S3.out⟩
            | true =>
              cases ere with
              | true =>
                go_wp2_with fail
                go_meet
                exact ⟨rfl, S3.out⟩
              | false =>
                cases lead with
                | false =>
                  go_wp2_with fail
                  go_meet
                  exact ⟨rfl, S3.out⟩
                | true =>
                  go_wp2_with fail
                  refine (ris_call S3.out.r.v 0 rfl (by omega) 42 rfl).mono ?_; rintro e w4 ⟨rfl, hb4⟩
                  rw [Nat.add_zero, H42.out]
                  have S4 := Lib.hid (S3.out.below hb4)
                  clear hb4
                  go_wp2_with fail
                  go_meet
                  exact ⟨by cases st42 <;> rfl, S4.out⟩
          case rest =>
            obtain ⟨hx, hs4⟩ := hcut
            have S4 := Lib.hid hs4
            clear hs4 S2 c0 c2 rbl HRP H42
            have c2 := S4.out.r.c2
            have rbl := S4.out.r.lt
            cases hc2 : (rp && (ere || !lead || !st42)) with
            | true =>
              have HE := Lib.hid (show rowS ere (k == 64) L (groupL ere L k) s = .no 42 st.i by rw [HS2.out, if_pos hc2])
              rw [hc2] at hx
              subst hx
              clear HS2
              go_wp2_with fail
              refine (rfail_call S4.out.r 42 st.i rfl rfl).mono ?_; rintro e wf ⟨rfl, hnt⟩
              have HNT := Lib.hid hnt
              clear hnt
              go_wp2_with fail
              go_ret
              exact RPost.no HE.out S4.out.b HNT.out (by decide)
            | false =>
              have HS3 := Lib.hid (show rowS ere (k == 64) L (groupL ere L k) s = _ by rw [HS2.out, if_neg (by rw [hc2]; decide)])
              rw [hc2] at hx
              subst hx
              clear HS2 hc2
              obtain ⟨oa, ca, hoa⟩ := own_form S4.out.a.row
              have HOA := Lib.hid hoa
              have hmb : ((ls.length : Int) == 0) = (ls.length == 0) := by rw [Bool.eq_iff_iff]; simp
              have HMB := Lib.hid hmb
              obtain ⟨fb, hfb⟩ : ∃ b, (ls.length == 0) = b := ⟨_, rfl⟩
              have HFB := Lib.hid (show ((ls.length : Int) == 0) = fb by rw [hmb, hfb])
              rw [hfb] at HS3
              have hfbo := HFB.out
              clear hmb HMB hfb HFB
              subst hoa
              go_wp2_with fail
              refine (hat.out _ _ _ fb S4.out.r hlt).mono ?_
              rintro e w7 ⟨hb7, hp7⟩
              have HBB := Lib.hid hb7
              cases hatm : atomL ere fb L (groupL ere L k) st with
              | no er p =>
                rw [hatm] at hp7
                obtain ⟨rfl, her, q1, q2, q3⟩ := hp7
                have hne : ((er : Int) != 0) = true := by rw [bne_iff_ne]; omega
                have HE := Lib.hid (show rowS ere (k == 64) L (groupL ere L k) s = .no er p by rw [HS3.out, hatm])
                clear HS3 hatm hb7 hfbo
                have HBT := Lib.hid (S4.out.b.trans S4.out.n HBB.out)
                have HQF := Lib.hid (show er ≠ 0 ∧ rb < w7.heap.size ∧ w7.cell? ⟨rb, 6, none⟩ = some (.int .i64 er) ∧ w7.cell? ⟨rb, 7, none⟩ = some (.int .i64 p) from ⟨her, q1, q2, q3⟩)
                clear her q3
                go_wp2_with fail
                go_ret
                exact ⟨HBT.out, by rw [HE.out]; exact ⟨rfl, HQF.out⟩⟩
              | ok a t =>
                obtain ⟨re, tk⟩ := a
                rw [hatm] at hp7
                have hkind := atom_kind hatm hlt
                have hsm := atomL_small HU.out hlt (fun re t => groupL_small HU.out k st re t) hatm
                have hadv := atomL_adv HU.out hlt (fun re t => groupL_adv HU.out k st re t) hatm
                have HS4 := Lib.hid (show rowS ere (k == 64) L (groupL ere L k) s = _ by rw [HS3.out, hatm])
                simp only at HS4
                obtain ⟨v7, ev7, rfl, hr7, hn7, u, rfl, hnd7⟩ := hp7
                have S7 := Lib.hid (S4.out.step hb7 hr7 hn7 hrw)
                have HN7 := Lib.hid (hnd7.mono S4.out.b.size)
                have c6 := hr7.c6
                have rbl := hr7.lt
                have hlt1 := hadv.lt
                have hle1 := hadv.le
                obtain ⟨hsm1, hsm2⟩ := hsm
                simp only at hsm1 hsm2
                clear hb7 HBB hr7 hn7 hnd7 hatm hadv HS3 S4 hfbo c2
                obtain ⟨g8, cp8, hu8, g8l, g8c⟩ := HN7.out.head hsm1
                subst hu8
                obtain ⟨ld2, hld2⟩ : ∃ b, ((re.getD 0 Nd.zero).op == 2) = b := ⟨_, rfl⟩
                rw [hld2] at HS4
                have hpos : (0 : Int) < (re.length : Int) := by omega
                go_upto_region 13 with fail
                go_cut [4] (fun x wc => x = .bool ld2 ∧ w7 = wc)
                case first =>
                  clear HS4
                  rcases hkind with ⟨rfl, hop⟩ | ⟨rfl, hop⟩
                  · have h5 : ld2 = false := by rw [← hld2]; exact beq_eq_false_iff_ne.2 hop
                    subst h5
                    clear hld2 hop
                    go_wp2_with fail
                    go_meet
                    exact ⟨rfl, rfl⟩
                  · rcases hop with rfl | rfl
                    · have h5 : ld2 = true := by rw [← hld2]; rfl
                      subst h5
                      rw [show ([beginN].getD 0 Nd.zero).op = 2 from rfl] at g8c
                      clear hld2
                      go_wp2_with fail
                      go_meet
                      exact ⟨rfl, rfl⟩
                    · have h5 : ld2 = false := by rw [← hld2]; rfl
                      subst h5
                      rw [show ([endN].getD 0 Nd.zero).op = 3 from rfl] at g8c
                      clear hld2
                      go_wp2_with fail
                      go_meet
                      exact ⟨rfl, rfl⟩
                case rest =>
                  obtain ⟨rfl, rfl⟩ := hcut
                  clear hkind hld2 g8c
                  obtain ⟨rp2, hrp2⟩ : ∃ b, repeatsL ere L t.i = b := ⟨_, rfl⟩
                  rw [hrp2] at HS4
                  have HRP2 := Lib.hid hrp2
                  clear hrp2
                  go_upto_region 14 with fail
                  go_cut [93] (fun x wc => x = .bool (tk && rp2) ∧ St4 w rb ere mb mo cap L k ev wc t ev7 ls (.slice oa ls.length ca) vs ∧ Nds wc w.heap.size (.slice (some ⟨g8, 0, none⟩) re.length cp8) re)
                  case first =>
                    clear HS4
                    cases tk with
                    | false =>
                      go_wp2_with fail
                      go_meet
                      exact ⟨rfl, S7.out, HN7.out⟩
                    | true =>
                      go_wp2_with fail
                      refine (rrepeats_call S7.out.r.v).mono ?_; rintro e w8 ⟨rfl, hb8⟩
                      rw [HRP2.out]
                      have S8 := Lib.hid (S7.out.below hb8)
                      have HN8 := Lib.hid (HN7.out.below hb8)
                      clear hb8
                      go_wp2_with fail
                      go_meet
                      exact ⟨by cases rp2 <;> rfl, S8.out, HN8.out⟩
                  case rest =>
                    obtain ⟨hx, hs8, hn8⟩ := hcut
                    have S8 := Lib.hid hs8
                    have HN8 := Lib.hid hn8
                    clear hs8 hn8 S7 HN7 c6 rbl
                    cases hc3 : (tk && rp2) with
                    | false =>
                      have HSZ := Lib.hid (show rowS ere (k == 64) L (groupL ere L k) s = _ by rw [HS4.out, if_neg (by rw [hc3]; decide)])
                      rw [hc3] at hx
                      subst hx
                      clear HS4 hc3
                      have hlsl : ls.length ≤ 4096 := by omega
                      go_wp2_with (at_builtin; refine wpList_app elLL rfl _ _ rfl w.heap.size (n := ls.length) (m := 1) (news := [.slice (some ⟨g8, 0, none⟩) re.length cp8]) rfl (S8.out.a.row.alloc _) rfl (Src.new _ [.slice (some ⟨g8, 0, none⟩) re.length cp8] _ _ _) rfl (by simp [Value.oneCell']) (by unfold maxLen; omega) (by omega) (by have := S8.out.b.size; simp; omega) ?_)
                      intro v9 w9 hown9 hgr9 _
                      have HZ := Lib.hid (S8.out.push HN8.out hown9 hgr9 hrw)
                      clear hown9 hgr9
                      go_wp2_with fail
                      go_roundg f
                      case measure => have := HFG.out; omega
                      case rel =>
                        obtain ⟨z1, z2, z3, z4⟩ := HZ.out
                        exact ⟨t, ls ++ [re], _, ld2, ev7, rfl, z1, z2, z3, z4, (show rowS ere (k == 64) L (groupL ere L k) s = _ by rw [HSZ.out, List.flatten_append, List.length_append]; simp), by omega, by rw [List.length_append, List.length_singleton]; omega, by rw [flat_snoc]; omega⟩
                    | true =>
                      have HS5 := Lib.hid (show rowS ere (k == 64) L (groupL ere L k) s = _ by rw [HS4.out, if_pos hc3])
                      have hrpt : repeatsL ere L t.i = true := by
                        simp only [Bool.and_eq_true] at hc3
                        rw [HRP2.out]; exact hc3.2
                      rw [hc3] at hx
                      subst hx
                      clear HS4 hc3
                      go_wp2_with fail
                      refine (rdup5_call S8.out.r hrpt).mono ?_
                      rintro e w7 ⟨hb9, hp9⟩
                      have HBB := Lib.hid hb9
                      cases hdp : dupL ere L t with
                      | no er p =>
                        rw [hdp] at hp9
                        obtain ⟨rfl, her, q1, q2, q3⟩ := hp9
                        have hne : ((er : Int) != 0) = true := by rw [bne_iff_ne]; omega
                        have HE := Lib.hid (show rowS ere (k == 64) L (groupL ere L k) s = .no er p by rw [HS5.out, hdp])
                        clear HS5 hdp hb9
                        have HBT := Lib.hid (S8.out.b.trans S8.out.n HBB.out)
                        have HQF := Lib.hid (show er ≠ 0 ∧ rb < w7.heap.size ∧ w7.cell? ⟨rb, 6, none⟩ = some (.int .i64 er) ∧ w7.cell? ⟨rb, 7, none⟩ = some (.int .i64 p) from ⟨her, q1, q2, q3⟩)
                        clear her q3
                        go_wp2_with fail
                        go_ret
                        exact ⟨HBT.out.alloc _, by rw [HE.out]; exact ⟨rfl, HQF.out.1, Nat.lt_of_lt_of_le HQF.out.2.1 (by simp), (World.cell?_of_block (a := ⟨rb, 6, none⟩) (heap_alloc_old _ _ HQF.out.2.1)).trans HQF.out.2.2.1, (World.cell?_of_block (a := ⟨rb, 7, none⟩) (heap_alloc_old _ _ HQF.out.2.1)).trans HQF.out.2.2.2⟩⟩
                      | ok d u =>
                        rw [hdp] at hp9
                        have HS6 := Lib.hid (show rowS ere (k == 64) L (groupL ere L k) s = _ by rw [HS5.out, hdp])
                        simp only at HS6
                        have hdv := dupL_adv hrpt hdp
                        have hlt2 := hdv.lt
                        have hle2 := hdv.le
                        obtain ⟨v9, ev9, rfl, hr9, hn9, rfl⟩ := hp9
                        have S9 := Lib.hid (S8.out.step hb9 hr9 hn9 hrw)
                        have HN9 := Lib.hid (HN8.out.part S8.out.r.own hb9 hrw)
                        clear hb9 HBB hr9 hn9 hdp hdv HS5 S8 HN8
                        have hal : Below w7.heap.size w7 (w7.alloc (.cells (ndCells d) 39)) := (by repeat (first | exact Below.refl _ _ | assumption | refine Below.drew ?_ | refine Below.alloc ?_ (by first | (simp; done) | (simp; omega) | omega) _ | refine Below.setCell ?_ (by first | (simp; done) | (simp; omega) | omega) _))
                        have hd : (w7.alloc (.cells (ndCells d) 39)).heap[w7.heap.size]? = some (.cells (ndCells d) 39 (0, 0)) := heap_alloc_new w7 _
                        have SA := Lib.hid (S9.out.below hal)
                        have HNA := Lib.hid (HN9.out.below hal)
                        clear S9 HN9 hal
                        obtain ⟨dop, ⟨x0, x1, x2, x3⟩, xn, xmin, xmax, xk⟩ := d
                        obtain ⟨d, hdd⟩ : ∃ d : Nd, (⟨dop, ⟨x0, x1, x2, x3⟩, xn, xmin, xmax, xk⟩ : Nd) = d := ⟨_, rfl⟩
                        have HDD := Lib.hid hdd
                        clear hdd
                        simp only [ndCells] at SA HNA hd
                        go_upto_region 16 with fail
                        revert SA HNA hd
                        generalize w7.alloc (.cells #[.int .i8 dop, .int .u64 x0.toNat, .int .u64 x1.toNat, .int .u64 x2.toNat, .int .u64 x3.toNat, .int .i64 xn, .int .i64 xmin, .int .i64 xmax, .int .i64 xk] 39) = wA
                        generalize w7.heap.size = Bd
                        intro hd SA HNA
                        have hdl := (Array.getElem?_eq_some_iff.1 hd).1
                        have hdc : ∀ j, wA.cell? ⟨Bd, j, none⟩ = _ := fun j => cell_of_row _ _ j _ _ (0, 0) hd
                        have x0' := hdc 0
                        have x1' := hdc 1
                        have x2' := hdc 2
                        have x3' := hdc 3
                        have x4' := hdc 4
                        have x5' := hdc 5
                        have x6' := hdc 6
                        have x7' := hdc 7
                        have x8' := hdc 8
                        simp only [List.getElem?_toArray, List.getElem?_cons_zero, List.getElem?_cons_succ] at x0' x1' x2' x3' x4' x5' x6' x7' x8'
                        have c6 := SA.out.r.c6
                        have rbl := SA.out.r.lt
                        have HKO := Lib.hid (kids_one HNA.out)
                        have SB := Lib.hid (SA.out.below ((Below.refl _ _).alloc (Nat.le_refl _) (.cells #[.slice (some ⟨g8, 0, none⟩) re.length cp8] 22)))
                        clear hdc hd SA HNA
                        go_wp2_with fail
                        refine (rput_call (ls := [re]) ⟨dop, ⟨x0, x1, x2, x3⟩, xn, xmin, xmax, xk⟩ (cap := 1) HKO.out (by simp) (by simp; omega)).mono ?_; rintro e wB ⟨⟨vB, rfl, hvB⟩, hbB⟩
                        rw [HDD.out] at hvB
                        have HSZ := HS6.out
                        rw [HDD.out] at HSZ
                        have HSZ := Lib.hid HSZ
                        have S8 := Lib.hid (SB.out.below hbB)
                        have hndB := hvB.mono SB.out.b.size
                        rw [show ([re] : List (List Nd)).flatten = re by simp] at hndB
                        obtain ⟨rd, hrd⟩ : ∃ rd, d :: re = rd := ⟨_, rfl⟩
                        rw [hrd] at hndB HSZ
                        have HRD := Lib.hid (show rd.length = re.length + 1 by rw [← hrd]; simp)
                        have HN8 := Lib.hid hndB
                        clear hvB hbB HS6 HKO SB x0' x1' x2' x3' x4' x5' x6' x7' x8' hdl c6 rbl hndB hrd HDD
                        obtain ⟨ou, cu, hou⟩ := own_form HN8.out
                        subst hou
                        have hlsl : ls.length ≤ 4096 := by omega
                        go_wp2_with (at_builtin; refine wpList_app elLL rfl _ _ rfl w.heap.size (n := ls.length) (m := 1) (news := [.slice ou rd.length cu]) rfl (S8.out.a.row.alloc _) rfl (Src.new _ [.slice ou rd.length cu] _ _ _) rfl (by simp [Value.oneCell']) (by unfold maxLen; omega) (by omega) (by have := S8.out.b.size; simp; omega) ?_)
                        intro v9 w9 hown9 hgr9 _
                        have HZ := Lib.hid (S8.out.push HN8.out hown9 hgr9 hrw)
                        clear hown9 hgr9
                        go_wp2_with fail
                        go_roundg f
                        case measure => have := HFG.out; omega
                        case rel =>
                          have hrdl := HRD.out
                          obtain ⟨z1, z2, z3, z4⟩ := HZ.out
                          exact ⟨u, ls ++ [rd], _, ld2, ev9, rfl, z1, z2, z3, z4, (show rowS ere (k == 64) L (groupL ere L k) s = _ by rw [HSZ.out, List.flatten_append, List.length_append]; simp), by omega, by rw [List.length_append, List.length_singleton]; omega, by rw [flat_snoc]; omega⟩
end
end Go.Proofs.YtbdjcmhfcdamiaaGreatDoor

/- The document's reader: sides, given its row; all depths; Parse. -/
namespace Go.Proofs.YtbdjcmhfcdamiaaGreatDoor
open Go.RowKit

/-- A list of one list. -/
theorem NdLL.single {w : World} {base : Nat} {v : Value} {l : List Nd} {vs : List Value} (h : NdLL w base v [l] vs) : ∃ g cp u, v = .slice (some ⟨g, 0, none⟩) 1 cp ∧ g < w.heap.size ∧ w.cell? ⟨g, 0, none⟩ = some u ∧ Nds w base u l := by
  obtain ⟨u, hu, hnd⟩ := h.el 0 (by simp)
  rcases h.row.2 with ⟨_, h0⟩ | ⟨g, cp, cur, rfl, hg1, hg2, _⟩
  · simp at h0
  · have hc2 := World.ownsRow.cellAt h.row 0 (by simp)
    rw [hu] at hc2
    exact ⟨g, cp, u, rfl, (Array.getElem?_eq_some_iff.1 hg2).1, hc2, hnd⟩
section
variable {rb : Nat} {ere : Bool} {mb mo cap : Nat} {L : List Mk} {k : Nat}
set_option maxRecDepth 100000 in
set_option maxHeartbeats 25600000 in
theorem rsides5_call (hrow : Hid (RRow5C rb ere mb mo cap L k)) : RSidesC rb ere mb mo cap L k := by
  intro w s ev hv
  have hlen := hv.m.len
  have HU := Lib.hid hv.m.u
  have hrw := hv.lt
  have hsi := hv.at_
  have HV := Lib.hid hv
  clear hv
  go_enter Tryz.func59, Tryz.ntmps59
  go_wp2_with fail
  go_loopg [3, 4] (L.length + 1) (fun f va mv wr => ∃ (st : Rst) (ks : List (List Nd)) (vs : List Value) (ev' : Value) (more : Bool), mv = .bool more ∧ RfS wr rb ere mb mo cap L st k ev' ∧ RBut rb ev.ownBlock w wr ∧ newOr w ev.ownBlock ev'.ownBlock ∧ NdLL wr w.heap.size va ks vs ∧ ks.length + s.i ≤ st.i + 1 ∧ ks.flatten.length + 4 * s.i ≤ 4 * st.i + 1 ∧
    Hid (if more = true then sidesK ere L k s = sidesL ere L (rowS ere (k == 64) L (groupL ere L k)) f ks.flatten ks.length st ∧ L.length < f + st.i ∧ ks.length + s.i ≤ st.i ∧ ks.flatten.length + 4 * s.i ≤ 4 * st.i
      else sidesK ere L k s = .ok (if 1 < ks.length then altN ks.length :: ks.flatten else ks.flatten) st ∧ 0 < ks.length))
  case atStart => exact ⟨s, [], [], ev, true, rfl, HV.out, RBut.refl _ _ _, newOr.refl _ _, NdLL.nil _ _, by simp, by simp, Lib.hid (by rw [if_pos rfl]; exact ⟨rfl, by omega, by simp, by simp⟩)⟩
  case round =>
    obtain ⟨st, ks, vs, ev', more, rfl, hr, hb, hn, hal, hkl, hkf, HM⟩ := hrel
    have hst := hr.at_
    have S0 := Lib.hid (show St4 w rb ere mb mo cap L k ev wr st ev' ks u3 vs from ⟨hr, hb, hn, hal⟩)
    clear hr hb hn hal HV
    revert S0
    generalize u3 = va
    intro S0
    cases more with
    | true =>
      have HM1 := HM.out
      rw [if_pos rfl] at HM1
      obtain ⟨HS, hf, hm, hal4⟩ := HM1
      obtain ⟨f, hfg⟩ : ∃ f', gk = f' + 1 := ⟨gk - 1, by omega⟩
      rw [hfg] at HS hf
      have HFG := Lib.hid hfg
      have HS0 := Lib.hid HS
      clear hfg HS HM
      go_wp2_with fail
      refine (hrow.out _ _ _ S0.out.r).mono ?_
      rintro e w1 ⟨hb1, hp1⟩
      cases hro : rowS ere (k == 64) L (groupL ere L k) st with
      | no er p =>
        rw [hro] at hp1
        obtain ⟨rfl, her, q1, q2, q3⟩ := hp1
        have hne : ((er : Int) != 0) = true := by rw [bne_iff_ne]; omega
        have HE := Lib.hid (show sidesK ere L k s = .no er p by rw [HS0.out, sidesL, hro])
        have HBT := Lib.hid (S0.out.b.trans S0.out.n hb1)
        have HQF := Lib.hid (show er ≠ 0 ∧ rb < w1.heap.size ∧ w1.cell? ⟨rb, 6, none⟩ = some (.int .i64 er) ∧ w1.cell? ⟨rb, 7, none⟩ = some (.int .i64 p) from ⟨her, q1, q2, q3⟩)
        clear her q3 hb1 hro HS0
        go_wp2_with fail
        go_ret
        exact ⟨HBT.out, by rw [HE.out]; exact ⟨rfl, HQF.out⟩⟩
      | ok pr t =>
        obtain ⟨parts, re⟩ := pr
        have hri := rowS_rise HU.out k hst hro
        have hsm := rowS_small HU.out k hst hro
        simp only at hsm
        rw [hro] at hp1
        obtain ⟨v1, ev1, rfl, hr1, hn1, ls, vs1, hl1, hl2, hll⟩ := hp1
        simp only at hl1 hl2
        have hti := hri.le
        have hlt1 := hri.lt
        have S1 := Lib.hid (S0.out.step hb1 hr1 hn1 hrw)
        have HLL := Lib.hid (hll.mono S0.out.b.size)
        obtain ⟨br, hbr⟩ : ∃ b, (ere && seesAt L t.i [124]) = b := ⟨_, rfl⟩
        have HBR := Lib.hid hbr
        have hbl : br = true → t.i + 1 ≤ L.length := fun h => by rw [h] at hbr; simp only [Bool.and_eq_true] at hbr; simpa using seesAt_le (by decide) hbr.2
        have HS1 := Lib.hid (show sidesK ere L k s = if ls.length == 0 && (br || decide (0 < ks.length)) then .no 45 t.i
            else if !br then .ok (if 1 < ks.length + 1 then altN (ks.length + 1) :: (ks.flatten ++ (if ls.length = 1 then ls.flatten else catN ls.length :: ls.flatten)) else (ks.flatten ++ (if ls.length = 1 then ls.flatten else catN ls.length :: ls.flatten))) t
            else sidesL ere L (rowS ere (k == 64) L (groupL ere L k)) f (ks.flatten ++ (if ls.length = 1 then ls.flatten else catN ls.length :: ls.flatten)) (ks.length + 1) ⟨t.i + 1, t.ended⟩ by rw [HS0.out, sidesL, hro, ← hbr, hl1, hl2])
        have hsmA : ls.flatten.length + 4 * st.i ≤ 4 * t.i := by rw [hl2]; exact hsm.1
        have hsmB : ls.length + st.i ≤ t.i := by rw [hl1]; exact hsm.2
        have c6 := hr1.c6
        have rbl := hr1.lt
        clear hb1 hr1 hn1 hll hri hro HS0 hbr hl1 hl2 hsm S0
        go_wp2_with fail
        refine (rbar_call S1.out.r.v).mono ?_; rintro e w2 ⟨rfl, hb2⟩
        rw [HBR.out]
        have S2 := Lib.hid (S1.out.below hb2)
        have HL2 := Lib.hid (HLL.out.below hb2)
        clear hb2 S1 HLL c6 rbl
        obtain ⟨oa, ca, hoa⟩ := own_form S2.out.a.row
        obtain ⟨ol, cl, hol⟩ := own_form HL2.out.row
        subst hoa
        subst hol
        have hlsl : ls.length ≤ 4096 := by omega
        have hksl : ks.length ≤ 4096 := by omega
        go_upto_region 8 with fail
        go_cut [26] (fun x wd => x = .bool (ls.length == 0 && (br || decide (0 < ks.length))) ∧ w2 = wd)
        case first =>
          clear HS1
          by_cases hp0 : ls.length = 0
          · have e0 : ((ls.length : Int) == 0) = true := by rw [hp0]; rfl
            have HP0 := Lib.hid (show (ls.length == 0) = true by rw [hp0]; rfl)
            clear hp0
            cases br with
            | true =>
              go_wp2_with fail
              go_meet
              exact ⟨by rw [HP0.out]; rfl, rfl⟩
            | false =>
              by_cases hk0 : 0 < ks.length
              · have hk0' : (0 : Int) < (ks.length : Int) := by omega
                have HK0 := Lib.hid (decide_eq_true hk0)
                clear hk0
                go_wp2_with fail
                go_meet
                exact ⟨by rw [HP0.out, HK0.out]; rfl, rfl⟩
              · have hk0' : ¬ (0 : Int) < (ks.length : Int) := by omega
                have HK0 := Lib.hid (decide_eq_false hk0)
                clear hk0
                go_wp2_with fail
                go_meet
                exact ⟨by rw [HP0.out, HK0.out]; rfl, rfl⟩
          · have e0 : ((ls.length : Int) == 0) = false := beq_eq_false_iff_ne.2 (by omega)
            have HP0 := Lib.hid (show (ls.length == 0) = false from beq_eq_false_iff_ne.2 hp0)
            clear hp0
            go_wp2_with fail
            go_meet
            exact ⟨by rw [HP0.out]; rfl, rfl⟩
        case rest =>
          obtain ⟨hx, rfl⟩ := hcut
          cases hbad : (ls.length == 0 && (br || decide (0 < ks.length))) with
          | true =>
            have HE := Lib.hid (show sidesK ere L k s = .no 45 t.i by rw [HS1.out, if_pos hbad])
            rw [hbad] at hx
            subst hx
            have c2 := S2.out.r.c2
            have rbl := S2.out.r.lt
            clear HS1 hbad
            go_wp2_with fail
            refine (rfail_call S2.out.r 45 t.i rfl rfl).mono ?_; rintro e wf ⟨rfl, hnt⟩
            have HNT := Lib.hid hnt
            clear hnt
            go_wp2_with fail
            go_ret
            exact RPost.no HE.out S2.out.b HNT.out (by decide)
          | false =>
            have HS2 := HS1.out
            rw [if_neg (by rw [hbad]; decide)] at HS2
            obtain ⟨re', hre'⟩ : ∃ re', (if ls.length = 1 then ls.flatten else catN ls.length :: ls.flatten) = re' := ⟨_, rfl⟩
            rw [hre'] at HS2
            have HS3 := Lib.hid HS2
            have hrel2 : re'.length ≤ ls.flatten.length + 1 := by rw [← hre']; split <;> simp
            have HRL := Lib.hid (show re'.length + 4 * st.i ≤ 4 * t.i + 1 by omega)
            have hjc := rjoined_call HL2.out S2.out.b.size (by omega) (by omega)
            rw [hre'] at hjc
            have HJC := Lib.hid hjc
            rw [hbad] at hx
            subst hx
            clear HS1 HS2 hbad hre' hjc hrel2 HL2
            go_wp2_with fail
            refine HJC.out.mono ?_; rintro e w3 ⟨⟨uj, rfl, huj⟩, hb3⟩
            have S3 := Lib.hid (S2.out.below hb3)
            obtain ⟨ou, cu, hou⟩ := own_form huj
            subst hou
            have HN3 := Lib.hid huj
            clear hb3 huj S2 HJC
            go_wp2_with (at_builtin; refine wpList_app elLL rfl _ _ rfl w.heap.size (n := ks.length) (m := 1) (news := [.slice ou re'.length cu]) rfl (S3.out.a.row.alloc _) rfl (Src.new _ [.slice ou re'.length cu] _ _ _) rfl (by simp [Value.oneCell']) (by unfold maxLen; omega) (by omega) (by have := S3.out.b.size; simp; omega) ?_)
            intro v9 w9 hown9 hgr9 _
            have S9 := Lib.hid (S3.out.push HN3.out hown9 hgr9 hrw)
            clear hown9 hgr9 S3 HN3
            have c2 := S9.out.r.c2
            have f2 := S9.out.r.fz 2
            have rbl := S9.out.r.lt
            cases br with
            | true =>
              have hbl2 := hbl rfl
              have hrZ := S9.out.r.setAt (j := t.i + 1) hbl2
              have hbZ := S9.out.b.store 2 (.int .i64 ((t.i + 1 : Nat) : Int))
              have haZ := S9.out.a.block (w' := w9.setCell ⟨rb, 2, none⟩ (.int .i64 ((t.i + 1 : Nat) : Int))) (fun g hg _ => Below.heap_setCell _ _ _ _ (by show g ≠ rb; omega))
              rw [Int.natCast_add, show ((1 : Nat) : Int) = 1 from rfl] at hrZ hbZ haZ
              have HZ := Lib.hid (show St4 w rb ere mb mo cap L k ev (w9.setCell ⟨rb, 2, none⟩ (.int .i64 ((t.i : Int) + 1))) ⟨t.i + 1, t.ended⟩ ev1 (ks ++ [re']) v9 _ from ⟨hrZ, hbZ, S9.out.n, haZ⟩)
              have HS4 := Lib.hid (show sidesK ere L k s = sidesL ere L (rowS ere (k == 64) L (groupL ere L k)) f (ks ++ [re']).flatten (ks ++ [re']).length ⟨t.i + 1, t.ended⟩ by rw [HS3.out, List.flatten_append, List.length_append]; simp)
              clear hrZ hbZ haZ HS3 S9
              go_wp2_with fail
              go_roundg f
              case measure => have := HFG.out; omega
              case rel =>
                obtain ⟨z1, z2, z3, z4⟩ := HZ.out
                have := HRL.out
                exact ⟨⟨t.i + 1, t.ended⟩, ks ++ [re'], _, ev1, true, rfl, z1, z2, z3, z4, by rw [List.length_append, List.length_singleton]; show _ ≤ t.i + 1 + 1; omega, by rw [flat_snoc]; show _ ≤ 4 * (t.i + 1) + 1; omega, Lib.hid (by rw [if_pos rfl]; exact ⟨HS4.out, by show _ < f + (t.i + 1); omega, by rw [List.length_append, List.length_singleton]; show _ ≤ t.i + 1; omega, by rw [flat_snoc]; show _ ≤ 4 * (t.i + 1); omega⟩)⟩
            | false =>
              have HS4 := Lib.hid (show sidesK ere L k s = .ok (if 1 < (ks ++ [re']).length then altN (ks ++ [re']).length :: (ks ++ [re']).flatten else (ks ++ [re']).flatten) t by rw [HS3.out, List.flatten_append, List.length_append]; simp)
              clear HS3 c2 f2 rbl
              go_wp2_with fail
              go_roundg 0
              case measure => have := HFG.out; omega
              case rel =>
                obtain ⟨z1, z2, z3, z4⟩ := S9.out
                have := HRL.out
                exact ⟨t, ks ++ [re'], _, ev1, false, rfl, z1, z2, z3, z4, by rw [List.length_append, List.length_singleton]; omega, by rw [flat_snoc]; omega, Lib.hid (by rw [if_neg (by decide)]; exact ⟨HS4.out, by simp⟩)⟩
    | false =>
      have HM1 := HM.out
      rw [if_neg (by decide)] at HM1
      obtain ⟨HS, hk0⟩ := HM1
      have HS0 := Lib.hid HS
      clear HS HM
      have hksl : ks.length ≤ 4097 := by omega
      by_cases hk1 : ks.length = 1
      · obtain ⟨l, rfl⟩ : ∃ l, ks = [l] := by
          match ks, hk1 with
          | [l], _ => exact ⟨l, rfl⟩
        obtain ⟨g, cp, u, hva, hgl, hcu, hnd⟩ := S0.out.a.single
        have HE := Lib.hid (show sidesK ere L k s = .ok l st by rw [HS0.out]; simp)
        have HN := Lib.hid hnd
        subst hva
        clear hk1 hnd HS0
        go_wp2_with fail
        go_ret
        exact ⟨S0.out.b, by rw [HE.out]; exact ⟨_, ev', rfl, S0.out.r, S0.out.n, HN.out⟩⟩
      · have hk1' : ((ks.length : Int) == 1) = false := beq_eq_false_iff_ne.2 (by omega)
        have HE := Lib.hid (show sidesK ere L k s = .ok (altN ks.length :: ks.flatten) st by rw [HS0.out, if_pos (by omega)])
        obtain ⟨oa, ca, hva, hkv⟩ := S0.out.a.kids
        have HK := Lib.hid hkv
        have hfl : ks.flatten.length ≤ 80000 := by omega
        clear hk1 hkv HS0
        subst hva
        go_wp2_with fail
        refine (rput_call (altN ks.length) (cap := ca) HK.out (by omega) (by omega)).mono ?_; rintro e w1 ⟨⟨u, rfl, hu⟩, hb1⟩
        have S1 := Lib.hid (S0.out.below hb1)
        have HN := Lib.hid (hu.mono S0.out.b.size)
        clear hu hb1
        go_wp2_with fail
        go_ret
        exact ⟨S1.out.b, by rw [HE.out]; exact ⟨_, ev', rfl, S1.out.r, S1.out.n, HN.out⟩⟩
theorem rgroup_all : ∀ k, k ≤ 64 → RGroupC rb ere mb mo cap L k
  | 0, _ => rgroup_zero
  | k + 1, h => rgroup_succ (by omega) (Lib.hid (rsides5_call (Lib.hid (rrow5_call (Lib.hid (ratom_call (Lib.hid (rgroup_all k (by omega)))))))))
theorem rsides_all (k : Nat) (h : k ≤ 64) : RSidesC rb ere mb mo cap L k := rsides5_call (Lib.hid (rrow5_call (Lib.hid (ratom_call (Lib.hid (rgroup_all k h))))))
end
/-! ### Parse -/
theorem good_ops {x : Nd} (h : goodN x = true) : 1 ≤ x.op ∧ x.op ≤ 8 := by
  unfold goodN at h
  simp only [Bool.and_eq_true, decide_eq_true_eq] at h
  exact h.1.1.1.1
set_option maxRecDepth 100000 in
set_option maxHeartbeats 25600000 in
theorem rparse_call {ere : Bool} {L : List Mk} {oa : Option Addr} {cap : Nat} {w : World} (hm : 0 < L.length → L.length ≤ 4096 → ∃ mb mo, oa = some ⟨mb, mo, none⟩ ∧ MkAt w mb mo L) :
    Calls Tryz.prog 20 #[.bool ere, .slice oa L.length cap] w fun e w' => ParR w (parseL ere L) e w' ∧ Below w.heap.size w w' := by
  by_cases hL : 4096 < L.length
  · have hL' : (4096 : Int) < (L.length : Int) := by omega
    have HE := Lib.hid (show parseL ere L = .error (2, 4096) by rw [parseL, if_pos hL])
    clear hm hL
    go_enter Tryz.func20, Tryz.ntmps20
    go_wp2_with fail
    go_ret3
    exact ⟨by rw [HE.out]; rfl, Below.refl _ _⟩
  have hL' : ¬ (4096 : Int) < (L.length : Int) := by omega
  by_cases h0 : L.length = 0
  · have h0' : ((L.length : Int) == 0) = true := by rw [h0]; rfl
    have HE := Lib.hid (show parseL ere L = .error (45, 0) by rw [parseL, if_neg hL, if_pos h0])
    clear hm hL h0
    go_enter Tryz.func20, Tryz.ntmps20
    go_wp2_with fail
    go_ret3
    exact ⟨by rw [HE.out]; rfl, Below.refl _ _⟩
  have h0' : ((L.length : Int) == 0) = false := beq_eq_false_iff_ne.2 (by omega)
  have HP := Lib.hid (show parseL ere L = _ by rw [parseL, if_neg hL, if_neg h0])
  obtain ⟨mb, mo, rfl, hmk⟩ := hm (by omega) (by omega)
  have HM := Lib.hid hmk
  have HL := Lib.hid (show L.length ≤ 4096 by omega)
  clear hm hL h0 hmk
  go_enter Tryz.func20, Tryz.ntmps20
  go_upto_region 6 with fail
  have hal : Below w.heap.size w (w.alloc (.cells #[.bool ere, .slice (some ⟨mb, mo, none⟩) L.length cap, .int .i64 0, .int .i64 0, .slice none 0 0, .int .i64 0, .int .i64 0, .int .i64 0] 95)) := (by repeat (first | exact Below.refl _ _ | assumption | refine Below.drew ?_ | refine Below.alloc ?_ (by first | (simp; done) | (simp; omega) | omega) _ | refine Below.setCell ?_ (by first | (simp; done) | (simp; omega) | omega) _))
  have hrb : (w.alloc (.cells #[.bool ere, .slice (some ⟨mb, mo, none⟩) L.length cap, .int .i64 0, .int .i64 0, .slice none 0 0, .int .i64 0, .int .i64 0, .int .i64 0] 95)).heap[w.heap.size]? = some (.cells #[.bool ere, .slice (some ⟨mb, mo, none⟩) L.length cap, .int .i64 0, .int .i64 0, .slice none 0 0, .int .i64 0, .int .i64 0, .int .i64 0] 95 (0, 0)) := heap_alloc_new w _
  revert hal hrb
  generalize w.alloc (.cells #[.bool ere, .slice (some ⟨mb, mo, none⟩) L.length cap, .int .i64 0, .int .i64 0, .slice none 0 0, .int .i64 0, .int .i64 0, .int .i64 0] 95) = w1
  intro hal hrb
  have hc : ∀ j, w1.cell? ⟨w.heap.size, j, none⟩ = _ := fun j => cell_of_row _ _ j _ _ (0, 0) hrb
  have hr : RfS w1 w.heap.size ere mb mo cap L ⟨0, []⟩ 64 (.slice none 0 0) :=
    ⟨(Array.getElem?_eq_some_iff.1 hrb).1, hc 0, hc 1, hc 2, hc 3, hc 4, hc 5, hc 6, hc 7, frozen_cls hrb, World.ownsRow_nil _ _ _ _, HM.out.below hal, HM.out.lt, Nat.zero_le _, Nat.zero_le _, Nat.le_refl _⟩
  have HB1 := Lib.hid hal
  have HR1 := Lib.hid hr
  clear hal hrb hc hr
  go_wp2_with fail
  refine (rsides_all 64 (Nat.le_refl _) _ _ _ HR1.out).mono ?_
  rintro e w2 ⟨hb2, hp2⟩
  have HB2 := Lib.hid (show Below w.heap.size w w2 from ⟨hb2.os.trans HB1.out.os, hb2.tape.trans HB1.out.tape, hb2.output.trans HB1.out.output, Nat.le_trans HB1.out.size hb2.size, fun i hi => (hb2.block i (Nat.lt_of_lt_of_le hi HB1.out.size) (by omega) (by simp [Value.ownBlock])).trans (HB1.out.block i hi)⟩)
  cases hsd : sidesK ere L 64 ⟨0, []⟩ with
  | no er p =>
    rw [hsd] at hp2
    obtain ⟨rfl, her, q1, q2, q3⟩ := hp2
    have hne : ((er : Int) != 0) = true := by rw [bne_iff_ne]; omega
    have HE := Lib.hid (show parseL ere L = .error (er, p) by rw [HP.out, hsd])
    clear hb2 hsd her HP
    go_wp2_with fail
    refine wp_region_segs (X := none) 11 [] [0, 1, 2, 3, 4, 5, 6, 7, 8, 9, 10] (by kernel_rfl) (by kernel_rfl) rfl (fun _ _ _ _ _ h => h) ?_
    simp only [wpSegs, pickSegs_nil, pickOps_nil, pickOps_cons, List.getD_cons_zero, List.getD_cons_succ, List.drop_succ_cons, List.drop_nil]
    repeat (go_big_quiet_step (fail))
    refine wpQuiet_nil ?_
    go_wp2_with fail
    go_ret3
    exact ⟨by rw [HE.out]; rfl, HB2.out.drew⟩
  | ok re t =>
    rw [hsd] at hp2
    obtain ⟨v, ev2, rfl, hr2, hn2, hnd2⟩ := hp2
    have htop := sidesK_top hsd
    have hgood := nodeN_good re _ _ _ _ _ htop
    have hok := shaped_ok (fun p hp => hgood.2.2 p (Nat.zero_le _) hp)
    have hpos : 0 < re.length := hgood.1
    have hsm := sidesK_small HM.out.u 64 (by simp) hsd
    have hri := (sidesK_rise HM.out.u 64 (by simp) hsd).le
    obtain ⟨wt, hwt⟩ := weighN_of_nodeN re _ _ _ _ _ _ htop
    have hops : ∀ x ∈ re, -128 ≤ x.op ∧ x.op ≤ 127 := fun x hx => by
      obtain ⟨p, hp⟩ := List.mem_iff_getElem?.1 hx
      obtain ⟨y, hy, hg, _⟩ := hgood.2.2 p (Nat.zero_le _) (List.getElem?_eq_some_iff.1 hp).1
      rw [hp] at hy
      cases hy
      have := good_ops hg
      omega
    obtain ⟨g, cp, rfl, hg1, hnd⟩ := hnd2.at hpos (by have := HL.out; simp only at hsm; omega) hok.2
    have HF := Lib.hid (show parseL ere L = if 16384 < wt then .error (48, L.length) else .ok re by rw [HP.out, hsd]; simp only [hwt])
    have HN2 := Lib.hid (hnd2.mono HB1.out.size)
    have HWC := Lib.hid (rweigh_any (cap := cp) hok.1 hops 260 0 (wt, re.length) w2 0 rfl hnd hwt)
    have c6 := hr2.c6
    have rbl := hr2.lt
    clear hb2 hsd HP hr2 hn2 hnd2 htop hgood hok hsm hri hwt hops hnd
    go_wp2_with fail
    refine HWC.out.mono ?_; rintro e w3 ⟨rfl, hb3⟩
    have HB3 := Lib.hid (HB2.out.trans (hb3.mono HB2.out.size))
    have HN3 := Lib.hid (HN2.out.below hb3)
    clear hb3 HN2
    by_cases hq : 16384 < wt
    · have HE := Lib.hid (show parseL ere L = .error (48, L.length) by rw [HF.out, if_pos hq])
      go_wp2_with fail
      go_ret3
      exact ⟨by rw [HE.out]; rfl, HB3.out⟩
    · have HE := Lib.hid (show parseL ere L = .ok re by rw [HF.out, if_neg hq])
      go_wp2_with fail
      go_ret3
      exact ⟨by rw [HE.out]; exact ⟨_, rfl, HN3.out⟩, HB3.out⟩
end Go.Proofs.YtbdjcmhfcdamiaaGreatDoor

/- SyntaxParses' walk. -/
namespace Go.Proofs.YtbdjcmhfcdamiaaGreatDoor
open Go.RowKit

/-- What Parse answers, whether or not it is a tree. -/
theorem par_row (ere : Bool) {L : List Mk} (hu : ∀ i, i < L.length → (markAt L i).b < 256) : ∃ (R : List Nd) (er i : Nat), R.length ≤ 16386 ∧ (∀ x ∈ R, x.kids ≤ 9223372036854775807) ∧
    ∀ w e w', ParR w (parseL ere L) e w' → ∃ o c, e = .returned (.tuple #[.slice o R.length c, .int .i64 (er : Nat), .int .i64 (i : Nat)]) ∧ Nds w' w.heap.size (.slice o R.length c) R := by
  cases hp : parseL ere L with
  | error q =>
    obtain ⟨er, i⟩ := q
    exact ⟨[], er, i, by simp, by simp, fun w e w' h => ⟨none, 0, h, Nds.nil _ _⟩⟩
  | ok re =>
    obtain ⟨hfl, hfk, _⟩ := parseL_fit hu hp
    refine ⟨re, 0, 0, hfl, fun x hx => by have := hfk x hx; omega, fun w e w' h => ?_⟩
    obtain ⟨v, h1, h2⟩ := h
    obtain ⟨o, c, rfl⟩ := own_form h2
    exact ⟨o, c, h1, h2⟩
theorem ndv_of {w : World} {b : Nat} {o : Option Addr} {c : Nat} {R : List Nd} (h : Nds w b (.slice o R.length c) R) (hl : R.length ≤ 16386) (hk : ∀ x ∈ R, x.kids ≤ 9223372036854775807) : NdV w o R := by
  obtain ⟨oa, cp, h1, _, h2⟩ := h.toV2 (by omega) hk
  cases h1
  exact h2
theorem MkV.inR {w : World} {oa : Option Addr} {cap : Nat} {L : List Mk} (h : MkV w oa cap L) (hl : L.length ≤ 4294967296) : MkR w oa L :=
  ⟨hl, fun hp => by
    obtain ⟨mb, mo, h1, h2, h3⟩ := h.at_ hp
    refine ⟨mb, mo, h1, h2, fun i m hm => ?_⟩
    obtain ⟨hi, rfl⟩ := List.getElem?_eq_some_iff.1 hm
    have e : markAt L i = L[i] := by simp [markAt, List.getD_eq_getElem?_getD, hi]
    have := h3 i hi
    rw [e] at this
    exact this⟩
theorem take_two {xs : List Value} {e : Nat} (h : e * 2 + 1 < xs.length) (a b : Value) : ((xs.set (e * 2) a).set (e * 2 + 1) b).take ((e + 1) * 2) = xs.take (e * 2) ++ [a, b] := by
  rw [show (e + 1) * 2 = e * 2 + 1 + 1 by omega, List.take_add_one, List.take_add_one]
  rw [List.take_set_of_le (by omega), List.take_set_of_le (Nat.le_refl _)]
  have h1 : ((xs.set (e * 2) a).set (e * 2 + 1) b)[e * 2]? = some a := by
    rw [List.getElem?_set_ne (by omega), List.getElem?_set_self (by omega)]
  have h2 : ((xs.set (e * 2) a).set (e * 2 + 1) b)[e * 2 + 1]? = some b := by
    rw [List.getElem?_set_self (by rw [List.length_set]; omega)]
  rw [h1, h2]
  simp
set_option maxRecDepth 100000 in
set_option maxHeartbeats 25600000 in
theorem parses_all {w : World} {L : List Mk} {oa : Option Addr} {ca : Nat} (ere : Bool) (hv : MkV w oa ca L) :
    Calls Tryz.prog 4 #[.bool ere, .slice oa L.length ca] w fun e w' => e = .returned (.bool true) ∧ Below w.heap.size w w' := by
  have HV := Lib.hid hv
  have HV0 := Lib.hid hv
  clear hv
  go_enter Tryz.func4, Tryz.ntmps4
  go_wp2_with fail
  refine (long_call _).mono ?_; rintro e wa ⟨rfl, rfl⟩
  by_cases q1 : (2147483647 : Int) < (L.length : Int)
  · rw [decide_eq_true q1]
    clear q1
    go_wp2_with fail
    go_ret
    exact ⟨rfl, Below.refl _ _⟩
  rw [decide_eq_false q1]
  have HLEN := Lib.hid (show L.length ≤ 2147483647 by omega)
  have hL64 : (L.length : Int) ≤ 2147483647 := by omega
  clear q1
  go_wp2_with fail
  refine (wideMarks_call HV.out HLEN.out).mono ?_; rintro e w1 ⟨⟨g, rfl, hw1⟩, hb1⟩
  have HB1 := Lib.hid hb1
  have HV1 := Lib.hid (HV.out.below hb1)
  have HW1 := Lib.hid hw1
  have HGG := Lib.hid hw1.lt
  clear hb1 hw1 HV
  have HU := Lib.hid (show ∀ m ∈ L, m.b < 256 from fun m hm => by
    obtain ⟨i, hi⟩ := List.getElem?_of_mem hm
    obtain ⟨hlt, rfl⟩ := List.getElem?_eq_some_iff.1 hi
    have := HV1.out.u i hlt
    simpa [markAt, List.getD_eq_getElem?_getD, hlt] using this)
  obtain ⟨R, er, pi, hRl, hRk, hRP⟩ := par_row ere (L := L) HV1.out.u
  have HRK := Lib.hid hRk
  have HRP := Lib.hid hRP
  have hne1 : ((er : Int) != (er : Int)) = false := by simp
  have hne2 : ((pi : Int) != (pi : Int)) = false := by simp
  clear hRk hRP
  have HC1 := parse_call (ere := ere) (cap := L.length + 64) (HW1.out.toV HU.out).arg
  have HCC := Lib.hid HC1
  clear HC1
  go_wp2_with fail
  refine HCC.out.mono ?_; rintro e w2 ⟨hp2, hb2⟩
  obtain ⟨o1, c1, rfl, hr1⟩ := HRP.out _ _ _ hp2
  have HB2 := Lib.hid (HB1.out.trans (hb2.mono HB1.out.size))
  have HV2 := Lib.hid (HV1.out.below hb2)
  have HW2 := Lib.hid (HW1.out.below hb2)
  have HR1 := Lib.hid hr1
  have HL1 := Lib.hid hr1.lt
  have S2 := Lib.hid hb2.size
  have HC1 := parse_call (ere := ere) (cap := L.length + 64) (HW2.out.toV HU.out).arg
  clear hp2 hr1 hb2 HB1 HV1 HW1 HCC
  have HCC := Lib.hid HC1
  clear HC1
  go_wp2_with fail
  refine HCC.out.mono ?_; rintro e w3 ⟨hp3, hb3⟩
  obtain ⟨o2, c2, rfl, hr2⟩ := HRP.out _ _ _ hp3
  have HB3 := Lib.hid (HB2.out.trans (hb3.mono HB2.out.size))
  have HV3 := Lib.hid (HV2.out.below hb3)
  have HW3 := Lib.hid (HW2.out.below hb3)
  have HR13 := Lib.hid (HR1.out.below hb3)
  have HR2 := Lib.hid hr2
  have HL2 := Lib.hid hr2.lt
  have S3 := Lib.hid hb3.size
  have HC1 := rparse_call (ere := ere) (cap := ca) HV3.out.arg
  clear hp3 hr2 hb3 HB2 HV2 HW2 HCC HR1
  have HCC := Lib.hid HC1
  clear HC1
  go_wp2_with fail
  refine HCC.out.mono ?_; rintro e w4 ⟨hp4, hb4⟩
  obtain ⟨o3, c3, rfl, hr3⟩ := HRP.out _ _ _ hp4
  have HB4 := Lib.hid (HB3.out.trans (hb4.mono HB3.out.size))
  have HV4 := Lib.hid (HV3.out.below hb4)
  have HW4 := Lib.hid (HW3.out.below hb4)
  have HR14 := Lib.hid (HR13.out.below hb4)
  have HR24 := Lib.hid (HR2.out.below hb4)
  have HR3 := Lib.hid hr3
  have S4 := Lib.hid hb4.size
  clear hp4 hr3 hb4 HB3 HV3 HW3 HCC HR13 HR2 HRP
  go_wp2_with fail
  refine (eqNodes_call (ca := c1) (cb := c3) (ndv_of HR14.out hRl HRK.out) (ndv_of HR3.out hRl HRK.out)).mono ?_; rintro e w5 ⟨rfl, hb5⟩
  rw [show decide (R = R) = true by simp]
  have HB5 := Lib.hid (HB4.out.trans (hb5.mono HB4.out.size))
  have HV5 := Lib.hid (HV4.out.below hb5)
  have HW5 := Lib.hid (HW4.out.below hb5)
  have HR15 := Lib.hid (HR14.out.below hb5)
  have HR25 := Lib.hid (HR24.out.below hb5)
  have HR35 := Lib.hid (HR3.out.below hb5)
  have S5 := Lib.hid hb5.size
  clear hb5 HB4 HV4 HW4 HR14 HR24 HR3
  go_wp2_with fail
  refine (eqNodes_call (ca := c2) (cb := c3) (ndv_of HR25.out hRl HRK.out) (ndv_of HR35.out hRl HRK.out)).mono ?_; rintro e w6 ⟨rfl, hb6⟩
  rw [show decide (R = R) = true by simp]
  have HB6 := Lib.hid (HB5.out.trans (hb6.mono HB5.out.size))
  have HV6 := Lib.hid (HV5.out.below hb6)
  have HW6 := Lib.hid (HW5.out.below hb6)
  have HR16 := Lib.hid (HR15.out.below hb6)
  have HR26 := Lib.hid (HR25.out.below hb6)
  have S6 := Lib.hid hb6.size
  clear hb6 HB5 HV5 HW5 HR15 HR25 HR35
  go_wp2_with fail
  refine (eqMarksR_call (ca := L.length + 64) (cb := ca) ((HW6.out.toV HU.out).inR (by omega)) (HV6.out.inR (by omega))).mono ?_; rintro e w7 ⟨rfl, hb7⟩
  rw [show decide (L = L) = true by simp]
  have HB7 := Lib.hid (HB6.out.trans (hb7.mono HB6.out.size))
  have HV7 := Lib.hid (HV6.out.below hb7)
  have HW7 := Lib.hid (HW6.out.below hb7)
  have HR17 := Lib.hid (HR16.out.below hb7)
  have HR27 := Lib.hid (HR26.out.below hb7)
  have S7 := Lib.hid hb7.size
  clear hb7 HB6 HV6 HW6 HR16 HR26
  go_wp2_with fail
  refine (spareMarks_call HW7.out HLEN.out).mono ?_; rintro e w8 ⟨rfl, rfl⟩
  go_upto_region 10 with fail
  have hbag : bagAt (w7.alloc (.cells #[.slice none 0 0, .slice none 0 0, .slice none 0 0, .slice none 0 0, .slice none 0 0, .slice none 0 0, .slice none 0 0, .slice none 0 0, .slice none 0 0, .slice none 0 0, .slice none 0 0, .slice none 0 0, .slice none 0 0, .slice none 0 0, .slice none 0 0, .slice none 0 0, .slice none 0 0, .slice none 0 0, .slice none 0 0] 61)) w7.heap.size (.slice none 0 0) (.slice none 0 0) (.slice none 0 0) := bagAt.new w7
  have hkb : Kept w7 (w7.alloc (.cells #[.slice none 0 0, .slice none 0 0, .slice none 0 0, .slice none 0 0, .slice none 0 0, .slice none 0 0, .slice none 0 0, .slice none 0 0, .slice none 0 0, .slice none 0 0, .slice none 0 0, .slice none 0 0, .slice none 0 0, .slice none 0 0, .slice none 0 0, .slice none 0 0, .slice none 0 0, .slice none 0 0, .slice none 0 0] 61)) (fun _ => False) := Kept.alloc _ _ _
  revert hbag hkb
  generalize w7.alloc (.cells #[.slice none 0 0, .slice none 0 0, .slice none 0 0, .slice none 0 0, .slice none 0 0, .slice none 0 0, .slice none 0 0, .slice none 0 0, .slice none 0 0, .slice none 0 0, .slice none 0 0, .slice none 0 0, .slice none 0 0, .slice none 0 0, .slice none 0 0, .slice none 0 0, .slice none 0 0, .slice none 0 0, .slice none 0 0] 61) = w15
  generalize hgb : w7.heap.size = gb
  intro hbag hkb
  have HGB := Lib.hid hgb
  have HBag := Lib.hid hbag
  have HKB := Lib.hid hkb
  clear hbag hkb hgb
  go_wp2_with fail
  refine (addNodes_call HBag.out (vs := []) (World.ownsRow_nil _ _ _ _) (by simp) o1 R.length c1).mono ?_; rintro e16 w16 ⟨rfl, b16, hbag, hrow, hk, hbk⟩
  have HBag2 := Lib.hid hbag
  have HRow2 := Lib.hid hrow
  have HKB2 := Lib.hid (HKB.out.trans hk fun k h1 h2 => by rcases h2 with h2 | h2; (have := HGB.out; omega); simp [Value.ownBlock] at h2)
  clear hbag hrow hk hbk HBag HKB
  go_wp2_with fail
  refine (addNodes_call HBag2.out HRow2.out (by simp) o2 R.length c2).mono ?_; rintro e17 w17 ⟨rfl, b17, hbag, hrow, hk, hbk⟩
  have HBag3 := Lib.hid hbag
  have HRow3 := Lib.hid hrow
  have HKB3 := Lib.hid (HKB2.out.trans hk fun k h1 h2 => by rcases h2 with h2 | h2; (have := HGB.out; omega); (have := (HRow2.out.lt k h2).1; have := HGB.out; omega))
  clear hbag hrow hk hbk HBag2 HKB2 HRow2
  go_wp2_with fail
  refine (addMarks_call HBag3.out (vs := []) (World.ownsRow_nil _ _ _ _) (by simp) (some ⟨g, 0, none⟩) L.length (L.length + 64)).mono ?_; rintro e19 w19 ⟨rfl, b19, hbag, hrow, hk, hbk⟩
  have HBag5 := Lib.hid hbag
  have HRowM := Lib.hid hrow
  have HRow5 := Lib.hid (hk.row HRow3.out fun k h1 h2 => by have := (HRow3.out.lt k h1).1; rcases h2 with h2 | h2; omega; simp [Value.ownBlock] at h2)
  have HKB5 := Lib.hid (HKB3.out.trans hk fun k h1 h2 => by rcases h2 with h2 | h2; (have := HGB.out; omega); simp [Value.ownBlock] at h2)
  clear hbag hrow hk hbk HBag3 HKB3 HRow3
  have HR1f := Lib.hid (HKB5.out.row HR17.out fun _ _ h => h)
  have HR2f := Lib.hid (HKB5.out.row HR27.out fun _ _ h => h)
  have HWf := Lib.hid (HKB5.out.row HW7.out.short fun _ _ h => h)
  have ORD := Lib.hid (show w.heap.size ≤ g ∧ g < w1.heap.size ∧ w1.heap.size ≤ w2.heap.size ∧ w2.heap.size ≤ w3.heap.size ∧ w3.heap.size ≤ gb by
    have := S2.out; have := S3.out; have := S4.out; have := S5.out; have := S6.out; have := S7.out; have := HGG.out; have := HGB.out; omega)
  have HB19 := Lib.hid (HB7.out.trans (HKB5.out.below (k := w.heap.size) HB7.out.size fun _ _ h => h))
  have hV19 : Below w.heap.size w w19 := HB19.out
  clear HB7 HR17 HR27 HW7
  have hN : BgN w19 w.heap.size [.slice o1 R.length c1, .slice o2 R.length c2] [R.length, R.length] (fun _ => ndsC R) gb b17 := by
    have o := ORD.out
    refine Bgl.of rfl (fun i v n hv hn => ?_) (fun i v k hv hk => ?_) (rising_two (fun x y hx hy => ?_)).ap HRow5.out (by omega) (HBag5.out.cell 8) HBag5.out.lt
    · match i, hv, hn with
      | 0, hv, hn => cases hv; cases hn; exact ownsRow_mono HR1f.out (by omega)
      | 1, hv, hn => cases hv; cases hn; exact ownsRow_mono HR2f.out (by omega)
    · rcases blk_two ⟨i, v, hv, hk⟩ with h | h
      · have := HL1.out k h; omega
      · have := HL2.out k h; omega
    · have := HL1.out x hx; have := HL2.out y hy; omega
  have hM : BgM w19 w.heap.size [.slice (some ⟨g, 0, none⟩) L.length (L.length + 64)] [L.length] (fun _ => mksC L) gb b19 := by
    have o := ORD.out
    refine Bgl.of rfl (fun i v n hv hn => ?_) (fun i v k hv hk => ?_) (rising_one _).ap HRowM.out (by omega) (HBag5.out.cell 4) HBag5.out.lt
    · match i, hv, hn with
      | 0, hv, hn => cases hv; cases hn; exact ownsRow_mono HWf.out (by omega)
    · have h := blk_one ⟨i, v, hv, hk⟩
      have h' : g = k := by simpa [Value.ownBlock] using h
      omega
  have hB : BgB w19 w.heap.size [] [] (fun _ => []) gb (.slice none 0 0) :=
    Bgl.of rfl (fun i v n hv hn => by simp at hv) (fun i v k hv hk => by simp at hv) rising_nil.ap (World.ownsRow_nil _ _ _ _) (by have := ORD.out; omega) (HBag5.out.cell 0) HBag5.out.lt
  have hbag3 : Bag3 w19 w.heap.size gb [] [] (fun _ => []) (.slice none 0 0) [.slice (some ⟨g, 0, none⟩) L.length (L.length + 64)] [L.length] (fun _ => mksC L) b19 [.slice o1 R.length c1, .slice o2 R.length c2] [R.length, R.length] (fun _ => ndsC R) b17 := by
    have o := ORD.out
    refine ⟨HBag5.out, hB, hM, hN, fun k hk => absurd hk (blk_nil k), fun k hk => absurd hk (blk_nil k), fun k hk => ⟨blk_nil k, by simp [Value.ownBlock]⟩, fun k hk => ⟨fun hm => ?_, fun hm => ?_⟩, fun k hk => ⟨blk_nil k, by simp [Value.ownBlock]⟩, fun k hk => ⟨fun hm => ?_, fun hm => ?_⟩⟩
    · have h' : g = k := by simpa [Value.ownBlock] using blk_one hk
      rcases blk_two hm with h | h
      · have := HL1.out k h; omega
      · have := HL2.out k h; omega
    · have h' : g = k := by simpa [Value.ownBlock] using blk_one hk
      have := (HRow5.out.lt k hm).1
      omega
    · have h' : g = k := by simpa [Value.ownBlock] using blk_one hm
      rcases blk_two hk with h | h
      · have := HL1.out k h; omega
      · have := HL2.out k h; omega
    · have := (HRowM.out.lt k hm).1
      rcases blk_two hk with h | h
      · have := HL1.out k h; omega
      · have := HL2.out k h; omega
  have HBG3 := Lib.hid hbag3
  clear hbag3 hB hM hN hV19 HV7 HKB5
  go_wp2_with fail
  refine (Apart_call (by have := HB19.out.size; omega) (by simp) (by simp) (by simp) (fun i n hn => by simp at hn) (fun i n hn => ?_) (fun i n hn => ?_) HBG3.out).mono ?_
  · match i, hn with
    | 0, hn => cases hn; have := HLEN.out; omega
  · match i, hn with
    | 0, hn => cases hn; omega
    | 1, hn => cases hn; omega
  rintro e20 w20 ⟨rfl, hk20, hbg20⟩
  have hblk : ∀ k, k < w.heap.size → ¬ (Blk [] k ∨ Blk [.slice (some ⟨g, 0, none⟩) L.length (L.length + 64)] k ∨ Blk [.slice o1 R.length c1, .slice o2 R.length c2] k) := fun k h1 h2 => by
    have o := ORD.out
    rcases h2 with h2 | h2 | h2
    · exact blk_nil k h2
    · have h' : g = k := by simpa [Value.ownBlock] using blk_one h2
      omega
    · rcases blk_two h2 with h | h
      · have := HL1.out k h; omega
      · have := HL2.out k h; omega
  have HB20 := Lib.hid (HB19.out.trans (hk20.below (k := w.heap.size) HB19.out.size hblk))
  obtain ⟨X, hX⟩ : ∃ X, w20.ownsRow w.heap.size 33 2 (.slice (some ⟨g, 0, none⟩) L.length (L.length + 64)) L.length X := ⟨_, hbg20.m.a 0 _ _ rfl rfl⟩
  have HX := Lib.hid hX
  clear hX hk20 hbg20 hblk HBG3 HB19 HBag5 HRowM HRow5 HR1f HR2f HWf HL1 HL2 S2 S3 S4 S5 S6 S7 HGB
  obtain ⟨M, hM⟩ : ∃ M, L.reverse = M := ⟨_, rfl⟩
  have hMl : M.length = L.length := by rw [← hM]; simp
  have HML := Lib.hid hMl
  have HME := Lib.hid hM
  have HMU := Lib.hid (show ∀ m ∈ M, m.b < 256 from fun m hm => HU.out m (by rw [← hM] at hm; simpa using hm))
  clear hM hMl
  have hgw : w.heap.size ≤ g := ORD.out.1
  go_wp2_with fail
  go_loopg [16] L.length (fun n iv wr => ∃ (e : Nat) (xs : List Value), iv = .int .i64 (e : Nat) ∧ n = L.length - e ∧ e ≤ L.length ∧ wr.ownsRow w.heap.size 33 2 (.slice (some ⟨g, 0, none⟩) L.length (L.length + 64)) L.length xs ∧ Hid (xs.take (e * 2) = mksC (M.take e)) ∧ Below w.heap.size w wr)
  case atStart => exact ⟨0, _, rfl, by omega, by omega, HX.out, Lib.hid (by simp [mksC]), HB20.out⟩
  case round =>
    obtain ⟨e, xs, rfl, hg, he, ho, HT, hb⟩ := hrel
    have HG := Lib.hid hg
    have HO := Lib.hid ho
    have HBr := Lib.hid hb
    have HVr := Lib.hid (HV0.out.below hb)
    clear hg hb HX HB20
    by_cases hlt : e < L.length
    · have hlt' : (e : Int) < (L.length : Int) := by omega
      obtain ⟨j, hj⟩ : ∃ j, j = L.length - 1 - e := ⟨_, rfl⟩
      have hji : (L.length : Int) - 1 - (e : Int) = (j : Int) := by omega
      have hjl : j < L.length := by omega
      have hjl' : (j : Int) < (L.length : Int) := by omega
      obtain ⟨mb, mo, rfl, hml, hcs⟩ := HVr.out.at_ (by omega)
      obtain ⟨z0, z1⟩ := hcs j hjl
      have HMJ := Lib.hid (show M[e]? = some (markAt L j) by
        rw [← HME.out, List.getElem?_reverse (by omega), ← hj]
        simp [markAt, List.getD_eq_getElem?_getD, hjl])
      generalize markAt L j = m at z0 z1 HMJ
      obtain ⟨xb, xp⟩ := m
      simp only at z0 z1
      have hgl := (ho.lt g rfl).2
      have hf := World.ownsRow.frozenAt ho
      have f0 := hf (e * 2)
      have f1 := hf (e * 2 + 1)
      have hxl := ho.1
      have q0 := World.ownsRow.cellAt ho (e * 2) (by omega)
      have q1 := World.ownsRow.cellAt ho (e * 2 + 1) (by omega)
      rw [List.getElem?_eq_getElem (by omega)] at q0 q1
      have HXL := Lib.hid hxl
      have HNX := Lib.hid (show ((xs.set (e * 2) (.int .u8 (xb : Nat))).set (e * 2 + 1) (.bool xp)).take ((e + 1) * 2) = mksC (M.take (e + 1)) by
        rw [take_two (by omega), HT.out, List.take_add_one, HMJ.out, mksC_append]; rfl)
      generalize xs[e * 2] = y0 at q0
      generalize xs[e * 2 + 1] = y1 at q1
      clear ho hf hcs hj hlt hxl HMJ
      go_wp2_with fail
      go_roundg (L.length - (e + 1))
      case measure => have := HG.out; omega
      case rel =>
        exact ⟨e + 1, _, by go_num, rfl, by omega, (World.ownsRow.stored (World.ownsRow.stored HO.out (e * 2) (.int .u8 (xb : Nat))).1 (e * 2 + 1) (.bool xp)).1, HNX.out, (HBr.out.setCell (p := ⟨g, e * 2, none⟩) hgw _).setCell (p := ⟨g, e * 2 + 1, none⟩) hgw _⟩
    · obtain rfl : e = L.length := by omega
      have hlt' : ¬ (L.length : Int) < (L.length : Int) := by omega
      have hxs : xs = mksC M := by
        have h := HT.out
        rw [List.take_of_length_le (by rw [ho.1]; omega), List.take_of_length_le (by rw [HML.out]; omega)] at h
        exact h
      subst hxs
      obtain ⟨o9, c9, hq9, hv9⟩ := Mks.toV (show Mks wr w.heap.size (.slice (some ⟨g, 0, none⟩) L.length (L.length + 64)) M from by unfold Mks; rw [HML.out]; exact HO.out) (fun i hi => by
        have h := HMU.out M[i] (List.getElem_mem hi)
        simpa [markAt, List.getD_eq_getElem?_getD, hi] using h)
      simp only [Value.slice.injEq] at hq9
      obtain ⟨rfl, hlm, rfl⟩ := hq9
      clear hlm
      have HVM := Lib.hid hv9
      obtain ⟨w21, rfl⟩ : ∃ w21 : World, w21 = wr := ⟨_, rfl⟩
      have HMUI := Lib.hid hv9.u
      have HCC := copyMarks_call hv9 (by have := HML.out; omega)
      rw [HML.out] at HCC
      have HCC := Lib.hid HCC
      clear ho HT HO hv9 HVr HG
      go_wp2_with fail
      refine HCC.out.mono ?_; rintro e11 w22 ⟨⟨v5, rfl, hm5⟩, hb22⟩
      obtain ⟨o5, c5, hq5, hv5⟩ := Mks.toV hm5 HMUI.out
      rw [HML.out] at hq5
      subst hq5
      have HV5 := Lib.hid hv5
      have HB22 := Lib.hid (HBr.out.trans (hb22.mono HBr.out.size))
      have HVM2 := Lib.hid (HVM.out.below hb22)
      obtain ⟨R2, er2, pi2, hRl2, hRk2, hRP2⟩ := par_row ere (L := M) HMUI.out
      have HRK2 := Lib.hid hRk2
      have HRP2 := Lib.hid hRP2
      have hee1 : ((er2 : Int) == (er2 : Int)) = true := by simp
      have hee2 : ((pi2 : Int) == (pi2 : Int)) = true := by simp
      have HC1 := parse_call (ere := ere) (cap := L.length + 64) HVM2.out.arg
      rw [HML.out] at HC1
      clear hm5 hv5 hb22 HBr HVM HCC hRk2 hRP2
      have HCC := Lib.hid HC1
      clear HC1
      go_wp2_with fail
      refine HCC.out.mono ?_; rintro e w23 ⟨hp23, hb23⟩
      obtain ⟨o6, c6, rfl, hr6⟩ := HRP2.out _ _ _ hp23
      have HB23 := Lib.hid (HB22.out.trans (hb23.mono HB22.out.size))
      have HV53 := Lib.hid (HV5.out.below hb23)
      have HR6 := Lib.hid hr6
      have HC1 := rparse_call (ere := ere) (cap := c5) HV53.out.arg
      rw [HML.out] at HC1
      clear hp23 hr6 hb23 HB22 HV5 HVM2 HCC
      have HCC := Lib.hid HC1
      clear HC1
      go_wp2_with fail
      refine HCC.out.mono ?_; rintro e w24 ⟨hp24, hb24⟩
      obtain ⟨o7, c7, rfl, hr7⟩ := HRP2.out _ _ _ hp24
      have HB24 := Lib.hid (HB23.out.trans (hb24.mono HB23.out.size))
      have HR64 := Lib.hid (HR6.out.below hb24)
      have HR7 := Lib.hid hr7
      clear hp24 hr7 hb24 HB23 HV53 HCC HR6 HRP2
      go_wp2_with fail
      refine (eqNodes_call (ca := c6) (cb := c7) (ndv_of HR64.out hRl2 HRK2.out) (ndv_of HR7.out hRl2 HRK2.out)).mono ?_; rintro e w25 ⟨rfl, hb25⟩
      rw [show decide (R2 = R2) = true by simp]
      have HB25 := Lib.hid (HB24.out.trans (hb25.mono HB24.out.size))
      clear hb25 HB24 HR64 HR7
      go_wp2_with fail
      refine works_call.mono ?_; rintro e w26 ⟨rfl, hb26⟩
      have HB26 := Lib.hid (HB25.out.trans (hb26.mono HB25.out.size))
      clear hb26
      go_wp2_with fail
      go_ret
      exact ⟨rfl, HB26.out⟩
end Go.Proofs.YtbdjcmhfcdamiaaGreatDoor
