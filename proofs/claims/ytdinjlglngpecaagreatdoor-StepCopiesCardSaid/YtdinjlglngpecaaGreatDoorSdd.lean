/- Contracts: a world of lines, mute or not: Next, told, Line, Out, Last; a queue in which nothing waits. No condition. -/
import Derived.Test.YtdinjlglngpecaaGreatDoorSdc
import Derived.Deep.LoopGhost
namespace Go.Proofs.YtdinjlglngpecaaGreatDoor
open Go.RowKit

section
variable {w w' : World} {b base m ca n u s : Nat} {mu : Bool} {oa : Option Addr} {O : Nat → Option Nat} {A X : List Nat}
set_option maxRecDepth 100000 in
set_option maxHeartbeats 1600000 in
/-- Next behind the last line. -/
theorem next_none (h : WlM w b base mu oa m ca n u s O A) (hb : b < base) (hbw : base ≤ w.heap.size) (hs : s ≤ 1099511627776) (hm : m ≤ n) :
    Calls Tryz.prog 216 #[.pointer (some ⟨b, 0, none⟩)] w fun e w' => e = .returned (.tuple #[.slice none 0 0, .bool false]) ∧ ∃ O', WlM w' b base mu oa m ca n u (s + 3) O' A ∧ Adds w w' b O O' := by
  have HX := Lib.hid (note_call h hb hbw hs (.inl rfl) ⟨#[]⟩ (T := []) (Src.nil w) (by decide) (fun x hx => by cases hx))
  have hm' : (m : Int) ≤ (n : Int) := by omega
  clear h hb hbw hs hm
  go_enter Tryz.func216, Tryz.ntmps216
  go_wp2_with fail
  refine HX.out.mono ?_; rintro e w1 ⟨rfl, O1, hw, hk⟩
  have HW : Hid (WlM w1 b base mu oa m ca n u (s + 3) O1 A) := Lib.hid hw
  have HK := Lib.hid hk
  have c1 := hw.c1
  have c0 := hw.c0
  have c16 := hw.c16
  have hlt := hw.lt
  clear hw hk HX
  go_upto_region 4 with fail
  refine wp_region_segs (X := none) 10 [] [0, 1, 2, 3, 4, 5, 6, 7, 8, 9] (by kernel_rfl) (by kernel_rfl) rfl (fun _ _ _ _ _ h => h) ?_
  simp only [wpSegs, pickSegs_nil, pickOps_nil, pickOps_cons, List.getD_cons_zero, List.getD_cons_succ, List.drop_succ_cons, List.drop_nil]
  repeat (go_big_quiet_step (fail))
  refine wpQuiet_nil ?_
  go_wp2_with fail
  go_ret2
  exact ⟨rfl, O1, HW.out.below (Below.refl _ _).drew, HK.out.below (Below.refl _ _).drew⟩
/-- Lines in memory, all below a place. -/
def LnB (w : World) (B : Nat) (oa : Option Addr) (LL : List Lin) : Prop :=
  0 < LL.length → ∃ nb no, oa = some ⟨nb, no, none⟩ ∧ nb < B ∧ ∀ i l, LL[i]? = some l → w.cell? ⟨nb, no + i, none⟩ = some (.slice l.ob l.T.length l.cb) ∧ l.T.length ≤ 140737488355328 ∧ (0 < l.T.length → ∃ g o, l.ob = some ⟨g, o, none⟩ ∧ g < B ∧ ∀ j c, l.T[j]? = some c → w.cell? ⟨g, o + j, none⟩ = some (.int .u8 (c : Nat)))
theorem LnB.below {B : Nat} {LL : List Lin} (h : LnB w B oa LL) (hb : Below B w w') : LnB w' B oa LL := fun hp => by
  obtain ⟨nb, no, h1, h2, h3⟩ := h hp
  refine ⟨nb, no, h1, h2, fun i l hl => ?_⟩
  obtain ⟨e1, e2, e3⟩ := h3 i l hl
  refine ⟨(hb.cell (p := ⟨nb, no + i, none⟩) h2).trans e1, e2, fun hq => ?_⟩
  obtain ⟨g, o, q1, q2, q3⟩ := e3 hq
  exact ⟨g, o, q1, q2, fun j c hj => (hb.cell (p := ⟨g, o + j, none⟩) q2).trans (q3 j c hj)⟩
set_option maxRecDepth 100000 in
set_option maxHeartbeats 3200000 in
/-- Next: a line, with room behind it. -/
theorem next_some {B : Nat} (h : WlM w b base mu oa m ca n u s O A) (hb : b < base) (hbw : base ≤ w.heap.size) (hB : B ≤ b) (hs : s ≤ 1099511627776) (hmu : mu = false → s < 450) (hm : n < m) (hmz : m ≤ 4611686018427387903) {LL : List Lin} (hL : LnB w B oa LL) {l : Lin} (hl : LL[n]? = some l) :
    Calls Tryz.prog 216 #[.pointer (some ⟨b, 0, none⟩)] w fun e w' => (∃ g, e = .returned (.tuple #[.slice (some ⟨g, 0, none⟩) l.T.length (l.T.length + 64), .bool true]) ∧ WideB w' w.heap.size g l.T.length l.T) ∧ ∃ O', WlM w' b base mu oa m ca (n + 1) u (s + 5) O' A ∧ Adds w w' b O O' := by
  have HX := Lib.hid (note_call h hb hbw hs (.inl rfl) ⟨#[]⟩ (T := []) (Src.nil w) (by decide) (fun x hx => by cases hx))
  have HM := Lib.hid hmu
  have HBW := Lib.hid hbw
  have HO : Hid (∀ k, foot O k → base ≤ k ∧ k < w.heap.size) := Lib.hid fun _ => h.footLt
  have HL := Lib.hid hL
  have HLL := Lib.hid hl
  have HBB := Lib.hid hb
  have HB := Lib.hid hB
  have HLT := Lib.hid h.lt
  have hm' : (n : Int) < (m : Int) := by omega
  have hn2 : (n : Int) ≤ 4611686018427387903 := by omega
  clear h hb hbw hmu hB hs hm hmz hL hl
  go_enter Tryz.func216, Tryz.ntmps216
  go_wp2_with fail
  refine HX.out.mono ?_; rintro e w1 ⟨rfl, O1, hw, hk⟩
  have HW : Hid (WlM w1 b base mu oa m ca n u (s + 3) O1 A) := Lib.hid hw
  have HK := Lib.hid hk
  have c1 := hw.c1
  have c0 := hw.c0
  have c16 := hw.c16
  have hlt := hw.lt
  clear hw hk HX
  go_upto_region 4 with fail
  refine wp_region_segs (X := none) 10 [] [0, 1, 2, 3, 4, 5, 6, 7, 8, 9] (by kernel_rfl) (by kernel_rfl) rfl (fun _ _ _ _ _ h => h) ?_
  simp only [wpSegs, pickSegs_nil, pickOps_nil, pickOps_cons, List.getD_cons_zero, List.getD_cons_succ, List.drop_succ_cons, List.drop_nil]
  repeat (go_big_quiet_step (fail))
  refine wpQuiet_nil ?_
  clear c1 c0 c16
  have HW2 := Lib.hid (HW.out.below (Below.refl _ _).drew)
  have HK2 := Lib.hid (HK.out.below (Below.refl _ _).drew)
  obtain ⟨W, hW⟩ : ∃ W, w1.drew = W := ⟨_, rfl⟩
  rw [hW] at HW2 HK2 ⊢
  clear hW hlt HW HK
  have c16 := HW2.out.c16
  have z16 := HW2.out.fz 16
  have hlt := HW2.out.lt
  go_upto_region 7 with fail
  rw [show (n : Int) + 1 = ((n + 1 : Nat) : Int) by omega]
  have HW3 := Lib.hid (HW2.out.setN HBB.out (n + 1))
  have HK3 := Lib.hid (HK2.out.trans (Adds.set W b O1 16 (.int .i64 ((n + 1 : Nat) : Int))))
  obtain ⟨V, hV⟩ : ∃ V, W.setCell ⟨b, 16, none⟩ (.int .i64 ((n + 1 : Nat) : Int)) = V := ⟨_, rfl⟩
  rw [hV] at HW3 HK3 ⊢
  clear hV c16 z16 hlt HW2 HK2
  have hbe : Below B w V := HK3.out.kept.below (by have := HB.out; have := HLT.out; omega) fun j hj e => by have := HB.out; exact e.elim (fun e => by omega) fun e => by have := (HO.out _ e).1; have := HBB.out; omega
  have hn : n < LL.length := (List.getElem?_eq_some_iff.1 HLL.out).1
  obtain ⟨nb, no, hoa, hnb, hcell⟩ := (HL.out.below hbe) (by omega)
  obtain ⟨e1, e2, e3⟩ := hcell n l HLL.out
  have hbt : BtM V.drew l.ob l.T := fun hq => by
    obtain ⟨g, o, q1, q2, q3⟩ := e3 hq
    exact ⟨g, o, q1, by have := HW3.out.lt; have := HB.out; show g < V.heap.size; omega, q3⟩
  have HLE := Lib.hid (lends_call (HW3.out.below (Below.refl _ _).drew) HBB.out (Nat.le_trans HBW.out HK3.out.kept.size) (fun q => by have := HM.out q; omega) (cb := l.cb) hbt e2)
  have c0 := HW3.out.c0
  have c16 := HW3.out.c16
  rw [hoa] at c0
  have hlt := HW3.out.lt
  have hnl : nb < V.heap.size := by have := HB.out; omega
  have hk1 : ((n + 1 : Nat) : Int) - 1 = (n : Int) := by omega
  clear hbe hcell e3 hbt hn
  refine wp_region_segs (X := none) 12 [] [0, 1, 2, 3, 4, 5, 6, 7, 8, 9, 10, 11] (by kernel_rfl) (by kernel_rfl) rfl (fun _ _ _ _ _ h => h) ?_
  simp only [wpSegs, pickSegs_nil, pickOps_nil, pickOps_cons, List.getD_cons_zero, List.getD_cons_succ, List.drop_succ_cons, List.drop_zero]
  repeat (go_big_quiet_step (fail))
  refine wpQuiet_nil ?_
  go_wp2_with fail
  refine HLE.out.mono ?_; rintro e w9 ⟨⟨g, rfl, hw9⟩, O9, hh9, hb9⟩
  have HH9 := Lib.hid hh9
  have HW9 := Lib.hid hw9
  have HB9 := Lib.hid hb9
  clear hw9 hb9 hh9
  go_wp2_with fail
  go_ret2
  exact ⟨⟨g, rfl, ⟨HW9.out.1, ownsRow_mono HW9.out.2 HK3.out.kept.size⟩⟩, O9, HH9.out, (HK3.out.below (Below.refl _ _).drew).trans HB9.out⟩
set_option maxRecDepth 100000 in
set_option maxHeartbeats 1600000 in
theorem told_call (h : WlM w b base mu oa m ca n u s O A) (hu : 1 ≤ u) :
    Calls Tryz.prog 220 #[.pointer (some ⟨b, 0, none⟩)] w fun e w' => e = .returned (.int .i64 0) ∧ Below w.heap.size w w' := by
  have H := Lib.hid h
  have c17 := h.c17
  have c5 := h.c5
  have hlt := h.lt
  have q : ((u : Int) == 0) = false := beq_eq_false_iff_ne.2 (by omega)
  clear h
  go_enter Tryz.func220, Tryz.ntmps220
  go_upto_region 1 with fail
  refine wp_region_segs (X := none) 9 [] [0, 1, 2, 3, 4, 5, 6, 7, 8] (by kernel_rfl) (by kernel_rfl) rfl (fun _ _ _ _ _ h => h) ?_
  simp only [wpSegs, pickSegs_nil, pickOps_nil, pickOps_cons, List.getD_cons_zero, List.getD_cons_succ, List.drop_succ_cons, List.drop_nil]
  repeat (go_big_quiet_step (fail))
  refine wpQuiet_nil ?_
  clear c17 c5 hlt
  have hb1 : Below w.heap.size w w.drew := (Below.refl _ _).drew
  have H1 := Lib.hid (H.out.below hb1)
  have HB1 := Lib.hid hb1
  obtain ⟨W, hW⟩ : ∃ W, w.drew = W := ⟨_, rfl⟩
  rw [hW] at H1 HB1 ⊢
  clear hW hb1
  have c7 := H1.out.c7
  obtain ⟨t18, c18, _⟩ := H1.out.c18
  have hlt := H1.out.lt
  go_upto_region 3 with fail
  refine wp_region_segs (X := none) 16 [] [0, 1, 2, 3, 4, 5, 6, 7, 8, 9, 10, 11, 12, 13, 14, 15] (by kernel_rfl) (by kernel_rfl) rfl (fun _ _ _ _ _ h => h) ?_
  simp only [wpSegs, pickSegs_nil, pickOps_nil, pickOps_cons, List.getD_cons_zero, List.getD_cons_succ, List.drop_succ_cons, List.drop_nil]
  repeat (go_big_quiet_step (fail))
  refine wpQuiet_nil ?_
  go_wp2_with fail
  go_ret
  exact ⟨rfl, HB1.out.drew⟩
set_option maxRecDepth 100000 in
set_option maxHeartbeats 800000 in
theorem wline_call (h : WlM w b base mu oa m ca n u s O A) :
    Calls Tryz.prog 215 #[.pointer (some ⟨b, 0, none⟩)] w fun e w' => e = .returned (.int .i64 (n : Nat)) ∧ w = w' := by
  have c1 := h.c1
  have c16 := h.c16
  have hlt := h.lt
  clear h
  go_enter Tryz.func215, Tryz.ntmps215
  go_wp2_with fail
  go_ret
  exact ⟨rfl, rfl⟩
/-- A queue's block, in which nothing waits. -/
structure QuE (w : World) (b : Nat) : Prop where
  lt : b < w.heap.size
  c0 : w.cell? ⟨b, 0, none⟩ = some (.bool true)
  c1 : w.cell? ⟨b, 1, none⟩ = some (.slice none 0 0)
  fz : ∀ o, w.frozen? ⟨b, o, none⟩ = false
theorem QuE.below {b : Nat} (h : QuE w b) (hb : Below w.heap.size w w') : QuE w' b :=
  ⟨Nat.lt_of_lt_of_le h.lt hb.size, (hb.cell (p := ⟨b, 0, none⟩) h.lt).trans h.c0, (hb.cell (p := ⟨b, 1, none⟩) h.lt).trans h.c1, fun o => (World.frozen?_of_block (w := w) (a := ⟨b, o, none⟩) (hb.block b h.lt)).trans (h.fz o)⟩
set_option maxRecDepth 100000 in
set_option maxHeartbeats 1600000 in
theorem flush_none {b : Nat} (h : QuE w b) (f g : Value) :
    Calls Tryz.prog 95 #[.pointer (some ⟨b, 0, none⟩), f, g] w fun e w' => e = .returned (.int .i64 0) ∧ QuE w' b ∧ Kept w w' (fun k => k = b) := by
  have H := Lib.hid h
  have c0 := h.c0
  have c1 := h.c1
  have z1 := h.fz 1
  have hlt := h.lt
  clear h
  go_enter Tryz.func95, Tryz.ntmps95
  go_wp2_with fail
  have hk : Kept w (w.setCell ⟨b, 1, none⟩ (.slice none 0 0)) (fun k => k = b) := Kept.setCell _ _ _
  have HK := Lib.hid hk
  have HQ : Hid (QuE (w.setCell ⟨b, 1, none⟩ (.slice none 0 0)) b) := Lib.hid ⟨Nat.lt_of_lt_of_le H.out.lt hk.size, (World.cell?_setCell_other _ _ _ _ (by intro e; cases e)).trans H.out.c0, World.cell?_setCell_same _ _ _ H.out.c1, fun o => (World.frozen?_setCell _ _ _ _).trans (H.out.fz o)⟩
  obtain ⟨W, hW⟩ : ∃ W, w.setCell ⟨b, 1, none⟩ (.slice none 0 0) = W := ⟨_, rfl⟩
  rw [hW] at HK HQ ⊢
  clear hW hk c0 c1 z1 hlt
  go_loopg [32] 1 (fun gk kv wr => kv = .int .i64 0 ∧ wr = W)
  case atStart => exact ⟨rfl, rfl⟩
  case round =>
  obtain ⟨rfl, rfl⟩ := hrel
  go_wp2_with fail
  go_ret
  exact ⟨rfl, HQ.out, HK.out⟩
set_option maxRecDepth 100000 in
set_option maxHeartbeats 1600000 in
theorem last_call (h : WlM w b base mu oa m ca n u s O A) :
    Calls Tryz.prog 214 #[.pointer (some ⟨b, 0, none⟩)] w fun e w' => e = .returned (.bool (decide (0 < n ∧ m ≤ n))) ∧ Below w.heap.size w w' := by
  obtain ⟨R, hR⟩ : ∃ R, decide (0 < n ∧ m ≤ n) = R := ⟨_, rfl⟩
  rw [hR]
  have HR := Lib.hid hR
  have c14 := h.c14
  have c1 := h.c1
  have c16 := h.c16
  have c0 := h.c0
  have hlt := h.lt
  clear h hR
  go_enter Tryz.func214, Tryz.ntmps214
  by_cases h0 : 0 < n
  case neg =>
    have HF := Lib.hid (show R = false by rw [← HR.out]; exact decide_eq_false (by omega))
    go_upto_region 5 with fail
    refine wp_region_segs (X := none) 18 [] [0, 1, 2, 3, 4, 5, 6, 7, 8, 9, 10, 11, 12, 13, 14, 15, 16, 17] (by kernel_rfl) (by kernel_rfl) rfl (fun _ _ _ _ _ h => h) ?_
    simp only [wpSegs, pickSegs_nil, pickOps_nil, pickOps_cons, List.getD_cons_zero, List.getD_cons_succ, List.drop_succ_cons, List.drop_nil]
    repeat (go_big_quiet_step (fail))
    refine wpQuiet_nil ?_
    go_wp2_with fail
    go_ret
    exact ⟨ret_bool HF.out.symm, (Below.refl _ _).drew⟩
  have HN := Lib.hid h0
  by_cases h1 : m ≤ n
  · have HF := Lib.hid (show R = true by rw [← HR.out]; exact decide_eq_true ⟨h0, h1⟩)
    have h1' : (m : Int) ≤ (n : Int) := by omega
    go_upto_region 5 with fail
    refine wp_region_segs (X := none) 18 [] [0, 1, 2, 3, 4, 5, 6, 7, 8, 9, 10, 11, 12, 13, 14, 15, 16, 17] (by kernel_rfl) (by kernel_rfl) rfl (fun _ _ _ _ _ h => h) ?_
    simp only [wpSegs, pickSegs_nil, pickOps_nil, pickOps_cons, List.getD_cons_zero, List.getD_cons_succ, List.drop_succ_cons, List.drop_nil]
    repeat (go_big_quiet_step (fail))
    refine wpQuiet_nil ?_
    go_wp2_with fail
    go_ret
    exact ⟨ret_bool HF.out.symm, (Below.refl _ _).drew⟩
  · have HF := Lib.hid (show R = false by rw [← HR.out]; exact decide_eq_false (by omega))
    have h1' : decide ((m : Int) ≤ (n : Int)) = false := decide_eq_false (by omega)
    have h2' : decide (m ≤ n) = false := decide_eq_false h1
    go_upto_region 5 with fail
    refine wp_region_segs (X := none) 18 [] [0, 1, 2, 3, 4, 5, 6, 7, 8, 9, 10, 11, 12, 13, 14, 15, 16, 17] (by kernel_rfl) (by kernel_rfl) rfl (fun _ _ _ _ _ h => h) ?_
    simp only [wpSegs, pickSegs_nil, pickOps_nil, pickOps_cons, List.getD_cons_zero, List.getD_cons_succ, List.drop_succ_cons, List.drop_nil]
    repeat (go_big_quiet_step (fail))
    refine wpQuiet_nil ?_
    go_wp2_with fail
    go_ret
    exact ⟨ret_bool HF.out.symm, (Below.refl _ _).drew⟩
end
end Go.Proofs.YtdinjlglngpecaaGreatDoor
