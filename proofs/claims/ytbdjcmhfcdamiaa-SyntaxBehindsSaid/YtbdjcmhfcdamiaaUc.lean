/- Contracts of the reference's functions on trees: looker's node. -/
import Derived.Test.YtbdjcmhfcdamiaaUb
namespace Go.Proofs.Ytbdjcmhfcdamiaa
open Go.RowKit

section
variable {w w' : World} {xb : Nat} {oa : Option Addr} {nb no cap : Nat} {re : List Nd} {i : Nat} {en : List Bool} {ev : Value}
def RNodeP (xb : Nat) (oa : Option Addr) (nb no cap : Nat) (re : List Nd) (f : Nat) : Prop := ∀ (g i : Nat) (en : List Bool) (w : World) (ev : Value) (wi gi : Int), f ≤ 260 → wi = ((260 - f : Nat) : Int) → gi = g → g ≤ 64 → LkS w xb oa nb no cap re i en ev →
    Calls Try.prog 35 #[.pointer (some ⟨xb, 0, none⟩), .int .i64 wi, .int .i64 gi] w (LkP w xb oa nb no cap re ev (nodeN re f g i en))
set_option maxRecDepth 100000 in
set_option maxHeartbeats 3200000 in
theorem rnode_zero : RNodeP xb oa nb no cap re 0 := fun g i en w ev wi gi hf hwi hgi hg hv => by
    have hw : decide ((259 : Int) < wi) = true := decide_eq_true (by omega)
    have hlen := hv.len
    have c0 := hv.c0
    have c1 := hv.c1
    have xl := hv.lt
    have HN : Hid (nodeN re 0 g i en = none) := rfl
    clear hv hwi
    by_cases h1 : re.length ≤ i
    · have h1' : decide (re.length ≤ i) = true := decide_eq_true (by omega)
      go_enter Try.func35, Try.ntmps35
      go_wp2_with fail
      refine wp_region_segs (X := none) 14 [] [0, 1, 2, 3, 4, 5, 6, 7, 8, 9, 10, 11, 12, 13] (by kernel_rfl) (by kernel_rfl) rfl (fun _ _ _ _ _ h => h) ?_
      simp only [wpSegs, pickSegs_nil, pickOps_nil, pickOps_cons, List.getD_cons_zero, List.getD_cons_succ, List.drop_succ_cons, List.drop_nil]
      repeat (go_big_quiet_step (fail))
      refine wpQuiet_nil ?_
      go_wp2_with fail
      go_ret
      exact ⟨(RBut.refl _ _ _).drew, by rw [HN.out]; rfl⟩
    · have h1' : decide (re.length ≤ i) = false := decide_eq_false (by omega)
      go_enter Try.func35, Try.ntmps35
      go_wp2_with fail
      refine wp_region_segs (X := none) 14 [] [0, 1, 2, 3, 4, 5, 6, 7, 8, 9, 10, 11, 12, 13] (by kernel_rfl) (by kernel_rfl) rfl (fun _ _ _ _ _ h => h) ?_
      simp only [wpSegs, pickSegs_nil, pickOps_nil, pickOps_cons, List.getD_cons_zero, List.getD_cons_succ, List.drop_succ_cons, List.drop_nil]
      repeat (go_big_quiet_step (fail))
      refine wpQuiet_nil ?_
      go_wp2_with fail
      go_ret
      exact ⟨(RBut.refl _ _ _).drew, by rw [HN.out]; rfl⟩

set_option maxRecDepth 100000 in
set_option maxHeartbeats 6400000 in
theorem rnode_succ (f : Nat) (HO : Hid (∀ x ∈ re, -128 ≤ x.op ∧ x.op ≤ 127)) (HNA : Hid (RNodeP xb oa nb no cap re f)) : RNodeP xb oa nb no cap re (f + 1) := fun g i en w ev wi gi hf hwi hgi hg hv => by
    subst hgi
    have hw : decide ((259 : Int) < wi) = false := decide_eq_false (by omega)
    have hlen := hv.len
    have c0 := hv.c0
    have c1 := hv.c1
    have xl := hv.lt
    by_cases h1 : re.length ≤ i
    · have HN : Hid (nodeN re (f + 1) g i en = none) := by rw [Hid, nodeN, List.getElem?_eq_none (by omega)]
      have h1' : decide (re.length ≤ i) = true := decide_eq_true (by omega)
      clear hv hwi
      go_enter Try.func35, Try.ntmps35
      go_wp2_with fail
      refine wp_region_segs (X := none) 14 [] [0, 1, 2, 3, 4, 5, 6, 7, 8, 9, 10, 11, 12, 13] (by kernel_rfl) (by kernel_rfl) rfl (fun _ _ _ _ _ h => h) ?_
      simp only [wpSegs, pickSegs_nil, pickOps_nil, pickOps_cons, List.getD_cons_zero, List.getD_cons_succ, List.drop_succ_cons, List.drop_nil]
      repeat (go_big_quiet_step (fail))
      refine wpQuiet_nil ?_
      go_wp2_with fail
      go_ret
      exact ⟨(RBut.refl _ _ _).drew, by rw [HN.out]; rfl⟩
    have hi : i < re.length := by omega
    have h1' : decide (re.length ≤ i) = false := decide_eq_false (by omega)
    have hi' : (i : Int) < (re.length : Int) := by omega
    obtain ⟨x, hx⟩ : ∃ x, re[i]? = some x := ⟨_, List.getElem?_eq_getElem hi⟩
    obtain ⟨hop1, hop2⟩ := HO.out x (List.mem_of_getElem? hx)
    have hkm := (hv.nd (by omega)).2.k x (List.mem_of_getElem? hx)
    have hoa := (hv.nd (by omega)).1
    have HX := Lib.hid hx
    have HW := Lib.hid hwi
    have HGX := Lib.hid (show nodeN re (f + 1) g i en = if !goodN x then none else if x.op == 8 && (decide (x.n < 1) || decide ((en.length : Int) < x.n) || !en.getD (x.n.toNat - 1) false) then none
        else if x.op = 7 then
          if x.n ≠ (en.length : Int) + 1 ∨ 255 < x.n ∨ 64 ≤ g then none
          else match kidsN (nodeN re f (g + 1)) x.kids.toNat (i + 1) (en ++ [false]) with
            | none => none
            | some (j, en') => some (j, en'.set en.length true)
        else kidsN (nodeN re f g) x.kids.toNat (i + 1) en by rw [nodeN, hx]; rfl)
    have HF1 := Lib.hid (fun w => fields_any x w hop1 hop2)
    have HF2 := Lib.hid (fun w => kids_any x w hop1 hop2)
    have HV1 := Lib.hid hv.drew
    have HB1 := Lib.hid ((RBut.refl xb ev.ownBlock w).drew)
    rw [hoa] at c0
    clear hv hx hwi h1
    go_enter Try.func35, Try.ntmps35
    go_wp2_with fail
    refine wp_region_segs (X := none) 14 [] [0, 1, 2, 3, 4, 5, 6, 7, 8, 9, 10, 11, 12, 13] (by kernel_rfl) (by kernel_rfl) rfl (fun _ _ _ _ _ h => h) ?_
    simp only [wpSegs, pickSegs_nil, pickOps_nil, pickOps_cons, List.getD_cons_zero, List.getD_cons_succ, List.drop_succ_cons, List.drop_nil]
    repeat (go_big_quiet_step (fail))
    refine wpQuiet_nil ?_
    go_upto_region 3 with fail
    clear c0 c1 xl
    revert HV1 HB1
    generalize w.drew = w1
    intro HV1 HB1
    have hnd1 := (HV1.out.nd (by omega)).2
    obtain ⟨m0, m1, m2, m3, m4, m5, m6, m7, m8⟩ := hnd1.cells HX.out
    have d0 := HV1.out.c0
    have d1 := HV1.out.c1
    have y1 := HV1.out.fz 1
    have xl1 := HV1.out.lt
    have nbl1 := hnd1.lt
    rw [hoa] at d0
    clear hoa
    obtain ⟨op, ⟨x0, x1, x2, x3⟩, xn, xmin, xmax, xk⟩ := x
    simp only at m0 m1 m2 m3 m4 m5 m6 m7 m8 hkm hop1 hop2 HGX
    clear hnd1
    refine wp_region_segs (X := none) 11 [([0, 1, 2, 3, 4, 5, 6, 7, 8, 9], 10)] [] (by kernel_rfl) (by kernel_rfl) rfl (fun _ _ _ _ _ h => h) ?_
    simp only [wpSegs, pickSegs_nil, pickSegs_cons, pickOps_nil, pickOps_cons, List.getD_cons_zero, List.getD_cons_succ, List.drop_succ_cons, List.drop_zero]
    repeat (go_big_quiet_step (fail))
    refine wpQuiet_nil ?_
    go_wp2_with fail
    refine ⟨keeps_drew (keeps_alloc _ _), wpQuiet_nil ?_⟩
    have hv2 := HV1.out.setAt (j := i + 1) hi
    have hb2 := HB1.out.store 1 (.int .i64 ((i + 1 : Nat) : Int))
    rw [Int.natCast_add, show ((1 : Nat) : Int) = 1 from rfl] at hv2 hb2
    have hsz1 : (w1.setCell ⟨xb, 1, none⟩ (.int .i64 ((i : Int) + 1))).heap.size = w1.heap.size := by simp
    have hv3 := (hv2.alloc (.cells (ndCells ⟨op, ⟨x0, x1, x2, x3⟩, xn, xmin, xmax, xk⟩) 33)).drew
    have hb3 := (hb2.alloc (.cells (ndCells ⟨op, ⟨x0, x1, x2, x3⟩, xn, xmin, xmax, xk⟩) 33)).drew
    have hB3 : ndAt ((w1.setCell ⟨xb, 1, none⟩ (.int .i64 ((i : Int) + 1))).alloc (.cells (ndCells ⟨op, ⟨x0, x1, x2, x3⟩, xn, xmin, xmax, xk⟩) 33)).drew w1.heap.size ⟨op, ⟨x0, x1, x2, x3⟩, xn, xmin, xmax, xk⟩ := by
      have h := heap_alloc_new (w1.setCell ⟨xb, 1, none⟩ (.int .i64 ((i : Int) + 1))) (.cells (ndCells ⟨op, ⟨x0, x1, x2, x3⟩, xn, xmin, xmax, xk⟩) 33)
      rw [hsz1] at h
      exact h
    have hBw := HB1.out.size
    have hel1 : ∀ z, ev.ownBlock = some z → z ≠ w1.heap.size := fun z hz => by have := (HV1.out.evlt z hz).2; omega
    have HV3 := Lib.hid hv3
    have HB2 := Lib.hid hb3
    have HD3 := Lib.hid hB3
    have HEL := Lib.hid hel1
    clear hv2 hb2 hv3 hb3 hB3 hsz1 hel1
    go_upto_region 5 with fail
    clear m0 m1 m2 m3 m4 m5 m6 m7 m8 d0 d1 y1 nbl1
    revert HV3 HB2 HD3
    simp only [ndCells]
    generalize ((w1.setCell ⟨xb, 1, none⟩ (.int .i64 ((i : Int) + 1))).alloc (.cells #[.int .i8 op, .int .u64 x0.toNat, .int .u64 x1.toNat, .int .u64 x2.toNat, .int .u64 x3.toNat, .int .i64 xn, .int .i64 xmin, .int .i64 xmax, .int .i64 xk] 33)).drew = W3
    intro HV3 HB2 HD3
    clear HV1 HB1
    generalize w1.heap.size = B at HD3 HEL hBw xl1 ⊢
    obtain ⟨b0, b1, b2, b3, b4, b5, b6, b7, b8, zB⟩ := HD3.out.cells
    simp only at b0 b1 b2 b3 b4 b5 b6 b7 b8
    have Bl := HD3.out.lt
    have hxB : ¬ xb = B := by omega
    go_wp2_with fail
    refine (HF1.out W3).mono ?_; rintro e w4 ⟨rfl, hb4⟩
    have HV4 := Lib.hid (HV3.out.below hb4)
    have HB4 := Lib.hid (HB2.out.below hb4)
    have HD4 := Lib.hid (HD3.out.below hb4)
    clear hb4 HV3 HB2 HD3 b0 b1 b2 b3 b4 b5 b6 b7 b8 zB Bl
    cases hfl : fieldsN ⟨op, ⟨x0, x1, x2, x3⟩, xn, xmin, xmax, xk⟩ with
    | false =>
      have HN : Hid (nodeN re (f + 1) g i en = none) := by rw [Hid, HGX.out, goodN_parts, hfl]; rfl
      clear hfl HGX
      go_wp2_with fail
      go_ret
      exact ⟨HB4.out, by rw [HN.out]; rfl⟩
    | true =>
    obtain ⟨b0, b1, b2, b3, b4, b5, b6, b7, b8, zB⟩ := HD4.out.cells
    simp only at b0 b1 b2 b3 b4 b5 b6 b7 b8
    have Bl := HD4.out.lt
    go_wp2_with fail
    refine (HF2.out w4).mono ?_; rintro e w5 ⟨rfl, hb5⟩
    have HV5 := Lib.hid (HV4.out.below hb5)
    have HB5 := Lib.hid (HB4.out.below hb5)
    have HD5 := Lib.hid (HD4.out.below hb5)
    clear hb5 HV4 HB4 HD4 b0 b1 b2 b3 b4 b5 b6 b7 b8 zB Bl
    cases hkl : kidsNd ⟨op, ⟨x0, x1, x2, x3⟩, xn, xmin, xmax, xk⟩ with
    | false =>
      have HN : Hid (nodeN re (f + 1) g i en = none) := by rw [Hid, HGX.out, goodN_parts, hfl, hkl]; rfl
      clear hfl hkl HGX
      go_wp2_with fail
      go_ret
      exact ⟨HB5.out, by rw [HN.out]; rfl⟩
    | true =>
    have HN : Hid (nodeN re (f + 1) g i en = if op == 8 && (decide (xn < 1) || decide ((en.length : Int) < xn) || !en.getD (xn.toNat - 1) false) then none
        else if op = 7 then
          if xn ≠ (en.length : Int) + 1 ∨ 255 < xn ∨ 64 ≤ g then none
          else match kidsN (nodeN re f (g + 1)) xk.toNat (i + 1) (en ++ [false]) with
            | none => none
            | some (j, en') => some (j, en'.set en.length true)
        else kidsN (nodeN re f g) xk.toNat (i + 1) en) := by rw [Hid, HGX.out, goodN_parts, hfl, hkl]; rfl
    clear hfl hkl HGX HF1 HF2
    obtain ⟨b0, b1, b2, b3, b4, b5, b6, b7, b8, zB⟩ := HD5.out.cells
    simp only at b0 b1 b2 b3 b4 b5 b6 b7 b8
    have Bl := HD5.out.lt
    have xl := HV5.out.lt
    have e2 := HV5.out.c2
    have q2 := HV5.out.fz 2
    obtain ⟨eo, ec, hev⟩ := HV5.out.form
    rw [hev] at e2
    have HEV := Lib.hid hev
    clear hev
    go_upto_region 8 with fail
    go_cut [80] (fun v wd => v = .bool (op == 8 && (decide (xn < 1) || decide ((en.length : Int) < xn) || !en.getD (xn.toNat - 1) false)) ∧ w5.drew = wd)
    case first =>
      clear HN
      by_cases h8 : op = 8
      · subst h8
        by_cases r1 : xn < 1
        · have HC : Hid (((8 : Int) == 8 && (decide (xn < 1) || decide ((en.length : Int) < xn) || !en.getD (xn.toNat - 1) false)) = true) := by simp [Hid, r1]
          have r1' : decide (xn < 1) = true := by simpa using r1
          refine wp_region_segs (X := none) 29 [] [0, 1, 2, 3, 4, 5, 6, 7, 8, 9, 10, 11, 12, 13, 14, 15, 16, 17, 18, 19, 20, 21, 22, 23, 24, 25, 26, 27, 28] (by kernel_rfl) (by kernel_rfl) rfl (fun _ _ _ _ _ h => h) ?_
          simp only [wpSegs, pickSegs_nil, pickOps_nil, pickOps_cons, List.getD_cons_zero, List.getD_cons_succ, List.drop_succ_cons, List.drop_nil]
          repeat (go_big_quiet_step (fail))
          refine wpQuiet_nil ?_
          go_wp2_with fail
          go_meet
          exact ⟨by rw [HC.out], rfl⟩
        by_cases r2 : (en.length : Int) < xn
        · have HC : Hid (((8 : Int) == 8 && (decide (xn < 1) || decide ((en.length : Int) < xn) || !en.getD (xn.toNat - 1) false)) = true) := by simp [Hid, r2]
          have r1' : decide (xn < 1) = false := by simpa using r1
          have r2' : decide ((en.length : Int) < xn) = true := by simpa using r2
          refine wp_region_segs (X := none) 29 [] [0, 1, 2, 3, 4, 5, 6, 7, 8, 9, 10, 11, 12, 13, 14, 15, 16, 17, 18, 19, 20, 21, 22, 23, 24, 25, 26, 27, 28] (by kernel_rfl) (by kernel_rfl) rfl (fun _ _ _ _ _ h => h) ?_
          simp only [wpSegs, pickSegs_nil, pickOps_nil, pickOps_cons, List.getD_cons_zero, List.getD_cons_succ, List.drop_succ_cons, List.drop_nil]
          repeat (go_big_quiet_step (fail))
          refine wpQuiet_nil ?_
          go_wp2_with fail
          go_meet
          exact ⟨by rw [HC.out], rfl⟩
        obtain ⟨m, rfl⟩ : ∃ m : Nat, xn = (m : Int) + 1 := ⟨(xn - 1).toNat, by omega⟩
        have hmt : ((m : Int) + 1).toNat - 1 = m := by omega
        have HC : Hid (((8 : Int) == 8 && (decide ((m : Int) + 1 < 1) || decide ((en.length : Int) < (m : Int) + 1) || !en.getD (((m : Int) + 1).toNat - 1) false)) = !en.getD m false) := by rw [Hid, hmt, decide_eq_false r1, decide_eq_false r2]; rfl
        obtain ⟨ge, ce, hev2, hge, gel⟩ := HV5.out.row (by omega)
        clear e2 hmt
        have e2 := HV5.out.c2
        rw [hev2] at e2
        have ecell : w5.cell? ⟨ge, m, none⟩ = some (.bool (en.getD m false)) := by
          rw [World.ownsRow.cellAt (hev2 ▸ HV5.out.own) _ (by omega)]
          simp [List.getD_eq_getElem?_getD, show m < en.length by omega]
        have hel := HV5.out.el
        have hm255 : (m : Int) ≤ 255 := by omega
        have hml : (m : Int) < (en.length : Int) := by omega
        have hmb : decide ((m : Int) < (en.length : Int)) = true := by simpa using hml
        have hms : (m : Int) + 1 - 1 = (m : Int) := by omega
        have r1' : decide ((m : Int) + 1 < 1) = false := by simp; omega
        have r2' : decide ((en.length : Int) < (m : Int) + 1) = false := by simp; omega
        clear hev2
        generalize en.getD m false = eb at ecell HC
        refine wp_region_segs (X := none) 29 [] [0, 1, 2, 3, 4, 5, 6, 7, 8, 9, 10, 11, 12, 13, 14, 15, 16, 17, 18, 19, 20, 21, 22, 23, 24, 25, 26, 27, 28] (by kernel_rfl) (by kernel_rfl) rfl (fun _ _ _ _ _ h => h) ?_
        simp only [wpSegs, pickSegs_nil, pickOps_nil, pickOps_cons, List.getD_cons_zero, List.getD_cons_succ, List.drop_succ_cons, List.drop_nil]
        repeat (go_big_quiet_step (fail))
        refine wpQuiet_nil ?_
        go_wp2_with fail
        go_meet
        exact ⟨by rw [HC.out], rfl⟩
      · have h8' : (op == 8) = false := by simpa using h8
        refine wp_region_segs (X := none) 29 [] [0, 1, 2, 3, 4, 5, 6, 7, 8, 9, 10, 11, 12, 13, 14, 15, 16, 17, 18, 19, 20, 21, 22, 23, 24, 25, 26, 27, 28] (by kernel_rfl) (by kernel_rfl) rfl (fun _ _ _ _ _ h => h) ?_
        simp only [wpSegs, pickSegs_nil, pickOps_nil, pickOps_cons, List.getD_cons_zero, List.getD_cons_succ, List.drop_succ_cons, List.drop_nil]
        repeat (go_big_quiet_step (fail))
        refine wpQuiet_nil ?_
        go_wp2_with fail
        go_meet
        exact ⟨by rw [h8', Bool.false_and], rfl⟩
    case rest =>
    obtain ⟨rfl, rfl⟩ := hcut
    have HV6 := Lib.hid HV5.out.drew
    have HB6 := Lib.hid HB5.out.drew
    have HD6 := Lib.hid (HD5.out.below (Below.refl _ _).drew)
    clear HV5 HB5 HD5 b0 b1 b2 b3 b4 b5 b6 b7 b8 zB Bl xl e2 q2
    revert HV6 HB6 HD6
    generalize w5.drew = w6
    intro HV6 HB6 HD6
    cases hbad : (op == 8 && (decide (xn < 1) || decide ((en.length : Int) < xn) || !en.getD (xn.toNat - 1) false)) with
    | true =>
      have HF : Hid (nodeN re (f + 1) g i en = none) := by rw [Hid, HN.out, if_pos hbad]
      clear HN hbad
      go_wp2_with fail
      go_ret
      exact ⟨HB6.out, by rw [HF.out]; rfl⟩
    | false =>
    have HN2 : Hid (nodeN re (f + 1) g i en = if op = 7 then
          if xn ≠ (en.length : Int) + 1 ∨ 255 < xn ∨ 64 ≤ g then none
          else match kidsN (nodeN re f (g + 1)) xk.toNat (i + 1) (en ++ [false]) with
            | none => none
            | some (j, en') => some (j, en'.set en.length true)
        else kidsN (nodeN re f g) xk.toNat (i + 1) en) := by rw [Hid, HN.out, hbad]; rfl
    clear HN hbad
    go_upto_if 82 with fail
    go_cut [2] (fun u wd => ∃ (g1 : Nat) (en1 : List Bool) (ev1 : Value), u = .int .i64 (g1 : Nat) ∧ g1 ≤ 64 ∧ LkS wd xb oa nb no cap re (i + 1) en1 ev1 ∧ RBut xb ev.ownBlock w wd ∧ newOr w ev.ownBlock ev1.ownBlock ∧ ndAt wd B ⟨op, ⟨x0, x1, x2, x3⟩, xn, xmin, xmax, xk⟩ ∧ some B ≠ ev1.ownBlock ∧ (op = 7 → en1.length = en.length + 1 ∧ xn = (en.length : Int) + 1) ∧
      Hid (nodeN re (f + 1) g i en = match kidsN (nodeN re f g1) xk.toNat (i + 1) en1 with
        | none => none
        | some (j, e') => some (j, if op = 7 then e'.set en.length true else e')))
    case first =>
      by_cases h7 : op = 7
      · subst h7
        obtain ⟨b0, b1, b2, b3, b4, b5, b6, b7, b8, zB⟩ := HD6.out.cells
        simp only at b0 b1 b2 b3 b4 b5 b6 b7 b8
        have Bl := HD6.out.lt
        have xl := HV6.out.lt
        have hel := HV6.out.el
        have e2 := HV6.out.c2
        have q2 := HV6.out.fz 2
        rw [HEV.out] at e2
        by_cases s1 : ¬ xn = (en.length : Int) + 1
        · have HF : Hid (nodeN re (f + 1) g i en = none) := by rw [Hid, HN2.out, if_pos rfl, if_pos (by omega)]
          have s1' : (xn != (en.length : Int) + 1) = true := by simpa using s1
          clear HN2
          go_wp2_with fail
          refine wp_region_segs (X := none) 18 [] [0, 1, 2, 3, 4, 5, 6, 7, 8, 9, 10, 11, 12, 13, 14, 15, 16, 17] (by kernel_rfl) (by kernel_rfl) rfl (fun _ _ _ _ _ h => h) ?_
          simp only [wpSegs, pickSegs_nil, pickOps_nil, pickOps_cons, List.getD_cons_zero, List.getD_cons_succ, List.drop_succ_cons, List.drop_nil]
          repeat (go_big_quiet_step (fail))
          refine wpQuiet_nil ?_
          go_wp2_with fail
          go_ret
          exact ⟨HB6.out.drew, by rw [HF.out]; rfl⟩
        have s1 := Decidable.not_not.1 s1
        subst s1
        have s1' : (((en.length : Int) + 1) != (en.length : Int) + 1) = false := by simp
        by_cases s2 : 255 < (en.length : Int) + 1
        · have HF : Hid (nodeN re (f + 1) g i en = none) := by rw [Hid, HN2.out, if_pos rfl, if_pos (by omega)]
          have s2' : decide (255 < (en.length : Int) + 1) = true := by simpa using s2
          clear HN2
          go_wp2_with fail
          refine wp_region_segs (X := none) 18 [] [0, 1, 2, 3, 4, 5, 6, 7, 8, 9, 10, 11, 12, 13, 14, 15, 16, 17] (by kernel_rfl) (by kernel_rfl) rfl (fun _ _ _ _ _ h => h) ?_
          simp only [wpSegs, pickSegs_nil, pickOps_nil, pickOps_cons, List.getD_cons_zero, List.getD_cons_succ, List.drop_succ_cons, List.drop_nil]
          repeat (go_big_quiet_step (fail))
          refine wpQuiet_nil ?_
          go_wp2_with fail
          go_ret
          exact ⟨HB6.out.drew, by rw [HF.out]; rfl⟩
        have s2' : decide (255 < (en.length : Int) + 1) = false := by simpa using s2
        by_cases s3 : 64 ≤ g
        · have HF : Hid (nodeN re (f + 1) g i en = none) := by rw [Hid, HN2.out, if_pos rfl, if_pos (by omega)]
          have s3' : decide ((64 : Int) ≤ (g : Int)) = true := decide_eq_true (by omega)
          clear HN2
          go_wp2_with fail
          refine wp_region_segs (X := none) 18 [] [0, 1, 2, 3, 4, 5, 6, 7, 8, 9, 10, 11, 12, 13, 14, 15, 16, 17] (by kernel_rfl) (by kernel_rfl) rfl (fun _ _ _ _ _ h => h) ?_
          simp only [wpSegs, pickSegs_nil, pickOps_nil, pickOps_cons, List.getD_cons_zero, List.getD_cons_succ, List.drop_succ_cons, List.drop_nil]
          repeat (go_big_quiet_step (fail))
          refine wpQuiet_nil ?_
          go_wp2_with fail
          go_ret
          exact ⟨HB6.out.drew, by rw [HF.out]; rfl⟩
        have s3' : decide ((64 : Int) ≤ (g : Int)) = false := decide_eq_false (by omega)
        go_wp2_with fail
        refine wp_region_segs (X := none) 18 [] [0, 1, 2, 3, 4, 5, 6, 7, 8, 9, 10, 11, 12, 13, 14, 15, 16, 17] (by kernel_rfl) (by kernel_rfl) rfl (fun _ _ _ _ _ h => h) ?_
        simp only [wpSegs, pickSegs_nil, pickOps_nil, pickOps_cons, List.getD_cons_zero, List.getD_cons_succ, List.drop_succ_cons, List.drop_nil]
        repeat (go_big_quiet_step (fail))
        refine wpQuiet_nil ?_
        go_upto_region 13 with fail
        have HV7 := Lib.hid HV6.out.drew
        have HB7 := Lib.hid HB6.out.drew
        have HD7 := Lib.hid (HD6.out.below (Below.refl _ _).drew)
        clear HV6 HB6 HD6 b0 b1 b2 b3 b4 b5 b6 b7 b8 zB Bl xl e2 q2
        revert HV7 HB7 HD7
        generalize w6.drew = W3
        intro HV3 HB2 HD3
        have xl := HV3.out.lt
        have Bl := HD3.out.lt
        have e2 := HV3.out.c2
        have q2 := HV3.out.fz 2
        rw [HEV.out] at e2
        go_wp2_with (at_builtin; refine wpList_app elBo rfl _ _ rfl (xb + 1) rfl ((HEV.out ▸ HV3.out.own).alloc _) rfl (Src.new W3 [.bool false] _ _ _) rfl (by simp [Value.oneCell']) (by unfold maxLen; omega) (by omega) (by simp; omega) ?_)
        intro v1 w2 hown2 hgr2 hblk2
        rw [← HEV.out] at hgr2 hblk2
        have hvA := HV3.out.alloc (.cells #[.bool false] 4)
        have hgb : w2.heap[xb]? = (W3.alloc (.cells #[.bool false] 4)).heap[xb]? := hgr2.block xb hvA.lt (hvA.not_xb (Nat.le_refl _))
        have hdB : ndAt w2 B ⟨7, ⟨x0, x1, x2, x3⟩, (en.length : Int) + 1, xmin, xmax, xk⟩ := (HD3.out.below ((Below.refl _ _).alloc (Nat.le_refl _) (.cells #[.bool false] 4))).block (hgr2.block B (by simp; omega) (fun e => HEL.out B e.symm rfl))
        have E2 := (World.cell?_of_block (a := ⟨xb, 2, none⟩) hgb).trans hvA.c2
        have Q2 := (World.frozen?_of_block (a := ⟨xb, 2, none⟩) hgb).trans (hvA.fz 2)
        obtain ⟨gv, cv, hv1⟩ : ∃ gv cv, v1 = .slice (some ⟨gv, 0, none⟩) (en.length + 1) cv := by
          rcases hown2.2 with ⟨_, h⟩ | ⟨gv, cv, _, h, _⟩
          · omega
          · exact ⟨gv, cv, h⟩
        subst hv1
        have hn1 : newOr w ev.ownBlock (Value.slice (some ⟨gv, 0, none⟩) (en.length + 1) cv).ownBlock := by
          rcases hblk2 with h | h
          · exact .inl h
          · exact .inr fun z hz => by rw [h] at hz; cases hz; omega
        have hBv : some B ≠ (Value.slice (some ⟨gv, 0, none⟩) (en.length + 1) cv).ownBlock := by
          rcases hblk2 with h | h
          · rw [h]; exact fun e => HEL.out B e.symm rfl
          · rw [h]; intro e; cases e; omega
        have HB5 := Lib.hid (((HB2.out.alloc (.cells #[.bool false] 4)).grown (newOr.refl _ _) hgr2).store 2 (.slice (some ⟨gv, 0, none⟩) (en.length + 1) cv))
        have HP5 := Lib.hid (hvA.push hgr2 (ev' := .slice (some ⟨gv, 0, none⟩) (en.length + 1) cv) (en' := en ++ [false]) (by simpa using hown2) (by simp; omega))
        have HD5 := Lib.hid (hdB.store (b := xb) (fun e => hxB e.symm) 2 (.slice (some ⟨gv, 0, none⟩) (en.length + 1) cv))
        have HN1 := Lib.hid hn1
        have HBV := Lib.hid hBv
        have xl2 : xb < w2.heap.size := Nat.lt_of_lt_of_le hvA.lt hgr2.size
        clear hvA hgb hdB hown2 hgr2 hblk2 hn1 hBv xl e2 q2 Bl
        go_wp2_with fail
        go_meet
        refine ⟨g + 1, en ++ [false], _, by go_num, by omega, HP5.out, HB5.out, HN1.out, HD5.out, HBV.out, fun _ => ⟨by simp, by first | rfl | trivial⟩, ?_⟩
        rw [Hid, HN2.out, if_pos trivial, if_neg (by omega)]
        cases kidsN (nodeN re f (g + 1)) xk.toNat (i + 1) (en ++ [false]) with
        | none => rfl
        | some q => rfl
      · have h7' : (op == 7) = false := by simpa using h7
        go_wp2_with fail
        go_meet
        exact ⟨g, en, ev, rfl, hg, HV6.out, HB6.out, newOr.refl _ _, HD6.out, fun e => HEL.out B e.symm rfl, fun h => absurd h h7, by
          rw [Hid, HN2.out, if_neg h7]
          cases kidsN (nodeN re f g) xk.toNat (i + 1) en with
          | none => rfl
          | some q => simp only [if_neg h7]⟩
    case rest =>
      obtain ⟨g1, en1, ev1, rfl, hg1, hvc, hbc, hnw, hdB, hBe, h7c, HK⟩ := hcut
      clear HV6 HB6 HD6 HN2
      have HVC := Lib.hid hvc
      have HBC := Lib.hid hbc
      have HNW := Lib.hid hnw
      have HDB := Lib.hid hdB
      have HBE := Lib.hid hBe
      have H7 := Lib.hid h7c
      have IH := Lib.hid (fun (j : Nat) (en2 : List Bool) (w2 : World) (ev2 : Value) (wi2 : Int) (hw2 : wi2 = ((260 - f : Nat) : Int)) (h : LkS w2 xb oa nb no cap re j en2 ev2) => HNA.out g1 j en2 w2 ev2 wi2 (g1 : Int) (by omega) hw2 rfl hg1 h)
      have hwl : 0 ≤ wi ∧ wi ≤ 259 := by have := HW.out; omega
      have hwl1 := hwl.1
      have hwl2 := hwl.2
      clear hwl hvc hbc hnw hdB hBe h7c
      go_wp2_with fail
      go_loopg [9] xk.toNat (fun n cv wr => ∃ (d p : Nat) (en2 : List Bool) (ev2 : Value), cv = .int .i64 (d : Nat) ∧ n = xk.toNat - d ∧ d ≤ xk.toNat ∧ LkS wr xb oa nb no cap re p en2 ev2 ∧ RBut xb ev.ownBlock w wr ∧ newOr w ev.ownBlock ev2.ownBlock ∧ ndAt wr B ⟨op, ⟨x0, x1, x2, x3⟩, xn, xmin, xmax, xk⟩ ∧ some B ≠ ev2.ownBlock ∧ en1.length ≤ en2.length ∧ Hid (kidsN (nodeN re f g1) xk.toNat (i + 1) en1 = kidsN (nodeN re f g1) (xk.toNat - d) p en2))
      case atStart => exact ⟨0, i + 1, en1, ev1, rfl, by omega, by omega, HVC.out, HBC.out, HNW.out, HDB.out, HBE.out, Nat.le_refl _, rfl⟩
      case round =>
        obtain ⟨d, p, en2, ev2, rfl, hg, hd, hvr, hbr, hnr, hdr, hBr, hlr, HS⟩ := hrel
        have HG := Lib.hid hg
        obtain ⟨b0, b1, b2, b3, b4, b5, b6, b7, b8, zB⟩ := hdr.cells
        simp only at b0 b1 b2 b3 b4 b5 b6 b7 b8
        have Bl := hdr.lt
        clear hg
        by_cases hlt : d < xk.toNat
        · have hlt' : (d : Int) < xk := by omega
          have hwi2 : wi + 1 = ((260 - f : Nat) : Int) := by have := HW.out; omega
          have HP := Lib.hid (IH.out p en2 wr ev2 (wi + 1) hwi2 hvr)
          have HS1 := HS.out
          rw [show xk.toNat - d = (xk.toNat - (d + 1)) + 1 by omega, kidsN] at HS1
          have HLR := Lib.hid hlr
          have HBR := Lib.hid hbr
          have HDR := Lib.hid hdr
          have HNR := Lib.hid hnr
          have HBn := Lib.hid hBr
          clear hwi2 hlr hbr hdr hnr hBr hvr HS
          cases hq : nodeN re f g1 p en2 with
          | none =>
            rw [hq] at HS1
            have HF : Hid (nodeN re (f + 1) g i en = none) := by rw [Hid, HK.out, HS1]
            have hp := HP.out
            rw [hq] at hp
            clear HS1 HP
            go_wp2_with fail
            refine hp.mono ?_; rintro e w7 ⟨hb3, rfl⟩
            clear hp b0 b1 b2 b3 b4 b5 b6 b7 b8 zB Bl
            have HB4 := Lib.hid (HBR.out.trans HNR.out hb3)
            clear hb3
            go_wp2_with fail
            go_ret
            exact ⟨HB4.out, by rw [HF.out]; rfl⟩
          | some q =>
            obtain ⟨p3, en3⟩ := q
            rw [hq] at HS1
            simp only at HS1
            have hp := HP.out
            rw [hq] at hp
            have HS3 := Lib.hid HS1
            have hln := nodeN_len _ _ _ _ _ _ hq
            simp only at hln
            clear HS1 HP
            go_wp2_with fail
            refine hp.mono ?_; rintro e w7 ⟨hb3, ev3, rfl, hv3, hn3⟩
            clear hp b0 b1 b2 b3 b4 b5 b6 b7 b8 zB Bl
            have HB4 := Lib.hid (HBR.out.trans HNR.out hb3)
            have HD4 := Lib.hid (HDR.out.block (hb3.block B HDR.out.lt (fun e => hxB e.symm) HBn.out))
            have HE4 := Lib.hid (hn3.ne HDR.out.lt HBn.out)
            have HN4 := Lib.hid (HNR.out.trans HBR.out.size hn3)
            have HV4 := Lib.hid hv3
            clear hb3 hn3 hv3
            go_wp2_with fail
            go_roundg (xk.toNat - (d + 1))
            case measure => have := HG.out; omega
            case rel => exact ⟨d + 1, p3, en3, ev3, by go_num, rfl, by omega, HV4.out, HB4.out, HN4.out, HD4.out, HE4.out, Nat.le_trans HLR.out hln, HS3.out⟩
        · have hlt' : ¬ (d : Int) < xk := by omega
          have HS1 := HS.out
          rw [show xk.toNat - d = 0 by omega, kidsN] at HS1
          have HF : Hid (nodeN re (f + 1) g i en = some (p, if op = 7 then en2.set en.length true else en2)) := by rw [Hid, HK.out, HS1]
          clear HS HS1 HK
          have HVR := Lib.hid hvr
          have HBR := Lib.hid hbr
          have HNR := Lib.hid hnr
          have HBn := Lib.hid hBr
          by_cases h7 : op = 7
          · subst h7
            obtain ⟨hl1, hxn⟩ := H7.out rfl
            subst hxn
            obtain ⟨ge, ce, hev2, hge, gel⟩ := hvr.row (by omega)
            have e2 := hvr.c2
            rw [hev2] at e2
            have xlr := hvr.lt
            have hel := hvr.el
            have c1 := hvr.c1
            have hel2 : (en.length : Int) < (en2.length : Int) := by omega
            have hel3 : (en2.length : Int) ≤ 255 := by omega
            have ecell : wr.cell? ⟨ge, en.length, none⟩ = some (.bool (en2.getD en.length false)) := by
              rw [World.ownsRow.cellAt (hev2 ▸ hvr.own) _ (by omega)]
              simp [List.getD_eq_getElem?_getD, show en.length < en2.length by omega]
            have fg : wr.frozen? ⟨ge, en.length, none⟩ = false := World.ownsRow.frozenAt (hev2 ▸ hvr.own) _
            have hms : (en.length : Int) + 1 - 1 = (en.length : Int) := by omega
            have HEV2 := Lib.hid hev2
            clear hvr hbr hnr hBr hdr hev2 hlr hl1
            go_wp2_with fail
            refine wp_region_segs (X := none) 8 [] [0, 1, 2, 3, 4, 5, 6, 7] (by kernel_rfl) (by kernel_rfl) rfl (fun _ _ _ _ _ h => h) ?_
            simp only [wpSegs, pickSegs_nil, pickOps_nil, pickOps_cons, List.getD_cons_zero, List.getD_cons_succ, List.drop_succ_cons, List.drop_zero]
            repeat (go_big_quiet_step (fail))
            refine wpQuiet_nil ?_
            go_wp2_with fail
            go_ret
            refine ⟨(HBR.out.note HNR.out (g := ge) (by rw [HEV2.out]; rfl) en.length (.bool true)).drew, ?_⟩
            rw [HF.out, if_pos trivial]
            exact ⟨ev2, rfl, (HVR.out.note HEV2.out en.length).drew, HNR.out⟩
          · have h7' : (op == 7) = false := by simpa using h7
            clear hvr hbr hnr hBr hdr
            go_wp2_with fail
            go_ret
            refine ⟨HBR.out, ?_⟩
            rw [HF.out, if_neg h7]
            exact ⟨ev2, rfl, HVR.out, HNR.out⟩
theorem rnode_any (HO : Hid (∀ x ∈ re, -128 ≤ x.op ∧ x.op ≤ 127)) : ∀ (f : Nat), RNodeP xb oa nb no cap re f
  | 0 => rnode_zero
  | f + 1 => rnode_succ f HO (rnode_any HO f)
end
end Go.Proofs.Ytbdjcmhfcdamiaa
