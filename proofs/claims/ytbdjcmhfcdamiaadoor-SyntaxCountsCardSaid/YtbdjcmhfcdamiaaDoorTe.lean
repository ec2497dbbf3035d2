/- Contracts on lists of nodes in memory: Shaped, Weight, Behind, Groups, Refs. -/
import Derived.Test.YtbdjcmhfcdamiaaDoorTd
import Derived.Test.YtbdjcmhfcdamiaaDoorRo
namespace Go.Proofs.YtbdjcmhfcdamiaaDoor
open Go.RowKit

/-! ### Every place of what is well shaped can be weighed -/
theorem kidsN_each {P : Nat → Prop} {g : Nat → List Bool → Option (Nat × List Bool)} (hg : ∀ i en r, g i en = some r → i < r.1 ∧ ∀ p, i ≤ p → p < r.1 → P p) :
    ∀ (k i : Nat) (en : List Bool) (r : Nat × List Bool), kidsN g k i en = some r → i ≤ r.1 ∧ ∀ p, i ≤ p → p < r.1 → P p
  | 0, i, en, r, h => by simp only [kidsN, Option.some.injEq] at h; subst h; exact ⟨Nat.le_refl _, fun p h1 h2 => by simp only at h2; omega⟩
  | k + 1, i, en, r, h => by
    unfold kidsN at h
    split at h
    · cases h
    · rename_i j en1 h1
      have h2 := hg _ _ _ h1
      simp only at h2
      have h3 := kidsN_each hg k _ _ _ h
      refine ⟨by omega, fun p hp1 hp2 => ?_⟩
      by_cases hj : p < j
      · exact h2.2 p hp1 hj
      · exact h3.2 p (by omega) hp2
theorem nodeN_each (re : List Nd) : ∀ (f g i : Nat) (en : List Bool) (r : Nat × List Bool), nodeN re f g i en = some r → i < r.1 ∧ ∀ p, i ≤ p → p < r.1 → ∃ q, weighN re f p = some q
  | 0, _, _, _, _, h => by simp [nodeN] at h
  | f + 1, g, i, en, r, h => by
    obtain ⟨rj, ren⟩ := r
    obtain ⟨wi, hwi⟩ := weighN_of_nodeN re _ _ _ _ _ _ h
    have fin : ∀ (g' k : Nat) (en1 : List Bool) (r1 : Nat × List Bool), kidsN (nodeN re f g') k (i + 1) en1 = some r1 → i < r1.1 ∧ ∀ p, i ≤ p → p < r1.1 → ∃ q, weighN re (f + 1) p = some q := fun g' k en1 r1 hk => by
      have h1 := kidsN_each (fun i en r => nodeN_each re f g' i en r) _ _ _ _ hk
      refine ⟨by have := h1.1; omega, fun p hp1 hp2 => ?_⟩
      by_cases he : p = i
      · exact ⟨_, he ▸ hwi⟩
      · obtain ⟨q, hq⟩ := h1.2 p (by omega) hp2
        exact ⟨q, weighN_succ _ _ _ _ hq⟩
    unfold nodeN at h
    split at h
    · cases h
    · split at h
      · cases h
      · split at h
        · cases h
        · split at h
          · split at h
            · cases h
            · split at h
              · cases h
              · rename_i hk
                cases h
                have := fin _ _ _ _ hk
                exact this
          · exact fin _ _ _ _ h
theorem shapedN_spec {re : List Nd} (h : shapedN re = true) : RepOk re ∧ ∀ p, p < re.length → ∃ q, weighN re 260 p = some q := by
  unfold shapedN at h
  split at h
  · cases h
  · rename_i j en hn
    simp only [Bool.and_eq_true, decide_eq_true_eq] at h
    obtain ⟨rfl, _⟩ := h
    exact ⟨(shaped_ok fun p hp => (nodeN_good re _ _ _ _ _ hn).2.2 p (Nat.zero_le _) hp).1, fun p hp => (nodeN_each re _ _ _ _ _ hn).2 p (Nat.zero_le _) hp⟩

/-- Nodes, as a slice. -/
structure NdV (w : World) (oa : Option Addr) (re : List Nd) : Prop where
  len : re.length ≤ 4294967296
  at_ : 0 < re.length → ∃ nb no, oa = some ⟨nb, no, none⟩ ∧ NdAt w nb no re
theorem NdV.below {w w' : World} {oa : Option Addr} {re : List Nd} (h : NdV w oa re) (hb : Below w.heap.size w w') : NdV w' oa re :=
  ⟨h.len, fun hp => by obtain ⟨nb, no, h1, h2⟩ := h.at_ hp; exact ⟨nb, no, h1, h2.below hb⟩⟩
theorem RBut.toBelow {xb : Nat} {w0 w w' : World} (hb : Below w0.heap.size w0 w) (hx : w0.heap.size ≤ xb) (h : RBut xb Option.none w w') : Below w0.heap.size w0 w' where
  os := h.os.trans hb.os
  tape := h.tape.trans hb.tape
  output := h.output.trans hb.output
  size := Nat.le_trans hb.size h.size
  block := fun k hk => (h.block k (Nat.lt_of_lt_of_le hk hb.size) (by omega) (by simp)).trans (hb.block k hk)

set_option maxRecDepth 100000 in
set_option maxHeartbeats 1600000 in
theorem node_empty {w : World} {xb cap : Nat} {oa : Option Addr} (xl : xb < w.heap.size) (c0 : w.cell? ⟨xb, 0, none⟩ = some (.slice oa 0 cap)) (c1 : w.cell? ⟨xb, 1, none⟩ = some (.int .i64 0)) :
    Calls Tryd.prog 79 #[.pointer (some ⟨xb, 0, none⟩), .int .i64 0, .int .i64 0] w fun e w' => e = .returned (.bool false) ∧ Below w.heap.size w w' := by
  go_enter Tryd.func79, Tryd.ntmps79
  go_wp2_with fail
  refine wp_region_segs (X := none) 28 [([0, 1, 2, 3, 4, 5, 6, 7, 8, 9, 10, 11, 12, 13, 14, 15, 16, 17, 18, 19, 20, 21, 22, 23, 24], 25)] [26, 27] (by kernel_rfl) (by kernel_rfl) rfl (fun _ _ _ _ _ h => h) ?_
  simp only [wpSegs, pickSegs_nil, pickSegs_cons, pickOps_nil, pickOps_cons, List.getD_cons_zero, List.getD_cons_succ, List.drop_succ_cons, List.drop_nil]
  repeat (go_big_quiet_step (fail))
  refine wpQuiet_nil ?_
  go_wp2_with fail
  refine ⟨Keeps.refl _, ?_⟩
  repeat (go_big_quiet_step (fail))
  refine wpQuiet_nil ?_
  go_wp2_with fail
  go_ret
  exact ⟨rfl, (Below.refl _ _).drew⟩

theorem look_cells (w : World) (oa : Option Addr) (n cap : Nat) (j : Nat) : (w.alloc (.cells #[.slice oa n cap, .int .i64 0, .slice none 0 0] 154)).cell? ⟨w.heap.size, j, none⟩ = (#[.slice oa n cap, .int .i64 0, .slice none 0 0] : Array Value)[j]? :=
  cell_of_row _ _ j _ _ (0, 0) (heap_alloc_new w _)
theorem look_new {w : World} {nb no cap : Nat} {re : List Nd} (hn : NdAt w nb no re) : LkS (w.alloc (.cells #[.slice (some ⟨nb, no, none⟩) re.length cap, .int .i64 0, .slice none 0 0] 154)) w.heap.size (some ⟨nb, no, none⟩) nb no cap re 0 [] (.slice none 0 0) where
  lt := by simp
  c0 := look_cells _ _ _ _ 0
  c1 := look_cells _ _ _ _ 1
  c2 := look_cells _ _ _ _ 2
  fz := frozen_cls (heap_alloc_new w _)
  own := World.ownsRow_nil _ _ _ _
  nd := fun _ => ⟨rfl, hn.below ((Below.refl _ _).alloc (Nat.le_refl _) _)⟩
  nlt := hn.lt
  len := hn.len
  at_ := Nat.zero_le _
  el := by simp

set_option maxRecDepth 100000 in
set_option maxHeartbeats 1600000 in
theorem shaped_empty {oa : Option Addr} {cap : Nat} {w : World} :
    Calls Tryd.prog 52 #[.slice oa 0 cap] w fun e w' => e = .returned (.bool false) ∧ Below w.heap.size w w' := by
  have hb0 := (Below.refl w.heap.size w).alloc (Nat.le_refl _) (.cells #[.slice oa 0 cap, .int .i64 0, .slice none 0 0] 154)
  go_enter Tryd.func52, Tryd.ntmps52
  go_wp2_with fail
  refine (node_empty (oa := oa) (cap := cap) (by simp) (look_cells w oa 0 cap 0) (look_cells w oa 0 cap 1)).mono ?_; rintro e w1 ⟨rfl, hb1⟩
  have hb := hb0.trans (hb1.mono hb0.size)
  clear hb1 hb0
  go_wp2_with fail
  go_ret
  exact ⟨rfl, hb⟩

set_option maxRecDepth 100000 in
set_option maxHeartbeats 1600000 in
theorem shaped_some {re : List Nd} {nb no cap : Nat} {w : World} (_ : 0 < re.length) (hn : NdAt w nb no re) :
    Calls Tryd.prog 52 #[.slice (some ⟨nb, no, none⟩) re.length cap] w fun e w' => e = .returned (.bool (shapedN re)) ∧ Below w.heap.size w w' := by
  have hb0 := (Below.refl w.heap.size w).alloc (Nat.le_refl _) (.cells #[.slice (some ⟨nb, no, none⟩) re.length cap, .int .i64 0, .slice none 0 0] 154)
  have HN := Lib.hid hn
  have nbl := hn.lt
  have hlen := hn.len
  have hv := Lib.hid (look_new (cap := cap) hn)
  clear hn
  go_enter Tryd.func52, Tryd.ntmps52
  go_wp2_with fail
  refine (node_any 260 0 0 [] _ _ 0 0 (by omega) rfl rfl (by omega) hv.out).mono ?_; rintro e w1 ⟨hb1, hr⟩
  have HB := Lib.hid (hb1.toBelow hb0 (Nat.le_refl _))
  clear hb1 hb0 hv
  have HD := Lib.hid (HN.out.below HB.out)
  cases hq : nodeN re 260 0 0 [] with
  | none =>
    have HS : Hid (shapedN re = false) := by rw [Hid, shapedN, hq]
    rw [hq] at hr
    subst hr
    go_wp2_with fail
    go_ret
    exact ⟨by rw [HS.out]; rfl, HB.out⟩
  | some q =>
    obtain ⟨j, en⟩ := q
    rw [hq] at hr
    obtain ⟨ev, rfl, hl, _⟩ := hr
    have c1 := hl.c1
    have xl := hl.lt
    have hj := hl.at_
    clear hl
    by_cases hjl : j = re.length
    · obtain ⟨W, hw⟩ := weighN_of_nodeN re _ _ _ _ _ _ hq
      have HS : Hid (shapedN re = decide (W ≤ 16384)) := by rw [Hid, shapedN, hq, hw]; simp [hjl]
      have hok : RepOk re := (shaped_ok fun p hp => (nodeN_good re _ _ _ _ _ hq).2.2 p (Nat.zero_le _) (by omega)).1
      have HW := Lib.hid (weigh_any (cap := cap) hok 260 0 (W, j) w1 0 rfl HD.out hw)
      subst hjl
      clear hq hw
      go_wp2_with fail
      refine HW.out.mono ?_; rintro e w2 ⟨rfl, hb2⟩
      have HB2 := Lib.hid (HB.out.trans (hb2.mono HB.out.size))
      clear hb2 HW
      go_wp2_with fail
      go_ret
      exact ⟨by rw [HS.out]; rfl, HB2.out⟩
    · have HS : Hid (shapedN re = false) := by rw [Hid, shapedN, hq]; simp [hjl]
      have hjl' : ((j : Int) != (re.length : Int)) = true := by simp; omega
      go_wp2_with fail
      go_ret
      exact ⟨by rw [HS.out]; rfl, HB.out⟩

/-- Shaped. -/
theorem shaped_call {re : List Nd} {oa : Option Addr} {cap : Nat} {w : World} (h : NdV w oa re) :
    Calls Tryd.prog 52 #[.slice oa re.length cap] w fun e w' => e = .returned (.bool (shapedN re)) ∧ Below w.heap.size w w' := by
  by_cases hp : 0 < re.length
  · obtain ⟨nb, no, rfl, hn⟩ := h.at_ hp
    exact shaped_some hp hn
  · have hre : re = [] := List.eq_nil_of_length_eq_zero (by omega)
    subst hre
    exact shaped_empty

set_option maxRecDepth 100000 in
set_option maxHeartbeats 1600000 in
/-- Weight. -/
theorem weight_call {re : List Nd} {oa : Option Addr} {cap : Nat} {w : World} (h : NdV w oa re) :
    Calls Tryd.prog 55 #[.slice oa re.length cap] w fun e w' => e = .returned (.int .i64 (weightN re)) ∧ Below w.heap.size w w' := by
  have hs := shaped_call (cap := cap) h
  have HV := Lib.hid h
  clear h
  cases hsh : shapedN re with
  | false =>
    have HW : Hid (weightN re = 0) := by rw [Hid, weightN, hsh]; rfl
    rw [hsh] at hs
    have HS := Lib.hid hs
    clear hs
    go_enter Tryd.func55, Tryd.ntmps55
    go_wp2_with fail
    refine HS.out.mono ?_; rintro e w1 ⟨rfl, hb1⟩
    have HB := Lib.hid hb1
    clear hb1 HS
    go_wp2_with fail
    go_ret
    exact ⟨by rw [HW.out]; rfl, HB.out⟩
  | true =>
    have hp : 0 < re.length := by
      cases re with
      | nil => exact absurd hsh (by decide)
      | cons x l => simp
    obtain ⟨hok, hall⟩ := shapedN_spec hsh
    obtain ⟨⟨W, nx⟩, hw⟩ := hall 0 hp
    have HWT : Hid (weightN re = W) := by rw [Hid, weightN, hsh, hw]; rfl
    obtain ⟨nb, no, rfl, hn⟩ := HV.out.at_ hp
    have HK := Lib.hid (fun (w1 : World) (hb : Below w.heap.size w w1) => weigh_any (cap := cap) hok 260 0 (W, nx) w1 0 rfl (hn.below hb) hw)
    rw [hsh] at hs
    have HS := Lib.hid hs
    clear hs hn hw hall hok
    go_enter Tryd.func55, Tryd.ntmps55
    go_wp2_with fail
    refine HS.out.mono ?_; rintro e w1 ⟨rfl, hb1⟩
    have HB := Lib.hid hb1
    have HK1 := Lib.hid (HK.out w1 hb1)
    clear hb1 HS HK
    go_wp2_with fail
    refine HK1.out.mono ?_; rintro e w2 ⟨rfl, hb2⟩
    have HB2 := Lib.hid (HB.out.trans (hb2.mono HB.out.size))
    clear hb2 HK1
    go_wp2_with fail
    go_ret
    exact ⟨by rw [HWT.out]; rfl, HB2.out⟩

set_option maxRecDepth 100000 in
set_option maxHeartbeats 1600000 in
/-- Behind. -/
theorem behind_call {re : List Nd} {oa : Option Addr} {cap : Nat} {w : World} (i : Int) (h : NdV w oa re) :
    Calls Tryd.prog 56 #[.slice oa re.length cap, .int .i64 i] w fun e w' => e = .returned (.int .i64 (behindN re i)) ∧ Below w.heap.size w w' := by
  have hs := shaped_call (cap := cap) h
  have hlen := h.len
  have HV := Lib.hid h
  clear h
  cases hsh : shapedN re with
  | false =>
    have HW : Hid (behindN re i = -1) := by rw [Hid, behindN, hsh]; rfl
    rw [hsh] at hs
    have HS := Lib.hid hs
    clear hs
    go_enter Tryd.func56, Tryd.ntmps56
    go_wp2_with fail
    refine HS.out.mono ?_; rintro e w1 ⟨rfl, hb1⟩
    have HB := Lib.hid hb1
    clear hb1 HS
    go_wp2_with fail
    go_ret
    exact ⟨by rw [HW.out]; rfl, HB.out⟩
  | true =>
    rw [hsh] at hs
    have HS := Lib.hid hs
    clear hs
    by_cases h1 : i < 0
    · have HW : Hid (behindN re i = -1) := by rw [Hid, behindN, hsh]; simp; omega
      have h1' : decide (i < 0) = true := by simpa using h1
      go_enter Tryd.func56, Tryd.ntmps56
      go_wp2_with fail
      refine HS.out.mono ?_; rintro e w1 ⟨rfl, hb1⟩
      have HB := Lib.hid hb1
      clear hb1 HS
      go_wp2_with fail
      go_ret
      exact ⟨by rw [HW.out]; rfl, HB.out⟩
    have h1' : decide (i < 0) = false := by simpa using h1
    by_cases h2 : (re.length : Int) ≤ i
    · have HW : Hid (behindN re i = -1) := by rw [Hid, behindN, hsh]; simp; omega
      have h2' : decide ((re.length : Int) ≤ i) = true := by simpa using h2
      go_enter Tryd.func56, Tryd.ntmps56
      go_wp2_with fail
      refine HS.out.mono ?_; rintro e w1 ⟨rfl, hb1⟩
      have HB := Lib.hid hb1
      clear hb1 HS
      go_wp2_with fail
      go_ret
      exact ⟨by rw [HW.out]; rfl, HB.out⟩
    have h2' : decide ((re.length : Int) ≤ i) = false := by simpa using h2
    obtain ⟨p, rfl⟩ : ∃ p : Nat, i = (p : Int) := ⟨i.toNat, by omega⟩
    have hp : p < re.length := by omega
    obtain ⟨hok, hall⟩ := shapedN_spec hsh
    obtain ⟨⟨W, nx⟩, hw⟩ := hall p hp
    have HWT : Hid (behindN re (p : Int) = (nx : Int)) := by
      rw [Hid, behindN, hsh, Int.toNat_natCast, hw]
      simp only [Bool.true_and, Bool.and_eq_true, decide_eq_true_eq]
      rw [if_pos ⟨by omega, by omega⟩]
    obtain ⟨nb, no, rfl, hn⟩ := HV.out.at_ (by omega)
    have HK := Lib.hid (fun (w1 : World) (hb : Below w.heap.size w w1) => weigh_any (cap := cap) hok 260 p (W, nx) w1 (p : Int) rfl (hn.below hb) hw)
    clear hn hw hall hok
    go_enter Tryd.func56, Tryd.ntmps56
    go_wp2_with fail
    refine HS.out.mono ?_; rintro e w1 ⟨rfl, hb1⟩
    have HB := Lib.hid hb1
    have HK1 := Lib.hid (HK.out w1 hb1)
    clear hb1 HS HK
    go_wp2_with fail
    refine HK1.out.mono ?_; rintro e w2 ⟨rfl, hb2⟩
    have HB2 := Lib.hid (HB.out.trans (hb2.mono HB.out.size))
    clear hb2 HK1
    go_wp2_with fail
    go_ret
    exact ⟨by rw [HWT.out]; rfl, HB2.out⟩

set_option maxRecDepth 100000 in
set_option maxHeartbeats 1600000 in
/-- Groups. -/
theorem groups_call {re : List Nd} {oa : Option Addr} {cap : Nat} {w : World} (h : NdV w oa re) :
    Calls Tryd.prog 54 #[.slice oa re.length cap] w fun e w' => e = .returned (.int .i64 (groupsN re : Nat)) ∧ Below w.heap.size w w' := by
  have hs := shaped_call (cap := cap) h
  have hlen := h.len
  have HV := Lib.hid h
  clear h
  cases hsh : shapedN re with
  | false =>
    have HW : Hid (groupsN re = 0) := by rw [Hid, groupsN, hsh]; rfl
    rw [hsh] at hs
    have HS := Lib.hid hs
    clear hs
    go_enter Tryd.func54, Tryd.ntmps54
    go_wp2_with fail
    refine HS.out.mono ?_; rintro e w1 ⟨rfl, hb1⟩
    have HB := Lib.hid hb1
    clear hb1 HS
    go_wp2_with fail
    go_ret
    exact ⟨by rw [HW.out]; rfl, HB.out⟩
  | true =>
    have hp : 0 < re.length := by
      cases re with
      | nil => exact absurd hsh (by decide)
      | cons x l => simp
    have HW : Hid (groupsN re = ((re.take re.length).filter (·.op == 7)).length) := by rw [Hid, groupsN, hsh, List.take_length]; rfl
    obtain ⟨nb, no, rfl, hn⟩ := HV.out.at_ hp
    have HN := Lib.hid hn
    rw [hsh] at hs
    have HS := Lib.hid hs
    clear hs hn
    go_enter Tryd.func54, Tryd.ntmps54
    go_wp2_with fail
    refine HS.out.mono ?_; rintro e w1 ⟨rfl, hb1⟩
    have HB := Lib.hid hb1
    clear hb1 HS
    go_wp2_with fail
    go_loopg [3, 10] re.length (fun n cv dv wr => ∃ (d : Nat), dv = .int .i64 (d : Nat) ∧ n = re.length - d ∧ d ≤ re.length ∧ cv = .int .i64 ((((re.take d).filter (·.op == 7)).length : Nat)) ∧ Below w.heap.size w wr)
    case atStart => exact ⟨0, rfl, by omega, by omega, by simp, HB.out⟩
    case round =>
      obtain ⟨d, rfl, hg, hd, rfl, hb2⟩ := hrel
      have HG := Lib.hid hg
      have HB2 := Lib.hid hb2
      have HN2 := HN.out.below hb2
      clear hg hb2
      by_cases hlt : d < re.length
      · have hlt' : (d : Int) < (re.length : Int) := by omega
        obtain ⟨x, hx⟩ : ∃ x, re[d]? = some x := ⟨_, List.getElem?_eq_getElem hlt⟩
        obtain ⟨n0, n1, n2, n3, n4, n5, n6, n7, n8⟩ := HN2.cells hx
        have nbl := HN2.lt
        have hct : ((re.take (d + 1)).filter (·.op == 7)).length = ((re.take d).filter (·.op == 7)).length + (if x.op == 7 then 1 else 0) := by
          rw [List.take_add_one, hx]
          simp only [Option.toList_some, List.filter_append, List.length_append, List.filter_cons, List.filter_nil]
          split <;> rfl
        have hcl : ((re.take d).filter (·.op == 7)).length ≤ d := Nat.le_trans (List.length_filter_le _ _) (by simp; omega)
        have HCT := Lib.hid hct
        clear hct
        obtain ⟨op, ⟨x0, x1, x2, x3⟩, xn, xmin, xmax, xk⟩ := x
        simp only at n0 n1 n2 n3 n4 n5 n6 n7 n8
        clear hx HN2
        generalize ((re.take d).filter (·.op == 7)).length = c at *
        have HB3 := Lib.hid (HB2.out.alloc HB2.out.size (.cells (ndCells ⟨op, ⟨x0, x1, x2, x3⟩, xn, xmin, xmax, xk⟩) 77))
        clear HB2
        by_cases h7 : op = 7
        · subst h7
          go_wp2_with fail
          go_roundg (re.length - (d + 1))
          case measure => have := HG.out; omega
          case rel => exact ⟨d + 1, by go_num, rfl, by omega, by rw [HCT.out]; go_num, HB3.out⟩
        · have h7' : (op == 7) = false := by simpa using h7
          go_wp2_with fail
          go_roundg (re.length - (d + 1))
          case measure => have := HG.out; omega
          case rel => exact ⟨d + 1, by go_num, rfl, by omega, by rw [HCT.out, if_neg (by simpa using h7)]; go_num, HB3.out⟩
      · have hlt' : ¬ (d : Int) < (re.length : Int) := by omega
        have hde : d = re.length := by omega
        subst hde
        go_wp2_with fail
        go_ret
        exact ⟨by rw [HW.out, List.take_length]; rfl, HB2.out⟩

theorem any_take_succ {re : List Nd} {d : Nat} {x : Nd} (p : Nd → Bool) (hx : re[d]? = some x) : (re.take (d + 1)).any p = ((re.take d).any p || p x) := by
  rw [List.take_add_one, hx]
  simp
set_option maxRecDepth 100000 in
set_option maxHeartbeats 1600000 in
/-- Refs. -/
theorem refs_call {re : List Nd} {oa : Option Addr} {cap : Nat} {w : World} (h : NdV w oa re) :
    Calls Tryd.prog 53 #[.slice oa re.length cap] w fun e w' => e = .returned (.bool (refsN re)) ∧ Below w.heap.size w w' := by
  have hs := shaped_call (cap := cap) h
  have hlen := h.len
  have HV := Lib.hid h
  clear h
  cases hsh : shapedN re with
  | false =>
    have HW : Hid (refsN re = false) := by rw [Hid, refsN, hsh]; rfl
    rw [hsh] at hs
    have HS := Lib.hid hs
    clear hs
    go_enter Tryd.func53, Tryd.ntmps53
    go_wp2_with fail
    refine HS.out.mono ?_; rintro e w1 ⟨rfl, hb1⟩
    have HB := Lib.hid hb1
    clear hb1 HS
    go_wp2_with fail
    go_ret
    exact ⟨by rw [HW.out]; rfl, HB.out⟩
  | true =>
    have hp : 0 < re.length := by
      cases re with
      | nil => exact absurd hsh (by decide)
      | cons x l => simp
    have HW : Hid (refsN re = re.any (·.op == 8)) := by rw [Hid, refsN, hsh]; rfl
    obtain ⟨nb, no, rfl, hn⟩ := HV.out.at_ hp
    have HN := Lib.hid hn
    rw [hsh] at hs
    have HS := Lib.hid hs
    clear hs hn
    go_enter Tryd.func53, Tryd.ntmps53
    go_wp2_with fail
    refine HS.out.mono ?_; rintro e w1 ⟨rfl, hb1⟩
    have HB := Lib.hid hb1
    clear hb1 HS
    go_wp2_with fail
    go_loopg [9] re.length (fun n dv wr => ∃ (d : Nat), dv = .int .i64 (d : Nat) ∧ n = re.length - d ∧ d ≤ re.length ∧ Hid ((re.take d).any (·.op == 8) = false) ∧ Below w.heap.size w wr)
    case atStart => exact ⟨0, rfl, by omega, by omega, by simp [Hid], HB.out⟩
    case round =>
      obtain ⟨d, rfl, hg, hd, HA, hb2⟩ := hrel
      have HG := Lib.hid hg
      have HB2 := Lib.hid hb2
      have HN2 := HN.out.below hb2
      clear hg hb2
      by_cases hlt : d < re.length
      · have hlt' : (d : Int) < (re.length : Int) := by omega
        obtain ⟨x, hx⟩ : ∃ x, re[d]? = some x := ⟨_, List.getElem?_eq_getElem hlt⟩
        obtain ⟨n0, n1, n2, n3, n4, n5, n6, n7, n8⟩ := HN2.cells hx
        have nbl := HN2.lt
        have HT := Lib.hid (any_take_succ (fun n : Nd => n.op == 8) hx)
        have HM := Lib.hid (List.mem_of_getElem? hx)
        obtain ⟨op, ⟨x0, x1, x2, x3⟩, xn, xmin, xmax, xk⟩ := x
        simp only at n0 n1 n2 n3 n4 n5 n6 n7 n8
        clear hx HN2
        have HB3 := Lib.hid (HB2.out.alloc HB2.out.size (.cells (ndCells ⟨op, ⟨x0, x1, x2, x3⟩, xn, xmin, xmax, xk⟩) 77))
        clear HB2
        by_cases h8 : op = 8
        · subst h8
          have HF : Hid (refsN re = true) := by rw [Hid, HW.out, List.any_eq_true]; exact ⟨_, HM.out, rfl⟩
          go_wp2_with fail
          go_ret
          exact ⟨by rw [HF.out]; rfl, HB3.out⟩
        · have h8' : (op == 8) = false := by simpa using h8
          go_wp2_with fail
          go_roundg (re.length - (d + 1))
          case measure => have := HG.out; omega
          case rel => exact ⟨d + 1, by go_num, rfl, by omega, by rw [Hid, HT.out, HA.out]; exact h8', HB3.out⟩
      · have hlt' : ¬ (d : Int) < (re.length : Int) := by omega
        have hde : d = re.length := by omega
        subst hde
        have HF : Hid (refsN re = false) := by have := HA.out; rw [List.take_length] at this; rw [Hid, HW.out, this]
        go_wp2_with fail
        go_ret
        exact ⟨by rw [HF.out]; rfl, HB2.out⟩
end Go.Proofs.YtbdjcmhfcdamiaaDoor
