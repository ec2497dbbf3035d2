/- Contracts of the reference's functions on trees: Shaped, Weight, Groups, Refs. -/
import Derived.Test.YtbdjcmhfcdamiaaUc
import Derived.Test.YtbdjcmhfcdamiaaTe
namespace Go.Proofs.Ytbdjcmhfcdamiaa
open Go.RowKit

set_option maxRecDepth 100000 in
set_option maxHeartbeats 1600000 in
theorem rnode_empty {w : World} {xb cap : Nat} {oa : Option Addr} (xl : xb < w.heap.size) (c0 : w.cell? ⟨xb, 0, none⟩ = some (.slice oa 0 cap)) (c1 : w.cell? ⟨xb, 1, none⟩ = some (.int .i64 0)) :
    Calls Try.prog 35 #[.pointer (some ⟨xb, 0, none⟩), .int .i64 0, .int .i64 0] w fun e w' => e = .returned (.bool false) ∧ Below w.heap.size w w' := by
  go_enter Try.func35, Try.ntmps35
  go_wp2_with fail
  refine wp_region_segs (X := none) 14 [] [0, 1, 2, 3, 4, 5, 6, 7, 8, 9, 10, 11, 12, 13] (by kernel_rfl) (by kernel_rfl) rfl (fun _ _ _ _ _ h => h) ?_
  simp only [wpSegs, pickSegs_nil, pickOps_nil, pickOps_cons, List.getD_cons_zero, List.getD_cons_succ, List.drop_succ_cons, List.drop_nil]
  repeat (go_big_quiet_step (fail))
  refine wpQuiet_nil ?_
  go_wp2_with fail
  go_ret
  exact ⟨rfl, (Below.refl _ _).drew⟩

theorem rlook_cells (w : World) (oa : Option Addr) (n cap : Nat) (j : Nat) : (w.alloc (.cells #[.slice oa n cap, .int .i64 0, .slice none 0 0] 64)).cell? ⟨w.heap.size, j, none⟩ = (#[.slice oa n cap, .int .i64 0, .slice none 0 0] : Array Value)[j]? :=
  cell_of_row _ _ j _ _ (0, 0) (heap_alloc_new w _)
theorem rlook_new {w : World} {nb no cap : Nat} {re : List Nd} (hn : NdAt w nb no re) : LkS (w.alloc (.cells #[.slice (some ⟨nb, no, none⟩) re.length cap, .int .i64 0, .slice none 0 0] 64)) w.heap.size (some ⟨nb, no, none⟩) nb no cap re 0 [] (.slice none 0 0) where
  lt := by simp
  c0 := rlook_cells _ _ _ _ 0
  c1 := rlook_cells _ _ _ _ 1
  c2 := rlook_cells _ _ _ _ 2
  fz := frozen_cls (heap_alloc_new w _)
  own := World.ownsRow_nil _ _ _ _
  nd := fun _ => ⟨rfl, hn.below ((Below.refl _ _).alloc (Nat.le_refl _) _)⟩
  nlt := hn.lt
  len := hn.len
  at_ := Nat.zero_le _
  el := by simp

set_option maxRecDepth 100000 in
set_option maxHeartbeats 1600000 in
theorem rshaped_empty {oa : Option Addr} {cap : Nat} {w : World} :
    Calls Try.prog 14 #[.slice oa 0 cap] w fun e w' => e = .returned (.bool false) ∧ Below w.heap.size w w' := by
  have hb0 := (Below.refl w.heap.size w).alloc (Nat.le_refl _) (.cells #[.slice oa 0 cap, .int .i64 0, .slice none 0 0] 64)
  go_enter Try.func14, Try.ntmps14
  go_wp2_with fail
  refine (rnode_empty (oa := oa) (cap := cap) (by simp) (rlook_cells w oa 0 cap 0) (rlook_cells w oa 0 cap 1)).mono ?_; rintro e w1 ⟨rfl, hb1⟩
  have hb := hb0.trans (hb1.mono hb0.size)
  clear hb1 hb0
  go_wp2_with fail
  go_ret
  exact ⟨rfl, hb⟩

set_option maxRecDepth 100000 in
set_option maxHeartbeats 1600000 in
theorem rshaped_some {re : List Nd} {nb no cap : Nat} {w : World} (HOP : Hid (∀ x ∈ re, -128 ≤ x.op ∧ x.op ≤ 127)) (_ : 0 < re.length) (hn : NdAt w nb no re) :
    Calls Try.prog 14 #[.slice (some ⟨nb, no, none⟩) re.length cap] w fun e w' => e = .returned (.bool (shapedN re)) ∧ Below w.heap.size w w' := by
  have hb0 := (Below.refl w.heap.size w).alloc (Nat.le_refl _) (.cells #[.slice (some ⟨nb, no, none⟩) re.length cap, .int .i64 0, .slice none 0 0] 64)
  have HN := Lib.hid hn
  have nbl := hn.lt
  have hlen := hn.len
  have hv := Lib.hid (rlook_new (cap := cap) hn)
  clear hn
  go_enter Try.func14, Try.ntmps14
  go_wp2_with fail
  refine (rnode_any HOP 260 0 0 [] _ _ 0 0 (by omega) rfl rfl (by omega) hv.out).mono ?_; rintro e w1 ⟨hb1, hr⟩
  have HB := Lib.hid (hb1.toBelow hb0 (Nat.le_refl _))
  clear hb1 hb0 hv
  have HD := Lib.hid (HN.out.below HB.out)
  cases hq : nodeN re 260 0 0 [] with
  | none =>
    have HS : Hid (shapedN re = false) := by rw [Hid, shapedN, hq]
    rw [hq] at hr
    subst hr
    go_wp2_with fail
    go_ret
    exact ⟨by rw [HS.out]; rfl, HB.out⟩
  | some q =>
    obtain ⟨j, en⟩ := q
    rw [hq] at hr
    obtain ⟨ev, rfl, hl, _⟩ := hr
    have c1 := hl.c1
    have xl := hl.lt
    have hj := hl.at_
    clear hl
    by_cases hjl : j = re.length
    · obtain ⟨W, hw⟩ := weighN_of_nodeN re _ _ _ _ _ _ hq
      have HS : Hid (shapedN re = decide (W ≤ 16384)) := by rw [Hid, shapedN, hq, hw]; simp [hjl]
      have hok : RepOk re := (shaped_ok fun p hp => (nodeN_good re _ _ _ _ _ hq).2.2 p (Nat.zero_le _) (by omega)).1
      have HW := Lib.hid (rweigh_any (cap := cap) hok HOP.out 260 0 (W, j) w1 0 rfl HD.out hw)
      subst hjl
      clear hq hw
      go_wp2_with fail
      refine HW.out.mono ?_; rintro e w2 ⟨rfl, hb2⟩
      have HB2 := Lib.hid (HB.out.trans (hb2.mono HB.out.size))
      clear hb2 HW
      go_wp2_with fail
      go_ret
      exact ⟨by rw [HS.out]; rfl, HB2.out⟩
    · have HS : Hid (shapedN re = false) := by rw [Hid, shapedN, hq]; simp [hjl]
      have hjl' : ((j : Int) != (re.length : Int)) = true := by simp; omega
      go_wp2_with fail
      go_ret
      exact ⟨by rw [HS.out]; rfl, HB.out⟩

/-- Shaped. -/
theorem rshaped_call {re : List Nd} {oa : Option Addr} {cap : Nat} {w : World} (HOP : Hid (∀ x ∈ re, -128 ≤ x.op ∧ x.op ≤ 127)) (h : NdV w oa re) :
    Calls Try.prog 14 #[.slice oa re.length cap] w fun e w' => e = .returned (.bool (shapedN re)) ∧ Below w.heap.size w w' := by
  by_cases hp : 0 < re.length
  · obtain ⟨nb, no, rfl, hn⟩ := h.at_ hp
    exact rshaped_some HOP hp hn
  · have hre : re = [] := List.eq_nil_of_length_eq_zero (by omega)
    subst hre
    exact rshaped_empty

set_option maxRecDepth 100000 in
set_option maxHeartbeats 1600000 in
/-- Weight. -/
theorem rweight_call {re : List Nd} {oa : Option Addr} {cap : Nat} {w : World} (HOP : Hid (∀ x ∈ re, -128 ≤ x.op ∧ x.op ≤ 127)) (h : NdV w oa re) :
    Calls Try.prog 20 #[.slice oa re.length cap] w fun e w' => e = .returned (.int .i64 (weightN re)) ∧ Below w.heap.size w w' := by
  have hs := rshaped_call (cap := cap) HOP h
  have HV := Lib.hid h
  clear h
  cases hsh : shapedN re with
  | false =>
    have HW : Hid (weightN re = 0) := by rw [Hid, weightN, hsh]; rfl
    rw [hsh] at hs
    have HS := Lib.hid hs
    clear hs
    go_enter Try.func20, Try.ntmps20
    go_wp2_with fail
    refine HS.out.mono ?_; rintro e w1 ⟨rfl, hb1⟩
    have HB := Lib.hid hb1
    clear hb1 HS
    go_wp2_with fail
    go_ret
    exact ⟨by rw [HW.out]; rfl, HB.out⟩
  | true =>
    have hp : 0 < re.length := by
      cases re with
      | nil => exact absurd hsh (by decide)
      | cons x l => simp
    obtain ⟨hok, hall⟩ := shapedN_spec hsh
    obtain ⟨⟨W, nx⟩, hw⟩ := hall 0 hp
    have HWT : Hid (weightN re = W) := by rw [Hid, weightN, hsh, hw]; rfl
    obtain ⟨nb, no, rfl, hn⟩ := HV.out.at_ hp
    have HK := Lib.hid (fun (w1 : World) (hb : Below w.heap.size w w1) => rweigh_any (cap := cap) hok HOP.out 260 0 (W, nx) w1 0 rfl (hn.below hb) hw)
    rw [hsh] at hs
    have HS := Lib.hid hs
    clear hs hn hw hall hok
    go_enter Try.func20, Try.ntmps20
    go_wp2_with fail
    refine HS.out.mono ?_; rintro e w1 ⟨rfl, hb1⟩
    have HB := Lib.hid hb1
    have HK1 := Lib.hid (HK.out w1 hb1)
    clear hb1 HS HK
    go_wp2_with fail
    refine HK1.out.mono ?_; rintro e w2 ⟨rfl, hb2⟩
    have HB2 := Lib.hid (HB.out.trans (hb2.mono HB.out.size))
    clear hb2 HK1
    go_wp2_with fail
    go_ret
    exact ⟨by rw [HWT.out]; rfl, HB2.out⟩

set_option maxRecDepth 100000 in
set_option maxHeartbeats 1600000 in
/-- Groups. -/
theorem rgroups_call {re : List Nd} {oa : Option Addr} {cap : Nat} {w : World} (HOP : Hid (∀ x ∈ re, -128 ≤ x.op ∧ x.op ≤ 127)) (h : NdV w oa re) :
    Calls Try.prog 16 #[.slice oa re.length cap] w fun e w' => e = .returned (.int .i64 (groupsN re : Nat)) ∧ Below w.heap.size w w' := by
  have hs := rshaped_call (cap := cap) HOP h
  have hlen := h.len
  have HV := Lib.hid h
  clear h
  cases hsh : shapedN re with
  | false =>
    have HW : Hid (groupsN re = 0) := by rw [Hid, groupsN, hsh]; rfl
    rw [hsh] at hs
    have HS := Lib.hid hs
    clear hs
    go_enter Try.func16, Try.ntmps16
    go_wp2_with fail
    refine HS.out.mono ?_; rintro e w1 ⟨rfl, hb1⟩
    have HB := Lib.hid hb1
    clear hb1 HS
    go_wp2_with fail
    go_ret
    exact ⟨by rw [HW.out]; rfl, HB.out⟩
  | true =>
    have hp : 0 < re.length := by
      cases re with
      | nil => exact absurd hsh (by decide)
      | cons x l => simp
    have HW : Hid (groupsN re = ((re.take re.length).filter (·.op == 7)).length) := by rw [Hid, groupsN, hsh, List.take_length]; rfl
    obtain ⟨nb, no, rfl, hn⟩ := HV.out.at_ hp
    have HN := Lib.hid hn
    rw [hsh] at hs
    have HS := Lib.hid hs
    clear hs hn
    go_enter Try.func16, Try.ntmps16
    go_wp2_with fail
    refine HS.out.mono ?_; rintro e w1 ⟨rfl, hb1⟩
    have HB := Lib.hid hb1
    clear hb1 HS
    go_wp2_with fail
    go_loopg [3, 4] re.length (fun n cv dv wr => ∃ (d : Nat), dv = .int .i64 (d : Nat) ∧ n = re.length - d ∧ d ≤ re.length ∧ cv = .int .i64 ((((re.take d).filter (·.op == 7)).length : Nat)) ∧ Below w.heap.size w wr)
    case atStart => exact ⟨0, rfl, by omega, by omega, by simp, HB.out⟩
    case round =>
      obtain ⟨d, rfl, hg, hd, rfl, hb2⟩ := hrel
      have HG := Lib.hid hg
      have HB2 := Lib.hid hb2
      have HN2 := HN.out.below hb2
      clear hg hb2
      by_cases hlt : d < re.length
      · have hlt' : (d : Int) < (re.length : Int) := by omega
        obtain ⟨x, hx⟩ : ∃ x, re[d]? = some x := ⟨_, List.getElem?_eq_getElem hlt⟩
        obtain ⟨hop1, hop2⟩ := HOP.out x (List.mem_of_getElem? hx)
        obtain ⟨n0, n1, n2, n3, n4, n5, n6, n7, n8⟩ := HN2.cells hx
        have nbl := HN2.lt
        have hct : ((re.take (d + 1)).filter (·.op == 7)).length = ((re.take d).filter (·.op == 7)).length + (if x.op == 7 then 1 else 0) := by
          rw [List.take_add_one, hx]
          simp only [Option.toList_some, List.filter_append, List.length_append, List.filter_cons, List.filter_nil]
          split <;> rfl
        have hcl : ((re.take d).filter (·.op == 7)).length ≤ d := Nat.le_trans (List.length_filter_le _ _) (by simp; omega)
        have HCT := Lib.hid hct
        clear hct
        obtain ⟨op, ⟨x0, x1, x2, x3⟩, xn, xmin, xmax, xk⟩ := x
        simp only at n0 n1 n2 n3 n4 n5 n6 n7 n8 hop1 hop2
        clear hx HN2
        generalize ((re.take d).filter (·.op == 7)).length = c at *
        have HB3 := HB2
        clear HB2
        by_cases h7 : op = 7
        · subst h7
          go_wp2_with fail
          go_roundg (re.length - (d + 1))
          case measure => have := HG.out; omega
          case rel => exact ⟨d + 1, by go_num, rfl, by omega, by rw [HCT.out]; go_num, HB3.out⟩
        · have h7' : (op == 7) = false := by simpa using h7
          go_wp2_with fail
          go_roundg (re.length - (d + 1))
          case measure => have := HG.out; omega
          case rel => exact ⟨d + 1, by go_num, rfl, by omega, by rw [HCT.out, if_neg (by simpa using h7)]; go_num, HB3.out⟩
      · have hlt' : ¬ (d : Int) < (re.length : Int) := by omega
        have hde : d = re.length := by omega
        subst hde
        go_wp2_with fail
        go_ret
        exact ⟨by rw [HW.out, List.take_length]; rfl, HB2.out⟩

set_option maxRecDepth 100000 in
set_option maxHeartbeats 1600000 in
/-- Refs. -/
theorem rrefs_call {re : List Nd} {oa : Option Addr} {cap : Nat} {w : World} (HOP : Hid (∀ x ∈ re, -128 ≤ x.op ∧ x.op ≤ 127)) (h : NdV w oa re) :
    Calls Try.prog 18 #[.slice oa re.length cap] w fun e w' => e = .returned (.bool (refsN re)) ∧ Below w.heap.size w w' := by
  have hs := rshaped_call (cap := cap) HOP h
  have hlen := h.len
  have HV := Lib.hid h
  clear h
  cases hsh : shapedN re with
  | false =>
    have HW : Hid (refsN re = false) := by rw [Hid, refsN, hsh]; rfl
    rw [hsh] at hs
    have HS := Lib.hid hs
    clear hs
    go_enter Try.func18, Try.ntmps18
    go_wp2_with fail
    refine HS.out.mono ?_; rintro e w1 ⟨rfl, hb1⟩
    have HB := Lib.hid hb1
    clear hb1 HS
    go_wp2_with fail
    go_ret
    exact ⟨by rw [HW.out]; rfl, HB.out⟩
  | true =>
    have hp : 0 < re.length := by
      cases re with
      | nil => exact absurd hsh (by decide)
      | cons x l => simp
    have HW : Hid (refsN re = re.any (·.op == 8)) := by rw [Hid, refsN, hsh]; rfl
    obtain ⟨nb, no, rfl, hn⟩ := HV.out.at_ hp
    have HN := Lib.hid hn
    rw [hsh] at hs
    have HS := Lib.hid hs
    clear hs hn
    go_enter Try.func18, Try.ntmps18
    go_wp2_with fail
    refine HS.out.mono ?_; rintro e w1 ⟨rfl, hb1⟩
    have HB := Lib.hid hb1
    clear hb1 HS
    go_wp2_with fail
    go_loopg [3] re.length (fun n dv wr => ∃ (d : Nat), dv = .int .i64 (d : Nat) ∧ n = re.length - d ∧ d ≤ re.length ∧ Hid ((re.take d).any (·.op == 8) = false) ∧ Below w.heap.size w wr)
    case atStart => exact ⟨0, rfl, by omega, by omega, by simp [Hid], HB.out⟩
    case round =>
      obtain ⟨d, rfl, hg, hd, HA, hb2⟩ := hrel
      have HG := Lib.hid hg
      have HB2 := Lib.hid hb2
      have HN2 := HN.out.below hb2
      clear hg hb2
      by_cases hlt : d < re.length
      · have hlt' : (d : Int) < (re.length : Int) := by omega
        obtain ⟨x, hx⟩ : ∃ x, re[d]? = some x := ⟨_, List.getElem?_eq_getElem hlt⟩
        obtain ⟨hop1, hop2⟩ := HOP.out x (List.mem_of_getElem? hx)
        obtain ⟨n0, n1, n2, n3, n4, n5, n6, n7, n8⟩ := HN2.cells hx
        have nbl := HN2.lt
        have HT := Lib.hid (any_take_succ (fun n : Nd => n.op == 8) hx)
        have HM := Lib.hid (List.mem_of_getElem? hx)
        obtain ⟨op, ⟨x0, x1, x2, x3⟩, xn, xmin, xmax, xk⟩ := x
        simp only at n0 n1 n2 n3 n4 n5 n6 n7 n8 hop1 hop2
        clear hx HN2
        have HB3 := HB2
        clear HB2
        by_cases h8 : op = 8
        · subst h8
          have HF : Hid (refsN re = true) := by rw [Hid, HW.out, List.any_eq_true]; exact ⟨_, HM.out, rfl⟩
          go_wp2_with fail
          go_ret
          exact ⟨by rw [HF.out]; rfl, HB3.out⟩
        · have h8' : (op == 8) = false := by simpa using h8
          go_wp2_with fail
          go_roundg (re.length - (d + 1))
          case measure => have := HG.out; omega
          case rel => exact ⟨d + 1, by go_num, rfl, by omega, by rw [Hid, HT.out, HA.out]; exact h8', HB3.out⟩
      · have hlt' : ¬ (d : Int) < (re.length : Int) := by omega
        have hde : d = re.length := by omega
        subst hde
        have HF : Hid (refsN re = false) := by have := HA.out; rw [List.take_length] at this; rw [Hid, HW.out, this]
        go_wp2_with fail
        go_ret
        exact ⟨by rw [HF.out]; rfl, HB2.out⟩
end Go.Proofs.Ytbdjcmhfcdamiaa
