/- Contracts: long, of a row of lines; Machine's Steps and Pattern. No condition. -/
import Derived.Test.YtdinjlglngpecaaGreatDoorSj
import Derived.Test.YtdinjlglngpecaaGreatDoorSt
import Derived.Deep.LoopGhost
namespace Go.Proofs.YtdinjlglngpecaaGreatDoor
open Go.RowKit

/-- The bytes of the first lines. -/
def totL (LL : List Lin) (i : Nat) : Nat := ((LL.take i).map (fun l => l.T.length)).sum
theorem totL_succ {LL : List Lin} {i : Nat} {l : Lin} (h : LL[i]? = some l) : totL LL (i + 1) = totL LL i + l.T.length := by
  unfold totL
  rw [List.take_add_one, h, List.map_append, List.sum_append]
  simp
section
variable {w w' : World} {k : CK} {s : CS} {T : List Nat} {pk : Option Nat} {oa : Option Addr} {m ca : Nat} {LL : List Lin}
set_option maxRecDepth 100000 in
set_option maxHeartbeats 800000 in
theorem steps_call (h : MaS w k s T pk) : Calls Tryz.prog 14 #[.pointer (some ⟨k.mb, 0, none⟩)] w fun e w' => e = .returned (.int .i64 s.st) ∧ w = w' := by
  have m0 := h.m0
  have hl := h.mlt
  have c := h.co.get 10 rfl
  have hc := h.co.lt
  clear h
  go_enter Tryz.func14, Tryz.ntmps14
  go_wp2_with fail
  go_ret
  exact ⟨rfl, rfl⟩
set_option maxRecDepth 100000 in
set_option maxHeartbeats 800000 in
theorem mpattern_call (h : MaS w k s T pk) : Calls Tryz.prog 15 #[.pointer (some ⟨k.mb, 0, none⟩)] w fun e w' => (∃ v, e = .returned v ∧ w'.ownsRow w.heap.size 5 1 v T.length (u8s T)) ∧ Below w.heap.size w w' := by
  have HP := Lib.hid (spattern_call h.sp)
  have m0 := h.m0
  have hl := h.mlt
  have c := h.co.get 0 rfl
  have hc := h.co.lt
  clear h
  go_enter Tryz.func15, Tryz.ntmps15
  go_wp2_with fail
  refine HP.out.mono ?_; rintro e w1 ⟨⟨v, rfl, hv⟩, hb⟩
  have HV := Lib.hid hv
  have HB := Lib.hid hb
  clear hv hb
  go_wp2_with fail
  go_ret
  exact ⟨⟨v, rfl, HV.out⟩, HB.out⟩
set_option maxRecDepth 100000 in
set_option maxHeartbeats 800000 in
theorem longN_call (n : Nat) : Calls Tryz.prog 11 #[.int .i64 (n : Nat)] w fun e w' => e = .returned (.bool (decide (2147483647 < n))) ∧ w = w' := by
  by_cases h : 2147483647 < n
  · rw [decide_eq_true h]
    have h' : (2147483647 : Int) < (n : Int) := by omega
    go_enter Tryz.func11, Tryz.ntmps11
    go_wp2_with fail
    go_ret
    exact ⟨rfl, rfl⟩
  · rw [decide_eq_false h]
    have h' : ¬ (2147483647 : Int) < (n : Int) := by omega
    go_enter Tryz.func11, Tryz.ntmps11
    go_wp2_with fail
    go_ret
    exact ⟨rfl, rfl⟩
set_option maxRecDepth 100000 in
set_option maxHeartbeats 6400000 in
theorem long_call (h : LnM w oa LL) (hm : LL.length = m) (hz : m ≤ 5864062014806) :
    Calls Tryz.prog 4 #[.agg #[.slice oa m ca, .slice none 0 0, .int .i64 0, .int .i64 0, .bool false], .agg #[.slice none 0 0, .slice none 0 0, .slice none 0 0, .bool false]] w fun e w' => (∃ r, e = .returned (.bool r) ∧ (r = false → m + totL LL m ≤ 2147483647)) ∧ Below w.heap.size w w' := by
  have hba : Below w.heap.size w ((w.alloc (.cells #[.slice oa m ca, .slice none 0 0, .int .i64 0, .int .i64 0, .bool false] 26)).alloc (.cells #[.slice none 0 0, .slice none 0 0, .slice none 0 0, .bool false] 32)) := ((Below.refl _ _).alloc (Nat.le_refl _) _).alloc (by simp) _
  have e1 : (w.alloc (.cells #[.slice oa m ca, .slice none 0 0, .int .i64 0, .int .i64 0, .bool false] 26)).heap.size = w.heap.size + 1 := by simp
  have hp := new_cell (w.alloc (.cells #[.slice oa m ca, .slice none 0 0, .int .i64 0, .int .i64 0, .bool false] 26)) #[.slice none 0 0, .slice none 0 0, .slice none 0 0, .bool false] 32
  rw [e1] at hp
  have hr : ∀ j, ((w.alloc (.cells #[.slice oa m ca, .slice none 0 0, .int .i64 0, .int .i64 0, .bool false] 26)).alloc (.cells #[.slice none 0 0, .slice none 0 0, .slice none 0 0, .bool false] 32)).cell? ⟨w.heap.size, j, none⟩ = (#[.slice oa m ca, .slice none 0 0, .int .i64 0, .int .i64 0, .bool false] : Array Value)[j]? := fun j => (World.cell?_of_block (a := ⟨w.heap.size, j, none⟩) (heap_alloc_old _ _ (new_lt _ _))).trans (new_cell _ _ _ j)
  have HL := Lib.hid (h.below hba)
  have HB := Lib.hid hba
  have HM := Lib.hid hm
  have HZ := Lib.hid hz
  have HSZ : Hid (w.heap.size + 1 < ((w.alloc (.cells #[.slice oa m ca, .slice none 0 0, .int .i64 0, .int .i64 0, .bool false] 26)).alloc (.cells #[.slice none 0 0, .slice none 0 0, .slice none 0 0, .bool false] 32)).heap.size) := Lib.hid (by simp)
  have r0 := hr 0
  have r1 := hr 1
  have p0 := hp 0
  have p1 := hp 1
  have p2 := hp 2
  clear h hm hz hba e1 hp hr
  go_enter Tryz.func4, Tryz.ntmps4
  go_upto_region 1 with fail
  obtain ⟨W, hW⟩ : ∃ W, (w.alloc (.cells #[.slice oa m ca, .slice none 0 0, .int .i64 0, .int .i64 0, .bool false] 26)).alloc (.cells #[.slice none 0 0, .slice none 0 0, .slice none 0 0, .bool false] 32) = W := ⟨_, rfl⟩
  rw [hW] at HL HB HSZ r0 r1 p0 p1 p2 ⊢
  clear hW
  obtain ⟨c, hcz⟩ : ∃ c, w.heap.size = c := ⟨_, rfl⟩
  rw [hcz] at HSZ r0 r1 p0 p1 p2 ⊢
  clear hcz
  replace r0 : W.cell? ⟨c, 0, none⟩ = some (.slice oa m ca) := r0
  replace r1 : W.cell? ⟨c, 1, none⟩ = some (.slice none 0 0) := r1
  replace p0 : W.cell? ⟨c + 1, 0, none⟩ = some (.slice none 0 0) := p0
  replace p1 : W.cell? ⟨c + 1, 1, none⟩ = some (.slice none 0 0) := p1
  replace p2 : W.cell? ⟨c + 1, 2, none⟩ = some (.slice none 0 0) := p2
  have hc1 := HSZ.out
  have hc0 : c < W.heap.size := by omega
  have hm1 : (m : Int) ≤ 5864062014806 := by have := HZ.out; omega
  go_wp2_with fail
  go_loopg [5, 6] (m + 1) (fun gk nv iv wr => ∃ i : Nat, nv = .int .i64 ((m + totL LL i : Nat) : Int) ∧ iv = .int .i64 (i : Nat) ∧ gk = m + 1 - i ∧ i ≤ m ∧ m + totL LL i ≤ 281474976710656 ∧ wr = W)
  case atStart => exact ⟨0, by simp [totL], rfl, rfl, by omega, by simp [totL]; have := HZ.out; omega, rfl⟩
  case round =>
  obtain ⟨i, rfl, rfl, hgk, him, hnn, hwr⟩ := hrel
  have HGK := Lib.hid hgk
  have HIM := Lib.hid him
  have HNN := Lib.hid hnn
  clear hgk him hnn
  subst hwr
  obtain ⟨n, hn⟩ : ∃ n, m + totL LL i = n := ⟨_, rfl⟩
  have HN := Lib.hid hn
  rw [hn]
  by_cases hi : i < m ∧ n < 2147483648
  · obtain ⟨hi, hnl⟩ := hi
    have hi' : (i : Int) < (m : Int) := by omega
    have hn' : (n : Int) < 2147483648 := by omega
    have hlt : i < LL.length := by have := HM.out; omega
    obtain ⟨nb, no, rfl, hnb, hcell⟩ := HL.out (by omega)
    obtain ⟨l, hlg⟩ : ∃ l, LL[i]? = some l := ⟨_, List.getElem?_eq_getElem hlt⟩
    obtain ⟨e1, _, e2, _⟩ := hcell i l hlg
    have HSU := Lib.hid (totL_succ hlg)
    obtain ⟨t, ht⟩ : ∃ t, l.T.length = t := ⟨_, rfl⟩
    rw [ht] at e1 e2 HSU
    have ht2 : (t : Int) ≤ 140737488355328 := by omega
    have HE2 := Lib.hid e2
    have HI := Lib.hid hi
    have HNL := Lib.hid hnl
    clear hcell hlg ht hn hi hnl hlt e2
    go_wp2_with fail
    go_roundg (m + 1 - (i + 1))
    case measure => have := HGK.out; have := HI.out; omega
    case rel => exact ⟨i + 1, by rw [HSU.out, ← Nat.add_assoc, HN.out]; go_num, by go_num, rfl, HI.out, by rw [HSU.out, ← Nat.add_assoc, HN.out]; have := HE2.out; have := HNL.out; omega, rfl⟩
  have HI := Lib.hid hi
  clear hi hn
  by_cases him : i < m
  · have hi' : (i : Int) < (m : Int) := by omega
    have hn' : ¬ (n : Int) < 2147483648 := by have := HI.out; omega
    clear him
    have HLN := Lib.hid (longN_call (w := wr) n)
    obtain ⟨R, hR⟩ : ∃ R, decide (2147483647 < n) = R := ⟨_, rfl⟩
    rw [hR] at HLN
    have HR := Lib.hid hR
    clear hR
    go_wp2_with fail
    rename World => X
    go_loopg [5, 7] 1 (fun gk nv iv wr => nv = .int .i64 (n : Nat) ∧ iv = .int .i64 0 ∧ wr = X)
    case atStart => exact ⟨rfl, rfl, rfl⟩
    case round =>
    obtain ⟨rfl, rfl, hwr⟩ := hrel
    subst hwr
    go_wp2_with fail
    rename World => X
    go_loopg [4, 5, 8] 1 (fun gk bv nv iv wr => bv = .bool false ∧ nv = .int .i64 (n : Nat) ∧ iv = .int .i64 0 ∧ wr = X)
    case atStart => exact ⟨rfl, rfl, rfl, rfl⟩
    case round =>
    obtain ⟨rfl, rfl, rfl, hwr⟩ := hrel
    subst hwr
    go_wp2_with fail
    refine HLN.out.mono ?_; rintro e w9 ⟨rfl, hw9⟩
    subst hw9
    go_wp2_with fail
    go_ret
    exact ⟨⟨R, rfl, fun h => by
      have h1 : ¬ 2147483647 < n := of_decide_eq_false (HR.out.trans h)
      have h2 := HI.out
      have h3 := HIM.out
      have h4 := HN.out
      have h5 : i = m := by omega
      rw [← h5]; omega⟩, HB.out⟩
  · have hi' : ¬ (i : Int) < (m : Int) := by omega
    clear him
    have HLN := Lib.hid (longN_call (w := wr) n)
    obtain ⟨R, hR⟩ : ∃ R, decide (2147483647 < n) = R := ⟨_, rfl⟩
    rw [hR] at HLN
    have HR := Lib.hid hR
    clear hR
    go_wp2_with fail
    rename World => X
    go_loopg [5, 7] 1 (fun gk nv iv wr => nv = .int .i64 (n : Nat) ∧ iv = .int .i64 0 ∧ wr = X)
    case atStart => exact ⟨rfl, rfl, rfl⟩
    case round =>
    obtain ⟨rfl, rfl, hwr⟩ := hrel
    subst hwr
    go_wp2_with fail
    rename World => X
    go_loopg [4, 5, 8] 1 (fun gk bv nv iv wr => bv = .bool false ∧ nv = .int .i64 (n : Nat) ∧ iv = .int .i64 0 ∧ wr = X)
    case atStart => exact ⟨rfl, rfl, rfl, rfl⟩
    case round =>
    obtain ⟨rfl, rfl, rfl, hwr⟩ := hrel
    subst hwr
    go_wp2_with fail
    refine HLN.out.mono ?_; rintro e w9 ⟨rfl, hw9⟩
    subst hw9
    go_wp2_with fail
    go_ret
    exact ⟨⟨R, rfl, fun h => by
      have h1 : ¬ 2147483647 < n := of_decide_eq_false (HR.out.trans h)
      have h2 := HI.out
      have h3 := HIM.out
      have h4 := HN.out
      have h5 : i = m := by omega
      rw [← h5]; omega⟩, HB.out⟩
end
end Go.Proofs.YtdinjlglngpecaaGreatDoor
