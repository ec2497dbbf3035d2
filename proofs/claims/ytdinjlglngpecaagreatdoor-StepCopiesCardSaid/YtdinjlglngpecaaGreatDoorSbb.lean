/- Bytes in memory: copies, wide copies, comparisons. Copied out of other texts by pick.py. No condition. -/
import Derived.Test.YtdinjlglngpecaaGreatDoorSba
import Derived.Shelf.Bytes.SlClone
import Derived.Deep.MidRow
namespace Go.Proofs.YtdinjlglngpecaaGreatDoor
open Go.RowKit Go.Shelf

theorem elBy : ElT Tryz.prog 33 5 1 1 (.int .u8 0) := ⟨Tryz.underlying33, by kernel_rfl, rfl, by decide⟩
/-- Bytes in memory, however many. -/
def BtM (w : World) (oa : Option Addr) (T : List Nat) : Prop := 0 < T.length → ∃ g o, oa = some ⟨g, o, none⟩ ∧ g < w.heap.size ∧ ∀ i b, T[i]? = some b → w.cell? ⟨g, o + i, none⟩ = some (.int .u8 (b : Nat))
theorem BtM.below {w w' : World} {oa : Option Addr} {T : List Nat} (h : BtM w oa T) (hb : Below w.heap.size w w') : BtM w' oa T := fun hp => by
  obtain ⟨g, o, h1, h2, h3⟩ := h hp
  exact ⟨g, o, h1, Nat.lt_of_lt_of_le h2 hb.size, fun i b hi => (hb.cell (p := ⟨g, o + i, none⟩) h2).trans (h3 i b hi)⟩
theorem BtM.of_src {w : World} {oa : Option Addr} {c n : Nat} {T : List Nat} (h : Src w (.slice oa n c) n (u8s T)) : BtM w oa T := by
  intro hp
  rcases h with ⟨_, _, h3⟩ | ⟨a, c', h1, h2⟩
  · have : T = [] := by simpa [u8s] using h3
    rw [this] at hp
    simp at hp
  · injection h1 with h1
    subst h1
    obtain ⟨g, o, s⟩ := a
    have hc : ∀ i b, T[i]? = some b → w.cell? (Addr.add ⟨g, o, s⟩ i) = some (.int .u8 (b : Nat)) := fun i b hi => h2 i _ (by simp [u8s, hi])
    have k0 := hc 0 _ (List.getElem?_eq_getElem hp)
    have hs : s = none := by simpa [Addr.add] using World.cell?_spot k0
    subst hs
    have hc2 : ∀ i b, T[i]? = some b → w.cell? ⟨g, o + i, none⟩ = some (.int .u8 (b : Nat)) := fun i b hi => by rw [← Addr.add_mid]; exact hc i b hi
    exact ⟨g, o, rfl, World.block_lt_of_cell? w _ (hc2 0 _ (List.getElem?_eq_getElem hp)), hc2⟩
def spareB (i : Nat) : Nat := (279 + 7 * i + 3) % 256
def spareBs (n : Nat) : List Nat := (List.range 64).map fun k => spareB (n + k)
theorem spareBs_length (n : Nat) : (spareBs n).length = 64 := by simp [spareBs]
theorem spareB_int (i : Nat) : ((spareB i : Nat) : Int) = (279 + 7 * (i : Int) + 3) % 256 := by simp only [spareB]; omega
theorem fullB_at {L : List Nat} {n : Nat} (hn : L.length = n) {d : Nat} (h1 : n ≤ d) (h2 : d < n + 64) : (L ++ spareBs n)[d]? = some (spareB d) := by
  rw [List.getElem?_append_right (by omega), spareBs, List.getElem?_map, List.getElem?_range (by omega), Option.map_some, hn, show n + (d - n) = d by omega]
/-- Bytes in a row of the call's own, with room behind them. -/
def WideB (w : World) (base g n : Nat) (T : List Nat) : Prop := T.length = n ∧ w.ownsRow base 5 1 (.slice (some ⟨g, 0, none⟩) (n + 64) (n + 64)) (n + 64) (u8s (T ++ spareBs n))
section
variable {w w' : World} {base g n : Nat} {T : List Nat}
theorem WideB.lt (h : WideB w base g n T) : base ≤ g ∧ g < w.heap.size := World.ownsRow.lt h.2 g rfl
theorem WideB.block (h : WideB w base g n T) (hb : w'.heap[g]? = w.heap[g]?) : WideB w' base g n T := ⟨h.1, ownsRow_of_block h.2 fun k hk => by cases hk; exact hb⟩
theorem WideB.below (h : WideB w base g n T) (hb : Below w.heap.size w w') : WideB w' base g n T := h.block (hb.block g h.lt.2)
theorem WideB.at_ (h : WideB w base g n T) {d b : Nat} (hd : (T ++ spareBs n)[d]? = some b) : w.cell? ⟨g, d, none⟩ = some (.int .u8 (b : Nat)) := by
  have hl := (List.getElem?_eq_some_iff.1 hd).1
  rw [List.length_append, spareBs_length, h.1] at hl
  rw [World.ownsRow.cellAt h.2 d (by omega)]
  simp only [u8s, List.getElem?_map, hd, Option.map_some]
theorem WideB.btM (h : WideB w base g n T) : BtM w (some ⟨g, 0, none⟩) T := fun _ => ⟨g, 0, rfl, h.lt.2, fun i b hi => by
  rw [Nat.zero_add]
  exact h.at_ (by rw [List.getElem?_append_left (List.getElem?_eq_some_iff.1 hi).1, hi])⟩
theorem u8s_take_succ {l : List Nat} {d b : Nat} (hm : l[d]? = some b) : (u8s l).take (d + 1) = (u8s l).take d ++ [.int .u8 (b : Nat)] := by
  rw [List.take_add_one]
  simp only [u8s, List.getElem?_map, hm, Option.map_some, Option.toList_some]
set_option maxRecDepth 100000 in
set_option maxHeartbeats 1600000 in
theorem wideBytesU {oa : Option Addr} {cap : Nat} (hv : BtM w oa T) (hl : T.length ≤ 140737488355328) :
    Calls Tryz.prog 235 #[.slice oa T.length cap] w fun e w' => (∃ g, e = .returned (.slice (some ⟨g, 0, none⟩) T.length (T.length + 64)) ∧ WideB w' w.heap.size g T.length T) ∧ Below w.heap.size w w' := by
  have HV := Lib.hid hv
  have HL := Lib.hid hl
  have hl1 : (T.length : Int) ≤ 140737488355328 := by omega
  have HF := Lib.hid (show (T ++ spareBs T.length).length = T.length + 64 by rw [List.length_append, spareBs_length])
  clear hv hl
  obtain ⟨i0, hi, hz0, hz1, hz2⟩ := info_parts (elBy).hi
  go_enter Tryz.func235, Tryz.ntmps235
  go_wp2_with (at_make; refine wpList_make_full _ rfl _ _ 33 rfl w.heap.size 5 i0 _ 1 Tryz.underlying33 hi hz0 hz1 .i64 .i64 ((T.length : Int) + 64) ((T.length : Int) + 64) (T.length + 64) rfl rfl (by omega) (by omega) (by rw [hz2]; have := HL.out; omega) (by unfold maxLen; have := HL.out; omega) (Nat.le_refl _) ?_)
  intro w1 hown hgr
  have HO1 := Lib.hid hown
  have HB1 := Lib.hid ((Below.refl w.heap.size w).grown hgr (Nat.le_refl _) (fun k hk => by cases hk))
  have hg1 : w.heap.size < w1.heap.size := (hown.lt _ rfl).2
  clear hown hgr hi hz0 hz1 hz2
  go_wp2_with fail
  go_loopg [4] (T.length + 64) (fun n iv wr => ∃ (d : Nat) (xs : List Value), iv = .int .i64 (d : Nat) ∧ n = T.length + 64 - d ∧ d ≤ T.length + 64 ∧ wr.ownsRow w.heap.size 5 1 (.slice (some ⟨w.heap.size, 0, none⟩) (T.length + 64) (T.length + 64)) (T.length + 64) xs ∧ xs.take d = (u8s (T ++ spareBs T.length)).take d ∧ Below w.heap.size w wr)
  case atStart => exact ⟨0, _, rfl, by omega, by omega, HO1.out, by simp, HB1.out⟩
  case round =>
    obtain ⟨d, xs, rfl, hg2, hd, ho, ht, hb⟩ := hrel
    have HG := Lib.hid hg2
    have HO := Lib.hid ho
    have HT := Lib.hid ht
    have HB := Lib.hid hb
    have hgw : w.heap.size < wr.heap.size := (ho.lt _ rfl).2
    clear hg2 ht hb
    by_cases hlt : d < T.length + 64
    · have hlt' : (d : Int) < (T.length : Int) + 64 := by omega
      obtain ⟨_, g', hg', _, hcs, hfz⟩ := own_some ho (by omega)
      cases hg'
      obtain ⟨u0, _, z0⟩ := hcs d (by omega)
      have f0 := hfz d
      have HXL := Lib.hid (show xs.length = (T.length + 64) * 1 from ho.1)
      clear ho hcs hfz
      by_cases hin : d < T.length
      · have hin' : (d : Int) < (T.length : Int) := by omega
        obtain ⟨mb, mo, hoa, hml, hmc⟩ := (HV.out.below HB.out) (by omega)
        obtain ⟨b, hbd⟩ : ∃ b, T[d]? = some b := ⟨_, List.getElem?_eq_getElem hin⟩
        have y0 := hmc d b hbd
        have HX := Lib.hid (show (T ++ spareBs T.length)[d]? = some b by rw [List.getElem?_append_left hin, hbd])
        have HR := Lib.hid (stAll_row [.int .u8 (b : Nat)] d HO.out)
        have HTT := Lib.hid (setAll_take [.int .u8 (b : Nat)] xs d (by rw [HXL.out]; simp; omega))
        subst hoa
        clear hmc hbd
        go_wp2_with fail
        go_roundg (T.length + 64 - (d + 1))
        case measure => have := HG.out; omega
        case rel => exact ⟨d + 1, _, by go_num, rfl, by omega, HR.out, by rw [u8s_take_succ HX.out, ← HT.out, ← HTT.out]; rfl, HB.out.trans ((Below.refl w.heap.size wr).setCell (p := ⟨w.heap.size, d, none⟩) (Nat.le_refl _) _)⟩
      · have hin' : ¬ (d : Int) < (T.length : Int) := by omega
        have HX := Lib.hid (fullB_at (L := T) rfl (Nat.le_of_not_lt hin) hlt)
        have HR := Lib.hid (stAll_row [.int .u8 ((279 + 7 * (d : Int) + 3) % 256)] d HO.out)
        have HTT := Lib.hid (setAll_take [.int .u8 ((279 + 7 * (d : Int) + 3) % 256)] xs d (by rw [HXL.out]; simp; omega))
        go_wp2_with fail
        go_roundg (T.length + 64 - (d + 1))
        case measure => have := HG.out; omega
        case rel => exact ⟨d + 1, _, by go_num, rfl, by omega, HR.out, by rw [u8s_take_succ HX.out, ← HT.out, spareB_int, ← HTT.out]; rfl, HB.out.trans ((Below.refl w.heap.size wr).setCell (p := ⟨w.heap.size, d, none⟩) (Nat.le_refl _) _)⟩
    · have hlt' : ¬ (d : Int) < (T.length : Int) + 64 := by omega
      have hde : d = T.length + 64 := by omega
      subst hde
      have hfin : WideB wr w.heap.size w.heap.size T.length T := by
        refine ⟨rfl, ?_⟩
        have h1 := HT.out
        rw [List.take_of_length_le (by rw [ho.1]; omega), List.take_of_length_le (by rw [u8s, List.length_map, HF.out]; exact Nat.le_refl _)] at h1
        rw [← h1]
        exact ho
      have HFin := Lib.hid hfin
      clear ho hfin
      go_wp2_with fail
      go_ret
      exact ⟨⟨_, rfl, HFin.out⟩, HB.out⟩
set_option maxRecDepth 100000 in
set_option maxHeartbeats 1600000 in
theorem eqBytesU {oa ob : Option Addr} {ca cb : Nat} (ha : BtM w oa T) (hb : BtM w ob T) (z : T.length ≤ 140737488355328) :
    Calls Tryz.prog 9 #[.slice oa T.length ca, .slice ob T.length cb] w fun e w' => e = .returned (.bool true) ∧ Below w.heap.size w w' := by
  have HA := Lib.hid ha
  have HB := Lib.hid hb
  have hz : (T.length : Int) ≤ 140737488355328 := by omega
  clear ha hb z
  go_enter Tryz.func9, Tryz.ntmps9
  go_wp2_with fail
  go_loopg [5] T.length (fun n iv wr => ∃ d : Nat, iv = .int .i64 (d : Nat) ∧ n = T.length - d ∧ d ≤ T.length ∧ Below w.heap.size w wr)
  case atStart => exact ⟨0, rfl, by omega, by omega, Below.refl _ _⟩
  case round =>
    obtain ⟨d, rfl, hg, hd, hbe⟩ := hrel
    have HG := Lib.hid hg
    have HBE := Lib.hid hbe
    clear hg
    by_cases hlt : d < T.length
    · have hlt' : (d : Int) < (T.length : Int) := by omega
      obtain ⟨na, oo, rfl, nal, hna⟩ := (HA.out.below hbe) (by omega)
      obtain ⟨nb, ob', rfl, nbl, hnb⟩ := (HB.out.below hbe) (by omega)
      obtain ⟨x, hx⟩ : ∃ x, T[d]? = some x := ⟨_, List.getElem?_eq_getElem hlt⟩
      have n0 := hna d x hx
      have m0 := hnb d x hx
      have e1 : ((x : Int) != (x : Int)) = false := by simp
      clear hna hnb hbe hx
      go_wp2_with fail
      refine wp_region_segs (X := none) 9 [] [0, 1, 2, 3, 4, 5, 6, 7, 8] (by kernel_rfl) (by kernel_rfl) rfl (fun _ _ _ _ _ h => h) ?_
      simp only [wpSegs, pickSegs_nil, pickOps_nil, pickOps_cons, List.getD_cons_zero, List.getD_cons_succ, List.drop_succ_cons, List.drop_nil]
      repeat (go_big_quiet_step (fail))
      refine wpQuiet_nil ?_
      go_wp2_with fail
      go_roundg (T.length - (d + 1))
      case measure => have := HG.out; omega
      case rel => exact ⟨d + 1, by go_num, rfl, by omega, HBE.out.drew⟩
    · have hlt' : ¬ (d : Int) < (T.length : Int) := by omega
      clear hbe
      go_wp2_with fail
      go_ret
      exact ⟨rfl, HBE.out⟩
end
section
variable {w : World} {oa : Option Addr} {cap : Nat} {T : List Nat}
set_option maxRecDepth 100000 in
set_option maxHeartbeats 1600000 in
theorem copyBytes_call (hs : Src w (.slice oa T.length cap) T.length (u8s T)) (hl : T.length ≤ 140737488355328) :
    Calls Tryz.prog 230 #[.slice oa T.length cap] w fun e w' => (∃ v, e = .returned v ∧ w'.ownsRow w.heap.size 5 1 v T.length (u8s T)) ∧ Below w.heap.size w w' := by
  have HS := Lib.hid hs
  clear hs
  go_enter Tryz.func230, Tryz.ntmps230
  go_wp2_with (at_builtin; refine wpList_app elU8 rfl _ _ rfl w.heap.size (n := 0) (m := T.length) (news := u8s T) rfl (World.ownsRow_nil w w.heap.size _ _) rfl HS.out (by simp [u8s]) (u8s_one T) (by unfold maxLen; omega) (by omega) (Nat.le_refl _) ?_)
  intro v1 w1 hown hgr _
  have HO := Lib.hid hown
  have HB := Lib.hid ((Below.refl w.heap.size w).grown hgr (Nat.le_refl _) (fun k hk => by cases hk))
  clear hown hgr
  go_wp2_with fail
  go_ret
  exact ⟨⟨_, rfl, by have h := HO.out; simpa using h⟩, HB.out⟩
end
/-- A text in memory. -/
def TxIn (w : World) (oa : Option Addr) (T : List Nat) : Prop := 0 < T.length → ∃ g o, oa = some ⟨g, o, none⟩ ∧ ∀ j, j < T.length → w.cell? ⟨g, o + j, none⟩ = some (.int .u8 (T.getD j 0 : Nat))
end Go.Proofs.YtdinjlglngpecaaGreatDoor
