/- Parts: Bk. -/
import Derived.Test.YtbdjcmhfcdamiaaDoorQ20
import Derived.Test.YtbdjcmhfcdamiaaDoorQ29
import Derived.Laws.StructEq
/- Marks of their own with marks behind them: WideMarks, SpareMarks. -/
namespace Go.Proofs.YtbdjcmhfcdamiaaDoor
open Go.RowKit Go.ChangeShapes Go.WideShapes Go.Deep

def spareM (i : Nat) : Mk := ⟨(279 + 7 * i + 3) % 256, true⟩
def spareMs (n : Nat) : List Mk := (List.range 64).map fun k => spareM (n + k)
theorem spareMs_length (n : Nat) : (spareMs n).length = 64 := by simp [spareMs]
theorem spareM_int (i : Nat) : (((spareM i).b : Nat) : Int) = (279 + 7 * (i : Int) + 3) % 256 := by simp only [spareM]; omega
theorem full_at {L : List Mk} {n : Nat} (hn : L.length = n) {d : Nat} (h1 : n ≤ d) (h2 : d < n + 64) : (L ++ spareMs n)[d]? = some (spareM d) := by
  rw [List.getElem?_append_right (by omega), spareMs, List.getElem?_map, List.getElem?_range (by omega), Option.map_some, hn, show n + (d - n) = d by omega]
/-- Marks in a row of the call's own, with room behind them. -/
def WideM (w : World) (base g n : Nat) (L : List Mk) : Prop := L.length = n ∧ Mks w base (.slice (some ⟨g, 0, none⟩) (n + 64) (n + 64)) (L ++ spareMs n)
theorem WideM.below {w w' : World} {base g n : Nat} {L : List Mk} (h : WideM w base g n L) (hb : Below w.heap.size w w') : WideM w' base g n L := ⟨h.1, h.2.below hb⟩
theorem WideM.len {w : World} {base g n : Nat} {L : List Mk} (h : WideM w base g n L) : (L ++ spareMs n).length = n + 64 := by rw [List.length_append, h.1, spareMs_length]
theorem WideM.row {w : World} {base g n : Nat} {L : List Mk} (h : WideM w base g n L) : w.ownsRow base 33 2 (.slice (some ⟨g, 0, none⟩) (n + 64) (n + 64)) (n + 64) (mksC (L ++ spareMs n)) := by
  have h2 := h.2
  unfold Mks at h2
  rw [h.len] at h2
  exact h2
theorem WideM.lt {w : World} {base g n : Nat} {L : List Mk} (h : WideM w base g n L) : base ≤ g ∧ g < w.heap.size := h.2.lt g rfl
theorem WideM.two {w : World} {base g n : Nat} {L : List Mk} (h : WideM w base g n L) {d : Nat} {m : Mk} (hm : (L ++ spareMs n)[d]? = some m) : w.cell? ⟨g, d * 2, none⟩ = some (.int .u8 (m.b : Nat)) ∧ w.cell? ⟨g, d * 2 + 1, none⟩ = some (.bool m.p) := by
  have hd := (List.getElem?_eq_some_iff.1 hm).1
  have hc := mksC_at _ d hd
  have e : markAt (L ++ spareMs n) d = m := by unfold markAt; rw [List.getD_eq_getElem?_getD, hm]; rfl
  rw [e] at hc
  rw [h.len] at hd
  exact ⟨by rw [World.ownsRow.cellAt h.row (d * 2) (by omega)]; exact hc.1, by rw [World.ownsRow.cellAt h.row (d * 2 + 1) (by omega)]; exact hc.2⟩
theorem WideM.toV {w : World} {base g n : Nat} {L : List Mk} (h : WideM w base g n L) (hu : ∀ m ∈ L, m.b < 256) : MkV w (some ⟨g, 0, none⟩) (n + 64) L := by
  have hm : ∀ i, i < L.length → (L ++ spareMs n)[i]? = some (markAt L i) := fun i hi => by
    rw [List.getElem?_append_left hi, List.getElem?_eq_getElem hi]; simp [markAt, List.getD_eq_getElem?_getD, hi]
  refine ⟨fun i hi => ?_, (fun h => by cases h), by rw [h.1]; omega, fun _ => ⟨g, 0, rfl, h.lt.2, fun i hi => ?_⟩⟩
  · have : markAt L i = L[i] := by simp [markAt, List.getD_eq_getElem?_getD, hi]
    rw [this]; exact hu _ (List.getElem_mem hi)
  · rw [Nat.zero_add]; exact h.two (hm i hi)
/-- The list without what stands behind it is a row, too. -/
theorem WideM.short {w : World} {base g n : Nat} {L : List Mk} (h : WideM w base g n L) : w.ownsRow base 33 2 (.slice (some ⟨g, 0, none⟩) n (n + 64)) n (mksC L) := by
  have h2 := h.row
  refine ⟨by rw [mksC_length, h.1], .inr ?_⟩
  rcases h2.2 with ⟨h3, _⟩ | ⟨g', cap, cur, h3, hb, hg, hnc, hcm, hcs, ht⟩
  · cases h3
  · simp only [Value.slice.injEq, Option.some.injEq, Addr.mk.injEq, and_true, true_and] at h3
    obtain ⟨rfl, rfl⟩ := h3
    refine ⟨g, n + 64, cur, rfl, hb, hg, by omega, hcm, hcs, ?_⟩
    rw [show n * 2 = min (n * 2) ((n + 64) * 2) by omega, ← List.take_take, ht, mksC_append, List.take_left' (by rw [mksC_length, h.1])]
theorem mksC_take_succ {l : List Mk} {d : Nat} {m : Mk} (hm : l[d]? = some m) : (mksC l).take ((d + 1) * 2) = (mksC l).take (d * 2) ++ [.int .u8 (m.b : Nat), .bool m.p] := by
  have hd := (List.getElem?_eq_some_iff.1 hm).1
  have hc := mksC_at _ d hd
  have e : markAt l d = m := by unfold markAt; rw [List.getD_eq_getElem?_getD, hm]; rfl
  rw [e] at hc
  rw [show (d + 1) * 2 = d * 2 + 1 + 1 by omega, List.take_add_one, List.take_add_one, hc.1, hc.2]
  simp
set_option maxRecDepth 100000 in
set_option maxHeartbeats 1600000 in
theorem wideMarks_call {L : List Mk} {oa : Option Addr} {cap : Nat} {w : World} (hv : MkV w oa cap L) (hl : L.length ≤ 2147483647) :
    Calls Tryd.prog 9 #[.slice oa L.length cap] w fun e w' => (∃ g, e = .returned (.slice (some ⟨g, 0, none⟩) L.length (L.length + 64)) ∧ WideM w' w.heap.size g L.length L) ∧ Below w.heap.size w w' := by
  have HV := Lib.hid hv
  have HL := Lib.hid hl
  have hl1 : (L.length : Int) ≤ 2147483647 := by omega
  have HF := Lib.hid (show (L ++ spareMs L.length).length = L.length + 64 by rw [List.length_append, spareMs_length])
  clear hv hl
  obtain ⟨i0, hi, hz0, hz1, hz2⟩ := info_parts (elMk).hi
  go_enter Tryd.func9, Tryd.ntmps9
  go_wp2_with (at_make; refine wpList_make_full _ rfl _ _ 22 rfl w.heap.size 33 i0 _ 2 Tryd.underlying22 hi hz0 hz1 .i64 .i64 ((L.length : Int) + 64) ((L.length : Int) + 64) (L.length + 64) rfl rfl (by omega) (by omega) (by rw [hz2]; have := HL.out; omega) (by unfold maxLen; have := HL.out; omega) (Nat.le_refl _) ?_)
  intro w1 hown hgr
  have HO1 := Lib.hid hown
  have HB1 := Lib.hid ((Below.refl w.heap.size w).grown hgr (Nat.le_refl _) (fun k hk => by cases hk))
  have hg1 : w.heap.size < w1.heap.size := (hown.lt _ rfl).2
  clear hown hgr hi hz0 hz1 hz2
  go_wp2_with fail
  go_loopg [4] (L.length + 64) (fun n iv wr => ∃ (d : Nat) (xs : List Value), iv = .int .i64 (d : Nat) ∧ n = L.length + 64 - d ∧ d ≤ L.length + 64 ∧ wr.ownsRow w.heap.size 33 2 (.slice (some ⟨w.heap.size, 0, none⟩) (L.length + 64) (L.length + 64)) (L.length + 64) xs ∧ xs.take (d * 2) = (mksC (L ++ spareMs L.length)).take (d * 2) ∧ Below w.heap.size w wr)
  case atStart => exact ⟨0, _, rfl, by omega, by omega, HO1.out, by simp, HB1.out⟩
  case round =>
    obtain ⟨d, xs, rfl, hg2, hd, ho, ht, hb⟩ := hrel
    have HG := Lib.hid hg2
    have HO := Lib.hid ho
    have HT := Lib.hid ht
    have HB := Lib.hid hb
    have hgw : w.heap.size < wr.heap.size := (ho.lt _ rfl).2
    clear hg2 ht hb
    by_cases hlt : d < L.length + 64
    · have hlt' : (d : Int) < (L.length : Int) + 64 := by omega
      obtain ⟨_, g', hg', _, hcs, hfz⟩ := own_some ho (by omega)
      cases hg'
      obtain ⟨u0, _, z0⟩ := hcs (d * 2) (by omega)
      obtain ⟨u1, _, z1⟩ := hcs (d * 2 + 1) (by omega)
      have f0 := hfz (d * 2)
      have f1 := hfz (d * 2 + 1)
      have HXL := Lib.hid (show xs.length = (L.length + 64) * 2 from ho.1)
      clear ho hcs hfz
      by_cases hin : d < L.length
      · have hin' : (d : Int) < (L.length : Int) := by omega
        obtain ⟨mb, mo, hoa, hml, hmc⟩ := (HV.out.below HB.out).at_ (by omega)
        obtain ⟨y0, y1⟩ := hmc d hin
        have hx : (L ++ spareMs L.length)[d]? = some (markAt L d) := by
          rw [List.getElem?_append_left hin, List.getElem?_eq_getElem hin]; simp [markAt, List.getD_eq_getElem?_getD, hin]
        have HX := Lib.hid hx
        generalize markAt L d = m at y0 y1 HX
        obtain ⟨b, p⟩ := m
        simp only at y0 y1
        have HR := Lib.hid (stAll_row [.int .u8 (b : Nat), .bool p] (d * 2) HO.out)
        have HTT := Lib.hid (setAll_take [.int .u8 (b : Nat), .bool p] xs (d * 2) (by rw [HXL.out]; simp; omega))
        subst hoa
        clear hmc hx
        go_wp2_with fail
        go_roundg (L.length + 64 - (d + 1))
        case measure => have := HG.out; omega
        case rel => exact ⟨d + 1, _, by go_num, rfl, by omega, HR.out, by rw [mksC_take_succ HX.out, ← HT.out, ← HTT.out]; congr 1; show (d + 1) * 2 = d * 2 + 2; omega, HB.out.trans (((Below.refl w.heap.size wr).setCell (p := ⟨w.heap.size, d * 2, none⟩) (Nat.le_refl _) _).setCell (p := ⟨w.heap.size, d * 2 + 1, none⟩) (Nat.le_refl _) _)⟩
      · have hin' : ¬ (d : Int) < (L.length : Int) := by omega
        have HX := Lib.hid (full_at (L := L) rfl (Nat.le_of_not_lt hin) hlt)
        have HR := Lib.hid (stAll_row [.int .u8 ((279 + 7 * (d : Int) + 3) % 256), .bool true] (d * 2) HO.out)
        have HTT := Lib.hid (setAll_take [.int .u8 ((279 + 7 * (d : Int) + 3) % 256), .bool true] xs (d * 2) (by rw [HXL.out]; simp; omega))
        go_wp2_with fail
        go_roundg (L.length + 64 - (d + 1))
        case measure => have := HG.out; omega
        case rel => exact ⟨d + 1, _, by go_num, rfl, by omega, HR.out, by rw [mksC_take_succ HX.out, ← HT.out, spareM_int, show (spareM d).p = true from rfl, ← HTT.out]; congr 1; show (d + 1) * 2 = d * 2 + 2; omega, HB.out.trans (((Below.refl w.heap.size wr).setCell (p := ⟨w.heap.size, d * 2, none⟩) (Nat.le_refl _) _).setCell (p := ⟨w.heap.size, d * 2 + 1, none⟩) (Nat.le_refl _) _)⟩
    · have hlt' : ¬ (d : Int) < (L.length : Int) + 64 := by omega
      have hde : d = L.length + 64 := by omega
      subst hde
      have hfin : WideM wr w.heap.size w.heap.size L.length L := by
        refine ⟨rfl, ?_⟩
        have h1 := HT.out
        rw [List.take_of_length_le (by rw [ho.1]; exact Nat.le_refl _), List.take_of_length_le (by rw [mksC_length, HF.out]; exact Nat.le_refl _)] at h1
        unfold Mks
        rw [HF.out, ← h1]
        exact ho
      have HFin := Lib.hid hfin
      clear ho hfin
      go_wp2_with fail
      go_ret
      exact ⟨⟨_, rfl, HFin.out⟩, HB.out⟩
theorem eql_mk (a : Int) (p : Bool) (w : World) : (binOp .eql 33 (.agg #[.int .u8 a, .bool p]) (.agg #[.int .u8 a, .bool p])).run Tryd.prog w = .ok (.bool true) w := by
  rw [run_eql_struct]
  simp [go_sem]
set_option maxRecDepth 100000 in
set_option maxHeartbeats 1600000 in
theorem spareMarks_call {L : List Mk} {n g base : Nat} {w : World} (h : WideM w base g n L) (hb : n ≤ 2147483647) :
    Calls Tryd.prog 14 #[.slice (some ⟨g, 0, none⟩) n (n + 64)] w fun e w' => e = .returned (.bool true) ∧ w = w' := by
  have H := Lib.hid h
  have hgw : g < w.heap.size := h.lt.2
  clear h
  go_enter Tryd.func14, Tryd.ntmps14
  go_wp2_with fail
  go_loopg [4] 64 (fun m iv wr => ∃ d : Nat, iv = .int .i64 (d : Int) ∧ m = n + 64 - d ∧ n ≤ d ∧ d ≤ n + 64 ∧ w = wr)
  case atStart => exact ⟨n, rfl, by omega, by omega, by omega, rfl⟩
  case round =>
    obtain ⟨d, rfl, hg, hd, hd2, rfl⟩ := hrel
    have HG := Lib.hid hg
    clear hg
    by_cases hlt : d < n + 64
    · have hlt' : (d : Int) < (n : Int) + 64 := by omega
      obtain ⟨z0, z1⟩ := H.out.two (full_at H.out.1 hd hlt)
      rw [spareM_int] at z0
      rw [show (spareM d).p = true from rfl] at z1
      have hq := eql_mk ((279 + 7 * (d : Int) + 3) % 256) true
      go_wp2_with fail
      go_roundg (n + 64 - (d + 1))
      case measure => have := HG.out; omega
      case rel => exact ⟨d + 1, by go_num, rfl, by omega, by omega, rfl⟩
    · have hlt' : ¬ (d : Int) < (n : Int) + 64 := by omega
      go_wp2_with fail
      go_ret
      exact ⟨rfl, rfl⟩
end Go.Proofs.YtbdjcmhfcdamiaaDoor
