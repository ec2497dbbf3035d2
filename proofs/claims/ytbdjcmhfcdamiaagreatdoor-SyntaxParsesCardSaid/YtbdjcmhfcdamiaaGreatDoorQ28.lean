/- Parts: Bk Bo Mr. -/
import Derived.Test.YtbdjcmhfcdamiaaGreatDoorQ20
import Derived.Test.YtbdjcmhfcdamiaaGreatDoorQ22
import Derived.Test.YtbdjcmhfcdamiaaGreatDoorQ26
import Derived.Test.YtbdjcmhfcdamiaaGreatDoorQ12
import Derived.Laws.StructEq
/- Marks of their own with marks behind them: WideMarks, SpareMarks. -/
namespace Go.Proofs.YtbdjcmhfcdamiaaGreatDoor
open Go.RowKit Go.ChangeShapes Go.WideShapes Go.Deep

def spareM (i : Nat) : Mk := ⟨(279 + 7 * i + 3) % 256, true⟩
def spareMs (n : Nat) : List Mk := (List.range 64).map fun k => spareM (n + k)
theorem spareMs_length (n : Nat) : (spareMs n).length = 64 := by simp [spareMs]
theorem spareM_int (i : Nat) : (((spareM i).b : Nat) : Int) = (279 + 7 * (i : Int) + 3) % 256 := by simp only [spareM]; omega
theorem full_at {L : List Mk} {n : Nat} (hn : L.length = n) {d : Nat} (h1 : n ≤ d) (h2 : d < n + 64) : (L ++ spareMs n)[d]? = some (spareM d) := by
  rw [List.getElem?_append_right (by omega), spareMs, List.getElem?_map, List.getElem?_range (by omega), Option.map_some, hn, show n + (d - n) = d by omega]
/-- Marks in a row of the call's own, with room behind them. -/
def WideM (w : World) (base g n : Nat) (L : List Mk) : Prop := L.length = n ∧ Mks w base (.slice (some ⟨g, 0, none⟩) (n + 64) (n + 64)) (L ++ spareMs n)
theorem WideM.below {w w' : World} {base g n : Nat} {L : List Mk} (h : WideM w base g n L) (hb : Below w.heap.size w w') : WideM w' base g n L := ⟨h.1, h.2.below hb⟩
theorem WideM.len {w : World} {base g n : Nat} {L : List Mk} (h : WideM w base g n L) : (L ++ spareMs n).length = n + 64 := by rw [List.length_append, h.1, spareMs_length]
theorem WideM.row {w : World} {base g n : Nat} {L : List Mk} (h : WideM w base g n L) : w.ownsRow base 33 2 (.slice (some ⟨g, 0, none⟩) (n + 64) (n + 64)) (n + 64) (mksC (L ++ spareMs n)) := by
  have h2 := h.2
  unfold Mks at h2
  rw [h.len] at h2
  exact h2
theorem WideM.lt {w : World} {base g n : Nat} {L : List Mk} (h : WideM w base g n L) : base ≤ g ∧ g < w.heap.size := h.2.lt g rfl
theorem WideM.two {w : World} {base g n : Nat} {L : List Mk} (h : WideM w base g n L) {d : Nat} {m : Mk} (hm : (L ++ spareMs n)[d]? = some m) : w.cell? ⟨g, d * 2, none⟩ = some (.int .u8 (m.b : Nat)) ∧ w.cell? ⟨g, d * 2 + 1, none⟩ = some (.bool m.p) := by
  have hd := (List.getElem?_eq_some_iff.1 hm).1
  have hc := mksC_at _ d hd
  have e : markAt (L ++ spareMs n) d = m := by unfold markAt; rw [List.getD_eq_getElem?_getD, hm]; rfl
  rw [e] at hc
  rw [h.len] at hd
  exact ⟨by rw [World.ownsRow.cellAt h.row (d * 2) (by omega)]; exact hc.1, by rw [World.ownsRow.cellAt h.row (d * 2 + 1) (by omega)]; exact hc.2⟩
theorem WideM.toV {w : World} {base g n : Nat} {L : List Mk} (h : WideM w base g n L) (hu : ∀ m ∈ L, m.b < 256) : MkV w (some ⟨g, 0, none⟩) (n + 64) L := by
  have hm : ∀ i, i < L.length → (L ++ spareMs n)[i]? = some (markAt L i) := fun i hi => by
    rw [List.getElem?_append_left hi, List.getElem?_eq_getElem hi]; simp [markAt, List.getD_eq_getElem?_getD, hi]
  refine ⟨fun i hi => ?_, (fun h => by cases h), by rw [h.1]; omega, fun _ => ⟨g, 0, rfl, h.lt.2, fun i hi => ?_⟩⟩
  · have : markAt L i = L[i] := by simp [markAt, List.getD_eq_getElem?_getD, hi]
    rw [this]; exact hu _ (List.getElem_mem hi)
  · rw [Nat.zero_add]; exact h.two (hm i hi)
/-- The list without what stands behind it is a row, too. -/
theorem WideM.short {w : World} {base g n : Nat} {L : List Mk} (h : WideM w base g n L) : w.ownsRow base 33 2 (.slice (some ⟨g, 0, none⟩) n (n + 64)) n (mksC L) := by
  have h2 := h.row
  refine ⟨by rw [mksC_length, h.1], .inr ?_⟩
  rcases h2.2 with ⟨h3, _⟩ | ⟨g', cap, cur, h3, hb, hg, hnc, hcm, hcs, ht⟩
  · cases h3
  · simp only [Value.slice.injEq, Option.some.injEq, Addr.mk.injEq, and_true, true_and] at h3
    obtain ⟨rfl, rfl⟩ := h3
    refine ⟨g, n + 64, cur, rfl, hb, hg, by omega, hcm, hcs, ?_⟩
    rw [show n * 2 = min (n * 2) ((n + 64) * 2) by omega, ← List.take_take, ht, mksC_append, List.take_left' (by rw [mksC_length, h.1])]
theorem mksC_take_succ {l : List Mk} {d : Nat} {m : Mk} (hm : l[d]? = some m) : (mksC l).take ((d + 1) * 2) = (mksC l).take (d * 2) ++ [.int .u8 (m.b : Nat), .bool m.p] := by
  have hd := (List.getElem?_eq_some_iff.1 hm).1
  have hc := mksC_at _ d hd
  have e : markAt l d = m := by unfold markAt; rw [List.getD_eq_getElem?_getD, hm]; rfl
  rw [e] at hc
  rw [show (d + 1) * 2 = d * 2 + 1 + 1 by omega, List.take_add_one, List.take_add_one, hc.1, hc.2]
  simp
set_option maxRecDepth 100000 in
set_option maxHeartbeats 1600000 in
theorem wideMarks_call {L : List Mk} {oa : Option Addr} {cap : Nat} {w : World} (hv : MkV w oa cap L) (hl : L.length ≤ 2147483647) :
    Calls Tryz.prog 18 #[.slice oa L.length cap] w fun e w' => (∃ g, e = .returned (.slice (some ⟨g, 0, none⟩) L.length (L.length + 64)) ∧ WideM w' w.heap.size g L.length L) ∧ Below w.heap.size w w' := by
  have HV := Lib.hid hv
  have HL := Lib.hid hl
  have hl1 : (L.length : Int) ≤ 2147483647 := by omega
  have HF := Lib.hid (show (L ++ spareMs L.length).length = L.length + 64 by rw [List.length_append, spareMs_length])
  clear hv hl
  obtain ⟨i0, hi, hz0, hz1, hz2⟩ := info_parts (elMk).hi
  go_enter Tryz.func18, Tryz.ntmps18
  go_wp2_with (at_make; refine wpList_make_full _ rfl _ _ 26 rfl w.heap.size 33 i0 _ 2 Tryz.underlying26 hi hz0 hz1 .i64 .i64 ((L.length : Int) + 64) ((L.length : Int) + 64) (L.length + 64) rfl rfl (by omega) (by omega) (by rw [hz2]; have := HL.out; omega) (by unfold maxLen; have := HL.out; omega) (Nat.le_refl _) ?_)
  intro w1 hown hgr
  have HO1 := Lib.hid hown
  have HB1 := Lib.hid ((Below.refl w.heap.size w).grown hgr (Nat.le_refl _) (fun k hk => by cases hk))
  have hg1 : w.heap.size < w1.heap.size := (hown.lt _ rfl).2
  clear hown hgr hi hz0 hz1 hz2
  go_wp2_with fail
  go_loopg [4] (L.length + 64) (fun n iv wr => ∃ (d : Nat) (xs : List Value), iv = .int .i64 (d : Nat) ∧ n = L.length + 64 - d ∧ d ≤ L.length + 64 ∧ wr.ownsRow w.heap.size 33 2 (.slice (some ⟨w.heap.size, 0, none⟩) (L.length + 64) (L.length + 64)) (L.length + 64) xs ∧ xs.take (d * 2) = (mksC (L ++ spareMs L.length)).take (d * 2) ∧ Below w.heap.size w wr)
  case atStart => exact ⟨0, _, rfl, by omega, by omega, HO1.out, by simp, HB1.out⟩
  case round =>
    obtain ⟨d, xs, rfl, hg2, hd, ho, ht, hb⟩ := hrel
    have HG := Lib.hid hg2
    have HO := Lib.hid ho
    have HT := Lib.hid ht
    have HB := Lib.hid hb
    have hgw : w.heap.size < wr.heap.size := (ho.lt _ rfl).2
    clear hg2 ht hb
    by_cases hlt : d < L.length + 64
    · have hlt' : (d : Int) < (L.length : Int) + 64 := by omega
      obtain ⟨_, g', hg', _, hcs, hfz⟩ := own_some ho (by omega)
      cases hg'
      obtain ⟨u0, _, z0⟩ := hcs (d * 2) (by omega)
      obtain ⟨u1, _, z1⟩ := hcs (d * 2 + 1) (by omega)
      have f0 := hfz (d * 2)
      have f1 := hfz (d * 2 + 1)
      have HXL := Lib.hid (show xs.length = (L.length + 64) * 2 from ho.1)
      clear ho hcs hfz
      by_cases hin : d < L.length
      · have hin' : (d : Int) < (L.length : Int) := by omega
        obtain ⟨mb, mo, hoa, hml, hmc⟩ := (HV.out.below HB.out).at_ (by omega)
        obtain ⟨y0, y1⟩ := hmc d hin
        have hx : (L ++ spareMs L.length)[d]? = some (markAt L d) := by
          rw [List.getElem?_append_left hin, List.getElem?_eq_getElem hin]; simp [markAt, List.getD_eq_getElem?_getD, hin]
        have HX := Lib.hid hx
        generalize markAt L d = m at y0 y1 HX
        obtain ⟨b, p⟩ := m
        simp only at y0 y1
        have HR := Lib.hid (stAll_row [.int .u8 (b : Nat), .bool p] (d * 2) HO.out)
        have HTT := Lib.hid (setAll_take [.int .u8 (b : Nat), .bool p] xs (d * 2) (by rw [HXL.out]; simp; omega))
        subst hoa
        clear hmc hx
        go_wp2_with fail
        go_roundg (L.length + 64 - (d + 1))
        case measure => have := HG.out; omega
        case rel => exact ⟨d + 1, _, by go_num, rfl, by omega, HR.out, by rw [mksC_take_succ HX.out, ← HT.out, ← HTT.out]; congr 1; show (d + 1) * 2 = d * 2 + 2; omega, HB.out.trans (((Below.refl w.heap.size wr).setCell (p := ⟨w.heap.size, d * 2, none⟩) (Nat.le_refl _) _).setCell (p := ⟨w.heap.size, d * 2 + 1, none⟩) (Nat.le_refl _) _)⟩
      · have hin' : ¬ (d : Int) < (L.length : Int) := by omega
        have HX := Lib.hid (full_at (L := L) rfl (Nat.le_of_not_lt hin) hlt)
        have HR := Lib.hid (stAll_row [.int .u8 ((279 + 7 * (d : Int) + 3) % 256), .bool true] (d * 2) HO.out)
        have HTT := Lib.hid (setAll_take [.int .u8 ((279 + 7 * (d : Int) + 3) % 256), .bool true] xs (d * 2) (by rw [HXL.out]; simp; omega))
        go_wp2_with fail
        go_roundg (L.length + 64 - (d + 1))
        case measure => have := HG.out; omega
        case rel => exact ⟨d + 1, _, by go_num, rfl, by omega, HR.out, by rw [mksC_take_succ HX.out, ← HT.out, spareM_int, show (spareM d).p = true from rfl, ← HTT.out]; congr 1; show (d + 1) * 2 = d * 2 + 2; omega, HB.out.trans (((Below.refl w.heap.size wr).setCell (p := ⟨w.heap.size, d * 2, none⟩) (Nat.le_refl _) _).setCell (p := ⟨w.heap.size, d * 2 + 1, none⟩) (Nat.le_refl _) _)⟩
    · have hlt' : ¬ (d : Int) < (L.length : Int) + 64 := by omega
      have hde : d = L.length + 64 := by omega
      subst hde
      have hfin : WideM wr w.heap.size w.heap.size L.length L := by
        refine ⟨rfl, ?_⟩
        have h1 := HT.out
        rw [List.take_of_length_le (by rw [ho.1]; exact Nat.le_refl _), List.take_of_length_le (by rw [mksC_length, HF.out]; exact Nat.le_refl _)] at h1
        unfold Mks
        rw [HF.out, ← h1]
        exact ho
      have HFin := Lib.hid hfin
      clear ho hfin
      go_wp2_with fail
      go_ret
      exact ⟨⟨_, rfl, HFin.out⟩, HB.out⟩
theorem eql_mk (a : Int) (p : Bool) (w : World) : (binOp .eql 33 (.agg #[.int .u8 a, .bool p]) (.agg #[.int .u8 a, .bool p])).run Tryz.prog w = .ok (.bool true) w := by
  rw [run_eql_struct]
  simp [go_sem]
set_option maxRecDepth 100000 in
set_option maxHeartbeats 1600000 in
theorem spareMarks_call {L : List Mk} {n g base : Nat} {w : World} (h : WideM w base g n L) (hb : n ≤ 2147483647) :
    Calls Tryz.prog 21 #[.slice (some ⟨g, 0, none⟩) n (n + 64)] w fun e w' => e = .returned (.bool true) ∧ w = w' := by
  have H := Lib.hid h
  have hgw : g < w.heap.size := h.lt.2
  clear h
  go_enter Tryz.func21, Tryz.ntmps21
  go_wp2_with fail
  go_loopg [4] 64 (fun m iv wr => ∃ d : Nat, iv = .int .i64 (d : Int) ∧ m = n + 64 - d ∧ n ≤ d ∧ d ≤ n + 64 ∧ w = wr)
  case atStart => exact ⟨n, rfl, by omega, by omega, by omega, rfl⟩
  case round =>
    obtain ⟨d, rfl, hg, hd, hd2, rfl⟩ := hrel
    have HG := Lib.hid hg
    clear hg
    by_cases hlt : d < n + 64
    · have hlt' : (d : Int) < (n : Int) + 64 := by omega
      obtain ⟨z0, z1⟩ := H.out.two (full_at H.out.1 hd hlt)
      rw [spareM_int] at z0
      rw [show (spareM d).p = true from rfl] at z1
      have hq := eql_mk ((279 + 7 * (d : Int) + 3) % 256) true
      go_wp2_with fail
      go_roundg (n + 64 - (d + 1))
      case measure => have := HG.out; omega
      case rel => exact ⟨d + 1, by go_num, rfl, by omega, by omega, rfl⟩
    · have hlt' : ¬ (d : Int) < (n : Int) + 64 := by omega
      go_wp2_with fail
      go_ret
      exact ⟨rfl, rfl⟩
end Go.Proofs.YtbdjcmhfcdamiaaGreatDoor

/- A bag is made of lists that lie ahead of it: the laws. -/
namespace Go.Proofs.YtbdjcmhfcdamiaaGreatDoor
open Go.RowKit

theorem Bgl.of {w : World} {base : Nat} {e es : TypeId} {size : Nat} {vs : List Value} {ns : List Nat} {X : Nat → List Value} {gb fld : Nat} {bv : Value} (len : ns.length = vs.length) (a : ∀ (i : Nat) (v : Value) (n : Nat), vs[i]? = some v → ns[i]? = some n → w.ownsRow base e size v n (X i))
    (lt : ∀ (i : Nat) (v : Value) (b : Nat), vs[i]? = some v → v.ownBlock = some b → b < gb) (ap : ∀ (i j : Nat) (v u : Value) (b : Nat), vs[i]? = some v → vs[j]? = some u → v.ownBlock = some b → u.ownBlock = some b → i = j)
    (r : w.ownsRow (gb + 1) es 1 bv vs.length vs) (hb : base ≤ gb + 1) (c : w.cell? ⟨gb, fld, none⟩ = some bv) (cl : gb < w.heap.size) : Bgl w base e es size vs ns X gb fld bv :=
  ⟨len, a, ap, ownsRow_mono r hb, fun i v b hv hvb hbb => by have := lt i v b hv hvb; have := (r.lt b hbb).1; omega, c, cl, fun i v hv hg => by have := lt i v gb hv hg; omega, fun hg => by have := (r.lt gb hg).1; omega⟩
/-- Lists lie in blocks one behind the other. -/
def Rising (vs : List Value) : Prop := ∀ (i j : Nat) (v u : Value) (b c : Nat), i < j → vs[i]? = some v → vs[j]? = some u → v.ownBlock = some b → u.ownBlock = some c → b < c
theorem Rising.ap {vs : List Value} (h : Rising vs) : ∀ (i j : Nat) (v u : Value) (b : Nat), vs[i]? = some v → vs[j]? = some u → v.ownBlock = some b → u.ownBlock = some b → i = j := fun i j v u b hi hj hb hc => by
  rcases Nat.lt_trichotomy i j with hlt | heq | hgt
  · exact absurd (h i j v u b b hlt hi hj hb hc) (Nat.lt_irrefl b)
  · exact heq
  · exact absurd (h j i u v b b hgt hj hi hc hb) (Nat.lt_irrefl b)
theorem rising_nil : Rising [] := fun i j v u b c _ hi => by simp at hi
theorem rising_one (v : Value) : Rising [v] := fun i j v u b c hij hi hj => by
  have := (List.getElem?_eq_some_iff.1 hj).1
  simp at this
  omega
theorem rising_two {v1 v2 : Value} (h : ∀ b c, v1.ownBlock = some b → v2.ownBlock = some c → b < c) : Rising [v1, v2] := fun i j v u b c hij hi hj hb hc => by
  have := (List.getElem?_eq_some_iff.1 hj).1
  simp at this
  obtain ⟨rfl, rfl⟩ : i = 0 ∧ j = 1 := by omega
  cases hi
  cases hj
  exact h b c hb hc
theorem rising_three {v1 v2 v3 : Value} (h12 : ∀ b c, v1.ownBlock = some b → v2.ownBlock = some c → b < c) (h13 : ∀ b c, v1.ownBlock = some b → v3.ownBlock = some c → b < c) (h23 : ∀ b c, v2.ownBlock = some b → v3.ownBlock = some c → b < c) : Rising [v1, v2, v3] := fun i j v u b c hij hi hj hb hc => by
  have := (List.getElem?_eq_some_iff.1 hj).1
  simp at this
  have : (i = 0 ∧ j = 1) ∨ (i = 0 ∧ j = 2) ∨ (i = 1 ∧ j = 2) := by omega
  rcases this with ⟨rfl, rfl⟩ | ⟨rfl, rfl⟩ | ⟨rfl, rfl⟩ <;> cases hi <;> cases hj
  · exact h12 b c hb hc
  · exact h13 b c hb hc
  · exact h23 b c hb hc
theorem blk_nil (b : Nat) : ¬ Blk [] b := fun ⟨i, v, hv, _⟩ => by simp at hv
theorem blk_one {v : Value} {b : Nat} (h : Blk [v] b) : v.ownBlock = some b := by
  obtain ⟨i, u, hu, hb⟩ := h
  have := (List.getElem?_eq_some_iff.1 hu).1
  simp at this
  subst this
  cases hu
  exact hb
theorem blk_two {v1 v2 : Value} {b : Nat} (h : Blk [v1, v2] b) : v1.ownBlock = some b ∨ v2.ownBlock = some b := by
  obtain ⟨i, u, hu, hb⟩ := h
  have := (List.getElem?_eq_some_iff.1 hu).1
  simp at this
  have : i = 0 ∨ i = 1 := by omega
  rcases this with rfl | rfl <;> cases hu
  · exact .inl hb
  · exact .inr hb
theorem blk_three {v1 v2 v3 : Value} {b : Nat} (h : Blk [v1, v2, v3] b) : v1.ownBlock = some b ∨ v2.ownBlock = some b ∨ v3.ownBlock = some b := by
  obtain ⟨i, u, hu, hb⟩ := h
  have := (List.getElem?_eq_some_iff.1 hu).1
  simp at this
  have : i = 0 ∨ i = 1 ∨ i = 2 := by omega
  rcases this with rfl | rfl | rfl <;> cases hu
  · exact .inl hb
  · exact .inr (.inl hb)
  · exact .inr (.inr hb)
theorem WideM.setB {w : World} {base g n : Nat} {L : List Mk} (h : WideM w base g n L) {e b b' : Nat} {p : Bool} (hm : L[e]? = some ⟨b, p⟩) : WideM (w.setCell ⟨g, e * 2, none⟩ (.int .u8 (b' : Nat))) base g n (L.set e ⟨b', p⟩) := by
  have he := (List.getElem?_eq_some_iff.1 hm).1
  refine ⟨by rw [List.length_set]; exact h.1, ?_⟩
  have hr := (World.ownsRow.stored h.row (e * 2) (.int .u8 (b' : Nat))).1
  have hl2 : (L.set e ⟨b', p⟩ ++ spareMs n).length = n + 64 := by rw [List.length_append, List.length_set, spareMs_length, h.1]
  unfold Mks
  rw [hl2]
  have hx : mksC (L.set e ⟨b', p⟩ ++ spareMs n) = (mksC (L ++ spareMs n)).set (e * 2) (.int .u8 (b' : Nat)) := by
    rw [mksC_append, mksC_append, List.set_append_left _ _ (by rw [mksC_length]; omega)]
    congr 1
    clear hr hl2 h
    induction L generalizing e with
    | nil => simp at he
    | cons x l ih =>
      cases e with
      | zero => simp at hm; subst hm; rfl
      | succ e =>
        have h1 : mksC (x :: l) = .int .u8 (x.b : Nat) :: .bool x.p :: mksC l := rfl
        have h2 : mksC (x :: l.set e ⟨b', p⟩) = .int .u8 (x.b : Nat) :: .bool x.p :: mksC (l.set e ⟨b', p⟩) := rfl
        rw [List.set_cons_succ, h1, h2, ih (by simpa using hm) (by simpa using he), show (e + 1) * 2 = e * 2 + 1 + 1 by omega]
        rfl
  rw [hx]
  exact hr
theorem row_below {w w' : World} {base : Nat} {e : TypeId} {size : Nat} {v : Value} {n : Nat} {xs : List Value} (h : w.ownsRow base e size v n xs) (hb : Below w.heap.size w w') : w'.ownsRow base e size v n xs := row_of_block h fun g hg => hb.block g (h.lt g hg).2
end Go.Proofs.YtbdjcmhfcdamiaaGreatDoor

/- Marks in memory, two lists of them. -/
namespace Go.Proofs.YtbdjcmhfcdamiaaGreatDoor
open Go.RowKit

theorem neq_mkV (x y : Mk) (w : World) : (binOp .neq 33 (.agg #[.int .u8 (x.b : Nat), .bool x.p]) (.agg #[.int .u8 (y.b : Nat), .bool y.p])).run Tryz.prog w = .ok (.bool (!decide (x = y))) w := by
  obtain ⟨a, p⟩ := x
  obtain ⟨b, q⟩ := y
  rw [run_neq_struct]
  simp only
  simp [go_sem]
  have e : ((a : Int) = (b : Int)) = (a = b) := by rw [eq_iff_iff]; omega
  by_cases h : a = b <;> cases p <;> cases q <;> simp [h, e]
theorem take_neM {a b : List Mk} {d : Nat} {x y : Mk} (hx : a[d]? = some x) (hy : b[d]? = some y) (h : ¬ x = y) : ¬ a = b := fun e => by subst e; rw [hx] at hy; cases hy; exact h rfl
/-- Marks in memory, no bound on their bytes. -/
structure MkR (w : World) (oa : Option Addr) (L : List Mk) : Prop where
  len : L.length ≤ 4294967296
  at_ : 0 < L.length → ∃ mb mo, oa = some ⟨mb, mo, none⟩ ∧ mb < w.heap.size ∧ ∀ i m, L[i]? = some m → w.cell? ⟨mb, mo + i * 2, none⟩ = some (.int .u8 (m.b : Nat)) ∧ w.cell? ⟨mb, mo + i * 2 + 1, none⟩ = some (.bool m.p)
theorem MkR.below {w w' : World} {oa : Option Addr} {L : List Mk} (h : MkR w oa L) (hb : Below w.heap.size w w') : MkR w' oa L :=
  ⟨h.len, fun hp => by
    obtain ⟨mb, mo, h1, h2, h3⟩ := h.at_ hp
    exact ⟨mb, mo, h1, Nat.lt_of_lt_of_le h2 hb.size, fun i m hm => ⟨(hb.cell (p := ⟨mb, mo + i * 2, none⟩) h2).trans (h3 i m hm).1, (hb.cell (p := ⟨mb, mo + i * 2 + 1, none⟩) h2).trans (h3 i m hm).2⟩⟩⟩
theorem MkR.of_row {w : World} {base : Nat} {o : Option Addr} {c : Nat} {L : List Mk} (h : Mks w base (.slice o L.length c) L) (hl : L.length ≤ 4294967296) : MkR w o L := by
  have h0 := h
  rcases h.2 with ⟨hq, hn⟩ | ⟨g, cap, cur, hq, hb, hg, _⟩
  · exact ⟨hl, fun hp => by omega⟩
  · simp only [Value.slice.injEq] at hq
    obtain ⟨rfl, _⟩ := hq
    refine ⟨hl, fun _ => ⟨g, 0, rfl, (Array.getElem?_eq_some_iff.1 hg).1, fun i m hi => ?_⟩⟩
    have hi' := (List.getElem?_eq_some_iff.1 hi)
    have hc := mksC_at L i hi'.1
    have hm : markAt L i = m := by unfold markAt; rw [List.getD_eq_getElem?_getD, hi]; rfl
    rw [hm] at hc
    have hadd : ∀ j, (⟨g, 0, none⟩ : Addr).add j = ⟨g, 0 + j, none⟩ := fun j => by unfold Addr.add; split <;> simp_all
    refine ⟨?_, ?_⟩
    · rw [← hadd]
      exact World.ownsRow.cells h0 (g := g) rfl (i * 2) _ hc.1
    · rw [Nat.add_assoc, ← hadd]
      exact World.ownsRow.cells h0 (g := g) rfl (i * 2 + 1) _ hc.2
set_option maxRecDepth 100000 in
set_option maxHeartbeats 1600000 in
theorem eqMarksR_call {a b : List Mk} {oa ob : Option Addr} {ca cb : Nat} {w : World} (ha : MkR w oa a) (hb : MkR w ob b) :
    Calls Tryz.prog 10 #[.slice oa a.length ca, .slice ob b.length cb] w fun e w' => e = .returned (.bool (decide (a = b))) ∧ Below w.heap.size w w' := by
  have hla : a.length ≤ 4294967296 := ha.len
  have hlb : b.length ≤ 4294967296 := hb.len
  have HA := Lib.hid ha
  have HB := Lib.hid hb
  clear ha hb
  by_cases hl : a.length = b.length
  · have hl' : ((a.length : Int) != (b.length : Int)) = false := by simp [hl]
    rw [← hl]
    rw [← hl] at hlb
    have HL := Lib.hid hl
    clear hl hl'
    go_enter Tryz.func10, Tryz.ntmps10
    go_wp2_with fail
    go_loopg [5] a.length (fun n iv wr => ∃ d : Nat, iv = .int .i64 (d : Nat) ∧ n = a.length - d ∧ d ≤ a.length ∧ Hid (a.take d = b.take d) ∧ Below w.heap.size w wr)
    case atStart => exact ⟨0, rfl, by omega, by omega, rfl, Below.refl _ _⟩
    case round =>
      obtain ⟨d, rfl, hg, hd, HT, hbe⟩ := hrel
      have HG := Lib.hid hg
      have HBE := Lib.hid hbe
      clear hg
      by_cases hlt : d < a.length
      · have hlt' : (d : Int) < (a.length : Int) := by omega
        obtain ⟨na, oo, rfl, nal, hna⟩ := (HA.out.below hbe).at_ (by omega)
        obtain ⟨nb, ob', rfl, nbl, hnb⟩ := (HB.out.below hbe).at_ (by have := HL.out; omega)
        obtain ⟨x, hx⟩ : ∃ x, a[d]? = some x := ⟨_, List.getElem?_eq_getElem hlt⟩
        obtain ⟨y, hy⟩ : ∃ y, b[d]? = some y := ⟨_, List.getElem?_eq_getElem (by have := HL.out; omega)⟩
        obtain ⟨n0, n1⟩ := hna d x hx
        obtain ⟨m0, m1⟩ := hnb d y hy
        have hq := neq_mkV x y
        have HX := Lib.hid hx
        have HY := Lib.hid hy
        clear hna hnb hbe hx hy
        by_cases hxy : x = y
        · subst hxy
          have HT1 : Hid (a.take (d + 1) = b.take (d + 1)) := by rw [Hid, List.take_add_one, List.take_add_one, HT.out, HX.out, HY.out]
          rw [show (!decide (x = x)) = false by simp] at hq
          obtain ⟨xb, xp⟩ := x
          simp only at n0 n1 m0 m1 hq
          go_wp2_with fail
          refine wp_region_segs (X := none) 9 [] [0, 1, 2, 3, 4, 5, 6, 7, 8] (by kernel_rfl) (by kernel_rfl) rfl (fun _ _ _ _ _ h => h) ?_
          simp only [wpSegs, pickSegs_nil, pickOps_nil, pickOps_cons, List.getD_cons_zero, List.getD_cons_succ, List.drop_succ_cons, List.drop_nil]
          repeat (go_big_quiet_step (fail))
          refine wpQuiet_nil ?_
          go_wp2_with fail
          go_roundg (a.length - (d + 1))
          case measure => have := HG.out; omega
          case rel => exact ⟨d + 1, by go_num, rfl, by omega, HT1, HBE.out.drew⟩
        · have HF : Hid (decide (a = b) = false) := by rw [Hid, decide_eq_false (take_neM HX.out HY.out hxy)]
          rw [show (!decide (x = y)) = true by simpa using hxy] at hq
          obtain ⟨xb, xp⟩ := x
          obtain ⟨yb, yp⟩ := y
          simp only at n0 n1 m0 m1 hq
          clear hxy
          go_wp2_with fail
          refine wp_region_segs (X := none) 9 [] [0, 1, 2, 3, 4, 5, 6, 7, 8] (by kernel_rfl) (by kernel_rfl) rfl (fun _ _ _ _ _ h => h) ?_
          simp only [wpSegs, pickSegs_nil, pickOps_nil, pickOps_cons, List.getD_cons_zero, List.getD_cons_succ, List.drop_succ_cons, List.drop_nil]
          repeat (go_big_quiet_step (fail))
          refine wpQuiet_nil ?_
          go_wp2_with fail
          go_ret
          exact ⟨by rw [HF.out]; rfl, HBE.out.drew⟩
      · have hlt' : ¬ (d : Int) < (a.length : Int) := by omega
        have hde : d = a.length := by omega
        subst hde
        have HF : Hid (decide (a = b) = true) := by
          have h := HT.out
          rw [List.take_length, HL.out, List.take_length] at h
          rw [Hid, decide_eq_true h]
        go_wp2_with fail
        go_ret
        exact ⟨by rw [HF.out]; rfl, HBE.out⟩
  · have hl' : ((a.length : Int) != (b.length : Int)) = true := by simp [bne]; omega
    have HF : Hid (decide (a = b) = false) := by rw [Hid, decide_eq_false (fun e => hl (by rw [e]))]
    clear hl
    go_enter Tryz.func10, Tryz.ntmps10
    go_wp2_with fail
    go_ret
    exact ⟨by rw [HF.out]; rfl, Below.refl _ _⟩

end Go.Proofs.YtbdjcmhfcdamiaaGreatDoor
