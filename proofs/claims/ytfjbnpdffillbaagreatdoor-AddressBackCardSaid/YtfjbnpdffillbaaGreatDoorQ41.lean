/- Parts: Gm. -/
import Derived.Test.YtfjbnpdffillbaaGreatDoorQ40
import Derived.Test.YtfjbnpdffillbaaGreatDoorQ21
import Derived.ChangeSlices
import Derived.Lib.SmallJoins
import Derived.SizedLaws
import Derived.OpenShut
/- Readings: an address, bytes. No condition. -/
namespace Go.Proofs.YtfjbnpdffillbaaGreatDoor
open Go.ChangeShapes Go.WideShapes Go.ChangeAt Go.RowKit Go.Joins Go.WideMaps Go.WideElems Go.Deep

theorem wf_u8 {z : Int} (h : (Lit.int .u8 z).wf = true) : 0 ≤ z ∧ z < 256 := by
  have := bounds_u8 h
  omega
section
variable {H : Type} {enc : TypeId × Value → H} {w : World} {spare : Nat → Bool} {held : Bool} {base : Nat}
theorem read_btA {t : TypeId} {v : Value} {d : DataW H} {p : List MemPlace} (ht : Tryz.prog.underlying t = some (.slice 5)) (h : DataW.Trod enc Tryz.prog w base spare held t v d p) {ob : Option Addr} {len cap : Nat} (hv : v = .slice ob len cap) :
    ∃ T : List Nat, T.length = len ∧ BtA w ob cap T := by
  subst hv
  obtain ⟨fuel, hf⟩ := h
  rcases open_ints ht Tryz.underlying5 (by kernel_rfl) hf with ⟨h0, _⟩ | ⟨a, len2, cap2, zs, hcs, _, hl, _, hz, _, hc, hw⟩
  · have h0' : [Value.slice ob len cap] = [.slice none 0 0] := h0
    simp only [List.cons.injEq, and_true, Value.slice.injEq] at h0'
    obtain ⟨rfl, rfl, rfl⟩ := h0'
    exact ⟨[], rfl, ⟨fun _ => ⟨rfl, rfl⟩, fun h => absurd h (by simp), fun j => by simp⟩⟩
  · have hcs' : [Value.slice ob len cap] = [.slice (some a) len2 cap2] := hcs
    simp only [List.cons.injEq, and_true, Value.slice.injEq] at hcs'
    obtain ⟨rfl, rfl, rfl⟩ := hcs'
    have hzl : len ≤ zs.length := by rw [hz]; split <;> omega
    have hb : ∀ j, 0 ≤ zs.getD j 0 ∧ zs.getD j 0 < 256 := fun j => by
      rw [List.getD_eq_getElem?_getD]
      cases hj : zs[j]? with
      | none => decide
      | some x => exact wf_u8 (hw x (List.mem_of_getElem? hj))
    have hT : ((zs.take len).map Int.toNat).length = len := by simp; omega
    have hg : ∀ j, j < len → (((zs.take len).map Int.toNat).getD j 0 : Int) = zs.getD j 0 := fun j hj => by
      have h1 := (hb j).1
      have e : zs[j]? = some zs[j] := List.getElem?_eq_getElem (by omega)
      simp only [List.getD_eq_getElem?_getD, e, Option.getD_some] at h1 ⊢
      simp [hj, e]
      omega
    refine ⟨(zs.take len).map Int.toNat, hT, ⟨fun h => (by cases h), fun hp => ?_, fun j => ?_⟩⟩
    · rw [hT] at hp
      obtain ⟨b, off, spot⟩ := a
      have c0 := hc 0 (by omega)
      have hspot : spot = none := by simpa [Addr.add] using World.cell?_spot c0
      subst hspot
      refine ⟨b, off, rfl, by have := World.block_lt_of_cell? w _ c0; simpa [add_none] using this, fun j hj => ?_⟩
      rw [hT] at hj
      have := hc j (by omega)
      rw [add_none] at this
      rw [this, hg j hj]
    · by_cases hj : j < len
      · have h1 := hg j hj
        have h2 := (hb j).2
        omega
      · rw [List.getD_eq_getElem?_getD, List.getElem?_eq_none (by rw [hT]; omega)]
        decide
set_option maxRecDepth 100000 in
theorem read_addr {v : Value} {d : DataW H} {p : List MemPlace} {b0 : Nat} {r : Reach} (hv : Value.okWide Tryz.prog w r b0 54 v) (h : DataW.Trod enc Tryz.prog w 0 spare held 54 v d p) :
    ∃ (k n : Int) (oa : Option Addr) (ca : Nat) (re : List Nd), v = .agg #[.int .i8 k, .int .i64 n, .slice oa re.length ca] ∧ -128 ≤ k ∧ k ≤ 127 ∧ NdW w oa ca re ∧
      (re.length = 0 ∨ ∃ el sp x y, d = .agg [x, y, .slice el sp] ∧ el.length = re.length) := by
  obtain ⟨c0, c1, c2, y0, y1, y2, m, rfl, rfl, hp, g0, g1, g2⟩ := open_agg3 Tryz.underlying54 (by kernel_rfl) (by kernel_rfl) hv h
  obtain ⟨k, hc0, _, w0⟩ := DataW.trod_int Tryz.underlying51 g0
  obtain ⟨n, hc1, _, w1⟩ := DataW.trod_int Tryz.underlying3 g1
  simp only [List.cons.injEq, and_true] at hc0 hc1
  subst hc0 hc1
  have hform : ∃ oa len ca, c2 = .slice oa len ca := by
    rcases open_slice Tryz.underlying52 g2 with ⟨h0, _⟩ | ⟨a, len2, cap2, m, n', D, Pl, hcs, _⟩
    · simp only [List.cons.injEq, and_true] at h0; exact ⟨_, _, _, h0⟩
    · simp only [List.cons.injEq, and_true] at hcs; exact ⟨_, _, _, hcs⟩
  obtain ⟨oa, len, ca, rfl⟩ := hform
  obtain ⟨re, hl, hm, hs⟩ := read_nodes (d := y2.1) (p := y2.2) Tryz.underlying52 ⟨m, g2⟩ rfl
  subst hl
  have hb := bounds_i8 w0
  refine ⟨k, n, oa, ca, re, rfl, hb.1, hb.2, hm, ?_⟩
  rcases hs with hs | ⟨el, sp, h1, h2⟩
  · exact .inl hs
  · exact .inr ⟨el, sp, y0.1, y1.1, by rw [h1], h2⟩
end
end Go.Proofs.YtfjbnpdffillbaaGreatDoor
