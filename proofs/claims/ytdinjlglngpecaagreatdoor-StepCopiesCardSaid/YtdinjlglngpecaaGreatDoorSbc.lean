/- Readings: bytes that came in. Copied out of other texts by pick.py. No condition. -/
import Derived.Test.YtdinjlglngpecaaGreatDoorSbb
import Derived.ChangeSlices
import Derived.SizedLaws
import Derived.OpenShut
import Derived.Deep.Slices
namespace Go.Proofs.YtdinjlglngpecaaGreatDoor
open Go.RowKit Go.ChangeShapes Go.WideShapes Go.Deep

/-- Bytes in memory, however many. -/
def BtU (w : World) (ob : Option Addr) (len cap : Nat) : Prop := ∃ T : List Nat, T.length = len ∧ Src w (.slice ob len cap) len (u8s T) ∧ len ≤ 140737488355328 ∧ ∀ b ∈ T, b < 256
section
variable {H : Type}
/-- Nothing in it is too large. -/
def Sz (t : TypeId) (d : DataW H) : Prop := ∀ n ∈ DataW.weights Tryz.prog t d, n ≤ reachBytes
theorem weightsAll_mem {e : TypeId} : ∀ {l : List (DataW H)} {d : DataW H}, d ∈ l → ∀ n ∈ DataW.weights Tryz.prog e d, n ∈ DataW.weightsAll Tryz.prog e l
  | a :: l, d, hd, n, hn => by
    simp only [DataW.weightsAll, List.mem_append]
    rcases List.mem_cons.1 hd with rfl | hd
    · exact .inl hn
    · exact .inr (weightsAll_mem hd n hn)
  | [], _, hd, _, _ => by simp at hd
theorem Sz.slice {t e : TypeId} (ht : Tryz.prog.underlying t = some (.slice e)) {el sp : List (DataW H)} (h : Sz t (.slice el sp)) : (el.length + sp.length) * Tryz.prog.bytesOf e ≤ reachBytes ∧ ∀ d ∈ el, Sz e d := by
  unfold Sz at h
  simp only [DataW.weights, ht, List.mem_cons, List.mem_append] at h
  exact ⟨h _ (.inl rfl), fun d hd n hn => h n (.inr (.inl (weightsAll_mem hd n hn)))⟩
end
section
variable {H : Type} {enc : TypeId × Value → H} {w : World} {spare : Nat → Bool} {held : Bool}
theorem open_len {t e : TypeId} {fuel : Nat} {x : DataW H × List MemPlace} (ht : Tryz.prog.underlying t = some (.slice e)) {o : Option Addr} {len cap : Nat} (h : DataW.trod enc Tryz.prog w 0 spare held fuel t [.slice o len cap] = some x) (hz : Sz t x.1) : len * Tryz.prog.bytesOf e ≤ reachBytes := by
  rcases open_slice ht h with ⟨h0, _⟩ | ⟨a, len2, cap2, m, n', D, Pl, hcs, _, _, _, _, rfl, _⟩
  · simp only [List.cons.injEq, and_true, Value.slice.injEq] at h0
    rw [h0.2.1, Nat.zero_mul]; decide
  · simp only [List.cons.injEq, and_true, Value.slice.injEq] at hcs
    obtain ⟨_, rfl, _⟩ := hcs
    have := (Sz.slice ht hz).1
    refine Nat.le_trans (Nat.mul_le_mul_right _ ?_) this
    simp
theorem slice_cells {t e : TypeId} {fuel : Nat} {cs : List Value} {x : DataW H × List MemPlace} (ht : Tryz.prog.underlying t = some (.slice e)) (h : DataW.trod enc Tryz.prog w 0 spare held fuel t cs = some x) : ∃ o len cap, cs = [.slice o len cap] := by
  rcases open_slice ht h with ⟨h0, _⟩ | ⟨a, len2, cap2, m, n', D, Pl, hcs, _⟩
  · exact ⟨_, _, _, h0⟩
  · exact ⟨_, _, _, hcs⟩
theorem open_bytes {t : TypeId} {fuel : Nat} {cs : List Value} {x : DataW H × List MemPlace} (ht : Tryz.prog.underlying t = some (.slice 5)) (h : DataW.trod enc Tryz.prog w 0 spare held fuel t cs = some x) (hz : Sz t x.1) : ∃ o len cap, cs = [.slice o len cap] ∧ BtU w o len cap := by
  obtain ⟨o, len, cap, rfl⟩ := slice_cells ht h
  have hlen := open_len ht h hz
  rw [show Tryz.prog.bytesOf 5 = 1 by kernel_rfl, Nat.mul_one] at hlen
  have hlen2 : len ≤ 140737488355328 := Nat.le_trans hlen (by decide)
  refine ⟨o, len, cap, rfl, ?_⟩
  rcases open_ints ht Tryz.underlying5 (by kernel_rfl) h with ⟨h0, _⟩ | ⟨a, len2, cap2, zs, hcs, _, hl, _, hzl, _, hc, hw⟩
  · simp only [List.cons.injEq, and_true, Value.slice.injEq] at h0
    obtain ⟨rfl, rfl, rfl⟩ := h0
    exact ⟨[], rfl, Src.nil w, hlen2, fun b hb => by cases hb⟩
  · simp only [List.cons.injEq, and_true, Value.slice.injEq] at hcs
    obtain ⟨rfl, rfl, rfl⟩ := hcs
    have hzl2 : len ≤ zs.length := by rw [hzl]; split <;> omega
    refine ⟨(zs.take len).map Int.toNat, by simp; omega, .inr ⟨a, cap, rfl, fun j u hu => ?_⟩, hlen2, fun b hb => by
      obtain ⟨z, hz1, rfl⟩ := List.mem_map.1 hb
      have := bounds_u8 (hw z (List.take_subset _ _ hz1))
      omega⟩
    simp only [u8s, List.map_map, List.getElem?_map, Option.map_eq_some_iff] at hu
    obtain ⟨z, hz1, rfl⟩ := hu
    rw [List.getElem?_take] at hz1
    split at hz1
    · rename_i hj
      have hm : z ∈ zs := List.mem_of_getElem? hz1
      have hb := bounds_u8 (hw z hm)
      have hg : zs.getD j 0 = z := by rw [List.getD_eq_getElem?_getD, hz1, Option.getD_some]
      have := hc j (by omega)
      rw [this, hg]
      simp only [Function.comp_apply, Option.some.injEq, Value.int.injEq, true_and]
      omega
    · cases hz1
end
end Go.Proofs.YtdinjlglngpecaaGreatDoor
