/- What a run of {} or p puts out, step by step. No condition. -/
import Derived.Test.YtdinjlglngpecaaGreatDoorSq
namespace Go.Proofs.YtdinjlglngpecaaGreatDoor
open Go.RowKit

/-- What is put out for a line. -/
def perL (nc : Nat) (q : Bool) (T : List Nat) : List Nat := (bif nc == 1 then T ++ [10] else []) ++ bif q then [] else T ++ [10]
def outL (nc : Nat) (q : Bool) (TT : List (List Nat)) (n : Nat) : List Nat := (TT.take n).flatMap (perL nc q)
section
variable {nc : Nat} {q : Bool} {TT : List (List Nat)} {T : List Nat}
theorem outL_succ {n : Nat} (h : TT[n]? = some T) : outL nc q TT (n + 1) = outL nc q TT n ++ perL nc q T := by
  unfold outL
  rw [List.take_add_one, h, List.flatMap_append]
  simp
theorem outL_le (n : Nat) : (outL nc q TT n).length ≤ (TT.flatMap (perL nc q)).length := by
  have e : TT.flatMap (perL nc q) = (TT.take n).flatMap (perL nc q) ++ (TT.drop n).flatMap (perL nc q) := by rw [← List.flatMap_append, List.take_append_drop]
  rw [e, List.length_append]
  exact Nat.le_add_right _ _
theorem outL_all {m : Nat} (h : TT.length ≤ m) : outL nc q TT m = TT.flatMap (perL nc q) := by unfold outL; rw [List.take_of_length_le h]
end
/-- Where a run stands. -/
def PhR (k : CK) (TT : List (List Nat)) (s : CS) (T A : List Nat) (m n i z : Nat) : Prop :=
  (s.pl = -1 ∧ n ≤ m ∧ A = outL k.nc k.q TT n ∧ i + 3 * (m - n) ≤ 3 * m ∧ z ≤ 20 * i + 8 + 2 * A.length) ∨
  (s.pl = 0 ∧ 1 ≤ n ∧ n ≤ m ∧ TT[n - 1]? = some T ∧ A = outL k.nc k.q TT (n - 1) ∧ i + 3 * (m - n) + 2 ≤ 3 * m ∧ z ≤ 20 * i + 8 + 2 * A.length) ∨
  (s.pl = 1 ∧ k.nc = 1 ∧ 1 ≤ n ∧ n ≤ m ∧ TT[n - 1]? = some T ∧ A = outL k.nc k.q TT (n - 1) ++ (T ++ [10]) ∧ i + 3 * (m - n) + 1 ≤ 3 * m ∧ z + T.length ≤ 20 * i + 8 + 2 * A.length) ∨
  (s.pl = -2 ∧ n = m ∧ A = outL k.nc k.q TT m)
section
variable {w : World} {k : CK} {s : CS} {T : List Nat} {pk : Option Nat} {base : Nat} {oa : Option Addr} {m ca n u z i B : Nat} {O : Nat → Option Nat} {A : List Nat} {LL : List Lin}
theorem step_ph (h : StS w k s T pk base true oa m ca n u z O A) (hph : PhR k (LL.map (·.T)) s T A m n i z) (hpl : s.pl ≠ -2) (hsi : s.si = false) (hst : 0 ≤ s.st ∧ s.st ≤ i) (hui : u ≤ i) (hq : k.nc = 1 ∨ k.q = false) (hm : LL.length = m) (hmz : m ≤ 4294967296) (hB : B ≤ k.wb) (hL : LnB w B oa LL) (hll : ∀ l ∈ LL, l.T.length ≤ 1048576) (htot : ((LL.map (·.T)).flatMap (perL k.nc k.q)).length ≤ 34359738368) :
    Calls Tryz.prog 13 #[.pointer (some ⟨k.mb, 0, none⟩)] w fun e w' => e = .returned (.int .i64 0) ∧ ∃ s' T' pk' n' u' z' O' A', StS w' k s' T' pk' base true oa m ca n' u' z' O' A' ∧ Grw w w' (sfoot k O pk) (sfoot k O' pk') ∧ s'.si = false ∧ 0 ≤ s'.st ∧ s'.st ≤ i + 1 ∧ u' ≤ i + 1 ∧ PhR k (LL.map (·.T)) s' T' A' m n' (i + 1) (z' + 2) := by
  have hle : ∀ j, (outL k.nc k.q (LL.map (·.T)) j).length ≤ 34359738368 := fun j => Nat.le_trans (outL_le j) htot
  have hTT : (LL.map (·.T)).length = m := by rw [List.length_map, hm]
  rcases hph with ⟨hp, hn, rfl, hi, hz⟩ | ⟨hp, hn1, hn, hT, rfl, hi, hz⟩ | ⟨hp, hnc, hn1, hn, hT, rfl, hi, hz⟩ | ⟨hp, _⟩
  · have := hle n
    by_cases hnm : n < m
    · have hl : LL[n]? = some LL[n] := List.getElem?_eq_getElem (by omega)
      have hlt := hll LL[n] (List.getElem_mem _)
      refine (step_some h hp (by omega) (fun e => by cases e) hnm (by omega) hB hL hl hlt).mono ?_
      rintro e w' ⟨he, O', pk', hs, hg⟩
      refine ⟨he, _, _, pk', _, _, _, O', _, hs, hg, hsi, hst.1, by have := hst.2; show s.st ≤ _; omega, by omega, .inr (.inl ⟨rfl, by omega, by omega, ?_, rfl, by omega, by omega⟩)⟩
      rw [Nat.add_sub_cancel, List.getElem?_map, hl]; rfl
    · refine (step_none h hp (by omega) (by omega)).mono ?_
      rintro e w' ⟨he, O', hs, hg⟩
      exact ⟨he, _, _, pk, _, _, _, O', _, hs, hg, hsi, hst.1, by have := hst.2; show s.st ≤ _; omega, by omega, .inr (.inr (.inr ⟨rfl, by omega, by rw [show n = m by omega]⟩))⟩
  · have := hle (n - 1)
    have hTs : T.length ≤ 1048576 := h.ma.sp.tl
    have hsu := outL_succ (nc := k.nc) (q := k.q) hT
    rw [show n - 1 + 1 = n by omega] at hsu
    rcases h.ma.n01 with e0 | e1
    · have hqf : k.q = false := hq.resolve_left (by omega)
      refine (step_end h (by rw [e0]; exact hp) hsi (by omega) (by omega) (by omega)).mono ?_
      rintro e w' ⟨he, O', u', hu', hs, hg⟩
      refine ⟨he, _, _, pk, _, _, _, O', _, hs, hg, hsi, hst.1, by have := hst.2; show s.st ≤ _; omega, by omega, .inl ⟨rfl, hn, ?_, by omega, ?_⟩⟩
      · rw [hsu, e0, hqf]; rfl
      · clear hs hg hsu
        generalize outL k.nc k.q (LL.map (·.T)) (n - 1) = A0 at hz this ⊢
        rw [hqf]
        simp only [cond_false, List.length_append, List.length_cons, List.length_nil]
        omega
    · refine (step_cmd h hp e1 (by omega) (by omega) (by omega) hst.1 (by have := hst.2; omega)).mono ?_
      rintro e w' ⟨he, O', hs, hg⟩
      refine ⟨he, _, _, pk, _, _, _, O', _, hs, hg, hsi, by show 0 ≤ s.st + 1; have := hst.1; omega, by have := hst.2; show s.st + 1 ≤ _; omega, by omega, .inr (.inr (.inl ⟨rfl, e1, hn1, hn, hT, rfl, by omega, ?_⟩))⟩
      simp only [List.length_append, List.length_cons, List.length_nil]
      omega
  · have := hle (n - 1)
    have hTs : T.length ≤ 1048576 := h.ma.sp.tl
    have hsu := outL_succ (nc := k.nc) (q := k.q) hT
    rw [show n - 1 + 1 = n by omega] at hsu
    have hz2 : z + T.length ≤ 20 * i + 8 + 2 * ((outL k.nc k.q (LL.map (·.T)) (n - 1)).length + (T.length + 1)) := by simpa using hz
    refine (step_end h (by rw [hnc]; exact hp) hsi (by omega) (by omega) (by simp; omega)).mono ?_
    rintro e w' ⟨he, O', u', hu', hs, hg⟩
    refine ⟨he, _, _, pk, _, _, _, O', _, hs, hg, hsi, hst.1, by have := hst.2; show s.st ≤ _; omega, by omega, .inl ⟨rfl, hn, ?_, by omega, ?_⟩⟩
    · rw [hsu, hnc]
      show (_ ++ _) ++ _ = _ ++ (_ ++ _)
      rw [List.append_assoc]
      rfl
    · clear hs hg hsu
      generalize outL k.nc k.q (LL.map (·.T)) (n - 1) = A0 at hz hz2 this ⊢
      cases k.q <;> simp only [cond_false, cond_true, List.length_append, List.length_cons, List.length_nil] at hz2 ⊢ <;> omega
  · exact absurd hp hpl
end
end Go.Proofs.YtdinjlglngpecaaGreatDoor
