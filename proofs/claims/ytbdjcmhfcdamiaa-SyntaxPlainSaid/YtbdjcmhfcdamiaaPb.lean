/- Plain laws of Parse: plain marks are their bytes. -/
import Derived.Test.YtbdjcmhfcdamiaaPa
namespace Go.Proofs.Ytbdjcmhfcdamiaa

def plainM (l : List Nat) : List Mk := l.map fun b => ⟨b, true⟩
theorem seesAt_plain (l : List Nat) (i c : Nat) (s : List Nat) : seesAt (plainM l) i (c :: s) = false := by
  unfold seesAt plainM
  rw [← List.map_drop]
  cases l.drop i with
  | nil => rfl
  | cons b r => simp [seesL]
theorem repeats_plain (ere : Bool) (l : List Nat) (i : Nat) : repeatsL ere (plainM l) i = false := by
  unfold repeatsL signB
  rw [seesAt_plain, seesAt_plain, seesAt_plain]
  cases ere <;> simp [seesAt_plain]
theorem rowL_plain (ere top : Bool) (grp : Rst → Out (List Nd)) (l : List Nat) : ∀ (f : Nat) (all : List Nd) (n : Nat) (lead : Bool) (s : Rst), l.length < f + s.i → s.i ≤ l.length →
    rowL ere top (plainM l) grp f all n lead s = .ok (n + (l.length - s.i), all ++ (l.drop s.i).map oneN) ⟨l.length, s.ended⟩
  | 0, _, _, _, s, h1, h2 => by omega
  | f + 1, all, n, lead, s, h1, h2 => by
    have hl : (plainM l).length = l.length := by simp [plainM]
    unfold rowL
    by_cases hi : s.i = l.length
    · rw [hl, if_pos (by omega), hi]
      obtain ⟨i, en⟩ := s
      simp only at hi
      subst hi
      simp
    · rw [hl, if_neg (by omega), seesAt_plain, Bool.and_false, if_neg (by decide)]
      have h3 : seesAt (plainM l) s.i (signB ere 41) = false := by unfold signB; split <;> exact seesAt_plain _ _ _ _
      rw [h3, if_neg (by decide), repeats_plain, Bool.false_and, if_neg (by decide)]
      have hi' : s.i < l.length := by omega
      have hm : markAt (plainM l) s.i = ⟨l[s.i], true⟩ := by simp [markAt, plainM, hi']
      unfold atomL
      simp only [hm, if_true, repeats_plain, Bool.and_false, Bool.false_eq_true, if_false]
      rw [rowL_plain ere top grp l f _ _ _ _ (by show l.length < f + (s.i + 1); omega) (by show s.i + 1 ≤ l.length; omega)]
      simp only [Out.ok.injEq, Prod.mk.injEq, and_true]
      refine ⟨by omega, ?_⟩
      rw [List.append_assoc, List.drop_eq_getElem_cons hi']
      rfl
theorem kidsW_leaves {re : List Nd} {f : Nat} : ∀ (k : Nat) (sum : Int) (i : Nat), (∀ j, j < k → ∃ b, re[i + j]? = some (oneN b)) → 0 ≤ sum → sum + k ≤ 16385 → kidsW (weighN re (f + 1)) k sum i = some (sum + k, i + k)
  | 0, sum, i, _, _, _ => by simp [kidsW]
  | k + 1, sum, i, h, h0, h1 => by
    obtain ⟨b, hb⟩ := h 0 (by omega)
    have hw : weighN re (f + 1) i = some (1, i + 1) := by
      rw [weighN]
      rw [Nat.add_zero] at hb
      rw [hb]
      simp only [oneN, Int.toNat_zero, kidsW]
      simp only [Int.mul_zero, Int.zero_add]
      rfl
    rw [kidsW, hw]
    simp only
    rw [show min (sum + 1) 16385 = sum + 1 by omega, kidsW_leaves k _ _ (fun j hj => by
      have := h (j + 1) (by omega)
      rwa [show i + (j + 1) = i + 1 + j by omega] at this) (by omega) (by omega)]
    simp only [Option.some.injEq, Prod.mk.injEq]
    omega
/-- What plain marks are read as. -/
def plainNd (l : List Nat) : List Nd := if 1 < l.length then catN l.length :: l.map oneN else l.map oneN
theorem parseL_plain (ere : Bool) (l : List Nat) (h1 : 0 < l.length) (h2 : l.length ≤ 4096) : parseL ere (plainM l) = .ok (plainNd l) := by
  have hl : (plainM l).length = l.length := by simp [plainM]
  have hs : sidesK ere (plainM l) 64 ⟨0, []⟩ = .ok (plainNd l) ⟨l.length, []⟩ := by
    unfold sidesK sidesS
    rw [hl, show l.length + 1 = Nat.succ l.length from rfl]
    unfold sidesL
    unfold rowS
    rw [rowL_plain ere _ _ l _ _ _ _ _ (by rw [hl]; simp) (by simp)]
    simp only [Nat.zero_add, List.nil_append, List.drop_zero, Nat.sub_zero, seesAt_plain, Bool.and_false, Bool.false_or, Nat.lt_irrefl, decide_false, Bool.not_false, if_true, Bool.false_eq_true, if_false]
    unfold plainNd
    by_cases h : 1 < l.length
    · rw [if_neg (show ¬ l.length = 1 by omega), if_pos h]
    · rw [if_pos (show l.length = 1 by omega), if_neg h]
  unfold parseL
  rw [hl, if_neg (by omega), if_neg (by omega), hs]
  simp only
  have hw : weighN (plainNd l) 260 0 = some (if 1 < l.length then (l.length : Int) + 1 else 1, (plainNd l).length) := by
    unfold plainNd
    by_cases h : 1 < l.length
    · rw [if_pos h, if_pos h, weighN]
      simp only [List.getElem?_cons_zero]
      rw [show (catN l.length).kids.toNat = l.length from rfl, kidsW_leaves (f := 258) _ _ _ (fun j hj => ⟨l[j], by
        rw [show 0 + 1 + j = j + 1 by omega]
        simp [hj]⟩) (by omega) (by omega)]
      simp only [Option.some.injEq, Prod.mk.injEq, List.length_cons, List.length_map]
      have : timesN (catN l.length) = 1 := by simp [timesN, catN]
      rw [this]
      omega
    · rw [if_neg h, if_neg h]
      obtain ⟨b, rfl⟩ : ∃ b, l = [b] := List.length_eq_one_iff.1 (by omega)
      rfl
  rw [hw]
  simp only
  rw [if_neg (by split <;> omega)]
end Go.Proofs.Ytbdjcmhfcdamiaa
