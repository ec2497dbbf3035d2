/- Contract of package syntax's Parse. -/
import Derived.Test.YtbdjcmhfcdamiaaDoorRm
import Derived.Test.YtbdjcmhfcdamiaaDoorRn
import Derived.Test.YtbdjcmhfcdamiaaDoorTa
import Derived.Test.YtbdjcmhfcdamiaaDoorTb
namespace Go.Proofs.YtbdjcmhfcdamiaaDoor
open Go.RowKit

/-- Nodes that may stand there. -/
def okAt (re : List Nd) (p : Nat) : Prop := ∃ x, re[p]? = some x ∧ goodN x = true ∧ x.kids ≤ re.length
theorem nodeN_good_kids {re : List Nd} {g : Nat → List Bool → Option (Nat × List Bool)} (hg : ∀ i en r, g i en = some r → i < r.1 ∧ r.1 ≤ re.length ∧ ∀ p, i ≤ p → p < r.1 → okAt re p) :
    ∀ (k i : Nat) (en : List Bool) (r : Nat × List Bool), i ≤ re.length → kidsN g k i en = some r → i + k ≤ r.1 ∧ r.1 ≤ re.length ∧ ∀ p, i ≤ p → p < r.1 → okAt re p
  | 0, i, en, r, hi, h => by simp only [kidsN, Option.some.injEq] at h; subst h; exact ⟨Nat.le_refl _, hi, fun p h1 h2 => by simp only at h2; omega⟩
  | k + 1, i, en, r, hi, h => by
    unfold kidsN at h
    split at h
    · cases h
    · rename_i j en1 h1
      have h2 := hg _ _ _ h1
      simp only at h2
      have h3 := nodeN_good_kids hg k _ _ _ h2.2.1 h
      refine ⟨by omega, h3.2.1, fun p hp1 hp2 => ?_⟩
      by_cases hj : p < j
      · exact h2.2.2 p hp1 hj
      · exact h3.2.2 p (by omega) hp2
/-- All nodes of what is well shaped are good. -/
theorem nodeN_good (re : List Nd) : ∀ (f g i : Nat) (en : List Bool) (r : Nat × List Bool), nodeN re f g i en = some r → i < r.1 ∧ r.1 ≤ re.length ∧ ∀ p, i ≤ p → p < r.1 → okAt re p
  | 0, _, _, _, _, h => by simp [nodeN] at h
  | f + 1, g, i, en, r, h => by
    unfold nodeN at h
    split at h
    · cases h
    · rename_i n hn
      split at h
      · cases h
      · rename_i hgd
        have hgd' : goodN n = true := by simpa using hgd
        have hi : i < re.length := (List.getElem?_eq_some_iff.1 hn).1
        have fin : ∀ (g' : Nat) (en1 : List Bool) (r1 : Nat × List Bool), kidsN (nodeN re f g') n.kids.toNat (i + 1) en1 = some r1 → i < r1.1 ∧ r1.1 ≤ re.length ∧ ∀ p, i ≤ p → p < r1.1 → okAt re p := fun g' en1 r1 hk => by
          have h1 := nodeN_good_kids (re := re) (fun i en r => nodeN_good re f g' i en r) _ _ _ _ (by omega) hk
          refine ⟨by have := h1.1; omega, h1.2.1, fun p hp1 hp2 => ?_⟩
          by_cases he : p = i
          · subst he
            exact ⟨n, hn, hgd', by have := h1.1; have := h1.2.1; omega⟩
          · exact h1.2.2 p (by omega) hp2
        split at h
        · cases h
        · split at h
          · split at h
            · cases h
            · split at h
              · cases h
              · rename_i hk
                cases h
                have := fin _ _ _ hk
                exact this
          · exact fin _ _ _ h
theorem shaped_ok {re : List Nd} (h : ∀ p, p < re.length → okAt re p) : RepOk re ∧ ∀ x ∈ re, x.kids ≤ re.length := by
  have all : ∀ x ∈ re, goodN x = true ∧ x.kids ≤ re.length := fun x hx => by
    obtain ⟨p, hp⟩ := List.mem_iff_getElem?.1 hx
    obtain ⟨y, hy, hg⟩ := h p (List.getElem?_eq_some_iff.1 hp).1
    rw [hp] at hy; cases hy; exact hg
  refine ⟨fun x hx h6 => ?_, fun x hx => (all x hx).2⟩
  have := (all x hx).1
  simp only [goodN, h6, if_true, Bool.and_eq_true, decide_eq_true_eq, Bool.or_eq_true, beq_iff_eq] at this
  omega

/-- What Parse answers. -/
def parseL (ere : Bool) (L : List Mk) : Except (Nat × Nat) (List Nd) :=
  if 4096 < L.length then .error (2, 4096)
  else if L.length = 0 then .error (45, 0)
  else match sidesK ere L 64 ⟨0, []⟩ with
    | .no e i => .error (e, i)
    | .ok re _ => match weighN re 260 0 with
      | some (w, _) => if 16384 < w then .error (48, L.length) else .ok re
      | none => .error (0, 0)
end Go.Proofs.YtbdjcmhfcdamiaaDoor
