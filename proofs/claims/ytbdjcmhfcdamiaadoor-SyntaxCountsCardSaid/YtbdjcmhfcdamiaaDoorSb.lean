/- Plain laws on things of a bracket. No program in sight. No condition. -/
import Derived.Test.YtbdjcmhfcdamiaaDoorSpec
namespace Go.Proofs.YtbdjcmhfcdamiaaDoor

theorem signAt_lt {L : List Mk} {i c : Nat} (h : signAt L i c = true) : i < L.length := by
  simp only [signAt, Bool.and_eq_true, decide_eq_true_eq] at h
  exact h.1
theorem nameL_next {L : List Mk} {at0 b0 : Nat} : ∀ (n i : Nat) (s : List Nat) (a : Th), nameL L at0 b0 n i s = (a, none) → i < a.next ∧ a.next ≤ L.length ∧ a.b = 0
  | 0, _, _, _, h => by simp [nameL] at h
  | n + 1, i, s, a, h => by
    unfold nameL at h
    split at h
    · rename_i hc
      simp only [Bool.and_eq_true] at hc
      have := signAt_lt hc.2
      split at h
      · simp at h
      · simp only [Prod.mk.injEq, and_true] at h
        subst h
        exact ⟨by simp, by simp; omega, rfl⟩
    · have := nameL_next n (i + 1) _ a h
      exact ⟨by omega, this.2.1, this.2.2⟩
theorem thingTh_next {L : List Mk} {at0 n : Nat} {a : Th} (h : thingTh L at0 n = (a, none)) (hu : ∀ i, i < L.length → (markAt L i).b < 256) : n < a.next ∧ a.next ≤ L.length ∧ a.b < 256 := by
  unfold thingTh at h
  split at h
  · simp at h
  · rename_i hlt
    have := hu n (by omega)
    split at h
    · have := nameL_next _ _ _ _ h
      omega
    · split at h
      · unfold enclosedTh at h
        split at h
        · simp at h
        · split at h
          · simp at h
          · split at h
            · simp at h
            · split at h
              · simp at h
              · simp only [Prod.mk.injEq, and_true] at h
                subst h
                have := hu (n + 2) (by omega)
                exact ⟨by simp, by simp; omega, this⟩
      · simp only [Prod.mk.injEq, and_true] at h
        subst h
        exact ⟨by simp, by simp; omega, this⟩
theorem thingTh_zero {L : List Mk} {at0 n : Nat} {a : Th} {f : Nat × Nat} (h : thingTh L at0 n = (a, some f)) : a = Th.zero := by
  have hname : ∀ (m i : Nat) (s : List Nat), nameL L at0 n m i s = (a, some f) → a = Th.zero := by
    intro m
    induction m with
    | zero => intro i s h; simp only [nameL, Prod.mk.injEq] at h; exact h.1.symm
    | succ m ih =>
      intro i s h
      unfold nameL at h
      split at h
      · split at h
        · simp only [Prod.mk.injEq] at h; exact h.1.symm
        · simp at h
      · exact ih _ _ h
  unfold thingTh at h
  split at h
  · simp only [Prod.mk.injEq] at h; exact h.1.symm
  · split at h
    · exact hname _ _ _ h
    · split at h
      · unfold enclosedTh at h
        split at h
        · simp only [Prod.mk.injEq] at h; exact h.1.symm
        · split at h
          · simp only [Prod.mk.injEq] at h; exact h.1.symm
          · split at h
            · simp only [Prod.mk.injEq] at h; exact h.1.symm
            · split at h
              · simp only [Prod.mk.injEq] at h; exact h.1.symm
              · simp at h
      · simp at h

theorem itemTh_next {L : List Mk} {at0 n : Nat} {first : Bool} {a : Th} (h : itemTh L at0 n first = (a, none)) (hu : ∀ i, i < L.length → (markAt L i).b < 256) : n < a.next ∧ a.next ≤ L.length := by
  unfold itemTh at h
  split at h
  · simp at h
  · rename_i x hx
    obtain ⟨h1, h2, _⟩ := thingTh_next hx hu
    split at h
    · split at h <;> simp at h
    · split at h
      · simp only [Prod.mk.injEq] at h; rw [← h.1]; exact ⟨h1, h2⟩
      · split at h
        · simp at h
        · split at h
          · simp at h
          · rename_i y hy
            obtain ⟨h3, h4, _⟩ := thingTh_next hy hu
            split at h
            · simp at h
            · simp only [Prod.mk.injEq] at h
              rw [← h.1]
              exact ⟨by show n < y.next; omega, h4⟩

end Go.Proofs.YtbdjcmhfcdamiaaDoor
