/- Parts: Ro Rp. -/
import Derived.Test.YtbdjcmhfcdamiaaGreatDoorQ6
import Derived.Test.YtbdjcmhfcdamiaaGreatDoorQ0
import Derived.Test.YtbdjcmhfcdamiaaGreatDoorQ1
import Derived.WalkMore
import Derived.Deep.LoopGhost
import Derived.Lib.Bytealg
import Derived.Lib.IndexLaws
import Derived.Laws.EntriesVeiled
import Derived.WalkKit
import Derived.StillTail
import Derived.BigQuiet
import Derived.Defers
import Derived.Recover
/- Contract of package syntax's Parse. -/
namespace Go.Proofs.YtbdjcmhfcdamiaaGreatDoor
open Go.RowKit

/-- Nodes that may stand there. -/
def okAt (re : List Nd) (p : Nat) : Prop := ∃ x, re[p]? = some x ∧ goodN x = true ∧ x.kids ≤ re.length
theorem nodeN_good_kids {re : List Nd} {g : Nat → List Bool → Option (Nat × List Bool)} (hg : ∀ i en r, g i en = some r → i < r.1 ∧ r.1 ≤ re.length ∧ ∀ p, i ≤ p → p < r.1 → okAt re p) :
    ∀ (k i : Nat) (en : List Bool) (r : Nat × List Bool), i ≤ re.length → kidsN g k i en = some r → i + k ≤ r.1 ∧ r.1 ≤ re.length ∧ ∀ p, i ≤ p → p < r.1 → okAt re p
  | 0, i, en, r, hi, h => by simp only [kidsN, Option.some.injEq] at h; subst h; exact ⟨Nat.le_refl _, hi, fun p h1 h2 => by simp only at h2; omega⟩
  | k + 1, i, en, r, hi, h => by
    unfold kidsN at h
    split at h
    · cases h
    · rename_i j en1 h1
      have h2 := hg _ _ _ h1
      simp only at h2
      have h3 := nodeN_good_kids hg k _ _ _ h2.2.1 h
      refine ⟨by omega, h3.2.1, fun p hp1 hp2 => ?_⟩
      by_cases hj : p < j
      · exact h2.2.2 p hp1 hj
      · exact h3.2.2 p (by omega) hp2
/-- All nodes of what is well shaped are good. -/
theorem nodeN_good (re : List Nd) : ∀ (f g i : Nat) (en : List Bool) (r : Nat × List Bool), nodeN re f g i en = some r → i < r.1 ∧ r.1 ≤ re.length ∧ ∀ p, i ≤ p → p < r.1 → okAt re p
  | 0, _, _, _, _, h => by simp [nodeN] at h
  | f + 1, g, i, en, r, h => by
    unfold nodeN at h
    split at h
    · cases h
    · rename_i n hn
      split at h
      · cases h
      · rename_i hgd
        have hgd' : goodN n = true := by simpa using hgd
        have hi : i < re.length := (List.getElem?_eq_some_iff.1 hn).1
        have fin : ∀ (g' : Nat) (en1 : List Bool) (r1 : Nat × List Bool), kidsN (nodeN re f g') n.kids.toNat (i + 1) en1 = some r1 → i < r1.1 ∧ r1.1 ≤ re.length ∧ ∀ p, i ≤ p → p < r1.1 → okAt re p := fun g' en1 r1 hk => by
          have h1 := nodeN_good_kids (re := re) (fun i en r => nodeN_good re f g' i en r) _ _ _ _ (by omega) hk
          refine ⟨by have := h1.1; omega, h1.2.1, fun p hp1 hp2 => ?_⟩
          by_cases he : p = i
          · subst he
            exact ⟨n, hn, hgd', by have := h1.1; have := h1.2.1; omega⟩
          · exact h1.2.2 p (by omega) hp2
        split at h
        · cases h
        · split at h
          · split at h
            · cases h
            · split at h
              · cases h
              · rename_i hk
                cases h
                have := fin _ _ _ hk
                exact this
          · exact fin _ _ _ h
theorem shaped_ok {re : List Nd} (h : ∀ p, p < re.length → okAt re p) : RepOk re ∧ ∀ x ∈ re, x.kids ≤ re.length := by
  have all : ∀ x ∈ re, goodN x = true ∧ x.kids ≤ re.length := fun x hx => by
    obtain ⟨p, hp⟩ := List.mem_iff_getElem?.1 hx
    obtain ⟨y, hy, hg⟩ := h p (List.getElem?_eq_some_iff.1 hp).1
    rw [hp] at hy; cases hy; exact hg
  refine ⟨fun x hx h6 => ?_, fun x hx => (all x hx).2⟩
  have := (all x hx).1
  simp only [goodN, h6, if_true, Bool.and_eq_true, decide_eq_true_eq, Bool.or_eq_true, beq_iff_eq] at this
  omega

end Go.Proofs.YtbdjcmhfcdamiaaGreatDoor

/- Contract of package syntax's Parse. -/
namespace Go.Proofs.YtbdjcmhfcdamiaaGreatDoor
open Go.RowKit

theorem ndsC_at : ∀ (re : List Nd) (i j : Nat), i < re.length → j < 9 → (ndsC re)[i * 9 + j]? = (ndCells (re.getD i Nd.zero))[j]?
  | [], i, j, h, _ => by simp at h
  | x :: l, 0, j, _, hj => by
    rw [ndsC_cons, List.getElem?_append_left (by simp [ndCells]; omega)]
    simp
  | x :: l, i + 1, j, h, hj => by
    rw [ndsC_cons, List.getElem?_append_right (by simp [ndCells]; omega)]
    have := ndsC_at l i j (by simpa using h) hj
    simpa [ndCells, show (i + 1) * 9 + j - 9 = i * 9 + j by omega] using this
theorem Nds.at {w : World} {base : Nat} {v : Value} {re : List Nd} (h : Nds w base v re) (hn : 0 < re.length) (hl : re.length ≤ 4294967296) (hk : ∀ x ∈ re, x.kids ≤ re.length) : ∃ g cp, v = .slice (some ⟨g, 0, none⟩) re.length cp ∧ base ≤ g ∧ NdAt w g 0 re := by
  rcases h.2 with ⟨_, h0⟩ | ⟨g, cp, cur, rfl, hg1, hg2, _⟩
  · omega
  · refine ⟨g, cp, rfl, hg1, ⟨(Array.getElem?_eq_some_iff.1 hg2).1, hl, fun i hi j => ?_, fun x hx => by have := hk x hx; omega⟩⟩
    by_cases hj : j < 9
    · left
      rw [World.ownsRow.cellAt h _ (by omega), show 0 + i * 9 + j = i * 9 + j by omega, ndsC_at re i j hi hj]
    · right; omega

theorem Nds.store {w : World} {base : Nat} {v : Value} {re : List Nd} (h : Nds w base v re) {b : Nat} (hb : ∀ g, v.ownBlock = some g → g ≠ b) (u : Value) : Nds (w.setCell ⟨b, 0, none⟩ u) base v re := h.block fun g hg => Below.heap_setCell _ _ _ _ (hb g hg)
theorem Nds.alloc {w : World} {base : Nat} {v : Value} {re : List Nd} (h : Nds w base v re) (o : Obj) : Nds (w.alloc o) base v re := h.below ((Below.refl _ _).alloc (Nat.le_refl _) _)
theorem NdAt.store {w : World} {nb no : Nat} {re : List Nd} (h : NdAt w nb no re) {b : Nat} (hb : nb ≠ b) (u : Value) : NdAt (w.setCell ⟨b, 0, none⟩ u) nb no re :=
  ⟨by simpa [World.setCell] using h.lt, h.len, fun i hi j => (h.c i hi j).imp (fun e => (World.cell?_setCell_other _ _ _ _ (by simp only [ne_eq, Addr.mk.injEq, not_and]; intro e; exact absurd e.symm hb)).trans e) id, h.k⟩
end Go.Proofs.YtbdjcmhfcdamiaaGreatDoor
