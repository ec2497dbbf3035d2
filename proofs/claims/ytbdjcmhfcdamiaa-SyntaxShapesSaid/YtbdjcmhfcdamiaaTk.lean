/- Readings of nodes in other forms: as a source, of the call's own as one that came in. -/
import Derived.Test.YtbdjcmhfcdamiaaTh
namespace Go.Proofs.Ytbdjcmhfcdamiaa
open Go.RowKit

theorem nd_src {w : World} {nb no cap : Nat} {re : List Nd} (h : NdAt w nb no re) (k : Nat) (hk : k ≤ re.length) : Src w (.slice (some ⟨nb, no + k * 9, none⟩) (re.drop k).length cap) (re.drop k).length (ndsC (re.drop k)) := by
  refine .inr ⟨_, _, rfl, fun j u hu => ?_⟩
  have hj : j < (ndsC (re.drop k)).length := (List.getElem?_eq_some_iff.1 hu).1
  rw [ndsC_length] at hj
  have hadd : (⟨nb, no + k * 9, none⟩ : Addr).add j = ⟨nb, no + k * 9 + j, none⟩ := by unfold Addr.add; split <;> simp_all
  have hc := ndsC_at (re.drop k) (j / 9) (j % 9) (by omega) (by omega)
  rw [show j / 9 * 9 + j % 9 = j by omega, hu] at hc
  rw [List.length_drop] at hj
  have h1 := (h.c (k + j / 9) (by omega) (j % 9)).resolve_right (by omega)
  have hg : (re.drop k).getD (j / 9) Nd.zero = re.getD (k + j / 9) Nd.zero := by simp [List.getD_eq_getElem?_getD, List.getElem?_drop]
  rw [hg] at hc
  rw [hadd, show no + k * 9 + j = no + (k + j / 9) * 9 + j % 9 by omega, h1, ← hc]
theorem NdV.src {w : World} {oa : Option Addr} {cap : Nat} {re : List Nd} (h : NdV w oa re) (hp : 0 < re.length) : Src w (.slice oa re.length cap) re.length (ndsC re) := by
  obtain ⟨nb, no, rfl, hn⟩ := h.at_ hp
  have := nd_src (cap := cap) hn 0 (by omega)
  simpa using this
theorem Nds.toV2 {w : World} {base : Nat} {v : Value} {re : List Nd} (h : Nds w base v re) (hl : re.length ≤ 4294967296) (hk : ∀ x ∈ re, x.kids ≤ 9223372036854775807) : ∃ oa cp, v = .slice oa re.length cp ∧ re.length ≤ cp ∧ NdV w oa re := by
  rcases h.2 with ⟨rfl, h0⟩ | ⟨g, cp, cur, rfl, hg1, hg2, hcp, _⟩
  · exact ⟨none, 0, by rw [h0], by omega, hl, fun h => by omega⟩
  · refine ⟨_, _, rfl, hcp, hl, fun hn => ⟨g, 0, rfl, (Array.getElem?_eq_some_iff.1 hg2).1, hl, fun i hi j => ?_, hk⟩⟩
    by_cases hj : j < 9
    · left
      have hc := World.ownsRow.cellAt h (i * 9 + j) (by omega)
      rw [show 0 + i * 9 + j = i * 9 + j by omega, hc, ndsC_at re i j hi hj]
    · right; omega
end Go.Proofs.Ytbdjcmhfcdamiaa
