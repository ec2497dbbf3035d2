/- Plain laws of the reader: how many nodes a part has at the most. -/
import Derived.Test.YtbdjcmhfcdamiaaDoorRt
namespace Go.Proofs.YtbdjcmhfcdamiaaDoor

def Small (s : Rst) (re : List Nd) (t : Rst) : Prop := 0 < re.length ∧ re.length + 4 * s.i ≤ 4 * t.i
theorem atomL_small {ere first : Bool} {L : List Mk} {grp : Rst → Out (List Nd)} {s : Rst} {r : List Nd × Bool} {t : Rst} (hu : ∀ i, i < L.length → (markAt L i).b < 256) (hs : s.i < L.length)
    (hg : ∀ re t, s.i + wideB ere ≤ L.length → grp s = .ok re t → Small s re t) (h : atomL ere first L grp s = .ok r t) : Small s r.1 t := by
  have one : ∀ (x : Nd) (j : Nat), s.i < j → Small s [x] ⟨j, s.ended⟩ := fun x j hj => ⟨by simp, by simp only [List.length_singleton]; omega⟩
  unfold atomL at h
  simp only at h
  split at h
  · cases h; exact one _ _ (Nat.lt_succ_self _)
  · split at h
    · unfold anyL at h; cases h; exact one _ _ (Nat.lt_succ_self _)
    · split at h
      · unfold brackL at h
        split at h
        · cases h
        · rename_i hx; cases h; exact one _ _ (bracketL_next hu hx).1
      · split at h
        · unfold escapeL at h
          split at h
          · cases h
          · rename_i hne
            split at h
            · cases h
            · simp only at h
              split at h
              · rename_i he
                have hw : wideB ere = 2 := by cases ere <;> simp_all [wideB]
                unfold withTrue at h
                split at h
                · rename_i hx; cases h; exact hg _ _ (by omega) hx
                · cases h
              · split at h
                · cases h; exact one _ _ (by omega)
                · split at h
                  · cases h; exact one _ _ (by omega)
                  · split at h
                    · split at h
                      · cases h
                      · split at h
                        · cases h
                        · cases h; exact one _ _ (by omega)
                    · cases h
        · split at h
          · unfold beginL at h; split at h <;> (cases h; exact one _ _ (Nat.lt_succ_self _))
          · split at h
            · unfold endL at h; split at h <;> (cases h; exact one _ _ (Nat.lt_succ_self _))
            · split at h
              · rename_i he
                have hw : wideB ere = 1 := by cases ere <;> simp_all [wideB]
                unfold withTrue at h
                split at h
                · rename_i hx; cases h; exact hg _ _ (by omega) hx
                · cases h
              · cases h; exact one _ _ (Nat.lt_succ_self _)
theorem rowL_small {ere top : Bool} {L : List Mk} {grp : Rst → Out (List Nd)} (hu : ∀ i, i < L.length → (markAt L i).b < 256) (hg : ∀ s re t, s.i + wideB ere ≤ L.length → grp s = .ok re t → Small s re t)
    (ha : ∀ s re t, s.i + wideB ere ≤ L.length → grp s = .ok re t → Adv L s t) (s0 : Nat) :
    ∀ (f : Nat) (all : List Nd) (n : Nat) (lead : Bool) (s : Rst) (r : Nat × List Nd) (t : Rst), s.i ≤ L.length → all.length + 4 * s0 ≤ 4 * s.i → n + s0 ≤ s.i → rowL ere top L grp f all n lead s = .ok r t → r.2.length + 4 * s0 ≤ 4 * t.i ∧ r.1 + s0 ≤ t.i
  | 0, _, _, _, _, _, _, _, _, _, h => by simp [rowL] at h
  | f + 1, all, n, lead, s, r, t, hs, h1, h2, h => by
    unfold rowL at h
    split at h
    · cases h; exact ⟨h1, h2⟩
    · rename_i hlt
      split at h
      · cases h; exact ⟨h1, h2⟩
      · split at h
        · split at h
          · cases h
          · cases h; exact ⟨h1, h2⟩
        · split at h
          · cases h
          · split at h
            · cases h
            · rename_i re takes u hx
              have hb := atomL_small hu (by omega) (fun re t => hg s re t) hx
              have hv := atomL_adv hu (by omega) (fun re t => ha s re t) hx
              have hlt1 := hv.lt
              obtain ⟨_, hb2⟩ := hb
              simp only at h hb2
              split at h
              · rename_i hr
                simp only [Bool.and_eq_true] at hr
                split at h
                · cases h
                · rename_i d v hd
                  have h3 := dupL_adv hr.2 hd
                  have h4 := h3.lt
                  exact rowL_small hu hg ha s0 f _ _ _ _ _ _ h3.le (by simp only [List.length_append, List.length_cons]; omega) (by omega) h
              · exact rowL_small hu hg ha s0 f _ _ _ _ _ _ hv.le (by simp only [List.length_append]; omega) (by omega) h
theorem sidesL_small {ere : Bool} {L : List Mk} {row : Rst → Out (Nat × List Nd)} (hr : ∀ s r t, s.i ≤ L.length → row s = .ok r t → Rise L s t) (hz : ∀ s r t, s.i ≤ L.length → row s = .ok r t → r.2.length + 4 * s.i ≤ 4 * t.i) (s0 : Nat) :
    ∀ (f : Nat) (all : List Nd) (n : Nat) (s : Rst) (re : List Nd) (t : Rst), s.i ≤ L.length → all.length + 4 * s0 ≤ 4 * s.i → sidesL ere L row f all n s = .ok re t → re.length + 4 * s0 ≤ 4 * t.i + 2
  | 0, _, _, _, _, _, _, _, h => by simp [sidesL] at h
  | f + 1, all, n, s, re, t, hs, h1, h => by
    unfold sidesL at h
    split at h
    · cases h
    · rename_i parts r u hx
      have h2 := hr _ _ _ hs hx
      have h3 := hz _ _ _ hs hx
      simp only at h h3
      split at h
      · cases h
      · have hl : ∀ (x : Nd), (all ++ (if parts = 1 then r else x :: r)).length + 4 * s0 ≤ 4 * u.i + 1 := fun x => by
          split <;> simp only [List.length_append, List.length_cons] <;> omega
        split at h
        · cases h
          split
          · have := hl (catN parts); simp only [List.length_cons]; omega
          · have := hl (catN parts); omega
        · rename_i hm
          have hm' : (ere && seesAt L u.i [124]) = true := by simpa using hm
          simp only [Bool.and_eq_true] at hm'
          have h4 := seesAt_le (by simp) hm'.2
          have := hl (catN parts)
          exact sidesL_small hr hz s0 f _ _ _ _ _ (by simpa using h4) (by simp only; omega) h
theorem groupL_small {ere : Bool} {L : List Mk} (hu : ∀ i, i < L.length → (markAt L i).b < 256) : ∀ (k : Nat) (s : Rst) (re : List Nd) (t : Rst), s.i + wideB ere ≤ L.length → groupL ere L k s = .ok re t → Small s re t
  | 0, _, _, _, _, h => by simp [groupL] at h
  | k + 1, s, re, t, hs, h => by
    have hw := wideB_pos ere
    unfold groupL at h
    split at h
    · cases h
    · split at h
      · cases h
      · rename_i r u hx
        have h1 := sidesL_small (fun s r t h0 h => rowS_rise hu k h0 h)
          (fun s r t h0 h => (rowL_small hu (fun s re t => groupL_small hu k s re t) (fun s re t => groupL_adv hu k s re t) s.i _ _ _ _ _ _ _ h0 (by simp) (by simp) h).1) (s.i + wideB ere) _ _ _ _ _ _ (by simpa using hs) (by simp) hx
        split at h
        · cases h
        · cases h
          refine ⟨by simp, ?_⟩
          simp only [List.length_cons]
          omega
theorem rowS_small {ere top : Bool} {L : List Mk} (hu : ∀ i, i < L.length → (markAt L i).b < 256) (k : Nat) {s : Rst} {r : Nat × List Nd} {t : Rst} (hs : s.i ≤ L.length) (h : rowS ere top L (groupL ere L k) s = .ok r t) : r.2.length + 4 * s.i ≤ 4 * t.i ∧ r.1 + s.i ≤ t.i :=
  rowL_small hu (fun s re t => groupL_small hu k s re t) (fun s re t => groupL_adv hu k s re t) s.i _ _ _ _ _ _ _ hs (by simp) (by simp) h
theorem sidesK_small {ere : Bool} {L : List Mk} (hu : ∀ i, i < L.length → (markAt L i).b < 256) (k : Nat) {s : Rst} {re : List Nd} {t : Rst} (hs : s.i ≤ L.length) (h : sidesK ere L k s = .ok re t) : re.length + 4 * s.i ≤ 4 * t.i + 2 :=
  sidesL_small (fun _ _ _ h0 h => rowS_rise hu k h0 h) (fun _ _ _ h0 h => (rowS_small hu k h0 h).1) s.i _ _ _ _ _ _ hs (by simp) h
end Go.Proofs.YtbdjcmhfcdamiaaDoor
