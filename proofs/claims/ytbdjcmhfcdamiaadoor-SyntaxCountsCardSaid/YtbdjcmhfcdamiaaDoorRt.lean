/- Plain laws of the reader: it goes on, and stays among the marks. -/
import Derived.Test.YtbdjcmhfcdamiaaDoorRs
namespace Go.Proofs.YtbdjcmhfcdamiaaDoor

/-- From one state to a later one among the marks. -/
structure Adv (L : List Mk) (s t : Rst) : Prop where
  lt : s.i < t.i
  le : t.i ≤ L.length
  ended : s.ended.length ≤ t.ended.length
/-- The same, or standing still. -/
structure Rise (L : List Mk) (s t : Rst) : Prop where
  lt : s.i ≤ t.i
  le : t.i ≤ L.length
  ended : s.ended.length ≤ t.ended.length
theorem Adv.rise {L : List Mk} {s t : Rst} (h : Adv L s t) : Rise L s t := ⟨Nat.le_of_lt h.lt, h.le, h.ended⟩
theorem Rise.trans {L : List Mk} {s t u : Rst} (h : Rise L s t) (k : Rise L t u) : Rise L s u := ⟨Nat.le_trans h.lt k.lt, k.le, Nat.le_trans h.ended k.ended⟩
theorem Adv.trans {L : List Mk} {s t u : Rst} (h : Adv L s t) (k : Rise L t u) : Adv L s u := ⟨Nat.lt_of_lt_of_le h.lt k.lt, k.le, Nat.le_trans h.ended k.ended⟩
theorem Rise.trans' {L : List Mk} {s t u : Rst} (h : Rise L s t) (k : Adv L t u) : Adv L s u := ⟨Nat.lt_of_le_of_lt h.lt k.lt, k.le, Nat.le_trans h.ended k.ended⟩

theorem seesAt_le {L : List Mk} {i : Nat} {s : List Nat} (hs : 0 < s.length) (h : seesAt L i s = true) : i + s.length ≤ L.length := by
  by_cases hlt : i + s.length ≤ L.length
  · exact hlt
  · have := seesL_short (L.drop i) s (by rw [List.length_drop]; omega)
    unfold seesAt at h
    rw [this] at h; cases h
theorem signB_length (ere : Bool) (c : Nat) : (signB ere c).length = wideB ere := by cases ere <;> rfl
theorem wideB_pos (ere : Bool) : 0 < wideB ere := by cases ere <;> decide
theorem seesSign_le {ere : Bool} {L : List Mk} {i c : Nat} (h : seesAt L i (signB ere c) = true) : i + wideB ere ≤ L.length := by
  have := seesAt_le (by rw [signB_length]; exact wideB_pos ere) h
  rwa [signB_length] at this

theorem numberL_le (L : List Mk) : ∀ (f : Nat) (n : Int) (i : Nat), i ≤ L.length → i ≤ (numberL L f n i).2 ∧ (numberL L f n i).2 ≤ L.length
  | 0, n, i, h => ⟨Nat.le_refl _, h⟩
  | f + 1, n, i, h => by
    unfold numberL
    split
    · exact ⟨Nat.le_refl _, h⟩
    · split
      · exact ⟨Nat.le_refl _, h⟩
      · have := numberL_le L f (min (max n 0 * 10 + (((markAt L i).b : Int) - 48)) 256) (i + 1) (by omega)
        omega
theorem intervalL_adv {ere : Bool} {L : List Mk} {s : Rst} {r : Int × Int} {t : Rst} (hs : s.i + wideB ere ≤ L.length) (h : intervalL ere L s = .ok r t) : Adv L s t := by
  unfold intervalL at h
  have hw := wideB_pos ere
  have h1 := numberL_le L (L.length - (s.i + wideB ere)) (-1) (s.i + wideB ere) hs
  change (s.i + wideB ere ≤ (numL L (s.i + wideB ere)).2 ∧ (numL L (s.i + wideB ere)).2 ≤ L.length) at h1
  generalize numL L (s.i + wideB ere) = a at h h1
  obtain ⟨b, hb⟩ : ∃ b, b = (if seesAt L a.2 [44] then numL L (a.2 + 1) else a) := ⟨_, rfl⟩
  simp only [← hb] at h
  split at h
  · cases h
  · rename_i hc
    simp only [Bool.or_eq_true, Bool.not_eq_true', not_or] at hc
    have h3 := seesSign_le (by simpa using hc.2)
    cases h
    refine ⟨?_, h3, Nat.le_refl _⟩
    show s.i < b.2 + wideB ere
    rw [hb]
    split
    · rename_i h4
      have h5 := seesAt_le (by simp) h4
      have h6 := numberL_le L (L.length - (a.2 + 1)) (-1) (a.2 + 1) (by simpa using h5)
      change (a.2 + 1 ≤ (numL L (a.2 + 1)).2 ∧ _) at h6
      omega
    · omega
theorem dupL_adv {ere : Bool} {L : List Mk} {s : Rst} {d : Nd} {t : Rst} (hs : repeatsL ere L s.i = true) (h : dupL ere L s = .ok d t) : Adv L s t := by
  unfold dupL at h
  split at h
  · rename_i h1; have := seesAt_le (by simp) h1; cases h; exact ⟨Nat.lt_succ_self _, by simpa using this, Nat.le_refl _⟩
  · rename_i n1
    split at h
    · rename_i h1; have := seesAt_le (by simp) h1; cases h; exact ⟨Nat.lt_succ_self _, by simpa using this, Nat.le_refl _⟩
    · rename_i n2
      split at h
      · rename_i h1; have := seesAt_le (by simp) h1; cases h; exact ⟨Nat.lt_succ_self _, by simpa using this, Nat.le_refl _⟩
      · rename_i n3
        have hb : seesAt L s.i (signB ere 123) = true := by
          unfold repeatsL at hs
          simp only [n1, n2, n3] at hs
          simpa using hs
        split at h
        · cases h
        · rename_i h1
          cases h
          exact intervalL_adv (seesSign_le hb) h1

theorem itemsL_next {L : List Mk} {at0 : Nat} (hu : ∀ i, i < L.length → (markAt L i).b < 256) : ∀ (n : Nat) (c : Cls) (i : Nat) (first : Bool) (r : Cls × Nat), itemsL L at0 n c i first = .ok r → i ≤ r.2 ∧ r.2 < L.length
  | 0, _, _, _, _, h => by simp [itemsL] at h
  | n + 1, c, i, first, r, h => by
    unfold itemsL at h
    split at h
    · rename_i h1
      cases h
      simp only [Bool.and_eq_true] at h1
      exact ⟨Nat.le_refl _, signAt_lt h1.2⟩
    · split at h
      · cases h
      · rename_i x hx
        have h1 := itemTh_next hx hu
        have h2 := itemsL_next hu n _ _ _ _ h
        omega
theorem bracketL_next {L : List Mk} {at0 : Nat} (hu : ∀ i, i < L.length → (markAt L i).b < 256) {r : Cls × Nat} (h : bracketL L at0 = .ok r) : at0 < r.2 ∧ r.2 ≤ L.length := by
  unfold bracketL at h
  simp only at h
  split at h
  · cases h
  · rename_i x c i hx
    have h1 := itemsL_next hu _ _ _ _ _ hx
    cases h
    simp only at h1 ⊢
    split at h1 <;> omega

theorem brackL_adv {L : List Mk} {s : Rst} {r : List Nd × Bool} {t : Rst} (hu : ∀ i, i < L.length → (markAt L i).b < 256) (h : brackL L s = .ok r t) : Adv L s t := by
  unfold brackL at h
  split at h
  · cases h
  · rename_i x c i hx
    have := bracketL_next hu hx
    cases h
    exact ⟨this.1, this.2, Nat.le_refl _⟩
theorem escapeL_adv {ere : Bool} {L : List Mk} {grp : Rst → Out (List Nd)} {s : Rst} {r : List Nd × Bool} {t : Rst} (hs : s.i < L.length) (hg : ∀ re t, s.i + wideB ere ≤ L.length → grp s = .ok re t → Adv L s t) (h : escapeL ere L grp s = .ok r t) : Adv L s t := by
  have two : s.i + 1 ≠ L.length → Adv L s ⟨s.i + 2, s.ended⟩ := fun h => ⟨by show s.i < s.i + 2; omega, by show s.i + 2 ≤ _; omega, Nat.le_refl _⟩
  unfold escapeL at h
  split at h
  · cases h
  · rename_i hne
    split at h
    · cases h
    · simp only at h
      split at h
      · rename_i he
        have hw : wideB ere = 2 := by cases ere <;> simp_all [wideB]
        unfold withTrue at h
        split at h
        · rename_i hx; cases h; exact hg _ _ (by omega) hx
        · cases h
      · split at h
        · cases h; exact two hne
        · split at h
          · cases h; exact two hne
          · split at h
            · split at h
              · cases h
              · split at h
                · cases h
                · cases h; exact two hne
            · cases h
theorem atomL_adv {ere first : Bool} {L : List Mk} {grp : Rst → Out (List Nd)} {s : Rst} {r : List Nd × Bool} {t : Rst} (hu : ∀ i, i < L.length → (markAt L i).b < 256) (hs : s.i < L.length) (hg : ∀ re t, s.i + wideB ere ≤ L.length → grp s = .ok re t → Adv L s t)
    (h : atomL ere first L grp s = .ok r t) : Adv L s t := by
  have one : Adv L s ⟨s.i + 1, s.ended⟩ := ⟨Nat.lt_succ_self _, hs, Nat.le_refl _⟩
  unfold atomL at h
  simp only at h
  split at h
  · cases h; exact one
  · split at h
    · unfold anyL at h; cases h; exact one
    · split at h
      · exact brackL_adv hu h
      · split at h
        · exact escapeL_adv hs hg h
        · split at h
          · unfold beginL at h; split at h <;> (cases h; exact one)
          · split at h
            · unfold endL at h; split at h <;> (cases h; exact one)
            · split at h
              · rename_i he
                have hw : wideB ere = 1 := by cases ere <;> simp_all [wideB]
                unfold withTrue at h
                split at h
                · rename_i hx; cases h; exact hg _ _ (by omega) hx
                · cases h
              · cases h; exact one
theorem rowL_rise {ere top : Bool} {L : List Mk} {grp : Rst → Out (List Nd)} (hu : ∀ i, i < L.length → (markAt L i).b < 256) (hg : ∀ s re t, s.i + wideB ere ≤ L.length → grp s = .ok re t → Adv L s t) :
    ∀ (f : Nat) (all : List Nd) (n : Nat) (lead : Bool) (s : Rst) (r : Nat × List Nd) (t : Rst), s.i ≤ L.length → rowL ere top L grp f all n lead s = .ok r t → Rise L s t
  | 0, _, _, _, _, _, _, _, h => by simp [rowL] at h
  | f + 1, all, n, lead, s, r, t, hs, h => by
    have same : Rise L s s := ⟨Nat.le_refl _, hs, Nat.le_refl _⟩
    unfold rowL at h
    split at h
    · cases h; exact same
    · rename_i hlt
      split at h
      · cases h; exact same
      · split at h
        · split at h
          · cases h
          · cases h; exact same
        · split at h
          · cases h
          · split at h
            · cases h
            · rename_i re takes u hx
              have h1 := atomL_adv hu (by omega) (fun re t => hg s re t) hx
              simp only at h
              split at h
              · rename_i hr
                simp only [Bool.and_eq_true] at hr
                split at h
                · cases h
                · rename_i d v hd
                  have h2 := dupL_adv hr.2 hd
                  exact h1.rise.trans (h2.rise.trans (rowL_rise hu hg f _ _ _ _ _ _ h2.le h))
              · exact h1.rise.trans (rowL_rise hu hg f _ _ _ _ _ _ h1.le h)
theorem sidesL_rise {ere : Bool} {L : List Mk} {row : Rst → Out (Nat × List Nd)} (hr : ∀ s r t, s.i ≤ L.length → row s = .ok r t → Rise L s t) :
    ∀ (f : Nat) (all : List Nd) (n : Nat) (s : Rst) (re : List Nd) (t : Rst), s.i ≤ L.length → sidesL ere L row f all n s = .ok re t → Rise L s t
  | 0, _, _, _, _, _, _, h => by simp [sidesL] at h
  | f + 1, all, n, s, re, t, hs, h => by
    unfold sidesL at h
    split at h
    · cases h
    · rename_i parts r u hx
      have h1 := hr _ _ _ hs hx
      simp only at h
      split at h
      · cases h
      · split at h
        · cases h; exact h1
        · rename_i hm
          have hm' : (ere && seesAt L u.i [124]) = true := by simpa using hm
          simp only [Bool.and_eq_true] at hm'
          have h2 := seesAt_le (by simp) hm'.2
          have h3 := sidesL_rise hr f _ _ _ _ _ (by simpa using h2) h
          exact h1.trans (Rise.trans (t := ⟨u.i + 1, u.ended⟩) ⟨Nat.le_succ _, by simpa using h2, Nat.le_refl _⟩ h3)
theorem rowL_stop {ere top : Bool} {L : List Mk} {grp : Rst → Out (List Nd)} : ∀ (f : Nat) (all : List Nd) (n : Nat) (lead : Bool) (s : Rst) (r : Nat × List Nd) (t : Rst), rowL ere top L grp f all n lead s = .ok r t →
    L.length ≤ t.i ∨ (ere && seesAt L t.i [124]) = true ∨ (seesAt L t.i (signB ere 41) = true ∧ top = false)
  | 0, _, _, _, _, _, _, h => by simp [rowL] at h
  | f + 1, all, n, lead, s, r, t, h => by
    unfold rowL at h
    split at h
    · rename_i h1; cases h; exact .inl h1
    · split at h
      · rename_i h1; cases h; exact .inr (.inl h1)
      · split at h
        · rename_i h1
          split at h
          · cases h
          · rename_i h2; cases h; exact .inr (.inr ⟨h1, by simpa using h2⟩)
        · split at h
          · cases h
          · split at h
            · cases h
            · simp only at h
              split at h
              · split at h
                · cases h
                · exact rowL_stop f _ _ _ _ _ _ h
              · exact rowL_stop f _ _ _ _ _ _ h
theorem sidesL_stop {ere top : Bool} {L : List Mk} {row : Rst → Out (Nat × List Nd)} (hr : ∀ s r t, row s = .ok r t → L.length ≤ t.i ∨ (ere && seesAt L t.i [124]) = true ∨ (seesAt L t.i (signB ere 41) = true ∧ top = false)) :
    ∀ (f : Nat) (all : List Nd) (n : Nat) (s : Rst) (re : List Nd) (t : Rst), sidesL ere L row f all n s = .ok re t → L.length ≤ t.i ∨ (seesAt L t.i (signB ere 41) = true ∧ top = false)
  | 0, _, _, _, _, _, h => by simp [sidesL] at h
  | f + 1, all, n, s, re, t, h => by
    unfold sidesL at h
    split at h
    · cases h
    · rename_i parts r u hx
      have h1 := hr _ _ _ hx
      simp only at h
      split at h
      · cases h
      · split at h
        · rename_i hm
          cases h
          rcases h1 with h1 | h1 | h1
          · exact .inl h1
          · rw [h1] at hm; cases hm
          · exact .inr h1
        · exact sidesL_stop hr f _ _ _ _ _ h
theorem groupL_adv {ere : Bool} {L : List Mk} (hu : ∀ i, i < L.length → (markAt L i).b < 256) : ∀ (k : Nat) (s : Rst) (re : List Nd) (t : Rst), s.i + wideB ere ≤ L.length → groupL ere L k s = .ok re t → Adv L s t
  | 0, _, _, _, _, h => by simp [groupL] at h
  | k + 1, s, re, t, hs, h => by
    have hw := wideB_pos ere
    unfold groupL at h
    split at h
    · cases h
    · split at h
      · cases h
      · rename_i r u hx
        have h1 := sidesL_rise (fun s r t h0 h => rowL_rise hu (fun s re t => groupL_adv hu k s re t) _ _ _ _ _ _ _ h0 h) _ _ _ _ _ _ (by simpa using hs) hx
        have h2 := sidesL_stop (fun s r t h => rowL_stop _ _ _ _ _ _ _ h) _ _ _ _ _ _ hx
        split at h
        · cases h
        · rename_i hne
          have h3 : u.i + wideB ere ≤ L.length := by
            rcases h2 with h2 | h2
            · have := h1.le; omega
            · exact seesSign_le h2.1
          cases h
          refine ⟨?_, h3, ?_⟩
          · have := h1.lt; simp only at this ⊢; omega
          · have := h1.ended; simp only [List.length_append, List.length_set] at this ⊢; omega
theorem rowS_rise {ere top : Bool} {L : List Mk} (hu : ∀ i, i < L.length → (markAt L i).b < 256) (k : Nat) {s : Rst} {r : Nat × List Nd} {t : Rst} (hs : s.i ≤ L.length) (h : rowS ere top L (groupL ere L k) s = .ok r t) : Rise L s t :=
  rowL_rise hu (fun s re t => groupL_adv hu k s re t) _ _ _ _ _ _ _ hs h
theorem sidesK_rise {ere : Bool} {L : List Mk} (hu : ∀ i, i < L.length → (markAt L i).b < 256) (k : Nat) {s : Rst} {re : List Nd} {t : Rst} (hs : s.i ≤ L.length) (h : sidesK ere L k s = .ok re t) : Rise L s t :=
  sidesL_rise (fun _ _ _ h0 h => rowS_rise hu k h0 h) _ _ _ _ _ _ hs h
theorem sidesK_stop {ere : Bool} {L : List Mk} (k : Nat) {s : Rst} {re : List Nd} {t : Rst} (h : sidesK ere L k s = .ok re t) : L.length ≤ t.i ∨ (seesAt L t.i (signB ere 41) = true ∧ (k == 64) = false) :=
  sidesL_stop (fun _ _ _ h => rowL_stop _ _ _ _ _ _ _ h) _ _ _ _ _ _ h
end Go.Proofs.YtbdjcmhfcdamiaaDoor
