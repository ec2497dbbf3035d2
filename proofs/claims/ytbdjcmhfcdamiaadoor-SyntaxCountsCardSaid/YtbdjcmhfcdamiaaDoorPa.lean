/- Plain laws of the reader: what its errors are like. -/
import Derived.Test.YtbdjcmhfcdamiaaDoorTb
import Derived.Test.YtbdjcmhfcdamiaaDoorRo
namespace Go.Proofs.YtbdjcmhfcdamiaaDoor

/-- What an error is like: it is none of nothing, its place is among the marks; some stand at a mark. -/
def Bad (L : List Mk) (e i : Nat) : Prop := e ≠ 0 ∧ i ≤ L.length ∧ (e = 40 ∨ e = 42 ∨ e = 44 ∨ e = 46 ∨ e = 47 → i < L.length)
theorem Bad.mk' {L : List Mk} {e i : Nat} (h0 : e ≠ 0) (h : i < L.length) : Bad L e i := ⟨h0, Nat.le_of_lt h, fun _ => h⟩

theorem f3 {L : List Mk} {e i : Nat} {f : Nat × Nat} (h : (e, i) = f) (h1 : 30 ≤ e) (h2 : e ≤ 32) (h3 : i < L.length) : 30 ≤ f.1 ∧ f.1 ≤ 32 ∧ f.2 < L.length := by
  subst h; exact ⟨h1, h2, h3⟩
theorem nameL_bad {L : List Mk} {at0 b : Nat} (ha : at0 < L.length) (hb : b < L.length) : ∀ (n i : Nat) (s : List Nat) (x : Th) (f : Nat × Nat), nameL L at0 b n i s = (x, some f) → 30 ≤ f.1 ∧ f.1 ≤ 32 ∧ f.2 < L.length
  | 0, _, _, _, _, h => by simp only [nameL, Prod.mk.injEq, Option.some.injEq] at h; exact f3 h.2 (by decide) (by decide) ha
  | n + 1, i, s, x, f, h => by
    unfold nameL at h
    split at h
    · split at h
      · simp only [Prod.mk.injEq, Option.some.injEq] at h; exact f3 h.2 (by decide) (by decide) hb
      · simp at h
    · exact nameL_bad ha hb n _ _ _ _ h
theorem thingTh_bad {L : List Mk} {at0 b : Nat} {x : Th} {f : Nat × Nat} (ha : at0 < L.length) (h : thingTh L at0 b = (x, some f)) : 30 ≤ f.1 ∧ f.1 ≤ 32 ∧ f.2 < L.length := by
  unfold thingTh at h
  split at h
  · simp only [Prod.mk.injEq, Option.some.injEq] at h; exact f3 h.2 (by decide) (by decide) ha
  · rename_i hb
    split at h
    · unfold nameTh at h; exact nameL_bad ha (by omega) _ _ _ _ _ h
    · split at h
      · unfold enclosedTh at h
        repeat' (split at h)
        all_goals first
          | (simp only [Prod.mk.injEq, Option.some.injEq] at h; exact f3 h.2 (by decide) (by decide) (by omega))
          | (simp at h; done)
      · simp at h
theorem thingTh_at {L : List Mk} {at0 b : Nat} {x : Th} (h : thingTh L at0 b = (x, none)) : b < L.length := by
  unfold thingTh at h
  split at h
  · simp at h
  · omega
theorem itemTh_bad {L : List Mk} {at0 b : Nat} {fst : Bool} {x : Th} {f : Nat × Nat} (ha : at0 < L.length) (h : itemTh L at0 b fst = (x, some f)) : 30 ≤ f.1 ∧ f.1 ≤ 32 ∧ f.2 < L.length := by
  unfold itemTh at h
  split at h
  · rename_i hx
    simp only [Prod.mk.injEq, Option.some.injEq] at h
    rw [← h.2]
    exact thingTh_bad ha hx
  · rename_i a hx
    have hb := thingTh_at hx
    repeat' (split at h)
    all_goals first
      | (simp only [Prod.mk.injEq, Option.some.injEq] at h; first | exact f3 h.2 (by decide) (by decide) ha | exact f3 h.2 (by decide) (by decide) hb)
      | (rename_i hy; simp only [Prod.mk.injEq, Option.some.injEq] at h; rw [← h.2]; exact thingTh_bad ha hy)
      | (simp at h; done)
theorem itemsL_bad {L : List Mk} {at0 : Nat} (ha : at0 < L.length) : ∀ (n : Nat) (c : Cls) (i : Nat) (fst : Bool) (f : Nat × Nat), itemsL L at0 n c i fst = .error f → 30 ≤ f.1 ∧ f.1 ≤ 32 ∧ f.2 < L.length
  | 0, _, _, _, _, h => by simp only [itemsL, Except.error.injEq] at h; exact f3 h (by decide) (by decide) ha
  | n + 1, c, i, fst, f, h => by
    unfold itemsL at h
    split at h
    · cases h
    · split at h
      · rename_i hx
        cases h
        exact itemTh_bad ha hx
      · exact itemsL_bad ha n _ _ _ _ h
theorem brackL_bad {L : List Mk} {s : Rst} {e i : Nat} (ha : s.i < L.length) (h : brackL L s = .no e i) : Bad L e i := by
  unfold brackL at h
  split at h
  · rename_i hx
    cases h
    unfold bracketL at hx
    simp only at hx
    split at hx
    · rename_i hy
      cases hx
      have := itemsL_bad ha _ _ _ _ _ hy
      simp only at this
      exact ⟨by omega, by omega, fun _ => by omega⟩
    · cases hx
  · cases h
theorem escapeL_bad {ere : Bool} {L : List Mk} {grp : Rst → Out (List Nd)} {s : Rst} {e i : Nat} (hs : s.i < L.length) (hg : s.i + wideB ere ≤ L.length → grp s = .no e i → Bad L e i) (h : escapeL ere L grp s = .no e i) : Bad L e i := by
  unfold escapeL at h
  split at h
  · cases h; exact Bad.mk' (by decide) hs
  · rename_i hne
    split at h
    · cases h; exact Bad.mk' (by decide) hs
    · simp only at h
      split at h
      · rename_i he
        have hw : wideB ere = 2 := by cases ere <;> simp_all [wideB]
        unfold withTrue at h
        split at h
        · cases h
        · rename_i hx; cases h; exact hg (by omega) hx
      · split at h
        · cases h
        · split at h
          · cases h
          · split at h
            · split at h
              · cases h; exact Bad.mk' (by decide) hs
              · split at h
                · cases h; exact Bad.mk' (by decide) hs
                · cases h
            · cases h; exact Bad.mk' (by decide) hs
theorem atomL_bad {ere first : Bool} {L : List Mk} {grp : Rst → Out (List Nd)} {s : Rst} {e i : Nat} (hs : s.i < L.length) (hg : s.i + wideB ere ≤ L.length → grp s = .no e i → Bad L e i) (h : atomL ere first L grp s = .no e i) : Bad L e i := by
  unfold atomL at h
  simp only at h
  split at h
  · cases h
  · split at h
    · unfold anyL at h; cases h
    · split at h
      · exact brackL_bad hs h
      · split at h
        · exact escapeL_bad hs hg h
        · split at h
          · unfold beginL at h; split at h <;> cases h
          · split at h
            · unfold endL at h; split at h <;> cases h
            · split at h
              · rename_i he
                have hw : wideB ere = 1 := by cases ere <;> simp_all [wideB]
                unfold withTrue at h
                split at h
                · cases h
                · rename_i hx; cases h; exact hg (by omega) hx
              · cases h
theorem intervalL_no {ere : Bool} {L : List Mk} {s : Rst} {e i : Nat} (h : intervalL ere L s = .no e i) : e = 43 ∧ i = s.i := by
  unfold intervalL at h
  obtain ⟨b, hb⟩ : ∃ b, b = (if seesAt L (numL L (s.i + wideB ere)).2 [44] then numL L ((numL L (s.i + wideB ere)).2 + 1) else numL L (s.i + wideB ere)) := ⟨_, rfl⟩
  simp only [← hb] at h
  split at h
  · cases h; exact ⟨rfl, rfl⟩
  · cases h
theorem dupL_bad {ere : Bool} {L : List Mk} {s : Rst} {e i : Nat} (hs : s.i ≤ L.length) (h : dupL ere L s = .no e i) : Bad L e i := by
  unfold dupL at h
  repeat' (split at h)
  all_goals first
    | (cases h; done)
    | (rename_i hx
       cases h
       obtain ⟨rfl, rfl⟩ := intervalL_no hx
       exact ⟨by decide, hs, fun h => by omega⟩)
theorem rowL_bad {ere top : Bool} {L : List Mk} {grp : Rst → Out (List Nd)} (hu : ∀ i, i < L.length → (markAt L i).b < 256) (hg : ∀ s re t, s.i + wideB ere ≤ L.length → grp s = .ok re t → Adv L s t) (hn : ∀ s e i, s.i + wideB ere ≤ L.length → grp s = .no e i → Bad L e i) :
    ∀ (f : Nat) (all : List Nd) (n : Nat) (lead : Bool) (s : Rst) (e i : Nat), L.length < f + s.i → rowL ere top L grp f all n lead s = .no e i → s.i ≤ L.length → Bad L e i
  | 0, _, _, _, s, _, _, hf, _, hs => by omega
  | f + 1, all, n, lead, s, e, i, hf, h, hs => by
    unfold rowL at h
    split at h
    · cases h
    · rename_i hlt
      split at h
      · cases h
      · split at h
        · split at h
          · cases h; exact Bad.mk' (by decide) (by omega)
          · cases h
        · split at h
          · cases h; exact Bad.mk' (by decide) (by omega)
          · split at h
            · rename_i hx
              cases h
              exact atomL_bad (by omega) (fun hw => hn s _ _ hw) hx
            · rename_i re takes u hx
              have h1 := atomL_adv hu (by omega) (fun re t => hg s re t) hx
              have h1l := h1.lt
              have h1e := h1.le
              simp only at h
              split at h
              · rename_i hr
                simp only [Bool.and_eq_true] at hr
                split at h
                · rename_i hd
                  cases h
                  exact dupL_bad h1e hd
                · rename_i d v hd
                  have h2 := dupL_adv hr.2 hd
                  have h2l := h2.lt
                  have h2e := h2.le
                  exact rowL_bad hu hg hn f _ _ _ _ _ _ (by omega) h h2e
              · exact rowL_bad hu hg hn f _ _ _ _ _ _ (by omega) h h1e
theorem sidesL_bad {ere : Bool} {L : List Mk} {row : Rst → Out (Nat × List Nd)} (hr : ∀ s r t, s.i ≤ L.length → row s = .ok r t → Rise L s t) (hn : ∀ s e i, s.i ≤ L.length → row s = .no e i → Bad L e i) :
    ∀ (f : Nat) (all : List Nd) (n : Nat) (s : Rst) (e i : Nat), L.length < f + s.i → s.i ≤ L.length → sidesL ere L row f all n s = .no e i → Bad L e i
  | 0, _, _, s, _, _, hf, hs, _ => by omega
  | f + 1, all, n, s, e, i, hf, hs, h => by
    unfold sidesL at h
    split at h
    · rename_i hx
      cases h
      exact hn _ _ _ hs hx
    · rename_i parts r u hx
      have h1 := hr _ _ _ hs hx
      have h1l := h1.lt
      have h1e := h1.le
      simp only at h
      split at h
      · cases h; exact ⟨by decide, h1e, fun h => by omega⟩
      · split at h
        · cases h
        · rename_i hm
          have hm' : (ere && seesAt L u.i [124]) = true := by simpa using hm
          simp only [Bool.and_eq_true] at hm'
          have h2 := seesAt_le (by simp) hm'.2
          simp only [List.length_singleton] at h2
          exact sidesL_bad hr hn f _ _ _ _ _ (by show L.length < f + (u.i + 1); omega) h2 h
theorem groupL_bad {ere : Bool} {L : List Mk} (hu : ∀ i, i < L.length → (markAt L i).b < 256) : ∀ (k : Nat) (s : Rst) (e i : Nat), s.i + wideB ere ≤ L.length → groupL ere L k s = .no e i → Bad L e i
  | 0, s, e, i, hs, h => by
    have hw := wideB_pos ere
    simp only [groupL, Out.no.injEq] at h
    rw [← h.1, ← h.2]
    exact Bad.mk' (by decide) (by omega)
  | k + 1, s, e, i, hs, h => by
    have hw := wideB_pos ere
    unfold groupL at h
    split at h
    · cases h; exact Bad.mk' (by decide) (by omega)
    · split at h
      · rename_i hx
        cases h
        exact sidesL_bad (fun _ _ _ h0 h => rowS_rise hu k h0 h) (fun s e i h0 h => rowL_bad hu (fun s re t => groupL_adv hu k s re t) (fun s e i => groupL_bad hu k s e i) _ _ _ _ s e i (by omega) h h0) _ _ _ _ _ _ (by omega) (by simpa using hs) hx
      · split at h
        · cases h; exact Bad.mk' (by decide) (by omega)
        · cases h
theorem sidesK_bad {ere : Bool} {L : List Mk} (hu : ∀ i, i < L.length → (markAt L i).b < 256) (k : Nat) {s : Rst} {e i : Nat} (hs : s.i ≤ L.length) (h : sidesK ere L k s = .no e i) : Bad L e i :=
  sidesL_bad (fun _ _ _ h0 h => rowS_rise hu k h0 h) (fun s e i h0 h => rowL_bad hu (fun s re t => groupL_adv hu k s re t) (fun s e i => groupL_bad hu k s e i) _ _ _ _ s e i (by omega) h h0) _ _ _ _ _ _ (by omega) hs h
/-- What Parse refuses. -/
theorem parseL_bad {ere : Bool} {L : List Mk} (hu : ∀ i, i < L.length → (markAt L i).b < 256) {e i : Nat} (h : parseL ere L = .error (e, i)) : Bad L e i := by
  unfold parseL at h
  split at h
  · cases h; exact ⟨by decide, by omega, fun h => by omega⟩
  · split at h
    · cases h; exact ⟨by decide, Nat.zero_le _, fun h => by omega⟩
    · split at h
      · rename_i hx
        cases h
        exact sidesK_bad hu 64 (by simp) hx
      · rename_i re t hx
        obtain ⟨wt, hwt⟩ := weighN_of_nodeN re _ _ _ _ _ _ (sidesK_top hx)
        rw [hwt] at h
        simp only at h
        split at h
        · cases h; exact ⟨by decide, Nat.le_refl _, fun h => by omega⟩
        · cases h
/-- What Parse answers otherwise. -/
theorem parseL_ok {ere : Bool} {L : List Mk} {re : List Nd} (h : parseL ere L = .ok re) : 0 < L.length ∧ L.length ≤ 4096 ∧ ∃ t w, sidesK ere L 64 ⟨0, []⟩ = .ok re t ∧ weighN re 260 0 = some (w, re.length) ∧ w ≤ 16384 := by
  unfold parseL at h
  split at h
  · cases h
  · split at h
    · cases h
    · split at h
      · cases h
      · rename_i re' t hx
        obtain ⟨wt, hwt⟩ := weighN_of_nodeN re' _ _ _ _ _ _ (sidesK_top hx)
        rw [hwt] at h
        simp only at h
        split at h
        · cases h
        · cases h
          exact ⟨by omega, by omega, t, wt, hx, hwt, by omega⟩
/-- What is read is well shaped. -/
theorem parseL_shaped {ere : Bool} {L : List Mk} {re : List Nd} (h : parseL ere L = .ok re) : shapedN re = true := by
  obtain ⟨_, _, t, w, h1, h2, h3⟩ := parseL_ok h
  rw [shapedN, sidesK_top h1]
  simp only [h2, decide_true, Bool.true_and]
  simpa using h3
end Go.Proofs.YtbdjcmhfcdamiaaDoor
