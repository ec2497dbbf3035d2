/- Plain laws of Parse: what was refused at a place for what stands there is refused so whatever stands behind the two marks from there on. -/
import Derived.Test.YtbdjcmhfcdamiaaPe
namespace Go.Proofs.Ytbdjcmhfcdamiaa

def E5 (e : Nat) : Prop := e = 40 ∨ e = 42 ∨ e = 44 ∨ e = 46 ∨ e = 47
/-- The first marks, up to two from the place on, are the same. -/
structure Two2 (i : Nat) (L M : List Mk) : Prop where
  l : i + 2 ≤ L.length
  m : i + 2 ≤ M.length
  eq : ∀ j, j < i + 2 → markAt M j = markAt L j
theorem Two2.emb (ere : Bool) {i : Nat} {L M : List Mk} (h : Two2 i L M) : Emb ere L M 0 (i + 2) i := by
  have hl := h.l
  have hm := h.m
  have eq0 : ∀ j, j < i + 2 → markAt M (0 + j) = markAt L j := fun j hj => by rw [Nat.zero_add]; exact h.eq j hj
  have sees : ∀ (s : List Nat) (p : Nat), p + s.length ≤ i + 2 → seesAt M (0 + p) s = seesAt L p s := seesAt_emb h.l (by omega) eq0
  have hw : ∀ c, (signB ere c).length ≤ 2 := fun c => by cases ere <;> simp [signB]
  exact {
    qn := by omega
    qs := .inl (by omega)
    nL := h.l
    nM := by omega
    eq := eq0
    rep := fun p hp => by
      unfold repeatsL
      rw [sees _ p (by simp only [List.length_singleton]; omega), sees _ p (by simp only [List.length_singleton]; omega), sees _ p (by simp only [List.length_singleton]; omega), sees _ p (by have := hw 123; omega)]
    close := fun p hp _ => sees _ p (by have := hw 41; omega)
    fin := fun p hp _ => by
      rw [sees _ p (by simp only [List.length_cons, List.length_nil]; omega), decide_eq_true (show 0 + p < M.length by omega), decide_eq_true (show p < L.length by omega)]
    term := fun h => by omega }
section
variable {ere : Bool} {L : List Mk}
/-- What a part's error comes to. -/
def Err {α : Type} (L : List Mk) (s : Rst) (e i : Nat) (o : List Mk → Out α) : Prop := s.i ≤ i ∧ ∀ M, Two2 i L M → o M = .no e i
theorem brackL_range {s : Rst} {e i : Nat} (ha : s.i < L.length) (h : brackL L s = .no e i) : e ≤ 32 := by
  unfold brackL at h
  split at h
  · rename_i hx
    cases h
    unfold bracketL at hx
    simp only at hx
    split at hx
    · rename_i hy
      cases hx
      have := itemsL_bad ha _ _ _ _ _ hy
      exact this.2.1
    · cases hx
  · cases h
theorem escapeL_err {grp : List Mk → Rst → Out (List Nd)} {s : Rst} {e i : Nat} (he : E5 e) (hs : s.i < L.length) (hg : s.i + wideB ere ≤ L.length → grp L s = .no e i → Err L s e i (fun M => grp M s)) (h : escapeL ere L (grp L) s = .no e i) : Err L s e i (fun M => escapeL ere M (grp M) s) := by
  unfold escapeL at h
  split at h
  · rename_i h1
    cases h
    exact ⟨Nat.le_refl _, fun M hM => by have := hM.l; omega⟩
  · rename_i h1
    split at h
    · rename_i h2
      cases h
      refine ⟨Nat.le_refl _, fun M hM => ?_⟩
      have hm := hM.m
      simp only
      unfold escapeL
      rw [if_neg (by omega), hM.eq _ (by omega), if_pos h2]
    · rename_i h2
      simp only at h
      have body : ∀ M, Two2 i L M → s.i ≤ i → escapeL ere M (grp M) s = if (!ere && (markAt L (s.i + 1)).b == 40) = true then withTrue (grp M s) else escapeL ere M (grp M) s := fun M hM hsi => by
        split
        · rename_i h3
          have hm := hM.m
          unfold escapeL
          rw [if_neg (by omega), hM.eq _ (by omega), if_neg h2]
          simp only
          rw [if_pos h3]
        · rfl
      by_cases h3 : (!ere && (markAt L (s.i + 1)).b == 40) = true
      · rw [if_pos h3] at h
        have hw : wideB ere = 2 := by cases ere <;> simp_all [wideB]
        unfold withTrue at h
        split at h
        · cases h
        · rename_i hx
          cases h
          obtain ⟨a1, a2⟩ := hg (by omega) hx
          refine ⟨a1, fun M hM => ?_⟩
          simp only
          rw [body M hM a1, if_pos h3]
          have := a2 M hM
          simp only at this
          rw [this]
          rfl
      · rw [if_neg h3] at h
        have hi : i = s.i := by
          repeat' (split at h)
          all_goals first
            | (cases h; rfl)
            | (cases h; done)
        subst hi
        refine ⟨Nat.le_refl _, fun M hM => ?_⟩
        have hm := hM.m
        simp only
        unfold escapeL
        rw [if_neg (by omega), hM.eq _ (by omega), if_neg h2]
        simp only
        rw [if_neg h3]
        exact h
theorem atomL_err {first : Bool} {grp : List Mk → Rst → Out (List Nd)} {s : Rst} {e i : Nat} (he : E5 e) (hs : s.i < L.length) (hg : s.i + wideB ere ≤ L.length → grp L s = .no e i → Err L s e i (fun M => grp M s)) (h : atomL ere first L (grp L) s = .no e i) : Err L s e i (fun M => atomL ere first M (grp M) s) := by
  unfold atomL at h
  simp only at h
  have open_ : ∀ M, Two2 i L M → s.i ≤ i → markAt M s.i = markAt L s.i := fun M hM hsi => hM.eq _ (by omega)
  split at h
  · cases h
  · rename_i c0
    split at h
    · unfold anyL at h; cases h
    · rename_i c1
      split at h
      · have := brackL_range hs h
        unfold E5 at he
        omega
      · rename_i c2
        split at h
        · rename_i c3
          obtain ⟨a1, a2⟩ := escapeL_err he hs hg h
          refine ⟨a1, fun M hM => ?_⟩
          simp only
          unfold atomL
          simp only
          rw [open_ M hM a1, if_neg c0, if_neg c1, if_neg c2, if_pos c3]
          exact a2 M hM
        · rename_i c3
          split at h
          · unfold beginL at h; split at h <;> cases h
          · rename_i c4
            split at h
            · unfold endL at h; split at h <;> cases h
            · rename_i c5
              split at h
              · rename_i c6
                have hw : wideB ere = 1 := by cases ere <;> simp_all [wideB]
                unfold withTrue at h
                split at h
                · cases h
                · rename_i hx
                  cases h
                  obtain ⟨a1, a2⟩ := hg (by omega) hx
                  refine ⟨a1, fun M hM => ?_⟩
                  simp only
                  unfold atomL
                  simp only
                  rw [open_ M hM a1, if_neg c0, if_neg c1, if_neg c2, if_neg c3, if_neg c4, if_neg c5, if_pos c6]
                  have := a2 M hM
                  simp only at this
                  rw [this]
                  rfl
              · cases h
theorem dupL_e {s : Rst} {e i : Nat} (h : dupL ere L s = .no e i) : e = 43 := by
  unfold dupL at h
  repeat' (split at h)
  all_goals first
    | (cases h; done)
    | (rename_i hx; cases h; exact (intervalL_no hx).1)
theorem rowL_err {F g : Nat} {top : Bool} {grp : List Mk → Rst → Out (List Nd)} (hu : ∀ i, i < L.length → (markAt L i).b < 256) (hgA : ∀ s re t, s.i + wideB ere ≤ L.length → grp L s = .ok re t → Adv L s t)
    (hgn : ∀ s e i, E5 e → s.i + wideB ere ≤ L.length → s.ended.length ≤ 255 → grp L s = .no e i → Err L s e i (fun M => grp M s))
    (hgo : ∀ s re t M i, Two2 i L M → s.i + wideB ere ≤ L.length → grp L s = .ok re t → t.i ≤ i → s.ended.length ≤ 255 → grp M s = .ok re t)
    (HW : ∀ s re t, s.i + wideB ere ≤ L.length → grp L s = .ok re t → s.i + 2 * wideB ere ≤ t.i)
    (hgl : ∀ s re t, s.ended.length ≤ 255 → grp L s = .ok re t → Tr (F + 1) g re s.ended t.ended ∧ t.ended.length ≤ 255) :
    ∀ (f : Nat) (all : List Nd) (m : Nat) (lead : Bool) (s : Rst) (e i : Nat), E5 e → s.i ≤ L.length → s.ended.length ≤ 255 → rowL ere top L (grp L) f all m lead s = .no e i →
      s.i ≤ i ∧ ∀ M f', Two2 i L M → M.length < f' + s.i → rowL ere top M (grp M) f' all m lead s = .no e i
  | 0, _, _, _, _, _, _, he, _, _, h => by
    simp only [rowL, Out.no.injEq] at h
    unfold E5 at he
    omega
  | f + 1, all, m, lead, s, e, i, he, hsL, hl, h => by
    unfold rowL at h
    split at h
    · cases h
    · rename_i hend
      have hsl : s.i < L.length := by omega
      -- what M sees at the row's head
      have head : ∀ M f', Two2 i L M → s.i ≤ i → M.length < f' + s.i → ∃ f2, f' = f2 + 1 ∧ ¬ M.length ≤ s.i ∧ (∀ c, seesAt M s.i [c] = seesAt L s.i [c]) ∧ seesAt M s.i (signB ere 41) = seesAt L s.i (signB ere 41) ∧ repeatsL ere M s.i = repeatsL ere L s.i := fun M f' hM hsi hf => by
        have E := hM.emb ere
        have hm := hM.m
        have h1 := fun c => E.sees (s := [c]) (p := s.i) (by simp only [List.length_singleton]; omega)
        have h2 := E.close s.i hsi hsl
        have h3 := E.rep s.i hsi
        simp only [Nat.zero_add] at h1 h2 h3
        exact ⟨f' - 1, by omega, by omega, h1, h2, h3⟩
      split at h
      · cases h
      · rename_i c1
        split at h
        · split at h
          · cases h; unfold E5 at he; omega
          · cases h
        · rename_i c2
          split at h
          · rename_i c3
            cases h
            refine ⟨Nat.le_refl _, fun M f' hM hf => ?_⟩
            obtain ⟨f2, rfl, k1, k2, k3, k4⟩ := head M f' hM (Nat.le_refl _) hf
            unfold rowL
            rw [if_neg k1, k2, if_neg c1, k3, if_neg c2, k4, k2, if_pos c3]
          · rename_i c3
            split at h
            · rename_i hx
              cases h
              obtain ⟨a1, a2⟩ := atomL_err he hsl (fun hw => hgn s _ _ he hw hl) hx
              refine ⟨a1, fun M f' hM hf => ?_⟩
              obtain ⟨f2, rfl, k1, k2, k3, k4⟩ := head M f' hM a1 hf
              have := a2 M hM
              simp only at this
              unfold rowL
              rw [if_neg k1, k2, if_neg c1, k3, if_neg c2, k4, k2, if_neg c3, this]
            · rename_i re takes u hx
              have h1 := atomL_adv hu hsl (fun re t => hgA s re t) hx
              have h1l := h1.lt
              have h1e := h1.le
              have hul : u.ended.length ≤ 255 := by
                exact (atomL_tree hl (fun re t hg => hgl s re t hl hg) hx).2
              -- the atom in M
              have atm : ∀ M, Two2 i L M → u.i ≤ i → atomL ere (m == 0) M (grp M) s = .ok (re, takes) u := fun M hM hui => by
                have h4 := atomL_emb (hM.emb ere) hu (pre := []) (p := 0) (X := False) (g := 0) (grp' := grp M) rfl (fun re t hw hg ht _ => .inl (by
                  have := hgo s re t M i hM hw hg ht hl
                  simp only [Nat.zero_add, List.nil_append, map_sh_zero]
                  exact this)) (fun re t => HW s re t) hsl h1l hx hui (fun h => absurd h (Nat.lt_irrefl 0))
                simp only [EmbA, Lim, Nat.zero_add, List.nil_append, map_sh_zero, false_and, or_false] at h4
                exact h4
              simp only at h
              by_cases hr : (takes && repeatsL ere L u.i) = true
              · rw [if_pos hr] at h
                simp only [Bool.and_eq_true] at hr
                split at h
                · rename_i hd
                  cases h
                  have := dupL_e hd
                  unfold E5 at he
                  omega
                · rename_i x v hd
                  have h2 := dupL_adv hr.2 hd
                  have h2l := h2.lt
                  have h2e := h2.le
                  have hv : v.ended = u.ended := (dupL_good hd).2.1
                  obtain ⟨a1, a2⟩ := rowL_err hu hgA hgn hgo HW hgl f _ _ _ _ _ _ he h2e (by rw [hv]; exact hul) h
                  refine ⟨by omega, fun M f' hM hf => ?_⟩
                  obtain ⟨f2, rfl, k1, k2, k3, k4⟩ := head M f' hM (by omega) hf
                  have E := hM.emb ere
                  have h5 := dupL_emb E u.ended hr.2 hd (by omega)
                  have h6 := E.rep u.i (by omega)
                  simp only [Nat.zero_add] at h5 h6
                  rw [show (⟨v.i, u.ended⟩ : Rst) = v by rw [← hv]] at h5
                  unfold rowL
                  rw [if_neg k1, k2, if_neg c1, k3, if_neg c2, k4, k2, if_neg c3, atm M hM (by omega)]
                  simp only
                  rw [h6, hr.1, hr.2, Bool.and_self, if_pos rfl, h5]
                  exact a2 M f2 hM (by omega)
              · rw [if_neg hr] at h
                obtain ⟨a1, a2⟩ := rowL_err hu hgA hgn hgo HW hgl f _ _ _ _ _ _ he h1e hul h
                refine ⟨by omega, fun M f' hM hf => ?_⟩
                obtain ⟨f2, rfl, k1, k2, k3, k4⟩ := head M f' hM (by omega) hf
                have E := hM.emb ere
                have h6 := E.rep u.i (by omega)
                simp only [Nat.zero_add] at h6
                unfold rowL
                rw [if_neg k1, k2, if_neg c1, k3, if_neg c2, k4, k2, if_neg c3, atm M hM (by omega)]
                simp only
                rw [h6, if_neg hr]
                exact a2 M f2 hM (by omega)
theorem sidesL_err {row : List Mk → Rst → Out (Nat × List Nd)} (hrR : ∀ s r t, s.i ≤ L.length → row L s = .ok r t → Rise L s t)
    (hrn : ∀ s e i, E5 e → s.i ≤ L.length → s.ended.length ≤ 255 → row L s = .no e i → Err L s e i (fun M => row M s))
    (hro : ∀ s r t M i, Two2 i L M → s.i ≤ L.length → row L s = .ok r t → t.i ≤ i → s.ended.length ≤ 255 → row M s = .ok r t)
    (hrl : ∀ s r t, s.ended.length ≤ 255 → row L s = .ok r t → t.ended.length ≤ 255) :
    ∀ (f : Nat) (all : List Nd) (m : Nat) (s : Rst) (e i : Nat), E5 e → s.i ≤ L.length → s.ended.length ≤ 255 → sidesL ere L (row L) f all m s = .no e i →
      s.i ≤ i ∧ ∀ M f', Two2 i L M → M.length < f' + s.i → sidesL ere M (row M) f' all m s = .no e i
  | 0, _, _, _, _, _, he, _, _, h => by
    simp only [sidesL, Out.no.injEq] at h
    unfold E5 at he
    omega
  | f + 1, all, m, s, e, i, he, hsL, hl, h => by
    unfold sidesL at h
    split at h
    · rename_i hx
      cases h
      obtain ⟨a1, a2⟩ := hrn _ _ _ he hsL hl hx
      refine ⟨a1, fun M f' hM hf => ?_⟩
      have hm := hM.m
      obtain ⟨f2, rfl⟩ : ∃ f2, f' = f2 + 1 := ⟨f' - 1, by omega⟩
      have := a2 M hM
      simp only at this
      rw [sidesL, this]
    · rename_i parts r u hx
      have h1 := hrR _ _ _ hsL hx
      have h1l := h1.lt
      have h1e := h1.le
      simp only at h
      split at h
      · cases h; unfold E5 at he; omega
      · rename_i c1
        split at h
        · cases h
        · rename_i hm
          have hm' : (ere && seesAt L u.i [124]) = true := by simpa using hm
          have hm2 := hm'
          simp only [Bool.and_eq_true] at hm2
          have h2 := seesAt_le (by simp) hm2.2
          simp only [List.length_singleton] at h2
          obtain ⟨a1, a2⟩ := sidesL_err hrR hrn hro hrl f _ _ ⟨u.i + 1, u.ended⟩ _ _ he h2 (show u.ended.length ≤ 255 from hrl _ _ _ hl hx) h
          simp only at a1
          refine ⟨by omega, fun M f' hM hf => ?_⟩
          have hmm := hM.m
          obtain ⟨f2, rfl⟩ : ∃ f2, f' = f2 + 1 := ⟨f' - 1, by omega⟩
          have h3 := hro _ _ _ M i hM hsL hx (by omega) hl
          have h4 := (hM.emb ere).sees (s := [124]) (p := u.i) (by simp only [List.length_singleton]; omega)
          rw [Nat.zero_add] at h4
          rw [sidesL, h3]
          simp only
          rw [h4, if_neg c1, if_neg hm]
          exact a2 M f2 hM (by simp only; omega)
theorem groupL_same (hu : ∀ i, i < L.length → (markAt L i).b < 256) (k : Nat) (hk : k ≤ 64) {s t : Rst} {re : List Nd} {M : List Mk} {i : Nat} (hM : Two2 i L M) (hw : s.i + wideB ere ≤ L.length) (h : groupL ere L k s = .ok re t) (ht : t.i ≤ i) (hl : s.ended.length ≤ 255) : groupL ere M k s = .ok re t := by
  have h1 := groupL_emb (hM.emb ere) hu (pre := []) (p := 0) rfl k k (Nat.le_refl _) hk s re t hl hw h ht (fun h => absurd h (Nat.lt_irrefl 0))
  simp only [EmbG, Lim, Nat.zero_add, List.nil_append, map_sh_zero, ne_eq, not_true_eq_false, Nat.lt_irrefl, or_self, false_and, or_false] at h1
  exact h1
theorem rowS_same (hu : ∀ i, i < L.length → (markAt L i).b < 256) (top : Bool) (k : Nat) (hk : k ≤ 64) {s t : Rst} {r : Nat × List Nd} {M : List Mk} {i : Nat} (hM : Two2 i L M) (hs : s.i ≤ L.length) (h : rowS ere top L (groupL ere L k) s = .ok r t) (ht : t.i ≤ i) (hl : s.ended.length ≤ 255) : rowS ere top M (groupL ere M k) s = .ok r t := by
  have hml := hM.l
  have h1 := rowL_emb (hM.emb ere) hu (pre := []) (p := 0) (X := False) (g := 64 - k) (grp' := groupL ere M k) (F := 4 * k) (a0 := s.ended) rfl (top := top) (top' := top) id (fun h => by omega) (fun s re t => groupL_adv hu k s re t)
    (fun s re t hl hw hg ht _ => .inl (by
      have := groupL_same hu k hk hM hw hg ht (by simpa using hl)
      simp only [Nat.zero_add, List.nil_append, map_sh_zero]
      exact this)) (fun s re t hs hg => groupL_adv2 hu k hs hg) (fun s re t hl hg => groupL_tree k hk s re t hl hg) _ _ _ _ s r t (M.length + 1) h hs ht (fun h => absurd h (Nat.lt_irrefl 0)) (by omega) hl (Trs.nil _ _ _)
  simp only [Lim, Nat.zero_add, List.nil_append, map_sh_zero, false_and, or_false, List.map_nil] at h1
  exact h1
theorem rowS_len {top : Bool} (k : Nat) (hk : k ≤ 64) {s t : Rst} {r : Nat × List Nd} (hl : s.ended.length ≤ 255) (h : rowS ere top L (groupL ere L k) s = .ok r t) : t.ended.length ≤ 255 :=
  (rowL_tree (fun s re t => groupL_tree k hk s re t) s.ended _ _ _ _ _ _ _ hl (Trs.nil _ _ _) h).2
theorem groupL_err (hu : ∀ i, i < L.length → (markAt L i).b < 256) : ∀ (k : Nat), k ≤ 64 → ∀ (s : Rst) (e i : Nat), E5 e → s.i + wideB ere ≤ L.length → s.ended.length ≤ 255 → groupL ere L k s = .no e i → Err L s e i (fun M => groupL ere M k s)
  | 0, _, s, e, i, he, hs, hl, h => by
    simp only [groupL, Out.no.injEq] at h
    obtain ⟨rfl, rfl⟩ := h
    exact ⟨Nat.le_refl _, fun M hM => rfl⟩
  | k + 1, hk, s, e, i, he, hs, hl, h => by
    unfold groupL at h
    split at h
    · rename_i c1
      cases h
      exact ⟨Nat.le_refl _, fun M hM => by simp only; rw [groupL, if_pos c1]⟩
    · rename_i c1
      split at h
      · rename_i hx
        cases h
        have hlen : (s.ended ++ [false]).length ≤ 255 := by rw [List.length_append, List.length_singleton]; omega
        obtain ⟨a1, a2⟩ := sidesL_err (ere := ere) (row := fun M => rowS ere false M (groupL ere M k)) (fun s r t h0 h => rowS_rise hu k h0 h)
          (fun s e i he hs hl h => by
            obtain ⟨b1, b2⟩ := rowL_err (ere := ere) (top := false) (grp := fun M => groupL ere M k) (F := 4 * k) (g := 64 - k) hu (fun s re t => groupL_adv hu k s re t) (fun s e i he hw hl h => groupL_err hu k (by omega) s e i he hw hl h) (fun s re t M i hM hw h ht hl => groupL_same hu k (by omega) hM hw h ht hl) (fun s re t hs hg => groupL_adv2 hu k hs hg) (fun s re t hl hg => groupL_tree k (by omega) s re t hl hg) _ _ _ _ s e i he hs hl h
            exact ⟨b1, fun M hM => b2 M _ hM (by have := hM.m; omega)⟩)
          (fun s r t M i hM hs h ht hl => rowS_same hu false k (by omega) hM hs h ht hl) (fun s r t hl h => rowS_len k (by omega) hl h) _ _ _ _ _ _ he (by simpa using hs) hlen hx
        have hw := wideB_pos ere
        simp only at a1
        refine ⟨by omega, fun M hM => ?_⟩
        have := a2 M (M.length + 1) hM (by simp only; omega)
        simp only
        rw [groupL, if_neg c1]
        unfold sidesS
        rw [this]
      · split at h
        · cases h; unfold E5 at he; omega
        · cases h
theorem sidesK_err (hu : ∀ i, i < L.length → (markAt L i).b < 256) {e i : Nat} (he : E5 e) (h : sidesK ere L 64 ⟨0, []⟩ = .no e i) : ∀ M, Two2 i L M → sidesK ere M 64 ⟨0, []⟩ = .no e i := fun M hM => by
  obtain ⟨a1, a2⟩ := sidesL_err (ere := ere) (row := fun M => rowS ere true M (groupL ere M 64)) (fun s r t h0 h => rowS_rise hu 64 h0 h)
    (fun s e i he hs hl h => by
      obtain ⟨b1, b2⟩ := rowL_err (ere := ere) (top := true) (grp := fun M => groupL ere M 64) (F := 4 * 64) (g := 64 - 64) hu (fun s re t => groupL_adv hu 64 s re t) (fun s e i he hw hl h => groupL_err hu 64 (Nat.le_refl _) s e i he hw hl h)
        (fun s re t M i hM hw h ht hl => groupL_same hu 64 (Nat.le_refl _) hM hw h ht hl) (fun s re t hs hg => groupL_adv2 hu 64 hs hg) (fun s re t hl hg => groupL_tree 64 (Nat.le_refl _) s re t hl hg) _ _ _ _ s e i he hs hl h
      exact ⟨b1, fun M hM => b2 M _ hM (by have := hM.m; omega)⟩)
    (fun s r t M i hM hs h ht hl => rowS_same hu true 64 (Nat.le_refl _) hM hs h ht hl) (fun s r t hl h => rowS_len 64 (Nat.le_refl _) hl h) (L.length + 1) [] 0 ⟨0, []⟩ e i he (by simp) (by simp) h
  exact a2 M (M.length + 1) hM (by simp only; omega)
/-- What was refused for what stands at a place is refused so, whatever stands behind the two marks from there on. -/
theorem parseL_first (hu : ∀ i, i < L.length → (markAt L i).b < 256) {e i : Nat} (he : E5 e) (h : parseL ere L = .error (e, i)) (more : List Mk) (hl : i + 2 ≤ L.length) (hm : i + 2 + more.length ≤ 4096) : parseL ere (L.take (i + 2) ++ more) = .error (e, i) := by
  have hlen : (L.take (i + 2) ++ more).length = i + 2 + more.length := by rw [List.length_append, List.length_take]; omega
  have h2 : Two2 i L (L.take (i + 2) ++ more) := ⟨hl, by omega, fun j hj => by
    unfold markAt
    rw [List.getD_eq_getElem?_getD, List.getD_eq_getElem?_getD, List.getElem?_append_left (by rw [List.length_take]; omega), List.getElem?_take_of_lt hj]⟩
  unfold parseL at h
  split at h
  · cases h; unfold E5 at he; omega
  · split at h
    · cases h; unfold E5 at he; omega
    · split at h
      · rename_i hx
        cases h
        have := sidesK_err hu he hx _ h2
        unfold parseL
        rw [if_neg (by omega), if_neg (by omega), this]
      · rename_i re t hx
        obtain ⟨wt, hwt⟩ := weighN_of_nodeN re _ _ _ _ _ _ (sidesK_top hx)
        rw [hwt] at h
        simp only at h
        split at h
        · cases h; unfold E5 at he; omega
        · cases h
end
end Go.Proofs.Ytbdjcmhfcdamiaa
