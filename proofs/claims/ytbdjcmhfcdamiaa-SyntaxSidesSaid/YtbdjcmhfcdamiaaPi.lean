/- Plain laws of Parse: two extended regexes with a bar between. -/
import Derived.Test.YtbdjcmhfcdamiaaPg
import Derived.Test.YtbdjcmhfcdamiaaPh
import Derived.Test.YtbdjcmhfcdamiaaPf
namespace Go.Proofs.Ytbdjcmhfcdamiaa

theorem NTrs.after2 {F g n m : Nat} {l r : List Nd} {a b : List Bool} (h : Trs F g n l a b) (hr : NTrs g m r b) : NTrs g (n + m) (l ++ r) a := fun f pre post => by
  have h1 := h pre (r ++ post)
  have h2 := hr f (pre ++ l) post
  rw [show pre ++ l ++ (r ++ post) = pre ++ l ++ r ++ post by simp] at h1
  rw [show pre ++ (l ++ r) ++ post = pre ++ l ++ r ++ post by simp]
  cases hk : kidsN (nodeN (pre ++ l ++ r ++ post) f g) n pre.length a with
  | none => exact kidsN_none _ _ _ _ _ hk
  | some q =>
    have h3 := kidsN_mono (fun i en r => nodeN_mono _ (g := g) (i := i) (en := en) (r := r) (Nat.le_max_left f F)) _ _ _ _ hk
    have h4 := kidsN_mono (fun i en r => nodeN_mono _ (g := g) (i := i) (en := en) (r := r) (Nat.le_max_right f F)) _ _ _ _ h1
    rw [h3] at h4
    obtain ⟨j, en⟩ := q
    simp only [Option.some.injEq, Prod.mk.injEq] at h4
    rw [kidsN_add _ n m _ _ _ _ hk, h4.1, h4.2]
    rw [List.length_append] at h2
    exact h2

/-- The sides as they are gone through: how many, and their nodes. -/
def runL (ere : Bool) (L : List Mk) (row : Rst → Out (Nat × List Nd)) : Nat → Nat → Rst → Out (Nat × List Nd)
  | 0, _, _ => .no 0 0
  | f + 1, n, s => match row s with
    | .no e i => .no e i
    | .ok r t =>
      if r.1 == 0 && ((ere && seesAt L t.i [124]) || decide (0 < n)) then .no 45 t.i
      else if !(ere && seesAt L t.i [124]) then .ok (1, sideN r) t
      else match runL ere L row f (n + 1) ⟨t.i + 1, t.ended⟩ with
        | .no e i => .no e i
        | .ok q u => .ok (q.1 + 1, sideN r ++ q.2) u
def joinN (n : Nat) (l : List Nd) : List Nd := if 1 < n then altN n :: l else l
theorem sidesL_run (ere : Bool) (L : List Mk) (row : Rst → Out (Nat × List Nd)) : ∀ (f : Nat) (all : List Nd) (n : Nat) (s : Rst), sidesL ere L row f all n s = match runL ere L row f n s with
    | .no e i => .no e i
    | .ok q u => .ok (joinN (n + q.1) (all ++ q.2)) u
  | 0, _, _, _ => rfl
  | f + 1, all, n, s => by
    rw [sidesL, runL]
    cases row s with
    | no e i => rfl
    | ok r t =>
      obtain ⟨parts, re⟩ := r
      simp only
      split
      · rfl
      · split
        · rfl
        · rw [sidesL_run ere L row f]
          cases runL ere L row f (n + 1) ⟨t.i + 1, t.ended⟩ with
          | no e i => rfl
          | ok q u =>
            simp only [List.append_assoc, sideN]
            rw [show n + 1 + q.1 = n + (q.1 + 1) by omega]
theorem runL_rise {ere : Bool} {L : List Mk} {row : Rst → Out (Nat × List Nd)} (hr : ∀ s r t, s.i ≤ L.length → row s = .ok r t → Rise L s t) :
    ∀ (f n : Nat) (s : Rst) (q : Nat × List Nd) (t : Rst), s.i ≤ L.length → runL ere L row f n s = .ok q t → Rise L s t ∧ 1 ≤ q.1
  | 0, _, _, _, _, _, h => by simp [runL] at h
  | f + 1, n, s, q, t, hs, h => by
    unfold runL at h
    split at h
    · cases h
    · rename_i r u hx
      have h1 := hr _ _ _ hs hx
      split at h
      · cases h
      · split at h
        · cases h; exact ⟨h1, Nat.le_refl _⟩
        · rename_i hm
          have hm' : (ere && seesAt L u.i [124]) = true := by simpa using hm
          simp only [Bool.and_eq_true] at hm'
          have h2 := seesAt_le (by simp) hm'.2
          simp only [List.length_singleton] at h2
          split at h
          · cases h
          · rename_i q2 v hv
            have h3 := (runL_rise hr f _ ⟨u.i + 1, u.ended⟩ _ _ h2 hv).1
            cases h
            exact ⟨h1.trans (Rise.trans (t := ⟨u.i + 1, u.ended⟩) ⟨Nat.le_succ _, h2, Nat.le_refl _⟩ h3), by simp⟩
theorem runL_tree {ere : Bool} {L : List Mk} {row : Rst → Out (Nat × List Nd)} {F g : Nat} (hr : ∀ s r t, s.ended.length ≤ 255 → row s = .ok r t → Trs (F + 2) g r.1 r.2 s.ended t.ended ∧ t.ended.length ≤ 255) :
    ∀ (f n : Nat) (s : Rst) (q : Nat × List Nd) (t : Rst), s.ended.length ≤ 255 → runL ere L row f n s = .ok q t → Trs (F + 3) g q.1 q.2 s.ended t.ended ∧ t.ended.length ≤ 255
  | 0, _, _, _, _, _, h => by simp [runL] at h
  | f + 1, n, s, q, t, hs, h => by
    unfold runL at h
    split at h
    · cases h
    · rename_i r u hx
      have h1 := hr _ _ _ hs hx
      have h2 := (sideN_tree h1.1).one
      split at h
      · cases h
      · split at h
        · cases h; exact ⟨h2, h1.2⟩
        · split at h
          · cases h
          · rename_i q2 v hv
            have h3 := runL_tree hr f _ ⟨u.i + 1, u.ended⟩ _ _ h1.2 hv
            cases h
            refine ⟨?_, h3.2⟩
            have := h2.append h3.1
            rwa [Nat.add_comm 1 q2.1] at this

/-! ### How a row begins -/
theorem groupL_head {ere : Bool} {L : List Mk} {k : Nat} {s : Rst} {re : List Nd} {t : Rst} (h : groupL ere L k s = .ok re t) : ∃ x l, re = x :: l ∧ x.op ≠ 5 := by
  cases k with
  | zero => simp [groupL] at h
  | succ k =>
    unfold groupL at h
    split at h
    · cases h
    · split at h
      · cases h
      · split at h
        · cases h
        · cases h; exact ⟨_, _, rfl, by show (7 : Int) ≠ 5; decide⟩
theorem atomL_head {ere first : Bool} {L : List Mk} {grp : Rst → Out (List Nd)} {s : Rst} {r : List Nd × Bool} {t : Rst} (hg : ∀ re t, grp s = .ok re t → ∃ x l, re = x :: l ∧ x.op ≠ 5) (h : atomL ere first L grp s = .ok r t) : ∃ x l, r.1 = x :: l ∧ x.op ≠ 5 := by
  have one : ∀ x : Nd, x.op ≠ 5 → ∃ y l, [x] = y :: l ∧ y.op ≠ 5 := fun x hx => ⟨x, [], rfl, hx⟩
  have o1 : ∀ b, (oneN b).op ≠ 5 := fun b => by show (1 : Int) ≠ 5; decide
  have s1 : ∀ c, (setN c).op ≠ 5 := fun b => by show (1 : Int) ≠ 5; decide
  have r1 : ∀ c, (refN c).op ≠ 5 := fun b => by show (8 : Int) ≠ 5; decide
  unfold atomL at h
  simp only at h
  split at h
  · cases h; exact one _ (o1 _)
  · split at h
    · unfold anyL at h; cases h; exact one _ (s1 _)
    · split at h
      · unfold brackL at h
        split at h
        · cases h
        · cases h; exact one _ (s1 _)
      · split at h
        · unfold escapeL at h
          simp only at h
          split at h
          · cases h
          · split at h
            · cases h
            · split at h
              · unfold withTrue at h
                split at h
                · rename_i hx; cases h; exact hg _ _ hx
                · cases h
              · repeat' (split at h)
                all_goals first
                  | (cases h; exact one _ (o1 _))
                  | (cases h; exact one _ (r1 _))
                  | (cases h; done)
        · split at h
          · unfold beginL at h
            split at h <;> (cases h; exact one _ (by decide))
          · split at h
            · unfold endL at h
              split at h <;> (cases h; exact one _ (by decide))
            · split at h
              · unfold withTrue at h
                split at h
                · rename_i hx; cases h; exact hg _ _ hx
                · cases h
              · cases h; exact one _ (o1 _)
/-- A row at the top that is not at the end: it has a part, or there is a bar; its first node is no alternative. -/
theorem rowS_head {ere top : Bool} {L : List Mk} (k : Nat) {s : Rst} {r : Nat × List Nd} {t : Rst} (h : rowS ere top L (groupL ere L k) s = .ok r t) :
    (s.i < L.length → top = true → r.1 = 0 → (ere && seesAt L t.i [124]) = true) ∧ (r.1 ≠ 0 → ∃ x l, r.2 = x :: l ∧ x.op ≠ 5) := by
  unfold rowS at h
  rw [rowL] at h
  split at h
  · cases h; exact ⟨fun h1 => by omega, fun h => absurd rfl h⟩
  · split at h
    · rename_i hb
      cases h
      exact ⟨fun _ _ _ => hb, fun h => absurd rfl h⟩
    · split at h
      · split at h
        · cases h
        · rename_i ht
          cases h
          exact ⟨fun _ h2 => absurd h2 ht, fun h => absurd rfl h⟩
      · split at h
        · cases h
        · split at h
          · cases h
          · rename_i re takes u hx
            obtain ⟨x, l, he, hx5⟩ := atomL_head (fun re t hg => groupL_head hg) hx
            simp only at h he
            subst he
            split at h
            · split at h
              · cases h
              · rename_i y v hd
                obtain ⟨m, l2, rfl⟩ := rowL_pre _ _ _ _ _ _ _ h
                exact ⟨fun _ _ h0 => by simp only at h0; omega, fun _ => ⟨y, _, rfl, by rw [(dupL_good hd).2.2.1]; decide⟩⟩
            · obtain ⟨m, l2, rfl⟩ := rowL_pre _ _ _ _ _ _ _ h
              exact ⟨fun _ _ h0 => by simp only at h0; omega, fun _ => ⟨x, _, rfl, hx5⟩⟩
/-- The rows at the top. -/
def rowT (M : List Mk) : Rst → Out (Nat × List Nd) := rowS true true M (groupL true M 64)
theorem rowT_rise {L : List Mk} (hu : ∀ i, i < L.length → (markAt L i).b < 256) (s : Rst) (r : Nat × List Nd) (t : Rst) (h0 : s.i ≤ L.length) (h : rowT L s = .ok r t) : Rise L s t := rowS_rise hu 64 h0 h
theorem rowT_tree {L : List Mk} (s : Rst) (r : Nat × List Nd) (t : Rst) (hl : s.ended.length ≤ 255) (h : rowT L s = .ok r t) : Trs (4 * 64 + 2) 0 r.1 r.2 s.ended t.ended ∧ t.ended.length ≤ 255 :=
  rowL_tree (fun s re t => groupL_tree 64 (Nat.le_refl _) s re t) s.ended _ _ _ _ _ _ _ hl (Trs.nil _ _ _) h
theorem rowT_stop {L : List Mk} {s : Rst} {r : Nat × List Nd} {t : Rst} (h : rowT L s = .ok r t) : L.length ≤ t.i ∨ seesAt L t.i [124] = true := by
  rcases rowL_stop _ _ _ _ _ _ _ h with h1 | h1 | ⟨_, h1⟩
  · exact .inl h1
  · exact .inr (by simpa using h1)
  · cases h1
theorem rowT_emb {L M : List Mk} {d p : Nat} {pre : List Bool} (E : Emb true L M d L.length L.length) (hu : ∀ i, i < L.length → (markAt L i).b < 256) (hcl : seesAt M (d + L.length) [41] = false) (hp : pre.length = p) {s : Rst} {r : Nat × List Nd} {t : Rst}
    (hl : (pre ++ s.ended).length ≤ 255) (hs : s.i ≤ L.length) (h : rowT L s = .ok r t) (hn : NR p r.2) :
    rowT M ⟨d + s.i, pre ++ s.ended⟩ = .ok (r.1, r.2.map (sh p)) ⟨d + t.i, pre ++ t.ended⟩ ∨ (Lim (0 < p) (rowT M ⟨d + s.i, pre ++ s.ended⟩) ∧ NTrs 0 r.1 (r.2.map (sh p)) (pre ++ s.ended)) := by
  have hM := E.nM
  exact rowL_emb E hu (pre := pre) (p := p) (X := (0 < p)) (g := 0) (grp' := groupL true M 64) hp (F := 4 * 64) (top := true) (top' := true) id (fun _ h => by rw [show signB true 41 = [41] from rfl, hcl] at h; cases h) (fun s re t => groupL_adv hu 64 s re t)
    (fun s re t hl hs hg ht hn => (groupL_emb E hu (pre := pre) (p := p) hp 64 64 (Nat.le_refl _) (Nat.le_refl _) s re t hl hs hg ht hn).imp id fun ⟨⟨hX, h⟩, h2⟩ => ⟨⟨hX.resolve_left (fun h => h rfl), h⟩, h2⟩) (fun s re t hs hg => groupL_adv2 hu 64 hs hg)
    (fun s re t hl hg => groupL_tree 64 (Nat.le_refl _) s re t hl hg) _ _ _ _ s r t (M.length + 1) h hs ((rowT_rise hu s r t hs h).le) hn (by omega) hl (Trs.nil _ _ _)

/-- The sides of the first one, with a bar behind them. -/
theorem run_first {A M : List Mk} (E : Emb true A M 0 A.length A.length) (hu : ∀ i, i < A.length → (markAt A i).b < 256) (hbar : seesAt M A.length [124] = true) (hcl : seesAt M A.length [41] = false) :
    ∀ (f n : Nat) (s : Rst) (q : Nat × List Nd) (t : Rst) (f' : Nat), runL true A (rowT A) f n s = .ok q t → s.i ≤ A.length → s.ended.length ≤ 255 → (n = 0 → s.i < A.length) → M.length < f' + s.i →
      t.i = A.length ∧ ∃ f2, M.length < f2 + (A.length + 1) ∧ runL true M (rowT M) f' n s = match runL true M (rowT M) f2 (n + q.1) ⟨A.length + 1, t.ended⟩ with
        | .no e i => .no e i
        | .ok q2 u => .ok (q.1 + q2.1, q.2 ++ q2.2) u
  | 0, _, _, _, _, _, h, _, _, _, _ => by simp [runL] at h
  | f + 1, n, s, q, t, f', h, hs, hl, hn, hf => by
    have hM := E.nM
    obtain ⟨g, rfl⟩ : ∃ g, f' = g + 1 := ⟨f' - 1, by omega⟩
    unfold runL at h
    split at h
    · cases h
    · rename_i r u hx
      have h1 := rowT_rise hu _ _ _ hs hx
      have h1l := h1.lt
      have h1e := h1.le
      have hrow := rowT_emb E hu (pre := []) (p := 0) (by rw [Nat.zero_add]; exact hcl) rfl (by simpa using hl) hs hx (fun h => absurd h (Nat.lt_irrefl 0))
      simp only [Lim, Nat.lt_irrefl, false_and, or_false, Nat.zero_add, List.nil_append, map_sh_zero] at hrow
      have hst := rowT_stop hx
      have hul := (rowT_tree _ _ _ hl hx).2
      rw [runL, hrow]
      simp only
      split at h
      · cases h
      · rename_i c1
        by_cases hm : seesAt A u.i [124] = true
        · have h2 := seesAt_le (by simp) hm
          simp only [List.length_singleton] at h2
          have hmM : seesAt M u.i [124] = true := by
            have := E.sees (s := [124]) (p := u.i) (by simp only [List.length_singleton]; omega)
            rw [Nat.zero_add] at this
            rw [this]; exact hm
          rw [hm] at h c1
          rw [hmM, if_neg c1]
          simp only [Bool.and_self, Bool.not_true, Bool.false_eq_true, if_false] at h ⊢
          split at h
          · cases h
          · rename_i q2 v hv
            simp only [Out.ok.injEq] at h
            obtain ⟨rfl, rfl⟩ := h
            obtain ⟨k1, f2, k2, k3⟩ := run_first E hu hbar hcl f (n + 1) ⟨u.i + 1, u.ended⟩ _ _ g hv h2 hul (fun h => by omega) (by simp only; omega)
            refine ⟨k1, f2, k2, ?_⟩
            rw [k3, show n + (q2.1 + 1) = n + 1 + q2.1 by omega]
            cases runL true M (rowT M) f2 (n + 1 + q2.1) ⟨A.length + 1, v.ended⟩ with
            | no e i => rfl
            | ok q3 w =>
              simp only [List.append_assoc]
              rw [show q2.1 + q3.1 + 1 = q2.1 + 1 + q3.1 by omega]
        · have hm' : seesAt A u.i [124] = false := by simpa using hm
          have hui : u.i = A.length := by
            rcases hst with h | h
            · omega
            · exact absurd h hm
          rw [hm'] at h c1
          simp only [Bool.and_false, Bool.not_false, if_true, Out.ok.injEq] at h
          obtain ⟨rfl, rfl⟩ := h
          have hr0 : ¬ r.1 = 0 := fun h0 => by
            by_cases hn0 : n = 0
            · have := (rowS_head 64 hx).1 (hn hn0) rfl h0
              rw [hm'] at this
              cases this
            · apply c1
              rw [h0]
              simp
              omega
          refine ⟨hui, g, by omega, ?_⟩
          rw [hui, hbar]
          rw [if_neg (by simp [hr0])]
          simp only [Bool.and_self, Bool.not_true, Bool.false_eq_true, if_false]
          cases runL true M (rowT M) g (n + 1) ⟨A.length + 1, u.ended⟩ with
          | no e i => rfl
          | ok q3 w => simp only [Nat.add_comm 1]
/-- The sides of the second one, behind the bar. -/
theorem run_second {B M : List Mk} {d p : Nat} {pre : List Bool} (E : Emb true B M d B.length B.length) (hu : ∀ i, i < B.length → (markAt B i).b < 256) (hM : M.length = d + B.length) (hp : pre.length = p) :
    ∀ (f n : Nat) (s : Rst) (q : Nat × List Nd) (t : Rst) (f' n' : Nat), runL true B (rowT B) f n s = .ok q t → s.i ≤ B.length → (pre ++ s.ended).length ≤ 255 → (n = 0 → s.i < B.length) → NR p q.2 → M.length < f' + (d + s.i) →
      runL true M (rowT M) f' n' ⟨d + s.i, pre ++ s.ended⟩ = .ok (q.1, q.2.map (sh p)) ⟨d + t.i, pre ++ t.ended⟩ ∨ (Lim (0 < p) (runL true M (rowT M) f' n' ⟨d + s.i, pre ++ s.ended⟩) ∧ NTrs 0 q.1 (q.2.map (sh p)) (pre ++ s.ended))
  | 0, _, _, _, _, _, _, h, _, _, _, _, _ => by simp [runL] at h
  | f + 1, n, s, q, t, f', n', h, hs, hl, hn, hnr, hf => by
    obtain ⟨g, rfl⟩ : ∃ g, f' = g + 1 := ⟨f' - 1, by omega⟩
    unfold runL at h
    split at h
    · cases h
    · rename_i r u hx
      have h1 := rowT_rise hu _ _ _ hs hx
      have h1l := h1.lt
      have h1e := h1.le
      have hst := rowT_stop hx
      have hcl : seesAt M (d + B.length) [41] = false := sees_past _ _ _ _ (by omega)
      split at h
      · cases h
      · rename_i c1
        by_cases hm : seesAt B u.i [124] = true
        · have h2 := seesAt_le (by simp) hm
          simp only [List.length_singleton] at h2
          have hmM : seesAt M (d + u.i) [124] = true := by rw [E.sees (s := [124]) (p := u.i) (by simp only [List.length_singleton]; omega)]; exact hm
          rw [hm] at h c1
          have hr0 : ¬ r.1 = 0 := fun h0 => c1 (by rw [h0]; rfl)
          simp only [Bool.and_self, Bool.not_true, Bool.false_eq_true, if_false] at h
          split at h
          · cases h
          · rename_i q2 v hv
            simp only [Out.ok.injEq] at h
            obtain ⟨rfl, rfl⟩ := h
            rcases rowT_emb E hu hcl hp hl hs hx (sideN_nr hnr.left) with hrow | ⟨⟨hX, e, j, hrow, he⟩, hno⟩
            · have htr := rowT_tree ⟨d + s.i, pre ++ s.ended⟩ _ _ hl hrow
              simp only at htr
              have hrun : runL true M (rowT M) (g + 1) n' ⟨d + s.i, pre ++ s.ended⟩ = match runL true M (rowT M) g (n' + 1) ⟨d + (u.i + 1), pre ++ u.ended⟩ with
                  | .no e i => .no e i
                  | .ok q2 w => .ok (q2.1 + 1, sideN (r.1, r.2.map (sh p)) ++ q2.2) w := by
                rw [runL, hrow]
                simp only
                rw [hmM, if_neg (by simp [hr0])]
                simp only [Bool.and_self, Bool.not_true, Bool.false_eq_true, if_false, Nat.add_assoc]
              rw [hrun]
              rcases run_second E hu hM hp f (n + 1) ⟨u.i + 1, u.ended⟩ q2 v g (n' + 1) hv h2 htr.2 (fun h => by omega) hnr.right (by simp only; omega) with h3 | ⟨⟨hX, e, j, h3, he⟩, hno⟩
              · simp only at h3
                rw [h3]
                refine .inl ?_
                simp only [List.map_append, sideN_map]
              · simp only at h3
                rw [h3]
                refine .inr ⟨⟨hX, e, j, rfl, he⟩, ?_⟩
                have := NTrs.after2 (sideN_tree (r := (r.1, r.2.map (sh p))) htr.1).one hno
                rw [List.map_append, sideN_map, Nat.add_comm q2.1 1]
                exact this
            · refine .inr ⟨⟨hX, e, j, by rw [runL, hrow], he⟩, ?_⟩
              have := (sideN_none (r := (r.1, r.2.map (sh p))) hno).one.more q2.1 (q2.2.map (sh p))
              rw [List.map_append, sideN_map, Nat.add_comm q2.1 1]
              exact this
        · have hm' : seesAt B u.i [124] = false := by simpa using hm
          have hui : u.i = B.length := by
            rcases hst with h | h
            · omega
            · exact absurd h hm
          rw [hm'] at h c1
          simp only [Bool.and_false, Bool.not_false, if_true, Out.ok.injEq] at h
          obtain ⟨rfl, rfl⟩ := h
          have hr0 : ¬ r.1 = 0 := fun h0 => by
            by_cases hn0 : n = 0
            · have := (rowS_head 64 hx).1 (hn hn0) rfl h0
              rw [hm'] at this
              cases this
            · apply c1
              rw [h0]
              simp
              omega
          have hmM : seesAt M (d + u.i) [124] = false := sees_past _ _ _ _ (by omega)
          rcases rowT_emb E hu hcl hp hl hs hx (sideN_nr hnr) with hrow | ⟨⟨hX, e, j, hrow, he⟩, hno⟩
          · refine .inl ?_
            rw [runL, hrow]
            simp only
            rw [hmM, if_neg (by simp [hr0])]
            simp only [Bool.and_false, Bool.not_false, if_true, sideN_map]
          · refine .inr ⟨⟨hX, e, j, by rw [runL, hrow], he⟩, ?_⟩
            rw [sideN_map]
            exact (sideN_none (r := (r.1, r.2.map (sh p))) hno).one
/-- A regex' sides: their nodes and how many. -/
def sidesN (re : List Nd) : List Nd × Int := if (re.getD 0 Nd.zero).op = 5 then (re.drop 1, (re.getD 0 Nd.zero).kids) else (re, 1)
theorem sidesN_join {n : Nat} {b : List Nd} (h1 : 1 ≤ n) (h : n = 1 → ∃ x l, b = x :: l ∧ x.op ≠ 5) : sidesN (joinN n b) = (b, (n : Int)) := by
  unfold joinN
  by_cases hn : 1 < n
  · rw [if_pos hn]
    unfold sidesN
    rw [if_pos (by rfl)]
    rfl
  · rw [if_neg hn]
    have hn1 : n = 1 := by omega
    obtain ⟨x, l, rfl, hx⟩ := h hn1
    unfold sidesN
    rw [if_neg (by simpa using hx), hn1]
    rfl
theorem sidesN_map {p : Nat} (re : List Nd) : sidesN (re.map (sh p)) = ((sidesN re).1.map (sh p), (sidesN re).2) := by
  unfold sidesN
  rw [sh_head]
  split
  · rw [List.map_drop]
    congr 1
    cases re with
    | nil => rfl
    | cons x l => simp [sh_kids]
  · rfl
/-- What is read at the top, as sides. -/
theorem sidesK_runs {L : List Mk} (hu : ∀ i, i < L.length → (markAt L i).b < 256) (_ : 0 < L.length) {re : List Nd} {t : Rst} (h : sidesK true L 64 ⟨0, []⟩ = .ok re t) : ∃ n b, runL true L (rowT L) (L.length + 1) 0 ⟨0, []⟩ = .ok (n, b) t ∧ re = joinN n b ∧ sidesN re = (b, (n : Int)) ∧ 1 ≤ n := by
  have hk : sidesK true L 64 ⟨0, []⟩ = sidesL true L (rowT L) (L.length + 1) [] 0 ⟨0, []⟩ := rfl
  rw [hk, sidesL_run] at h
  cases hr : runL true L (rowT L) (L.length + 1) 0 ⟨0, []⟩ with
  | no e i => rw [hr] at h; cases h
  | ok q u =>
    rw [hr] at h
    simp only [Nat.zero_add, List.nil_append, Out.ok.injEq] at h
    obtain ⟨h1, h2⟩ := h
    subst h2
    have hri := runL_rise (fun s r t h0 h => rowT_rise hu s r t h0 h) _ _ _ _ _ (by simp) hr
    obtain ⟨n, b⟩ := q
    simp only at h1 hri
    refine ⟨n, b, rfl, h1.symm, ?_, hri.2⟩
    rw [← h1]
    refine sidesN_join hri.2 fun hn1 => ?_
    -- one side alone
    rw [runL] at hr
    split at hr
    · cases hr
    · rename_i r v hx
      split at hr
      · cases hr
      · rename_i c1
        split at hr
        · rename_i hm
          simp only [Out.ok.injEq, Prod.mk.injEq] at hr
          obtain ⟨⟨_, rfl⟩, rfl⟩ := hr
          unfold sideN
          split
          · rename_i hp1
            exact (rowS_head 64 hx).2 (by omega)
          · exact ⟨_, _, rfl, by show (4 : Int) ≠ 5; decide⟩
        · rename_i hm
          have hm' : seesAt L v.i [124] = true := by simpa using hm
          split at hr
          · cases hr
          · rename_i q2 w hv
            have h2 := seesAt_le (by simp) hm'
            simp only [List.length_singleton] at h2
            have h3 := (runL_rise (fun s r t h0 h => rowT_rise hu s r t h0 h) _ _ ⟨v.i + 1, v.ended⟩ _ _ h2 hv).2
            simp only [Out.ok.injEq, Prod.mk.injEq] at hr
            omega
/-- Two regexes with a bar between, as marks, and their tree. -/
def barM (A B : List Mk) : List Mk := A ++ [⟨124, false⟩] ++ B
def barN (x y : List Nd) : List Nd := ⟨5, Cls.zero, 0, 0, 0, (sidesN x).2 + (sidesN (y.map (sh (cnt x)))).2⟩ :: ((sidesN x).1 ++ (sidesN (y.map (sh (cnt x)))).1)
theorem barM_length (A B : List Mk) : (barM A B).length = A.length + 1 + B.length := by rw [barM, List.length_append, List.length_append, List.length_singleton]
theorem barM_a (A B : List Mk) (j : Nat) (h : j < A.length) : markAt (barM A B) j = markAt A j := by
  unfold markAt barM
  rw [List.getD_eq_getElem?_getD, List.getD_eq_getElem?_getD, List.append_assoc, List.getElem?_append_left h]
theorem barM_bar (A B : List Mk) : markAt (barM A B) A.length = ⟨124, false⟩ := by
  unfold markAt barM
  rw [List.getD_eq_getElem?_getD, List.append_assoc, List.getElem?_append_right (Nat.le_refl _)]
  simp
theorem barM_b (A B : List Mk) (j : Nat) : markAt (barM A B) (A.length + 1 + j) = markAt B j := by
  unfold markAt barM
  rw [List.getD_eq_getElem?_getD, List.getD_eq_getElem?_getD, List.getElem?_append_right (by rw [List.length_append, List.length_singleton]; omega), List.length_append, List.length_singleton, show A.length + 1 + j - (A.length + 1) = j by omega]
/-- Marks at the end of other marks. -/
theorem emb_tail {L M : List Mk} {d : Nat} (hM : M.length = d + L.length) (eq : ∀ j, j < L.length → markAt M (d + j) = markAt L j) : Emb true L M d L.length L.length := by
  have one : ∀ p, p ≤ L.length → ∀ c, seesAt M (d + p) [c] = seesAt L p [c] := fun p hp c => by
    by_cases h : p < L.length
    · exact seesAt_emb (Nat.le_refl _) (by omega) eq [c] p (by simp only [List.length_singleton]; omega)
    · rw [sees_past _ _ _ _ (by omega), sees_past _ _ _ _ (by omega)]
  refine ⟨Nat.le_refl _, .inr rfl, Nat.le_refl _, by omega, eq, fun p hp => ?_, fun p hp hl => one p hp 41, fun p hp he => (by cases he), fun _ => .inl hM⟩
  unfold repeatsL
  rw [one p hp, one p hp, one p hp, show signB true 123 = [123] from rfl, one p hp]
/-- Two extended regexes with a bar between are all sides of both, the second one's groups numbered on; or it is beyond the limits, and refused. -/
theorem parseL_sides {A B : List Mk} (huA : ∀ i, i < A.length → (markAt A i).b < 256) (huB : ∀ i, i < B.length → (markAt B i).b < 256) {x y : List Nd} (hx : parseL true A = .ok x) (hy : parseL true B = .ok y) :
    parseL true (barM A B) = .ok (barN x y) ∧ (barM A B).length ≤ 4096 ∧ shapedN (barN x y) = true ∨ ((∃ e i, parseL true (barM A B) = .error (e, i)) ∧ (4096 < (barM A B).length ∨ shapedN (barN x y) = false)) := by
  obtain ⟨a0, a1, ta, wa, a2, a3, a4⟩ := parseL_ok hx
  obtain ⟨b0, b1, tb, wb, b2, b3, b4⟩ := parseL_ok hy
  have hl := barM_length A B
  by_cases hlong : 4096 < (barM A B).length
  · exact .inr ⟨⟨2, 4096, by rw [parseL, if_pos hlong]⟩, .inl hlong⟩
  obtain ⟨n1, l1, r1, j1, s1, g1⟩ := sidesK_runs huA a0 a2
  obtain ⟨n2, l2, r2, j2, s2, g2⟩ := sidesK_runs huB b0 b2
  have hbar : seesAt (barM A B) A.length [124] = true := by rw [sees1, barM_bar, hl, decide_eq_true (by omega)]; rfl
  have hcl : seesAt (barM A B) A.length [41] = false := by rw [sees1, barM_bar]; simp
  have EA : Emb true A (barM A B) 0 A.length A.length := emb_end (by omega) (fun j hj => by rw [Nat.zero_add]; exact barM_a A B j hj) (by rw [Nat.zero_add, barM_bar]) (.inl ⟨rfl, .inr (by rw [Nat.zero_add, barM_bar])⟩)
  have EB : Emb true B (barM A B) (A.length + 1) B.length B.length := emb_tail hl (fun j _ => barM_b A B j)
  have hta := (runL_tree (fun s r t hl h => rowT_tree s r t hl h) _ _ _ _ _ (by simp) r1)
  simp only at hta
  have hcnt := sidesK_cnt a2
  obtain ⟨hti, f2, hf2, hrun⟩ := run_first EA huA hbar hcl _ _ _ _ _ ((barM A B).length + 1) r1 (by simp) (by simp) (fun _ => a0) (by simp only; omega)
  have hnrB : NR ta.ended.length l2 := fun _ z hz => by
    have := parseL_ere hy
    rw [j2] at this
    unfold joinN at this
    split at this
    · exact this z (List.mem_cons_of_mem _ hz)
    · exact this z hz
  have hsec := run_second EB huB hl (p := ta.ended.length) (pre := ta.ended) rfl _ _ _ _ _ f2 (0 + n1) r2 (by simp) (by simpa using hta.2) (fun _ => b0) hnrB (by simp only; omega)
  simp only [Nat.add_zero, List.append_nil] at hsec
  have hK : sidesK true (barM A B) 64 ⟨0, []⟩ = sidesL true (barM A B) (rowT (barM A B)) ((barM A B).length + 1) [] 0 ⟨0, []⟩ := rfl
  rw [sidesL_run, hrun] at hK
  have hw : barN x y = altN (n1 + n2) :: (l1 ++ l2.map (sh ta.ended.length)) := by
    unfold barN
    rw [← hcnt, sidesN_map, s1, s2]
    simp only [altN, Int.natCast_add]
  have hjoin : joinN (0 + (n1 + n2)) ([] ++ (l1 ++ l2.map (sh ta.ended.length))) = barN x y := by
    rw [hw, joinN, if_pos (by omega), Nat.zero_add, List.nil_append]
  rcases hsec with hsec | ⟨⟨_, e, j, hsec, _⟩, hno⟩
  · simp only at hK
    rw [hsec] at hK
    simp only at hK
    rw [hjoin] at hK
    have := parseL_of_ok (by omega) (by omega) hK
    cases hs : shapedN (barN x y) with
    | true => rw [hs, if_pos rfl] at this; exact .inl ⟨this, by omega, rfl⟩
    | false => rw [hs, if_neg (by decide)] at this; exact .inr ⟨⟨_, _, this⟩, .inr rfl⟩
  · simp only at hK
    rw [hsec] at hK
    simp only at hK
    refine .inr ⟨⟨e, j, by rw [parseL, if_neg (by omega), if_neg (by omega), hK]⟩, .inr ?_⟩
    rw [hw]
    refine NTr.unshaped (NTr.node (by show (5 : Int) ≠ 7; decide) ?_)
    rw [show (altN (n1 + n2)).kids.toNat = n1 + n2 from rfl]
    exact NTrs.after2 hta.1 hno
end Go.Proofs.Ytbdjcmhfcdamiaa
