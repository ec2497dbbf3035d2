/- Plain laws of the reader: rows, sides and groups that stand in other marks. -/
import Derived.Test.YtbdjcmhfcdamiaaPd
namespace Go.Proofs.Ytbdjcmhfcdamiaa

/-- A row's answer begins with what was there. -/
theorem rowL_pre {ere top : Bool} {L : List Mk} {grp : Rst → Out (List Nd)} : ∀ (f : Nat) (all : List Nd) (n : Nat) (lead : Bool) (s : Rst) (r : Nat × List Nd) (t : Rst), rowL ere top L grp f all n lead s = .ok r t → ∃ m l, r = (n + m, all ++ l)
  | 0, _, _, _, _, _, _, h => by simp [rowL] at h
  | f + 1, all, n, lead, s, r, t, h => by
    unfold rowL at h
    split at h
    · cases h; exact ⟨0, [], by simp⟩
    · split at h
      · cases h; exact ⟨0, [], by simp⟩
      · split at h
        · split at h
          · cases h
          · cases h; exact ⟨0, [], by simp⟩
        · split at h
          · cases h
          · split at h
            · cases h
            · rename_i re takes u hx
              simp only at h
              split at h
              · split at h
                · cases h
                · rename_i x v hd
                  obtain ⟨m, l, rfl⟩ := rowL_pre f _ _ _ _ _ _ h
                  exact ⟨m + 1, x :: re ++ l, by simp; omega⟩
              · obtain ⟨m, l, rfl⟩ := rowL_pre f _ _ _ _ _ _ h
                exact ⟨m + 1, re ++ l, by simp; omega⟩
theorem sidesL_pre {ere : Bool} {L : List Mk} {row : Rst → Out (Nat × List Nd)} : ∀ (f : Nat) (all : List Nd) (n : Nat) (s : Rst) (re : List Nd) (t : Rst), sidesL ere L row f all n s = .ok re t → ∃ m l, re = (if 1 < n + 1 + m then altN (n + 1 + m) :: (all ++ l) else all ++ l)
  | 0, _, _, _, _, _, h => by simp [sidesL] at h
  | f + 1, all, n, s, re, t, h => by
    unfold sidesL at h
    split at h
    · cases h
    · rename_i parts r u hx
      simp only at h
      split at h
      · cases h
      · split at h
        · cases h
          exact ⟨0, _, rfl⟩
        · obtain ⟨m, l, rfl⟩ := sidesL_pre f _ _ _ _ _ h
          exact ⟨m + 1, (if parts = 1 then r else catN parts :: r) ++ l, by rw [show n + 1 + (m + 1) = n + 1 + 1 + m by omega]; simp only [List.append_assoc]⟩
section
variable {ere : Bool} {L M : List Mk} {d n q p g : Nat} {pre : List Bool} {X : Prop}
theorem rowL_emb (E : Emb ere L M d n q) (hu : ∀ i, i < L.length → (markAt L i).b < 256) (hp : pre.length = p) {top top' : Bool} {grp grp' : Rst → Out (List Nd)} {F : Nat} {a0 : List Bool}
    (htop : top = false → top' = false) (hcl : q = L.length → seesAt M (d + q) (signB ere 41) = true → top' = false)
    (hgA : ∀ s re t, s.i + wideB ere ≤ L.length → grp s = .ok re t → Adv L s t)
    (HG : ∀ s re t, (pre ++ s.ended).length ≤ 255 → s.i + wideB ere ≤ L.length → grp s = .ok re t → t.i ≤ q → NR p re → EmbG X d p g pre s (grp' ⟨d + s.i, pre ++ s.ended⟩) re t)
    (HW : ∀ s re t, s.i + wideB ere ≤ L.length → grp s = .ok re t → s.i + 2 * wideB ere ≤ t.i)
    (HT : ∀ s re t, s.ended.length ≤ 255 → grp' s = .ok re t → Tr (F + 1) g re s.ended t.ended ∧ t.ended.length ≤ 255) :
    ∀ (f : Nat) (all : List Nd) (m : Nat) (lead : Bool) (s : Rst) (r : Nat × List Nd) (t : Rst) (f' : Nat), rowL ere top L grp f all m lead s = .ok r t → s.i ≤ L.length → t.i ≤ q → NR p r.2 → M.length < f' + (d + s.i) → (pre ++ s.ended).length ≤ 255 → Trs (F + 2) g m (all.map (sh p)) a0 (pre ++ s.ended) →
      rowL ere top' M grp' f' (all.map (sh p)) m lead ⟨d + s.i, pre ++ s.ended⟩ = .ok (r.1, r.2.map (sh p)) ⟨d + t.i, pre ++ t.ended⟩ ∨ (Lim X (rowL ere top' M grp' f' (all.map (sh p)) m lead ⟨d + s.i, pre ++ s.ended⟩) ∧ NTrs g r.1 (r.2.map (sh p)) a0)
  | 0, _, _, _, _, _, _, _, h, _, _, _, _, _, _ => by simp [rowL] at h
  | f + 1, all, m, lead, s, r, t, f', h, hsL, ht, hn, hf, hl, htr => by
    have hqn := E.qn
    have hL := E.nL
    have hM := E.nM
    have hrise := (rowL_rise hu hgA _ _ _ _ _ _ _ hsL h).lt
    obtain ⟨f2, rfl⟩ : ∃ f2, f' = f2 + 1 := ⟨f' - 1, by omega⟩
    unfold rowL at h
    by_cases hend : L.length ≤ s.i
    · rw [if_pos hend] at h
      cases h
      have hsq : s.i = q := by omega
      have hqL : q = L.length := by omega
      refine .inl ?_
      unfold rowL
      simp only
      rcases E.term hqL with h1 | h1 | h1
      · rw [if_pos (by omega)]
      · rw [hsq]
        by_cases h2 : M.length ≤ d + q
        · rw [if_pos h2]
        · rw [if_neg h2, if_pos h1]
      · rw [hsq]
        by_cases h2 : M.length ≤ d + q
        · rw [if_pos h2]
        · rw [if_neg h2]
          split
          · rfl
          · rw [hcl hqL h1]
            rfl
    · rw [if_neg hend] at h
      have hsl : s.i < L.length := by omega
      have hsn : s.i < n := E.lt (by omega) hsl
      have hone : ∀ c, seesAt M (d + s.i) [c] = seesAt L s.i [c] := fun c => E.sees (by simp only [List.length_singleton]; omega)
      unfold rowL
      simp only
      rw [if_neg (show ¬ M.length ≤ d + s.i by omega), hone, E.close _ (by omega) hsl, E.rep _ (by omega), hone]
      split at h
      · rename_i c1
        cases h
        rw [if_pos c1]
        exact .inl rfl
      · rename_i c1
        rw [if_neg c1]
        split at h
        · rename_i c2
          rw [if_pos c2]
          split at h
          · cases h
          · rename_i c3
            cases h
            rw [htop (by simpa using c3)]
            exact .inl rfl
        · rename_i c2
          rw [if_neg c2]
          split at h
          · cases h
          · rename_i c3
            rw [if_neg c3]
            split at h
            · cases h
            · rename_i re takes u hx
              have h1 := atomL_adv hu hsl (fun re t => hgA s re t) hx
              have h1l := h1.lt
              have h1e := h1.le
              simp only at h
              -- what the rest is
              by_cases hr : (takes && repeatsL ere L u.i) = true
              · rw [if_pos hr] at h
                simp only [Bool.and_eq_true] at hr
                split at h
                · cases h
                · rename_i x v hd
                  have h2 := dupL_adv hr.2 hd
                  have h2l := h2.lt
                  have h2e := h2.le
                  have h3 := (rowL_rise hu hgA _ _ _ _ _ _ _ h2e h).lt
                  obtain ⟨m2, l2, hr2⟩ := rowL_pre _ _ _ _ _ _ _ h
                  have hgd := dupL_good hd
                  have hx7 : x.op ≠ 7 := by rw [hgd.2.2.1]; decide
                  have hxs : sh p x = x := sh_ne hx7
                  have hnre : NR p re := by rw [hr2] at hn; exact hn.left.right.tail
                  rcases atomL_emb E hu hp (X := X) (g := g) (grp' := grp') (fun re t => HG s re t hl) (fun re t => HW s re t) hsl h1l hx (by omega) hnre with ha | ⟨⟨hX, e, j, ha, he⟩, hno⟩
                  · have h4 := atomL_tree hl (fun re t => HT ⟨d + s.i, pre ++ s.ended⟩ re t hl) ha
                    simp only at h4
                    rw [ha]
                    simp only
                    rw [E.rep _ (by omega), hr.1, hr.2, Bool.and_self, if_pos rfl, dupL_emb E _ hr.2 hd (by omega)]
                    simp only
                    have h5 : Tr (F + 2) g (x :: re.map (sh p)) (pre ++ s.ended) (pre ++ u.ended) := Tr.node hgd.1 (by rw [hgd.2.2.1]; decide) hx7 (by rw [hgd.2.2.2]; exact h4.1.one)
                    have hall : all.map (sh p) ++ x :: re.map (sh p) = (all ++ x :: re).map (sh p) := by simp [hxs]
                    rw [hall, sh_head]
                    have hv : v.ended = u.ended := hgd.2.1
                    have h6 := rowL_emb E hu hp htop hcl hgA HG HW HT f (all ++ x :: re) (m + 1) _ v r t f2 h h2e ht hn (by omega) (by rw [hv]; exact h4.2) (by rw [hv, ← hall]; exact htr.append h5.one)
                    rw [hv] at h6
                    exact h6
                  · rw [ha]
                    refine .inr ⟨⟨hX, e, j, rfl, he⟩, ?_⟩
                    have h5 : NTr g (x :: re.map (sh p)) (pre ++ s.ended) := NTr.node hx7 (by rw [hgd.2.2.2]; exact hno.one)
                    have h6 := (NTrs.after htr h5).more m2 (l2.map (sh p))
                    rw [hr2]
                    simp only [List.map_append, List.map_cons, hxs]
                    exact h6
              · rw [if_neg hr] at h
                have h3 := (rowL_rise hu hgA _ _ _ _ _ _ _ h1e h).lt
                obtain ⟨m2, l2, hr2⟩ := rowL_pre _ _ _ _ _ _ _ h
                have hnre : NR p re := by rw [hr2] at hn; exact hn.left.right
                rcases atomL_emb E hu hp (X := X) (g := g) (grp' := grp') (fun re t => HG s re t hl) (fun re t => HW s re t) hsl h1l hx (by omega) hnre with ha | ⟨⟨hX, e, j, ha, he⟩, hno⟩
                · have h4 := atomL_tree hl (fun re t => HT ⟨d + s.i, pre ++ s.ended⟩ re t hl) ha
                  simp only at h4
                  rw [ha]
                  simp only
                  rw [E.rep _ (by omega), if_neg hr]
                  have hall : all.map (sh p) ++ re.map (sh p) = (all ++ re).map (sh p) := by simp
                  rw [hall, sh_head]
                  exact rowL_emb E hu hp htop hcl hgA HG HW HT f (all ++ re) (m + 1) _ u r t f2 h h1e ht hn (by omega) h4.2 (by rw [← hall]; exact htr.append (h4.1.mono (Nat.le_succ _)).one)
                · rw [ha]
                  refine .inr ⟨⟨hX, e, j, rfl, he⟩, ?_⟩
                  have h6 := (NTrs.after htr hno).more m2 (l2.map (sh p))
                  rw [hr2]
                  simp only [List.map_append]
                  exact h6
/-- A side out of its parts. -/
def sideN (r : Nat × List Nd) : List Nd := if r.1 = 1 then r.2 else catN r.1 :: r.2
theorem sideN_map (p : Nat) (r : Nat × List Nd) : (sideN r).map (sh p) = sideN (r.1, r.2.map (sh p)) := by
  unfold sideN
  simp only
  split
  · rfl
  · rw [List.map_cons]; rfl
theorem sideN_tree {F g : Nat} {r : Nat × List Nd} {a b : List Bool} (h : Trs (F + 2) g r.1 r.2 a b) : Tr (F + 3) g (sideN r) a b := by
  unfold sideN
  split
  · rename_i hp
    rw [hp] at h
    intro pre post
    have h4 := h pre post
    simp only [kidsN] at h4
    split at h4
    · cases h4
    · rename_i j en hn
      cases h4
      exact nodeN_succ _ _ _ _ _ _ hn
  · rename_i hp
    exact Tr.node (catN_good hp) (by show (4 : Int) ≠ 8; decide) (by show (4 : Int) ≠ 7; decide) (by rw [show (catN r.1).kids.toNat = r.1 from rfl]; exact h)
theorem sideN_none {g : Nat} {r : Nat × List Nd} {a : List Bool} (h : NTrs g r.1 r.2 a) : NTr g (sideN r) a := by
  unfold sideN
  split
  · rename_i hp
    rw [hp] at h
    exact h.un
  · exact NTr.node (by show (4 : Int) ≠ 7; decide) (by rw [show (catN r.1).kids.toNat = r.1 from rfl]; exact h)
theorem sideN_nr {p : Nat} {r : Nat × List Nd} (h : NR p (sideN r)) : NR p r.2 := by
  unfold sideN at h
  split at h
  · exact h
  · exact h.tail
theorem sidesL_emb (E : Emb ere L M d n q) {row row' : Rst → Out (Nat × List Nd)} {F : Nat} {a0 : List Bool}
    (hrR : ∀ s r t, s.i ≤ L.length → row s = .ok r t → Rise L s t)
    (HR : ∀ s r t, (pre ++ s.ended).length ≤ 255 → s.i ≤ L.length → row s = .ok r t → t.i ≤ q → NR p r.2 → row' ⟨d + s.i, pre ++ s.ended⟩ = .ok (r.1, r.2.map (sh p)) ⟨d + t.i, pre ++ t.ended⟩ ∨ (Lim X (row' ⟨d + s.i, pre ++ s.ended⟩) ∧ NTrs g r.1 (r.2.map (sh p)) (pre ++ s.ended)))
    (HT : ∀ s r t, s.ended.length ≤ 255 → row' s = .ok r t → Trs (F + 2) g r.1 r.2 s.ended t.ended ∧ t.ended.length ≤ 255) :
    ∀ (f : Nat) (all : List Nd) (m : Nat) (s : Rst) (re : List Nd) (t : Rst) (f' : Nat), sidesL ere L row f all m s = .ok re t → s.i ≤ L.length → t.i ≤ q → NR p re → (t.i = L.length → (ere && seesAt M (d + t.i) [124]) = false) → M.length < f' + (d + s.i) → (pre ++ s.ended).length ≤ 255 → Trs (F + 3) g m (all.map (sh p)) a0 (pre ++ s.ended) →
      sidesL ere M row' f' (all.map (sh p)) m ⟨d + s.i, pre ++ s.ended⟩ = .ok (re.map (sh p)) ⟨d + t.i, pre ++ t.ended⟩ ∨ (Lim X (sidesL ere M row' f' (all.map (sh p)) m ⟨d + s.i, pre ++ s.ended⟩) ∧ NTr g (re.map (sh p)) a0)
  | 0, _, _, _, _, _, _, h, _, _, _, _, _, _, _ => by simp [sidesL] at h
  | f + 1, all, m, s, re, t, f', h, hsL, ht, hn, hb, hf, hl, htr => by
    have hqn := E.qn
    have hL := E.nL
    have hM := E.nM
    have hrise := (sidesL_rise hrR _ _ _ _ _ _ hsL h).lt
    obtain ⟨f2, rfl⟩ : ∃ f2, f' = f2 + 1 := ⟨f' - 1, by omega⟩
    have h0 := h
    unfold sidesL at h
    split at h
    · cases h
    · rename_i parts r u hx
      have h1 := hrR _ _ _ hsL hx
      have h1l := h1.lt
      have h1e := h1.le
      simp only at h
      split at h
      · cases h
      · rename_i c1
        by_cases hm : (ere && seesAt L u.i [124]) = true
        · -- a bar
          rw [hm] at h
          simp only [Bool.not_true, Bool.false_eq_true, if_false] at h
          have hm2 := hm
          simp only [Bool.and_eq_true] at hm2
          have h2 := seesAt_le (by simp) hm2.2
          simp only [List.length_singleton] at h2
          have h3 := (sidesL_rise hrR f _ _ ⟨u.i + 1, u.ended⟩ _ _ h2 h).lt
          simp only at h3
          obtain ⟨m2, l2, hre⟩ := sidesL_pre _ _ _ _ _ _ h
          rw [if_pos (by omega)] at hre
          have hnr : NR p r := by
            rw [hre] at hn
            exact sideN_nr (r := (parts, r)) hn.tail.left.right
          have hmM : (ere && seesAt M (d + u.i) [124]) = true := by rw [E.sees (by simp only [List.length_singleton]; omega)]; exact hm
          rcases HR s _ _ hl hsL hx (by omega) hnr with hr | ⟨⟨hX, e, j, hr, he⟩, hno⟩
          · have h4 := HT ⟨d + s.i, pre ++ s.ended⟩ _ _ hl hr
            simp only at h4
            have h5 := htr.append (sideN_tree (r := (parts, r.map (sh p))) h4.1).one
            have hall : all.map (sh p) ++ sideN (parts, r.map (sh p)) = (all ++ sideN (parts, r)).map (sh p) := by rw [List.map_append, sideN_map]
            have h6 := sidesL_emb E hrR HR HT f (all ++ sideN (parts, r)) (m + 1) ⟨u.i + 1, u.ended⟩ re t f2 h h2 ht hn hb (by simp only; omega) h4.2 (by rw [← hall]; exact h5)
            have h7 : sidesL ere M row' (f2 + 1) (all.map (sh p)) m ⟨d + s.i, pre ++ s.ended⟩ = sidesL ere M row' f2 ((all ++ sideN (parts, r)).map (sh p)) (m + 1) ⟨d + (u.i + 1), pre ++ u.ended⟩ := by
              rw [sidesL, hr]
              simp only
              rw [hmM]
              rw [hm] at c1
              rw [if_neg c1]
              simp only [Bool.not_true, Bool.false_eq_true, if_false]
              rw [← hall]
              rfl
            rw [h7]
            exact h6
          · refine .inr ⟨⟨hX, e, j, by rw [sidesL, hr], he⟩, ?_⟩
            have h5 := (NTrs.after htr (sideN_none (r := (parts, r.map (sh p))) hno)).more m2 (l2.map (sh p))
            rw [hre]
            refine NTr.node (by rw [sh_op]; show (5 : Int) ≠ 7; decide) ?_
            rw [show (sh p (altN (m + 1 + 1 + m2))).kids.toNat = m + 1 + 1 + m2 from rfl]
            have hall : (all ++ (if parts = 1 then r else catN parts :: r) ++ l2).map (sh p) = all.map (sh p) ++ sideN (parts, r.map (sh p)) ++ l2.map (sh p) := by
              rw [List.map_append, List.map_append]
              congr 2
              exact sideN_map p (parts, r)
            rw [hall]
            have h8 := h5.more 1 []
            rw [List.append_nil] at h8
            rw [show m + 1 + 1 + m2 = m + 1 + m2 + 1 by omega]
            exact h8
        · -- the end
          have hm' : (ere && seesAt L u.i [124]) = false := by simpa using hm
          rw [hm'] at h
          simp only [Bool.not_false, if_true] at h
          simp only [Out.ok.injEq] at h
          obtain ⟨hre, hut⟩ := h
          subst hut
          have hmM : (ere && seesAt M (d + u.i) [124]) = false := by
            by_cases hul : u.i = L.length
            · exact hb hul
            · rw [E.sees (by have := E.lt ht (by omega); simp only [List.length_singleton]; omega)]; exact hm'
          have hre2 : re = if 1 < m + 1 then altN (m + 1) :: (all ++ sideN (parts, r)) else all ++ sideN (parts, r) := hre.symm
          have hnr : NR p r := by
            rw [hre2] at hn
            split at hn
            · exact sideN_nr (r := (parts, r)) hn.tail.right
            · exact sideN_nr (r := (parts, r)) hn.right
          have hall : (all ++ sideN (parts, r)).map (sh p) = all.map (sh p) ++ sideN (parts, r.map (sh p)) := by rw [List.map_append, sideN_map]
          have hmap : re.map (sh p) = if 1 < m + 1 then altN (m + 1) :: (all.map (sh p) ++ sideN (parts, r.map (sh p))) else all.map (sh p) ++ sideN (parts, r.map (sh p)) := by
            rw [hre2]
            split
            · rw [List.map_cons, hall]; rfl
            · exact hall
          rcases HR s _ _ hl hsL hx ht hnr with hr | ⟨⟨hX, e, j, hr, he⟩, hno⟩
          · refine .inl ?_
            rw [sidesL, hr]
            simp only
            rw [hmM]
            rw [hm'] at c1
            rw [if_neg c1]
            simp only [Bool.not_false, if_true, Out.ok.injEq, and_true]
            rw [hmap]
            rfl
          · refine .inr ⟨⟨hX, e, j, by rw [sidesL, hr], he⟩, ?_⟩
            have h5 := NTrs.after htr (sideN_none (r := (parts, r.map (sh p))) hno)
            rw [hmap]
            split
            · exact NTr.node (by show (5 : Int) ≠ 7; decide) (by rw [show (altN (m + 1)).kids.toNat = m + 1 from rfl]; exact h5)
            · rename_i hm1
              have hm0 : m = 0 := by omega
              subst hm0
              exact h5.un
theorem groupL_emb (E : Emb ere L M d n q) (hu : ∀ i, i < L.length → (markAt L i).b < 256) (hp : pre.length = p) : ∀ (k k' : Nat), k' ≤ k → k ≤ 64 → ∀ (s : Rst) (re : List Nd) (t : Rst), (pre ++ s.ended).length ≤ 255 → s.i + wideB ere ≤ L.length → groupL ere L k s = .ok re t → t.i ≤ q → NR p re →
    EmbG (k' ≠ k ∨ 0 < p) d p (64 - k') pre s (groupL ere M k' ⟨d + s.i, pre ++ s.ended⟩) re t
  | 0, _, _, _, s, re, t, _, _, h, _, _ => by simp [groupL] at h
  | k + 1, k', hk, hk64, s, re, t, hl, hs, h, ht, hn => by
    have hw := wideB_pos ere
    have hqn := E.qn
    have hL := E.nL
    have hM := E.nM
    have h0 := h
    unfold groupL at h
    split at h
    · cases h
    · rename_i c1
      split at h
      · cases h
      · rename_i r u hx
        split at h
        · cases h
        · rename_i c2
          cases h
          simp only at ht
          have hpl : (pre ++ s.ended).length = p + s.ended.length := by rw [List.length_append, hp]
          have hgm : (groupN (s.ended.length + 1) :: r).map (sh p) = groupN ((pre ++ s.ended).length + 1) :: r.map (sh p) := by
            rw [List.map_cons, sh_group, hpl, show s.ended.length + 1 + p = p + s.ended.length + 1 by omega]
          cases k' with
          | zero =>
            refine .inr ⟨⟨.inl (by omega), 46, _, rfl, .inl rfl⟩, ?_⟩
            rw [hgm]
            exact NTr.far (.inl (by omega))
          | succ k' =>
            by_cases h255 : (pre ++ s.ended).length = 255
            · refine .inr ⟨⟨.inr (by omega), 47, d + s.i, ?_, .inr rfl⟩, ?_⟩
              · rw [groupL, if_pos h255]
              · rw [hgm]
                exact NTr.far (.inr (by omega))
            · have hx2 := (sidesL_rise (fun s r t h0 h => rowS_rise hu k h0 h) _ _ _ _ _ _ (by simpa using hs) hx)
              have hul := hx2.lt
              simp only at hul
              have hX : (k' ≠ k ∨ 0 < p) → (k' + 1 ≠ k + 1 ∨ 0 < p) := fun h => h.imp (fun h => by omega) id
              have hrow : ∀ (s : Rst) (r : Nat × List Nd) (t : Rst), (pre ++ s.ended).length ≤ 255 → s.i ≤ L.length → rowS ere false L (groupL ere L k) s = .ok r t → t.i ≤ q → NR p r.2 →
                  rowS ere false M (groupL ere M k') ⟨d + s.i, pre ++ s.ended⟩ = .ok (r.1, r.2.map (sh p)) ⟨d + t.i, pre ++ t.ended⟩ ∨ (Lim (k' ≠ k ∨ 0 < p) (rowS ere false M (groupL ere M k') ⟨d + s.i, pre ++ s.ended⟩) ∧ NTrs (64 - k') r.1 (r.2.map (sh p)) (pre ++ s.ended)) :=
                fun s r t hl hsL hr ht hn =>
                  rowL_emb E hu hp (F := 4 * k') (fun _ => rfl) (fun _ _ => rfl) (fun s re t => groupL_adv hu k s re t) (fun s re t hl hs hg ht hn => groupL_emb E hu hp k k' (by omega) (by omega) s re t hl hs hg ht hn) (fun s re t hs hg => groupL_adv2 hu k hs hg)
                    (fun s re t hl hg => groupL_tree k' (by omega) s re t hl hg) _ _ _ _ s r t (M.length + 1) hr hsL ht hn (by omega) hl (Trs.nil _ _ _)
              have hse := sidesL_emb E (pre := pre) (p := p) (X := (k' ≠ k ∨ 0 < p)) (g := 64 - k') (F := 4 * k') (a0 := pre ++ (s.ended ++ [false])) (fun s r t h0 h => rowS_rise hu k h0 h) hrow
                (fun s r t hl hr => rowL_tree (fun s re t => groupL_tree k' (by omega) s re t) s.ended _ _ _ _ _ _ _ hl (Trs.nil _ _ _) hr)
                (L.length + 1) [] 0 ⟨s.i + wideB ere, s.ended ++ [false]⟩ r u (M.length + 1) hx (by simpa using hs) (by omega) hn.tail (fun h => by omega) (by simp only; omega)
                (by simp only [List.length_append, List.length_singleton] at hpl h255 hl ⊢; omega) (Trs.nil _ _ _)
              simp only [List.map_nil] at hse
              rw [← List.append_assoc, ← Nat.add_assoc] at hse
              have hM2 : groupL ere M (k' + 1) ⟨d + s.i, pre ++ s.ended⟩ = match sidesL ere M (rowS ere false M (groupL ere M k')) (M.length + 1) [] 0 ⟨d + s.i + wideB ere, pre ++ s.ended ++ [false]⟩ with
                | .no e i => .no e i
                | .ok re t => if t.i = M.length then .no 41 (d + s.i) else .ok (groupN ((pre ++ s.ended).length + 1) :: re) ⟨t.i + wideB ere, t.ended.set (pre ++ s.ended).length true⟩ := by
                rw [groupL, if_neg h255]
                rfl
              unfold EmbG
              rw [hM2, hgm]
              rcases hse with hse | ⟨⟨hXX, e, j, hse, he⟩, hno⟩
              · rw [hse]
                simp only
                refine .inl ?_
                rw [if_neg (by omega), Nat.add_assoc, List.set_append_right _ _ (by omega), hpl, hp, show p + s.ended.length - p = s.ended.length by omega]
              · rw [hse]
                refine .inr ⟨⟨hX hXX, e, j, rfl, he⟩, NTr.group ?_⟩
                rw [show 64 - (k' + 1) + 1 = 64 - k' by omega]
                exact hno
end
end Go.Proofs.Ytbdjcmhfcdamiaa
