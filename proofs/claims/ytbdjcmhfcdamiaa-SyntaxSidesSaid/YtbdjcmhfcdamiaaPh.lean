/- Plain laws of Parse: extended regexes have no reference; what else is said of a tree that was read. -/
import Derived.Test.YtbdjcmhfcdamiaaPe
import Derived.Test.YtbdjcmhfcdamiaaTe
namespace Go.Proofs.Ytbdjcmhfcdamiaa

def NRf (re : List Nd) : Prop := ∀ x ∈ re, x.op ≠ 8
theorem NRf.nil : NRf [] := fun _ h => absurd h (by simp)
theorem NRf.cons {x : Nd} {l : List Nd} (hx : x.op ≠ 8) (h : NRf l) : NRf (x :: l) := fun y hy => by
  rcases List.mem_cons.1 hy with rfl | hy
  · exact hx
  · exact h y hy
theorem NRf.append {a b : List Nd} (h : NRf a) (k : NRf b) : NRf (a ++ b) := fun y hy => by
  rcases List.mem_append.1 hy with hy | hy
  · exact h y hy
  · exact k y hy
theorem atomL_ere {first : Bool} {L : List Mk} {grp : Rst → Out (List Nd)} {s : Rst} {r : List Nd × Bool} {t : Rst} (hg : ∀ re t, grp s = .ok re t → NRf re) (h : atomL true first L grp s = .ok r t) : NRf r.1 := by
  have one : ∀ x : Nd, x.op ≠ 8 → NRf [x] := fun x hx => NRf.nil.cons hx
  unfold atomL at h
  simp only at h
  split at h
  · cases h; exact one _ (by show (1 : Int) ≠ 8; decide)
  · split at h
    · unfold anyL at h; cases h; exact one _ (by show (1 : Int) ≠ 8; decide)
    · split at h
      · unfold brackL at h
        split at h
        · cases h
        · cases h; exact one _ (by show (1 : Int) ≠ 8; decide)
      · split at h
        · unfold escapeL at h
          simp only [Bool.not_true, Bool.false_and, Bool.false_eq_true, if_false] at h
          repeat' (split at h)
          all_goals first
            | (cases h; exact one _ (by show (1 : Int) ≠ 8; decide))
            | (cases h; done)
        · split at h
          · unfold beginL at h
            split at h <;> (cases h; exact one _ (by decide))
          · split at h
            · unfold endL at h
              split at h <;> (cases h; exact one _ (by decide))
            · split at h
              · unfold withTrue at h
                split at h
                · rename_i hx; cases h; exact hg _ _ hx
                · cases h
              · cases h; exact one _ (by show (1 : Int) ≠ 8; decide)
theorem rowL_ere {top : Bool} {L : List Mk} {grp : Rst → Out (List Nd)} (hg : ∀ s re t, grp s = .ok re t → NRf re) :
    ∀ (f : Nat) (all : List Nd) (n : Nat) (lead : Bool) (s : Rst) (r : Nat × List Nd) (t : Rst), NRf all → rowL true top L grp f all n lead s = .ok r t → NRf r.2
  | 0, _, _, _, _, _, _, _, h => by simp [rowL] at h
  | f + 1, all, n, lead, s, r, t, ha, h => by
    unfold rowL at h
    split at h
    · cases h; exact ha
    · split at h
      · cases h; exact ha
      · split at h
        · split at h
          · cases h
          · cases h; exact ha
        · split at h
          · cases h
          · split at h
            · cases h
            · rename_i re takes u hx
              have h1 := atomL_ere (fun re t => hg s re t) hx
              simp only at h
              split at h
              · split at h
                · cases h
                · rename_i x v hd
                  exact rowL_ere hg f _ _ _ _ _ _ (ha.append (h1.cons (by rw [(dupL_good hd).2.2.1]; decide))) h
              · exact rowL_ere hg f _ _ _ _ _ _ (ha.append h1) h
theorem sidesL_ere {L : List Mk} {row : Rst → Out (Nat × List Nd)} (hr : ∀ s r t, row s = .ok r t → NRf r.2) :
    ∀ (f : Nat) (all : List Nd) (n : Nat) (s : Rst) (re : List Nd) (t : Rst), NRf all → sidesL true L row f all n s = .ok re t → NRf re
  | 0, _, _, _, _, _, _, h => by simp [sidesL] at h
  | f + 1, all, n, s, re, t, ha, h => by
    unfold sidesL at h
    split at h
    · cases h
    · rename_i parts r u hx
      have h1 := hr _ _ _ hx
      have h2 : NRf (all ++ (if parts = 1 then r else catN parts :: r)) := ha.append (by
        split
        · exact h1
        · exact h1.cons (by show (4 : Int) ≠ 8; decide))
      simp only at h
      split at h
      · cases h
      · split at h
        · cases h
          split
          · exact h2.cons (by show (5 : Int) ≠ 8; decide)
          · exact h2
        · exact sidesL_ere hr f _ _ _ _ _ h2 h
theorem groupL_ere {L : List Mk} : ∀ (k : Nat) (s : Rst) (re : List Nd) (t : Rst), groupL true L k s = .ok re t → NRf re
  | 0, _, _, _, h => by simp [groupL] at h
  | k + 1, s, re, t, h => by
    unfold groupL at h
    split at h
    · cases h
    · split at h
      · cases h
      · rename_i r u hx
        have h1 := sidesL_ere (fun s r t h => rowL_ere (fun s re t => groupL_ere k s re t) _ _ _ _ _ _ _ NRf.nil h) _ _ _ _ _ _ NRf.nil hx
        split at h
        · cases h
        · cases h
          exact h1.cons (by show (7 : Int) ≠ 8; decide)
theorem parseL_ere {L : List Mk} {re : List Nd} (h : parseL true L = .ok re) : NRf re := by
  obtain ⟨_, _, t, w, h2, _⟩ := parseL_ok h
  exact sidesL_ere (fun s r t h => rowL_ere (fun s re t => groupL_ere 64 s re t) _ _ _ _ _ _ _ NRf.nil h) _ _ _ _ _ _ NRf.nil h2

/-- How many groups there are. -/
def cnt (l : List Nd) : Nat := (l.filter (·.op == 7)).length
theorem cnt_take {re : List Nd} {d : Nat} {x : Nd} (hx : re[d]? = some x) : cnt (re.take (d + 1)) = cnt (re.take d) + (if x.op = 7 then 1 else 0) := by
  unfold cnt
  rw [List.take_add_one, hx]
  simp only [Option.toList_some, List.filter_append, List.length_append, List.filter_cons, List.filter_nil]
  by_cases h : x.op = 7
  · rw [if_pos (by simpa using h), if_pos h]; rfl
  · rw [if_neg (by simpa using h), if_neg h]; rfl
theorem kidsN_cnt {re : List Nd} {g : Nat → List Bool → Option (Nat × List Bool)} (hg : ∀ i en r, g i en = some r → r.2.length + cnt (re.take i) = en.length + cnt (re.take r.1)) :
    ∀ (k i : Nat) (en : List Bool) (r : Nat × List Bool), kidsN g k i en = some r → r.2.length + cnt (re.take i) = en.length + cnt (re.take r.1)
  | 0, i, en, r, h => by simp only [kidsN, Option.some.injEq] at h; subst h; rfl
  | k + 1, i, en, r, h => by
    unfold kidsN at h
    split at h
    · cases h
    · rename_i j en1 h1
      have h2 := hg _ _ _ h1
      have h3 := kidsN_cnt hg k _ _ _ h
      simp only at h2
      omega
theorem nodeN_cnt (re : List Nd) : ∀ (f g i : Nat) (en : List Bool) (r : Nat × List Bool), nodeN re f g i en = some r → r.2.length + cnt (re.take i) = en.length + cnt (re.take r.1)
  | 0, _, _, _, _, h => by simp [nodeN] at h
  | f + 1, g, i, en, r, h => by
    rw [nodeN] at h
    split at h
    · cases h
    · rename_i x hx
      have hc := cnt_take hx
      split at h
      · cases h
      · split at h
        · cases h
        · split at h
          · rename_i h7
            rw [if_pos h7] at hc
            split at h
            · cases h
            · split at h
              · cases h
              · rename_i j en1 hk
                cases h
                have h1 := kidsN_cnt (fun i en r => nodeN_cnt re f (g + 1) i en r) _ _ _ _ hk
                simp only [List.length_append, List.length_singleton, List.length_set] at h1 ⊢
                omega
          · rename_i h7
            rw [if_neg h7] at hc
            have h1 := kidsN_cnt (fun i en r => nodeN_cnt re f g i en r) _ _ _ _ h
            omega
/-- The groups of what is read. -/
theorem sidesK_cnt {ere : Bool} {L : List Mk} {re : List Nd} {t : Rst} (h : sidesK ere L 64 ⟨0, []⟩ = .ok re t) : t.ended.length = cnt re := by
  have := nodeN_cnt re _ _ _ _ _ (sidesK_top h)
  simpa [cnt] using this
theorem groupsN_read {re : List Nd} (h : shapedN re = true) : groupsN re = cnt re := by rw [groupsN, h]; rfl
theorem refsN_read {re : List Nd} (h : shapedN re = true) : refsN re = re.any (·.op == 8) := by rw [refsN, h]; rfl
/-- What is said of a tree that was read. -/
theorem parseL_says {ere : Bool} {L : List Mk} {re : List Nd} (h : parseL ere L = .ok re) : shapedN re = true ∧ 0 < re.length ∧ 1 ≤ weightN re ∧ weightN re ≤ 16384 ∧ behindN re 0 = re.length ∧ behindN re ((re.length : Int) - 1) = re.length ∧ behindN re re.length = -1 ∧ (ere = true → re.any (·.op == 8) = false) := by
  have hs := parseL_shaped h
  obtain ⟨_, _, t, w, h2, h3, h4⟩ := parseL_ok h
  obtain ⟨hok, hall⟩ := shapedN_spec hs
  have hb := weighN_bounds hok _ _ _ h3
  simp only at hb
  have hp : 0 < re.length := hb.2.2.1
  refine ⟨hs, hp, by rw [weightN, hs, h3]; exact hb.1, by rw [weightN, hs, h3]; exact h4, ?_, ?_, ?_, fun he => ?_⟩
  · rw [behindN, hs, Int.toNat_zero, h3]
    simp only [Bool.true_and]
    rw [if_pos (by simp; omega)]
  · obtain ⟨⟨W, nx⟩, hw⟩ := hall (re.length - 1) (by omega)
    have hb2 := weighN_bounds hok _ _ _ hw
    simp only at hb2
    rw [behindN, hs, show ((re.length : Int) - 1).toNat = re.length - 1 by omega, hw]
    simp only [Bool.true_and, Bool.and_eq_true, decide_eq_true_eq]
    rw [if_pos ⟨by omega, by omega⟩]
    omega
  · rw [behindN, hs]
    simp only [Bool.true_and, Bool.and_eq_true, decide_eq_true_eq]
    rw [if_neg (by omega)]
  · subst he
    have := parseL_ere h
    rw [List.any_eq_false]
    intro x hx
    simpa using this x hx
/-- A node's kind and number are within the limits. -/
def numAt (re : List Nd) (p : Nat) : Prop := ∃ x, re[p]? = some x ∧ 1 ≤ x.op ∧ x.op ≤ 8 ∧ (x.op = 7 → 0 ≤ x.n ∧ x.n ≤ 255)
theorem kidsN_num {re : List Nd} {g : Nat → List Bool → Option (Nat × List Bool)} (hg : ∀ i en r, g i en = some r → ∀ p, i ≤ p → p < r.1 → numAt re p) : ∀ (k i : Nat) (en : List Bool) (r : Nat × List Bool), kidsN g k i en = some r → ∀ p, i ≤ p → p < r.1 → numAt re p
  | 0, i, en, r, h => by simp only [kidsN, Option.some.injEq] at h; subst h; exact fun p h1 h2 => by simp only at h2; omega
  | k + 1, i, en, r, h => by
    unfold kidsN at h
    split at h
    · cases h
    · rename_i j en1 h1
      intro p h2 h3
      by_cases hj : p < j
      · exact hg _ _ _ h1 p h2 hj
      · exact kidsN_num hg k _ _ _ h p (by omega) h3
theorem nodeN_num (re : List Nd) : ∀ (f g i : Nat) (en : List Bool) (r : Nat × List Bool), nodeN re f g i en = some r → ∀ p, i ≤ p → p < r.1 → numAt re p
  | 0, _, _, _, _, h => by simp [nodeN] at h
  | f + 1, g, i, en, r, h => by
    rw [nodeN] at h
    split at h
    · cases h
    · rename_i x hx
      split at h
      · cases h
      · rename_i hgd
        have hg1 : 1 ≤ x.op ∧ x.op ≤ 8 := by
          have : goodN x = true := by simpa using hgd
          simp only [goodN, Bool.and_eq_true, decide_eq_true_eq] at this
          omega
        split at h
        · cases h
        · split at h
          · rename_i h7
            split at h
            · cases h
            · rename_i hc
              split at h
              · cases h
              · rename_i j en1 hk
                cases h
                intro p h1 h2
                by_cases he : p = i
                · subst he; exact ⟨x, hx, hg1.1, hg1.2, fun _ => by omega⟩
                · exact kidsN_num (fun i en r => nodeN_num re f (g + 1) i en r) _ _ _ _ hk p (by omega) h2
          · rename_i h7
            intro p h1 h2
            by_cases he : p = i
            · subst he; exact ⟨x, hx, hg1.1, hg1.2, fun h => absurd h h7⟩
            · exact kidsN_num (fun i en r => nodeN_num re f g i en r) _ _ _ _ h p (by omega) h2
/-- How large a tree that was read is. -/
theorem parseL_fit {ere : Bool} {L : List Mk} (hu : ∀ i, i < L.length → (markAt L i).b < 256) {re : List Nd} (h : parseL ere L = .ok re) : re.length ≤ 16386 ∧ (∀ x ∈ re, x.kids ≤ re.length) ∧ ∀ x ∈ re, 1 ≤ x.op ∧ x.op ≤ 8 ∧ (x.op = 7 → 0 ≤ x.n ∧ x.n ≤ 255) := by
  obtain ⟨_, h1, t, w, h2, _⟩ := parseL_ok h
  have hgood := nodeN_good re _ _ _ _ _ (sidesK_top h2)
  have hok := shaped_ok (fun p hp => hgood.2.2 p (Nat.zero_le _) hp)
  have hsm := sidesK_small hu 64 (by simp) h2
  have hri := (sidesK_rise hu 64 (by simp) h2).le
  simp only at hsm
  refine ⟨by omega, hok.2, fun x hx => ?_⟩
  obtain ⟨p, hp⟩ := List.mem_iff_getElem?.1 hx
  obtain ⟨y, hy, hr⟩ := nodeN_num re _ _ _ _ _ (sidesK_top h2) p (Nat.zero_le _) (List.getElem?_eq_some_iff.1 hp).1
  rw [hp] at hy
  cases hy
  exact hr
end Go.Proofs.Ytbdjcmhfcdamiaa
