/- Parts: Gf Fb Fm. -/
import Derived.Test.YtfjbnpdffillbaaGreatDoorQ16
import Derived.Test.YtfjbnpdffillbaaGreatDoorQ14
import Derived.Test.YtfjbnpdffillbaaGreatDoorQ15
/- Plain law: what was read of at most 512 marks can be spelled (a sharper count than Ed's). No program in sight. No condition. -/
namespace Go.Proofs.YtfjbnpdffillbaaGreatDoor
section
variable {L : List Mk}
theorem thing_one (hu : ∀ i, i < L.length → (markAt L i).b < 256) {at0 n : Nat} {a : Th} (h : thingTh L at0 n = (a, none)) (he : a.next = n + 1) : ∃ b, b < 256 ∧ a.set = Cls.of [b] := by
  unfold thingTh at h
  split at h
  · simp at h
  · split at h
    · have := nameL_starts _ _ _ _ h
      omega
    · split at h
      · unfold enclosedTh at h
        repeat' split at h
        all_goals first | (simp at h; done) | skip
        cases h
        simp only at he
        omega
      · cases h
        exact ⟨_, mark_lt hu n, rfl⟩
theorem item_one (hu : ∀ i, i < L.length → (markAt L i).b < 256) {at0 n : Nat} {first : Bool} {a : Th} (h : itemTh L at0 n first = (a, none)) (he : a.next = n + 1) : ∃ b, b < 256 ∧ a.set = Cls.of [b] := by
  unfold itemTh at h
  split at h
  · simp at h
  · rename_i x hx
    have h1 := (thingTh_next hx hu).1
    split at h
    · split at h <;> simp at h
    · split at h
      · cases h
        exact thing_one hu hx he
      · split at h
        · simp at h
        · split at h
          · simp at h
          · rename_i y hy
            have h2 := (thingTh_next hy hu).1
            split at h
            · simp at h
            · cases h
              simp only at he
              omega
theorem items_stop (hu : ∀ i, i < L.length → (markAt L i).b < 256) {at0 n : Nat} {c : Cls} {i : Nat} {r : Cls × Nat} (h : itemsL L at0 n c i false = .ok r) (he : r.2 = i) : r.1 = c := by
  cases n with
  | zero => simp [itemsL] at h
  | succ n =>
    unfold itemsL at h
    split at h
    · cases h; rfl
    · split at h
      · cases h
      · rename_i x hx
        have h1 := (itemTh_next hx hu).1
        have h2 := (itemsL_next hu _ _ _ _ _ h).1
        omega
theorem items_one (hu : ∀ i, i < L.length → (markAt L i).b < 256) {at0 n : Nat} {c : Cls} {i : Nat} {r : Cls × Nat} (h : itemsL L at0 n c i true = .ok r) (he : r.2 = i + 1) : ∃ b, b < 256 ∧ r.1 = c.or (Cls.of [b]) := by
  cases n with
  | zero => simp [itemsL] at h
  | succ n =>
    unfold itemsL at h
    rw [Bool.not_true, Bool.false_and, if_neg Bool.false_ne_true] at h
    split at h
    · cases h
    · rename_i x hx
      have h1 := (itemTh_next hx hu).1
      have h2 := (itemsL_next hu _ _ _ _ _ h).1
      have h3 : x.next = i + 1 := by omega
      obtain ⟨b, hb, e⟩ := item_one hu hx h3
      rw [h3] at h
      exact ⟨b, hb, by rw [items_stop hu h he, e]⟩
theorem zero_orC (c : Cls) : Cls.zero.or c = c := Cls.ext' fun i hi => by rw [has_or, has_zero, Bool.false_or]
theorem bracket_three (hu : ∀ i, i < L.length → (markAt L i).b < 256) {at0 : Nat} {r : Cls × Nat} (h : bracketL L at0 = .ok r) (he : r.2 = at0 + 3) : ∃ b, b < 256 ∧ r.1 = Cls.of [b] := by
  unfold bracketL at h
  simp only at h
  split at h
  · cases h
  · rename_i c i hx
    have h2 := items_first hu hx
    cases h
    simp only at he h2 ⊢
    by_cases hn : signAt L (at0 + 1) 94 = true
    · rw [if_pos hn] at h2
      omega
    · rw [if_neg hn] at hx ⊢
      obtain ⟨b, hb, e⟩ := items_one hu hx (by simp only; omega)
      exact ⟨b, hb, by simp only at e; rw [e, zero_orC]⟩
theorem setB_len3 (ere : Bool) (c : Cls) : (setB ere c).length ≤ 19 + 3 * c.side.starts := by
  unfold setB
  split
  · simp only [List.length_cons, List.length_nil]
    omega
  · split
    · have := byteB_len ere (by assumption)
      omega
    · exact brackB_len3 c
theorem bracket_eight (hu : ∀ i, i < L.length → (markAt L i).b < 256) (ere : Bool) {at0 : Nat} {r : Cls × Nat} (h : bracketL L at0 = .ok r) : (setB ere r.1).length ≤ 8 * (r.2 - at0) := by
  have h1 := bracket_starts hu h
  have h2 := setB_len ere r.1
  have h3 := setB_len3 ere r.1
  by_cases he : r.2 = at0 + 3
  · obtain ⟨b, hb, e⟩ := bracket_three hu h he
    have := setB_one ere hb
    rw [e]
    omega
  · omega
end
theorem PA.dup8 {ere : Bool} {k : Nat} {l : List Nd} {n m : Nat} {d : Nd} (h : PA ere k l n) (ho : d.op = 6) (hl : (dupB ere d).length ≤ m) (first last : Bool) : PP ere first last k (d :: l) (n + m) := fun pre post f hf => by
  obtain ⟨s, h1, h2⟩ := h (pre ++ [d]) post f hf
  rw [show pre ++ [d] ++ l ++ post = pre ++ (d :: l) ++ post by simp, show (pre ++ [d]).length = pre.length + 1 by simp] at h1
  refine ⟨s ++ dupB ere d, ?_, by rw [List.length_append]; omega⟩
  unfold partP
  rw [get_mid]
  simp only
  rw [if_neg (by omega), if_neg (by omega), if_pos ho, h1]
  simp only [List.length_cons]
  rw [Nat.add_assoc, Nat.add_comm 1]
theorem dup_star (ere : Bool) : (dupB ere (repN 0 (-1))).length ≤ 8 := by cases ere <;> decide +kernel
theorem dup_plus (ere : Bool) : (dupB ere (repN 1 (-1))).length ≤ 8 := by cases ere <;> decide +kernel
theorem dup_mark (ere : Bool) : (dupB ere (repN 0 1)).length ≤ 8 := by cases ere <;> decide +kernel
section
variable {ere : Bool} {L : List Mk}
def GP8 (ere : Bool) (k : Nat) (grp : Rst → Out (List Nd)) : Prop := ∀ s re t, grp s = .ok re t → s.i < t.i ∧ PA ere k re (8 * (t.i - s.i))
theorem atomL_sp8 (hu : ∀ i, i < L.length → (markAt L i).b < 256) {k : Nat} {grp : Rst → Out (List Nd)} (hg : GP8 ere k grp) {first : Bool} {s t : Rst} {re : List Nd} {tk : Bool} (h : atomL ere first L grp s = .ok (re, tk) t) :
    s.i < t.i ∧ ((tk = true ∧ PA ere k re (8 * (t.i - s.i))) ∨ (tk = false ∧ re = [beginN] ∧ (ere = true ∨ first = true)) ∨ (tk = false ∧ re = [endN] ∧ (ere = true ∨ L.length ≤ t.i ∨ seesAt L t.i [92, 41] = true))) := by
  have one : ∀ (b n : Nat), b < 256 → 1 ≤ n → PA ere k [oneN b] (8 * n) := fun b n hb hn => (PA.set (Cls.of [b])).mono (by have := setB_one ere hb; omega)
  unfold atomL at h
  simp only at h
  split at h
  · cases h
    exact ⟨Nat.lt_succ_self _, .inl ⟨rfl, by simp only [Nat.add_sub_cancel_left]; exact one _ _ (mark_lt hu _) (by omega)⟩⟩
  · split at h
    · unfold anyL at h
      cases h
      refine ⟨Nat.lt_succ_self _, .inl ⟨rfl, (PA.set _).mono ?_⟩⟩
      rw [setB_all]
      simp only [List.length_cons, List.length_nil]
      omega
    · split at h
      · unfold brackL at h
        split at h
        · cases h
        · rename_i c i hb
          cases h
          have h1 := bracket_starts hu hb
          have h2 := bracket_eight hu ere hb
          simp only at h1
          refine ⟨by simp only; omega, .inl ⟨rfl, (PA.set c).mono ?_⟩⟩
          simp only
          omega
      · split at h
        · unfold escapeL at h
          split at h
          · cases h
          · split at h
            · cases h
            · simp only at h
              split at h
              · unfold withTrue at h
                split at h
                · rename_i hx
                  cases h
                  obtain ⟨h1, h2⟩ := hg _ _ _ hx
                  exact ⟨h1, .inl ⟨rfl, h2⟩⟩
                · cases h
              · split at h
                · cases h
                  refine ⟨by simp only; omega, .inl ⟨rfl, one _ _ (by decide) (by simp only; omega)⟩⟩
                · split at h
                  · cases h
                    refine ⟨by simp only; omega, .inl ⟨rfl, one _ _ (mark_lt hu _) (by simp only; omega)⟩⟩
                  · split at h
                    · rename_i hd
                      simp only [Bool.and_eq_true, decide_eq_true_eq, Bool.not_eq_true'] at hd
                      split at h
                      · cases h
                      · split at h
                        · cases h
                        · cases h
                          refine ⟨by simp only; omega, .inl ⟨rfl, (PA.ref hd.1.1 (by omega)).mono (by simp only; omega)⟩⟩
                    · cases h
        · split at h
          · unfold beginL at h
            split at h
            · cases h
              refine ⟨Nat.lt_succ_self _, .inl ⟨rfl, one _ _ (by decide) (by simp only; omega)⟩⟩
            · rename_i hc
              cases h
              refine ⟨Nat.lt_succ_self _, .inr (.inl ⟨rfl, rfl, ?_⟩)⟩
              cases ere <;> cases first <;> simp at hc ⊢
          · split at h
            · unfold endL at h
              split at h
              · cases h
                refine ⟨Nat.lt_succ_self _, .inl ⟨rfl, one _ _ (by decide) (by simp only; omega)⟩⟩
              · rename_i hc
                cases h
                refine ⟨Nat.lt_succ_self _, .inr (.inr ⟨rfl, rfl, ?_⟩)⟩
                cases he : ere with
                | true => exact .inl rfl
                | false =>
                  right
                  rw [he] at hc
                  by_cases hl : s.i + 1 < L.length
                  · right
                    rw [decide_eq_true hl] at hc
                    simp only [Bool.not_false, Bool.and_self, Bool.true_and, Bool.not_eq_true', Bool.not_eq_false] at hc
                    exact hc
                  · left; simp only; omega
            · split at h
              · unfold withTrue at h
                split at h
                · rename_i hx
                  cases h
                  obtain ⟨h1, h2⟩ := hg _ _ _ hx
                  exact ⟨h1, .inl ⟨rfl, h2⟩⟩
                · cases h
              · cases h
                refine ⟨Nat.lt_succ_self _, .inl ⟨rfl, one _ _ (mark_lt hu _) (by simp only; omega)⟩⟩
theorem rowL_sp8 (hu : ∀ i, i < L.length → (markAt L i).b < 256) {k : Nat} {top : Bool} {grp : Rst → Out (List Nd)} (hg : GP8 ere k grp) : ∀ (f : Nat) (all : List Nd) (n : Nat) (lead : Bool) (s : Rst) (r : Nat × List Nd) (t : Rst), rowL ere top L grp f all n lead s = .ok r t →
    ∃ m l, r = (n + m, all ++ l) ∧ s.i ≤ t.i ∧ (m = 0 → s = t) ∧ PS ere (n == 0) m k l (8 * (t.i - s.i))
  | 0, _, _, _, _, _, _, h => by simp [rowL] at h
  | f + 1, all, n, lead, s, r, t, h => by
    have stop : (Out.ok (n, all) s : Out (Nat × List Nd)) = .ok r t → ∃ m l, r = (n + m, all ++ l) ∧ s.i ≤ t.i ∧ (m = 0 → s = t) ∧ PS ere (n == 0) m k l (8 * (t.i - s.i)) := fun e => by
      cases e
      exact ⟨0, [], by simp, Nat.le_refl _, fun _ => rfl, by rw [Nat.sub_self, Nat.mul_zero]; exact PS.nil _⟩
    unfold rowL at h
    split at h
    · exact stop h
    · split at h
      · exact stop h
      · split at h
        · split at h
          · cases h
          · exact stop h
        · split at h
          · cases h
          · split at h
            · cases h
            · rename_i re tk u hx
              obtain ⟨hlt, hat⟩ := atomL_sp8 hu hg hx
              simp only at h
              have fin : ∀ (v : Rst) (all' : List Nd) (lead' : Bool) (a : List Nd) (n1 : Nat), all' = all ++ a → u.i ≤ v.i → n1 ≤ 8 * (v.i - s.i) → rowL ere top L grp f all' (n + 1) lead' v = .ok r t → (∀ m, (v = u → ∀ l, r = (n + 1 + m, all' ++ l) → (m = 0 → v = t) → PP ere (n == 0) (m == 0) k a n1) ∧ (v ≠ u → PP ere (n == 0) (m == 0) k a n1)) →
                  ∃ m l, r = (n + m, all ++ l) ∧ s.i ≤ t.i ∧ (m = 0 → s = t) ∧ PS ere (n == 0) m k l (8 * (t.i - s.i)) := by
                intro v all' lead' a n1 he hv hn1 hr hp
                obtain ⟨m, l, h1, h2, h3, h4⟩ := rowL_sp8 hu hg f all' (n + 1) lead' v r t hr
                have hpp : PP ere (n == 0) (m == 0) k a n1 := by
                  by_cases hvu : v = u
                  · exact (hp m).1 hvu l h1 h3
                  · exact (hp m).2 hvu
                refine ⟨m + 1, a ++ l, ?_, by omega, fun h => by omega, ?_⟩
                · rw [h1, he, List.append_assoc, show n + 1 + m = n + (m + 1) by omega]
                · rw [show (n + 1 == 0) = false from rfl] at h4
                  have h5 := PS.cons hpp h4
                  intro pre post f hf
                  obtain ⟨str, e1, e2⟩ := h5 pre post f hf
                  exact ⟨str, e1, by omega⟩
              split at h
              · rename_i hc
                simp only [Bool.and_eq_true] at hc
                split at h
                · cases h
                · rename_i d v hd
                  have hgd := dupL_good hd
                  have hpa : PA ere k re (8 * (u.i - s.i)) := by
                    rcases hat with h1 | h1 | h1
                    · exact h1.2
                    · rw [h1.1] at hc; cases hc.1
                    · rw [h1.1] at hc; cases hc.1
                  have hdl := dupB_len ere hgd.1 hgd.2.2.1
                  have hadv : u.i < v.i ∧ (dupB ere d).length ≤ 8 * (v.i - u.i) := by
                    unfold dupL at hd
                    split at hd
                    · cases hd; exact ⟨Nat.lt_succ_self _, by have := dup_star ere; simp only; omega⟩
                    · split at hd
                      · cases hd; exact ⟨Nat.lt_succ_self _, by have := dup_plus ere; simp only; omega⟩
                      · split at hd
                        · cases hd; exact ⟨Nat.lt_succ_self _, by have := dup_mark ere; simp only; omega⟩
                        · split at hd
                          · cases hd
                          · rename_i lo hi t' hi1
                            cases hd
                            unfold intervalL at hi1
                            have hge : ∀ (f : Nat) (n : Int) (i : Nat), i ≤ (numberL L f n i).2 := by
                              intro f
                              induction f with
                              | zero => intro n i; exact Nat.le_refl _
                              | succ f ih =>
                                intro n i
                                unfold numberL
                                split
                                · exact Nat.le_refl _
                                · split
                                  · exact Nat.le_refl _
                                  · have := ih (min (max n 0 * 10 + (((markAt L i).b : Int) - 48)) 256) (i + 1)
                                    omega
                            have h1 : u.i + wideB ere ≤ (numL L (u.i + wideB ere)).2 := hge _ _ _
                            generalize numL L (u.i + wideB ere) = a at hi1 h1
                            obtain ⟨b, hb⟩ : ∃ b, b = (if seesAt L a.2 [44] then numL L (a.2 + 1) else a) := ⟨_, rfl⟩
                            have h2 : a.2 ≤ b.2 := by
                              rw [hb]
                              split
                              · have := hge (L.length - (a.2 + 1)) (-1) (a.2 + 1)
                                unfold numL
                                omega
                              · exact Nat.le_refl _
                            simp only [← hb] at hi1
                            have h3 : 1 ≤ wideB ere := by cases ere <;> decide
                            split at hi1
                            · cases hi1
                            · cases hi1
                              simp only
                              omega
                  refine fin v _ _ (d :: re) (8 * (u.i - s.i) + 8 * (v.i - u.i)) rfl (by omega) (by omega) h (fun m => ⟨fun e => ?_, fun _ => hpa.dup8 hgd.2.2.1 hadv.2 _ _⟩)
                  rw [e] at hadv
                  exact absurd hadv.1 (Nat.lt_irrefl _)
              · refine fin u _ _ re (8 * (u.i - s.i)) rfl (Nat.le_refl _) (Nat.le_refl _) h (fun m => ⟨fun _ l hrl hst => ?_, fun e => absurd rfl e⟩)
                rcases hat with h1 | ⟨_, rfl, h2⟩ | ⟨_, rfl, h2⟩
                · exact h1.2.part _ _
                · exact (PP.begin (last := (m == 0)) h2).mono (by omega)
                · refine (PP.end_ (first := (n == 0)) (last := (m == 0)) ?_).mono (by omega)
                  cases he : ere with
                  | true => exact .inl rfl
                  | false =>
                    right
                    rw [he] at h2 h
                    simp only [Bool.false_eq_true, false_or] at h2
                    cases f with
                    | zero => simp [rowL] at h
                    | succ f =>
                      have hz : r = (n + 1, all ++ [endN]) := by
                        unfold rowL at h
                        rcases h2 with h2 | h2
                        · rw [if_pos h2] at h; cases h; rfl
                        · split at h
                          · cases h; rfl
                          · rw [Bool.false_and, if_neg Bool.false_ne_true, show signB false 41 = [92, 41] from rfl, h2, if_pos rfl] at h
                            split at h
                            · cases h
                            · cases h; rfl
                      rw [hz] at hrl
                      have := congrArg Prod.fst hrl
                      simp only at this
                      have : m = 0 := by omega
                      rw [this]; rfl
theorem sidesL_sp8 (hu : ∀ i, i < L.length → (markAt L i).b < 256) {k : Nat} {top : Bool} {grp : Rst → Out (List Nd)} (hg : GP8 ere k grp) : ∀ (f : Nat) (all : List Nd) (n : Nat) (s : Rst) (re : List Nd) (t : Rst), sidesL ere L (rowS ere top L grp) f all n s = .ok re t →
    s.i ≤ t.i ∧ ∃ m l, re = (if 1 < n + m + 1 then altN (n + m + 1) :: (all ++ l) else all ++ l) ∧ (1 ≤ m → ere = true) ∧ (PRS ere (m + 1) k l (8 * (t.i - s.i)) ∨ (n = 0 ∧ m = 0 ∧ l = [catN 0] ∧ s = t))
  | 0, _, _, _, _, _, h => by simp [sidesL] at h
  | f + 1, all, n, s, re, t, h => by
    unfold sidesL at h
    split at h
    · cases h
    · rename_i parts r u hx
      obtain ⟨m, l, h1, h2, h3, h4⟩ := rowL_sp8 hu hg _ _ _ _ _ _ _ hx
      simp only [Nat.zero_add, List.nil_append, Prod.mk.injEq] at h1
      obtain ⟨rfl, rfl⟩ := h1
      simp only at h
      split at h
      · cases h
      · rename_i hpz
        split at h
        · rename_i hmore
          cases h
          refine ⟨h2, 0, _, rfl, by omega, ?_⟩
          by_cases hp : parts = 0
          · right
            subst hp
            have hn : n = 0 := by
              simp only [beq_self_eq_true, Bool.true_and, Bool.or_eq_true, decide_eq_true_eq, not_or] at hpz
              omega
            refine ⟨hn, rfl, ?_, h3 rfl⟩
            have hl : r = [] := by
              obtain ⟨str, e1, _⟩ := h4 [] [] k (Nat.le_refl _)
              simp only [partsP, List.length_nil, Nat.zero_add, Option.some.injEq, Prod.mk.injEq] at e1
              exact List.length_eq_zero_iff.1 e1.2.symm
            rw [hl, if_neg (by decide)]
          · left
            exact (h4.row (by omega)).one
        · rename_i hmore
          have hp0 : parts ≠ 0 := by
            intro hp
            rw [hp] at hpz
            simp only [Bool.not_eq_true', Bool.not_eq_false] at hmore
            rw [hmore] at hpz
            simp at hpz
          have he : ere = true := by
            simp only [Bool.not_eq_true', Bool.not_eq_false, Bool.and_eq_true] at hmore
            exact hmore.1
          obtain ⟨g1, m, l, rfl, g2, g3⟩ := sidesL_sp8 hu hg f _ _ _ _ _ h
          simp only at g1
          refine ⟨by omega, m + 1, (if parts = 1 then r else catN parts :: r) ++ l, ?_, fun _ => he, .inl ?_⟩
          · rw [show n + 1 + m + 1 = n + (m + 1) + 1 by omega, List.append_assoc]
          · rcases g3 with g3 | g3
            · have g4 := (h4.row (by omega)).cons g3
              intro pre post f hf
              obtain ⟨str, e1, e2⟩ := g4 pre post f hf
              exact ⟨str, e1, by simp only at e2 ⊢; omega⟩
            · omega
theorem groupL_sp8 (hu : ∀ i, i < L.length → (markAt L i).b < 256) : ∀ (k : Nat), GP8 ere k (groupL ere L k)
  | 0 => fun s re t h => by simp [groupL] at h
  | k + 1 => fun s re t h => by
    unfold groupL at h
    split at h
    · cases h
    · split at h
      · cases h
      · rename_i r u hx
        obtain ⟨g1, m, l, h1, h2, h3⟩ := sidesL_sp8 hu (groupL_sp8 hu k) _ _ _ _ _ _ hx
        simp only at g1
        have hw : 1 ≤ wideB ere := by cases ere <;> decide
        split at h
        · cases h
        · cases h
          simp only
          refine ⟨by omega, ?_⟩
          rw [Nat.zero_add, List.nil_append] at h1
          have hc : PW ere k r (8 * (u.i - (s.i + wideB ere))) ∨ r = [catN 0] := by
            rcases h3 with h3 | ⟨_, rfl, rfl, _⟩
            · left
              rw [h1]
              exact h3.whole h2
            · right
              rw [h1]
              rfl
          exact (PA.group hc).mono (by omega)
theorem parse_spell8 (hu : ∀ i, i < L.length → (markAt L i).b < 256) {re : List Nd} (h : parseL ere L = .ok re) : (∃ s, spellN ere re = some s) ∨ 512 < L.length := by
  unfold parseL at h
  split at h
  · cases h
  · split at h
    · cases h
    · rename_i hne
      split at h
      · cases h
      · rename_i re' t hx
        have hre : re' = re := by
          split at h
          · split at h
            · cases h
            · cases h; rfl
          · cases h
        subst hre
        by_cases hl : 512 < L.length
        · exact .inr hl
        left
        have hri := sidesK_rise hu 64 (Nat.zero_le _) hx
        have hst := sidesK_stop 64 hx
        obtain ⟨g1, m, l, h1, h2, h3⟩ := sidesL_sp8 hu (groupL_sp8 hu 64) _ _ _ _ _ _ hx
        rw [Nat.zero_add, List.nil_append] at h1
        rcases h3 with h3 | ⟨_, _, _, hs⟩
        · have h4 := h3.whole h2
          rw [← h1] at h4
          obtain ⟨s, e1, e2⟩ := h4 [] [] 66 (by decide)
          simp only [List.nil_append, List.append_nil, List.length_nil, Nat.zero_add] at e1
          refine ⟨s, ?_⟩
          unfold spellN
          rw [e1]
          simp only
          rw [if_pos]
          have := hri.le
          simp only at e2
          omega
        · exfalso
          rw [← hs] at hst
          rcases hst with hst | ⟨_, hst⟩
          · simp only at hst; omega
          · simp at hst
end
end Go.Proofs.YtfjbnpdffillbaaGreatDoor

/- Plain laws of Part: what Text writes is read as the marks, whatever stands behind. No program in sight. No condition. -/
namespace Go.Proofs.YtfjbnpdffillbaaGreatDoor
theorem nat_drop {T : List Nat} {i b : Nat} {r : List Nat} (h : T.drop i = b :: r) : i < T.length ∧ T.getD i 0 = b ∧ T.drop (i + 1) = r := by
  have hl : i < T.length := by
    apply Nat.lt_of_not_le
    intro hi
    rw [List.drop_eq_nil_of_le hi] at h
    cases h
  rw [List.drop_eq_getElem_cons hl] at h
  injection h with h1 h2
  exact ⟨hl, by simp [List.getD_eq_getElem?_getD, hl, h1], h2⟩
theorem part_text {T : List Nat} {d : Nat} {ends : Bool} (h92 : d ≠ 92) (_ : d ≠ 10) : ∀ (n : Nat) (l : List Mk) (s : List Nat) (i : Nat) (acc : List Mk) (x : List Nat) (f : Nat), l.length ≤ n → textT d false l = some s →
    (∀ m ∈ l, m.b ≠ 10) → T.drop i = s ++ d :: x → s.length < f → partN T d ends f i acc = some (acc ++ l, i + s.length + 1)
  | _, [], s, i, acc, x, f, _, h, _, hd, hf => by
    simp only [textT, Bool.false_eq_true, if_false, Option.some.injEq] at h
    subst h
    obtain ⟨f, rfl⟩ : ∃ g, f = g + 1 := ⟨f - 1, by omega⟩
    obtain ⟨h1, h2, _⟩ := nat_drop hd
    rw [partN, if_neg (by omega), if_pos h2, List.append_nil]
    rfl
  | 0, m :: l, _, _, _, _, _, hn, _, _, _, _ => by simp at hn
  | n + 1, ⟨b, p⟩ :: l, s, i, acc, x, f, hn, h, h10, hd, hf => by
    simp only [List.length_cons, Nat.add_le_add_iff_right] at hn
    rw [textT] at h
    have hb10 : b ≠ 10 := h10 ⟨b, p⟩ (List.mem_cons_self ..)
    have hl10 : ∀ m ∈ l, m.b ≠ 10 := fun m hm => h10 m (List.mem_cons_of_mem _ hm)
    cases p with
    | true =>
      simp only [if_true] at h
      split at h
      · rename_i hb
        obtain ⟨s', h', rfl⟩ := Option.map_eq_some_iff.1 h
        subst hb
        simp only [List.length_cons] at hf
        obtain ⟨f, rfl⟩ : ∃ g, f = g + 1 := ⟨f - 1, by omega⟩
        simp only [List.cons_append] at hd
        obtain ⟨g1, g2, g3⟩ := nat_drop hd
        obtain ⟨k1, k2, k3⟩ := nat_drop g3
        have ih := part_text (ends := ends) h92 hb10 n l s' (i + 2) (acc ++ [⟨b, true⟩]) x f hn h' hl10 k3 (by omega)
        rw [partN, if_neg (by omega), if_neg (by rw [g2]; exact Ne.symm h92), if_neg (by rw [g2]; decide), if_pos g2, if_neg (by omega), if_neg (by rw [k2]; exact fun e => hb10 e.1), if_pos k2, ih, List.append_assoc]
        simp only [List.singleton_append, List.length_cons, Option.some.injEq, Prod.mk.injEq, true_and]
        omega
      · cases h
    | false =>
      simp only [Bool.false_eq_true, if_false] at h
      split at h
      · cases h
      rename_i hb
      obtain ⟨s', h', rfl⟩ := Option.map_eq_some_iff.1 h
      simp only [List.length_cons] at hf
      obtain ⟨f, rfl⟩ : ∃ g, f = g + 1 := ⟨f - 1, by omega⟩
      by_cases h9 : b = 92
      · subst h9
        rw [show ((92 : Nat) == 92) = true from rfl] at h'
        cases l with
        | nil => simp [textT] at h'
        | cons m l =>
          obtain ⟨c, q⟩ := m
          rw [textT] at h'
          split at h'
          · cases h'
          rename_i hq
          simp only [Bool.or_eq_true, beq_iff_eq, not_or, Bool.not_eq_true] at hq
          obtain ⟨rfl, hc⟩ := hq
          obtain ⟨s2, h2, rfl⟩ := Option.map_eq_some_iff.1 h'
          have hc10 : c ≠ 10 := hl10 ⟨c, false⟩ (List.mem_cons_self ..)
          simp only [List.cons_append] at hd
          obtain ⟨g1, g2, g3⟩ := nat_drop hd
          obtain ⟨k1, k2, k3⟩ := nat_drop g3
          simp only [List.length_cons] at hf hn
          have ih := part_text (ends := ends) h92 ‹_› n l s2 (i + 2) (acc ++ [⟨92, false⟩, ⟨c, false⟩]) x f (by omega) h2 (fun m hm => hl10 m (List.mem_cons_of_mem _ hm)) k3 (by omega)
          rw [partN, if_neg (by omega), if_neg (by rw [g2]; exact Ne.symm h92), if_neg (by rw [g2]; decide), if_pos g2, if_neg (by omega), if_neg (by rw [k2]; exact fun e => hc10 e.1), if_neg (by rw [k2]; exact hc), k2, ih, List.append_assoc]
          simp only [List.cons_append, List.nil_append, List.length_cons, Option.some.injEq, Prod.mk.injEq, true_and]
          omega
      · rw [show (b == 92) = false from beq_eq_false_iff_ne.2 h9] at h'
        simp only [List.cons_append] at hd
        obtain ⟨g1, g2, g3⟩ := nat_drop hd
        have ih := part_text (ends := ends) h92 ‹_› n l s' (i + 1) (acc ++ [⟨b, false⟩]) x f hn h' hl10 g3 (by omega)
        rw [partN, if_neg (by omega), if_neg (by rw [g2]; exact fun e => hb (.inl e)), if_neg (by rw [g2]; exact hb10), if_neg (by rw [g2]; exact h9), g2, ih, List.append_assoc]
        simp only [List.singleton_append, List.length_cons, Option.some.injEq, Prod.mk.injEq, true_and]
        omega
/-- What Text writes, with its delimiter and anything behind, is read by Part as the marks. -/
theorem partS_text {T : List Nat} {d : Nat} {ends : Bool} {l : List Mk} {s x : List Nat} {i : Nat} (h : textL d l = some s) (h10 : ∀ m ∈ l, m.b ≠ 10) (hd : T.drop i = s ++ d :: x) :
    partS T d ends i = some (l, i + s.length + 1) := by
  unfold textL at h
  split at h
  · cases h
  rename_i hn
  unfold partS
  rw [if_neg hn]
  rw [not_or] at hn
  have hlen : T.length - i = (s ++ d :: x).length := by rw [← hd, List.length_drop]
  rw [part_text hn.1 hn.2 l.length l s i [] x _ (Nat.le_refl _) h h10 hd (by rw [hlen, List.length_append, List.length_cons]; omega), List.nil_append]
end Go.Proofs.YtfjbnpdffillbaaGreatDoor

/- Contract of package address: right. No condition. -/
namespace Go.Proofs.YtfjbnpdffillbaaGreatDoor
open Go.RowKit

section
variable {w : World} {oa : Option Addr} {cap : Nat} {re : List Nd}
theorem emp_len (h : ¬ re.length = 0) : re.isEmpty = false := by cases re <;> simp_all
set_option maxRecDepth 100000 in
set_option maxHeartbeats 1600000 in
theorem right_0_n {n : Int} (hn : ¬ n = 0) (_ : NdV w oa re) :
    Calls Tryz.prog 79 #[.agg #[.int .i8 0, .int .i64 n, .slice oa re.length cap]] w fun e w' => e = .returned (.bool false) ∧ Below w.heap.size w w' := by
  have hb0 := (Below.refl w.heap.size w).alloc (Nat.le_refl _) (.cells #[.int .i8 0, .int .i64 n, .slice oa re.length cap] 54)
  have HB := Lib.hid hb0
  clear hb0
  have qn : (n == 0) = false := beq_eq_false_iff_ne.2 hn
  go_enter Tryz.func79, Tryz.ntmps79
  go_wp2_with fail
  go_ret
  exact ⟨rfl, HB.out⟩
set_option maxRecDepth 100000 in
set_option maxHeartbeats 1600000 in
theorem right_0_nil (_ : NdV w oa ([] : List Nd)) :
    Calls Tryz.prog 79 #[.agg #[.int .i8 0, .int .i64 0, .slice oa ([] : List Nd).length cap]] w fun e w' => e = .returned (.bool true) ∧ Below w.heap.size w w' := by
  have hb0 := (Below.refl w.heap.size w).alloc (Nat.le_refl _) (.cells #[.int .i8 0, .int .i64 0, .slice oa ([] : List Nd).length cap] 54)
  have HB := Lib.hid hb0
  clear hb0
  go_enter Tryz.func79, Tryz.ntmps79
  go_wp2_with fail
  go_ret
  exact ⟨rfl, HB.out⟩
set_option maxRecDepth 100000 in
set_option maxHeartbeats 1600000 in
theorem right_0_len (hl : ¬ re.length = 0) (_ : NdV w oa re) :
    Calls Tryz.prog 79 #[.agg #[.int .i8 0, .int .i64 0, .slice oa re.length cap]] w fun e w' => e = .returned (.bool false) ∧ Below w.heap.size w w' := by
  have hb0 := (Below.refl w.heap.size w).alloc (Nat.le_refl _) (.cells #[.int .i8 0, .int .i64 0, .slice oa re.length cap] 54)
  have HB := Lib.hid hb0
  clear hb0
  have ql : ((re.length : Int) == 0) = false := beq_eq_false_iff_ne.2 (by omega)
  go_enter Tryz.func79, Tryz.ntmps79
  go_wp2_with fail
  go_ret
  exact ⟨rfl, HB.out⟩
set_option maxRecDepth 100000 in
set_option maxHeartbeats 1600000 in
theorem right_2_n {n : Int} (hn : ¬ n = 0) (_ : NdV w oa re) :
    Calls Tryz.prog 79 #[.agg #[.int .i8 2, .int .i64 n, .slice oa re.length cap]] w fun e w' => e = .returned (.bool false) ∧ Below w.heap.size w w' := by
  have hb0 := (Below.refl w.heap.size w).alloc (Nat.le_refl _) (.cells #[.int .i8 2, .int .i64 n, .slice oa re.length cap] 54)
  have HB := Lib.hid hb0
  clear hb0
  have qn : (n == 0) = false := beq_eq_false_iff_ne.2 hn
  go_enter Tryz.func79, Tryz.ntmps79
  go_wp2_with fail
  go_ret
  exact ⟨rfl, HB.out⟩
set_option maxRecDepth 100000 in
set_option maxHeartbeats 1600000 in
theorem right_2_nil (_ : NdV w oa ([] : List Nd)) :
    Calls Tryz.prog 79 #[.agg #[.int .i8 2, .int .i64 0, .slice oa ([] : List Nd).length cap]] w fun e w' => e = .returned (.bool true) ∧ Below w.heap.size w w' := by
  have hb0 := (Below.refl w.heap.size w).alloc (Nat.le_refl _) (.cells #[.int .i8 2, .int .i64 0, .slice oa ([] : List Nd).length cap] 54)
  have HB := Lib.hid hb0
  clear hb0
  go_enter Tryz.func79, Tryz.ntmps79
  go_wp2_with fail
  go_ret
  exact ⟨rfl, HB.out⟩
set_option maxRecDepth 100000 in
set_option maxHeartbeats 1600000 in
theorem right_2_len (hl : ¬ re.length = 0) (_ : NdV w oa re) :
    Calls Tryz.prog 79 #[.agg #[.int .i8 2, .int .i64 0, .slice oa re.length cap]] w fun e w' => e = .returned (.bool false) ∧ Below w.heap.size w w' := by
  have hb0 := (Below.refl w.heap.size w).alloc (Nat.le_refl _) (.cells #[.int .i8 2, .int .i64 0, .slice oa re.length cap] 54)
  have HB := Lib.hid hb0
  clear hb0
  have ql : ((re.length : Int) == 0) = false := beq_eq_false_iff_ne.2 (by omega)
  go_enter Tryz.func79, Tryz.ntmps79
  go_wp2_with fail
  go_ret
  exact ⟨rfl, HB.out⟩
set_option maxRecDepth 100000 in
set_option maxHeartbeats 1600000 in
theorem right_1_lo {n : Int} (hn : ¬ 1 ≤ n) (_ : NdV w oa re) :
    Calls Tryz.prog 79 #[.agg #[.int .i8 1, .int .i64 n, .slice oa re.length cap]] w fun e w' => e = .returned (.bool false) ∧ Below w.heap.size w w' := by
  have hb0 := (Below.refl w.heap.size w).alloc (Nat.le_refl _) (.cells #[.int .i8 1, .int .i64 n, .slice oa re.length cap] 54)
  have HB := Lib.hid hb0
  clear hb0
  go_enter Tryz.func79, Tryz.ntmps79
  go_wp2_with fail
  go_ret
  exact ⟨rfl, HB.out⟩
set_option maxRecDepth 100000 in
set_option maxHeartbeats 1600000 in
theorem right_1_hi {n : Int} (hn : 1 ≤ n) (hm : ¬ n ≤ 2147483647) (_ : NdV w oa re) :
    Calls Tryz.prog 79 #[.agg #[.int .i8 1, .int .i64 n, .slice oa re.length cap]] w fun e w' => e = .returned (.bool false) ∧ Below w.heap.size w w' := by
  have hb0 := (Below.refl w.heap.size w).alloc (Nat.le_refl _) (.cells #[.int .i8 1, .int .i64 n, .slice oa re.length cap] 54)
  have HB := Lib.hid hb0
  clear hb0
  go_enter Tryz.func79, Tryz.ntmps79
  go_wp2_with fail
  go_ret
  exact ⟨rfl, HB.out⟩
set_option maxRecDepth 100000 in
set_option maxHeartbeats 1600000 in
theorem right_1_nil {n : Int} (hn : 1 ≤ n) (hm : n ≤ 2147483647) (_ : NdV w oa ([] : List Nd)) :
    Calls Tryz.prog 79 #[.agg #[.int .i8 1, .int .i64 n, .slice oa ([] : List Nd).length cap]] w fun e w' => e = .returned (.bool true) ∧ Below w.heap.size w w' := by
  have hb0 := (Below.refl w.heap.size w).alloc (Nat.le_refl _) (.cells #[.int .i8 1, .int .i64 n, .slice oa ([] : List Nd).length cap] 54)
  have HB := Lib.hid hb0
  clear hb0
  go_enter Tryz.func79, Tryz.ntmps79
  go_wp2_with fail
  go_ret
  exact ⟨rfl, HB.out⟩
set_option maxRecDepth 100000 in
set_option maxHeartbeats 1600000 in
theorem right_1_len {n : Int} (hn : 1 ≤ n) (hm : n ≤ 2147483647) (hl : ¬ re.length = 0) (_ : NdV w oa re) :
    Calls Tryz.prog 79 #[.agg #[.int .i8 1, .int .i64 n, .slice oa re.length cap]] w fun e w' => e = .returned (.bool false) ∧ Below w.heap.size w w' := by
  have hb0 := (Below.refl w.heap.size w).alloc (Nat.le_refl _) (.cells #[.int .i8 1, .int .i64 n, .slice oa re.length cap] 54)
  have HB := Lib.hid hb0
  clear hb0
  have ql : ((re.length : Int) == 0) = false := beq_eq_false_iff_ne.2 (by omega)
  go_enter Tryz.func79, Tryz.ntmps79
  go_wp2_with fail
  go_ret
  exact ⟨rfl, HB.out⟩
set_option maxRecDepth 100000 in
set_option maxHeartbeats 1600000 in
theorem right_3_n {n : Int} (hn : ¬ n = 0) (_ : NdV w oa re) :
    Calls Tryz.prog 79 #[.agg #[.int .i8 3, .int .i64 n, .slice oa re.length cap]] w fun e w' => e = .returned (.bool false) ∧ Below w.heap.size w w' := by
  have hb0 := (Below.refl w.heap.size w).alloc (Nat.le_refl _) (.cells #[.int .i8 3, .int .i64 n, .slice oa re.length cap] 54)
  have HB := Lib.hid hb0
  clear hb0
  have qn : (n == 0) = false := beq_eq_false_iff_ne.2 hn
  go_enter Tryz.func79, Tryz.ntmps79
  go_wp2_with fail
  go_ret
  exact ⟨rfl, HB.out⟩
set_option maxRecDepth 100000 in
set_option maxHeartbeats 1600000 in
theorem right_3_nil (_ : NdV w oa ([] : List Nd)) :
    Calls Tryz.prog 79 #[.agg #[.int .i8 3, .int .i64 0, .slice oa ([] : List Nd).length cap]] w fun e w' => e = .returned (.bool true) ∧ Below w.heap.size w w' := by
  have hb0 := (Below.refl w.heap.size w).alloc (Nat.le_refl _) (.cells #[.int .i8 3, .int .i64 0, .slice oa ([] : List Nd).length cap] 54)
  have HB := Lib.hid hb0
  clear hb0
  go_enter Tryz.func79, Tryz.ntmps79
  go_wp2_with fail
  go_ret
  exact ⟨rfl, HB.out⟩
set_option maxRecDepth 100000 in
set_option maxHeartbeats 1600000 in
theorem right_3_len (hl : ¬ re.length = 0) (h : NdV w oa re) :
    Calls Tryz.prog 79 #[.agg #[.int .i8 3, .int .i64 0, .slice oa re.length cap]] w fun e w' => e = .returned (.bool (shapedN re)) ∧ Below w.heap.size w w' := by
  have hb0 := (Below.refl w.heap.size w).alloc (Nat.le_refl _) (.cells #[.int .i8 3, .int .i64 0, .slice oa re.length cap] 54)
  have HS := Lib.hid (shaped_call (cap := cap) (h.below hb0))
  have HB := Lib.hid hb0
  clear hb0 h
  have ql : ((re.length : Int) == 0) = false := beq_eq_false_iff_ne.2 (by omega)
  go_enter Tryz.func79, Tryz.ntmps79
  go_wp2_with fail
  refine HS.out.mono ?_; rintro e w1 ⟨rfl, hb1⟩
  have HB1 := Lib.hid (HB.out.trans (hb1.mono (by simp)))
  clear hb1
  go_wp2_with fail
  go_ret
  exact ⟨rfl, HB1.out⟩
set_option maxRecDepth 100000 in
set_option maxHeartbeats 1600000 in
theorem right_other {k n : Int} (h0 : ¬ k = 0) (h1 : ¬ k = 1) (h2 : ¬ k = 2) (h3 : ¬ k = 3) (_ : NdV w oa re) :
    Calls Tryz.prog 79 #[.agg #[.int .i8 k, .int .i64 n, .slice oa re.length cap]] w fun e w' => e = .returned (.bool false) ∧ Below w.heap.size w w' := by
  have hb0 := (Below.refl w.heap.size w).alloc (Nat.le_refl _) (.cells #[.int .i8 k, .int .i64 n, .slice oa re.length cap] 54)
  have HB := Lib.hid hb0
  clear hb0
  have q0 : (k == 0) = false := beq_eq_false_iff_ne.2 h0
  have q1 : (k == 1) = false := beq_eq_false_iff_ne.2 h1
  have q2 : (k == 2) = false := beq_eq_false_iff_ne.2 h2
  have q3 : (k == 3) = false := beq_eq_false_iff_ne.2 h3
  go_enter Tryz.func79, Tryz.ntmps79
  go_wp2_with fail
  go_ret
  exact ⟨rfl, HB.out⟩
theorem right_call (k : Int) (n : Int) (h : NdV w oa re) :
    Calls Tryz.prog 79 #[.agg #[.int .i8 k, .int .i64 n, .slice oa re.length cap]] w fun e w' => e = .returned (.bool (rightA ⟨k, n, re⟩)) ∧ Below w.heap.size w w' := by
  by_cases h3 : k = 3
  · subst h3
    by_cases hn : n = 0
    · subst hn
      by_cases hl : re.length = 0
      · obtain rfl := List.eq_nil_of_length_eq_zero hl
        exact right_3_nil h
      · rw [show rightA ⟨3, 0, re⟩ = shapedN re by simp [rightA, emp_len hl]]
        exact right_3_len hl h
    · rw [show rightA ⟨3, n, re⟩ = false by simp [rightA, hn]]
      exact right_3_n hn h
  by_cases h1 : k = 1
  · subst h1
    by_cases hn : 1 ≤ n
    · by_cases hm : n ≤ 2147483647
      · by_cases hl : re.length = 0
        · obtain rfl := List.eq_nil_of_length_eq_zero hl
          rw [show rightA ⟨1, n, []⟩ = true by simp [rightA, hn, hm]]
          exact right_1_nil hn hm h
        · rw [show rightA ⟨1, n, re⟩ = false by simp [rightA, emp_len hl]]
          exact right_1_len hn hm hl h
      · rw [show rightA ⟨1, n, re⟩ = false by simp [rightA, hm]]
        exact right_1_hi hn hm h
    · rw [show rightA ⟨1, n, re⟩ = false by simp [rightA, hn]]
      exact right_1_lo hn h
  by_cases h0 : k = 0
  · subst h0
    by_cases hn : n = 0
    · subst hn
      by_cases hl : re.length = 0
      · obtain rfl := List.eq_nil_of_length_eq_zero hl
        exact right_0_nil h
      · rw [show rightA ⟨0, 0, re⟩ = false by simp [rightA, emp_len hl]]
        exact right_0_len hl h
    · rw [show rightA ⟨0, n, re⟩ = false by simp [rightA, hn]]
      exact right_0_n hn h
  by_cases h2 : k = 2
  · subst h2
    by_cases hn : n = 0
    · subst hn
      by_cases hl : re.length = 0
      · obtain rfl := List.eq_nil_of_length_eq_zero hl
        exact right_2_nil h
      · rw [show rightA ⟨2, 0, re⟩ = false by simp [rightA, emp_len hl]]
        exact right_2_len hl h
    · rw [show rightA ⟨2, n, re⟩ = false by simp [rightA, hn]]
      exact right_2_n hn h
  rw [show rightA ⟨k, n, re⟩ = false by simp [rightA, h0, h1, h2, h3]]
  exact right_other h0 h1 h2 h3 h
end
end Go.Proofs.YtfjbnpdffillbaaGreatDoor
