/- Parts: Gh. -/
import Derived.Test.YtfjbnpdffillbaaGreatDoorQ16
import Derived.Test.YtfjbnpdffillbaaGreatDoorQ17
import Derived.Test.YtfjbnpdffillbaaGreatDoorQ22
import Derived.Test.YtfjbnpdffillbaaGreatDoorQ31
import Derived.Test.YtfjbnpdffillbaaGreatDoorQ15
/- Plain laws of addresses: what is written is read as it; what was read is right, and is written or too long. No program in sight. No condition. -/
namespace Go.Proofs.YtfjbnpdffillbaaGreatDoor

/-! ### Numbers -/
def stepV (v b : Nat) : Nat := 10 * v + (b - 48)
theorem foldV_ge : ∀ (ds : List Nat) (v : Nat), v ≤ ds.foldl stepV v
  | [], v => Nat.le_refl _
  | d :: ds, v => by
    rw [List.foldl_cons]
    exact Nat.le_trans (by unfold stepV; omega) (foldV_ge ds _)
theorem numN_digs {T : List Nat} {most : Nat} : ∀ (ds : List Nat) (f i v : Nat) (rest : List Nat), T.drop i = ds ++ rest → (∀ d ∈ ds, 48 ≤ d ∧ d ≤ 57) → (∀ x l, rest = x :: l → x < 48 ∨ 57 < x) → T.length ≤ i + f → ds.foldl stepV v ≤ most →
    numN T most f i v false = (ds.foldl stepV v, false, i + ds.length)
  | [], f, i, v, rest, hd, _, hr, hf, _ => by
    cases f with
    | zero => rfl
    | succ f =>
      rw [numN]
      split
      · rfl
      · rename_i hl
        cases rest with
        | nil =>
          rw [List.append_nil] at hd
          have := List.drop_eq_nil_iff.1 hd
          omega
        | cons x l =>
          obtain ⟨_, h2, _⟩ := nat_drop hd
          have := hr x l rfl
          rw [h2, if_neg (by omega)]
          rfl
  | d :: ds, f, i, v, rest, hd, hds, hr, hf, hm => by
    obtain ⟨h1, h2, h3⟩ := nat_drop (show T.drop i = d :: (ds ++ rest) from hd)
    obtain ⟨f, rfl⟩ : ∃ g, f = g + 1 := ⟨f - 1, by omega⟩
    have hdd := hds d (List.mem_cons_self ..)
    rw [List.foldl_cons] at hm
    have hge := foldV_ge ds (stepV v d)
    have hs : stepV v d ≤ most := by omega
    unfold stepV at hs
    rw [numN, if_neg (by omega), h2, if_pos hdd, if_neg (by omega), show 10 * v + (d - 48) = stepV v d from rfl, numN_digs ds f (i + 1) (stepV v d) rest h3 (fun x hx => hds x (List.mem_cons_of_mem _ hx)) hr (by omega) hm]
    simp only [List.foldl_cons, List.length_cons]
    rw [show i + 1 + ds.length = i + (ds.length + 1) by omega]
theorem digB_value (u : Nat) : (digB u).foldl stepV 0 = u := by
  induction u using Nat.strongRecOn with
  | ind u ih =>
    by_cases h : u < 10
    · rw [digB_small h]; simp only [List.foldl_cons, List.foldl_nil, stepV]; omega
    · rw [digB_big h, List.foldl_append, ih (u / 10) (by omega)]
      simp only [List.foldl_cons, List.foldl_nil, stepV]
      omega
theorem numS_digB {n : Nat} {x : List Nat} (hn : n ≤ 2147483647) (hx : ∀ b l, x = b :: l → b < 48 ∨ 57 < b) : numS (digB n ++ x) 2147483647 0 = some (n, (digB n).length) := by
  have h := numN_digs (T := digB n ++ x) (most := 2147483647) (digB n) (digB n ++ x).length 0 0 x rfl (digB_digit n) hx (by omega) (by rw [digB_value]; exact hn)
  rw [digB_value, Nat.zero_add] at h
  have hl := digB_len n
  unfold numS
  rw [Nat.sub_zero, h]
  simp only
  rw [if_neg (fun h => by rcases h with h | h; omega; cases h)]

/-! ### What is written is read as it -/
theorem right_three {n : Int} {re : List Nd} (h : rightA ⟨3, n, re⟩ = true) : n = 0 ∧ (re = [] ∨ shapedN re = true) := by
  simp only [rightA, show ¬ ((3 : Int) = 0 ∨ (3 : Int) = 2) by decide, if_false, show ¬ (3 : Int) = 1 by decide, if_true, Bool.and_eq_true, beq_iff_eq, Bool.or_eq_true, List.isEmpty_iff] at h
  exact h
theorem slashed_mq (s : List Nat) : slashed s = s.map (mq true) := rfl
theorem print_back {ere : Bool} {a : Ad} {s x : List Nat} (hp : printA ere a = .ok s) (hk : a.kind ≠ 0) (hx : ∀ b l, x = b :: l → b < 48 ∨ 57 < b) : addrL ere (s ++ x) 0 = (a, 0, s.length) := by
  obtain ⟨k, n, re⟩ := a
  unfold printA at hp
  simp only at hp hk
  split at hp
  · cases hp
  rename_i hr
  have hr : rightA ⟨k, n, re⟩ = true := by cases h : rightA ⟨k, n, re⟩ <;> simp_all
  try rw [if_neg hk] at hp
  split at hp
  · rename_i h1
    subst h1
    simp only [rightA, show ¬ ((1 : Int) = 0 ∨ (1 : Int) = 2) by decide, if_false, if_true, Bool.and_eq_true, decide_eq_true_eq, List.isEmpty_iff] at hr
    obtain ⟨⟨h1, h2⟩, rfl⟩ := hr
    obtain ⟨m, rfl⟩ : ∃ m : Nat, n = m := ⟨n.toNat, by omega⟩
    cases hp
    have e : itoB (m : Int) = digB m := itoB_nat m
    rw [e]
    have hl := digB_len m
    obtain ⟨d, ds, hds⟩ : ∃ d ds, digB m = d :: ds := by cases h : digB m with | nil => rw [h] at hl; simp at hl | cons d ds => exact ⟨d, ds, rfl⟩
    have hdd := digB_digit m d (by rw [hds]; exact List.mem_cons_self ..)
    have h0 : (digB m ++ x).getD 0 0 = d := by rw [hds]; rfl
    rw [addrL_num ere (by rw [List.length_append]; omega) (by rw [h0]; exact hdd), numS_digB (by omega) hx, numA, if_neg (by omega)]
  · split at hp
    · rename_i h2
      subst h2
      simp only [rightA, or_true, if_true, Bool.and_eq_true, beq_iff_eq, List.isEmpty_iff] at hr
      obtain ⟨rfl, rfl⟩ := hr
      cases hp
      rw [addrL_last ere (by simp) rfl]
      rfl
    · rename_i h1 h2
      have hk3 : k = 3 := by
        by_cases h3 : k = 3
        · exact h3
        · simp only [rightA, show ¬ (k = 0 ∨ k = 2) by omega, if_false, h1, h3] at hr
          cases hr
      subst hk3
      obtain ⟨rfl, hsh⟩ := right_three hr
      unfold betweenA at hp
      split at hp
      · rename_i he
        subst he
        cases hp
        rw [addrL_slash ere (by simp) rfl, tailA_of (d := 47) rfl, partS_text (l := []) (s := []) (x := x) (by rfl) (by simp) (by rfl)]
        rfl
      · rename_i he
        have hsh : shapedN re = true := hsh.resolve_left he
        split at hp
        · cases hp
        · rename_i sp hsp
          split at hp
          · cases hp
          · rename_i t ht
            cases hp
            have hok := (spellN_okb hsp).1
            have hpar := spell_parse (q := true) hsh hsp
            have hne : slashed sp ≠ [] := by
              intro e
              rw [← slashed_mq, e] at hpar
              simp [parseL] at hpar
            have h0 : ((47 :: t ++ [47]) ++ x).getD 0 0 = 47 := rfl
            rw [addrL_slash ere (by simp) h0, tailA_of h0, partS_text (l := slashed sp) (s := t) (x := x) ht (by
              intro m hm
              simp only [slashed, List.mem_map] at hm
              obtain ⟨b, hb, rfl⟩ := hm
              exact (hok b hb).1) (by simp), tailB_some hne, slashed_mq, hpar]
            simp [parA]
            omega

/-! ### What was read -/
/-- It is right, and is written, or too long for that. -/
def Reads (ere : Bool) (b : Ad) (at_ : Nat) : Prop := rightA b = true ∧ (b.kind = 0 ↔ at_ = 0) ∧ ((∃ s, printA ere b = .ok s) ∨ (printA ere b = .error 50 ∧ 512 < at_))
theorem reads_zero (ere : Bool) : Reads ere Ad.zero 0 := ⟨rfl, ⟨fun _ => rfl, fun _ => rfl⟩, .inl ⟨[], rfl⟩⟩
theorem tail_reads {ere : Bool} {T : List Nat} {k at_ : Nat} {b : Ad} (hT : ∀ j, T.getD j 0 < 256) (h : tailA ere T k = (b, 0, at_)) : Reads ere b at_ := by
  rw [tailA_of rfl] at h
  cases hq : partS T (T.getD k 0) false (k + 1) with
  | none => rw [hq] at h; simp [tailB] at h
  | some p =>
    obtain ⟨l, j⟩ := p
    have hat := partS_at hq
    have hu := partS_u (hT k) hT hq
    simp only at hat hu
    rw [hq] at h
    by_cases hl : l = []
    · subst hl
      rw [tailB_nil] at h
      cases h
      exact ⟨rfl, ⟨fun h => (by cases h), fun h => (by omega)⟩, .inl ⟨[47, 47], rfl⟩⟩
    · rw [tailB_some hl] at h
      have hu' : ∀ i, i < l.length → (markAt l i).b < 256 := fun i hi => hu _ (markAt_mem hi)
      cases hp : parseL ere l with
      | error q =>
        obtain ⟨e0, i0⟩ := q
        rw [hp] at h
        have hb := (parseL_bad hu' hp).1
        simp only [parA, Prod.mk.injEq] at h
        omega
      | ok re =>
        rw [hp] at h
        simp only [parA, Prod.mk.injEq] at h
        obtain ⟨rfl, _, rfl⟩ := h
        obtain ⟨hs, hpos, _⟩ := parseL_says hp
        have hne : re ≠ [] := by intro e; rw [e] at hpos; simp at hpos
        have hr : rightA ⟨3, 0, re⟩ = true := by simp [rightA, hs]
        refine ⟨hr, ⟨fun h => (by cases h), fun h => (by omega)⟩, ?_⟩
        rw [printA_three hr, betweenA, if_neg hne]
        cases hsp : spellN ere re with
        | none =>
          right
          refine ⟨rfl, ?_⟩
          rcases parse_spell8 hu' hp with ⟨s, h⟩ | h
          · rw [hsp] at h; cases h
          · omega
        | some s =>
          left
          obtain ⟨t, ht⟩ := spell_text hsp
          exact ⟨_, by simp only; rw [ht]⟩
theorem read_right {ere : Bool} {T : List Nat} {b : Ad} {at_ : Nat} (hT : ∀ j, T.getD j 0 < 256) (h : addrL ere T 0 = (b, 0, at_)) : Reads ere b at_ := by
  by_cases hl : T.length ≤ 0
  · rw [addrL_end ere hl] at h
    cases h
    exact reads_zero ere
  have hl : 0 < T.length := by omega
  by_cases hd : 48 ≤ T.getD 0 0 ∧ T.getD 0 0 ≤ 57
  · rw [addrL_num ere hl hd] at h
    cases hq : numS T 2147483647 0 with
    | none => rw [hq] at h; simp [numA] at h
    | some p =>
      obtain ⟨v, j⟩ := p
      have hn := numS_at hq (by omega)
      simp only at hn
      rw [hq, numA] at h
      split at h
      · simp at h
      · rename_i hv
        cases h
        have hr : rightA ⟨1, (v : Int), []⟩ = true := by simp [rightA]; omega
        exact ⟨hr, ⟨fun h => (by cases h), fun h => (by omega)⟩, .inl ⟨itoB v, by unfold printA; rw [if_neg (by rw [hr]; decide)]; rfl⟩⟩
  by_cases h36 : T.getD 0 0 = 36
  · rw [addrL_last ere hl h36] at h
    cases h
    exact ⟨rfl, ⟨fun h => (by cases h), fun h => (by cases h)⟩, .inl ⟨[36], rfl⟩⟩
  by_cases h92 : T.getD 0 0 = 92
  · by_cases h1 : T.length ≤ 0 + 1
    · rw [addrL_cut ere hl h92 h1] at h
      simp at h
    · rw [addrL_own ere hl h92 (by omega)] at h
      exact tail_reads hT h
  by_cases h47 : T.getD 0 0 = 47
  · rw [addrL_slash ere hl h47] at h
    exact tail_reads hT h
  rw [addrL_other ere hl hd h36 h92 h47] at h
  cases h
  exact reads_zero ere
/-- With an error there is nothing else. -/
theorem numA_zero {i e at_ : Nat} {b : Ad} {o : Option (Nat × Nat)} (h : numA i o = (b, e, at_)) (he : e ≠ 0) : b = Ad.zero := by
  cases o with
  | none => simp only [numA, Prod.mk.injEq] at h; exact h.1.symm
  | some p =>
    obtain ⟨v, j⟩ := p
    rw [numA] at h
    split at h <;> simp only [Prod.mk.injEq] at h
    · exact h.1.symm
    · omega
theorem tail_zero {ere : Bool} {T : List Nat} {k e at_ : Nat} {b : Ad} (h : tailA ere T k = (b, e, at_)) (he : e ≠ 0) : b = Ad.zero := by
  rw [tailA_of rfl] at h
  cases hq : partS T (T.getD k 0) false (k + 1) with
  | none => rw [hq] at h; simp only [tailB, Prod.mk.injEq] at h; exact h.1.symm
  | some p =>
    obtain ⟨l, j⟩ := p
    rw [hq] at h
    by_cases hl : l = []
    · subst hl
      rw [tailB_nil] at h
      simp only [Prod.mk.injEq] at h
      omega
    · rw [tailB_some hl] at h
      cases hp : parseL ere l with
      | error q => rw [hp] at h; simp only [parA, Prod.mk.injEq] at h; exact h.1.symm
      | ok re => rw [hp] at h; simp only [parA, Prod.mk.injEq] at h; omega
theorem read_zero {ere : Bool} {T : List Nat} {b : Ad} {e at_ : Nat} (h : addrL ere T 0 = (b, e, at_)) (he : e ≠ 0) : b = Ad.zero := by
  by_cases hl : T.length ≤ 0
  · rw [addrL_end ere hl] at h
    simp only [Prod.mk.injEq] at h
    exact h.1.symm
  have hl : 0 < T.length := by omega
  by_cases hd : 48 ≤ T.getD 0 0 ∧ T.getD 0 0 ≤ 57
  · rw [addrL_num ere hl hd] at h
    exact numA_zero h he
  by_cases h36 : T.getD 0 0 = 36
  · rw [addrL_last ere hl h36] at h
    simp only [Prod.mk.injEq] at h
    omega
  by_cases h92 : T.getD 0 0 = 92
  · by_cases h1 : T.length ≤ 0 + 1
    · rw [addrL_cut ere hl h92 h1] at h
      simp only [Prod.mk.injEq] at h
      exact h.1.symm
    · rw [addrL_own ere hl h92 (by omega)] at h
      exact tail_zero h he
  by_cases h47 : T.getD 0 0 = 47
  · rw [addrL_slash ere hl h47] at h
    exact tail_zero h he
  rw [addrL_other ere hl hd h36 h92 h47] at h
  simp only [Prod.mk.injEq] at h
  exact h.1.symm
/-! ### Bytes -/
theorem textT_lt {d : Nat} (hd : d < 256) : ∀ (l : List Mk) (t : Bool) (s : List Nat), (∀ m ∈ l, m.b < 256) → textT d t l = some s → ∀ x ∈ s, x < 256
  | [], t, s, _, h => by
    unfold textT at h
    split at h <;> simp at h
    subst h
    simp
  | m :: l, true, s, hl, h => by
    unfold textT at h
    split at h
    · cases h
    · obtain ⟨s', h', rfl⟩ := Option.map_eq_some_iff.1 h
      intro x hx
      rcases List.mem_cons.1 hx with rfl | hx
      · exact hl m (List.mem_cons_self ..)
      · exact textT_lt hd l _ _ (fun y hy => hl y (List.mem_cons_of_mem _ hy)) h' x hx
  | m :: l, false, s, hl, h => by
    unfold textT at h
    split at h
    · split at h
      · obtain ⟨s', h', rfl⟩ := Option.map_eq_some_iff.1 h
        intro x hx
        rcases List.mem_cons.1 hx with rfl | hx
        · decide
        · rcases List.mem_cons.1 hx with rfl | hx
          · exact hd
          · exact textT_lt hd l _ _ (fun y hy => hl y (List.mem_cons_of_mem _ hy)) h' x hx
      · cases h
    · split at h
      · cases h
      · obtain ⟨s', h', rfl⟩ := Option.map_eq_some_iff.1 h
        intro x hx
        rcases List.mem_cons.1 hx with rfl | hx
        · exact hl m (List.mem_cons_self ..)
        · exact textT_lt hd l _ _ (fun y hy => hl y (List.mem_cons_of_mem _ hy)) h' x hx
theorem printA_lt {ere : Bool} {a : Ad} {s : List Nat} (h : printA ere a = .ok s) : (∀ x ∈ s, x < 256) ∧ s.length ≤ 100000 := by
  unfold printA at h
  split at h
  · cases h
  · rename_i hr
    split at h
    · cases h; exact ⟨by simp, by simp⟩
    · split at h
      · rename_i h0 h1
        cases h
        obtain ⟨k, n, re⟩ := a
        simp only at h1
        subst h1
        simp [rightA] at hr
        refine ⟨fun x hx => (itoB_ok n x hx).2, ?_⟩
        obtain ⟨m, rfl⟩ : ∃ m : Nat, n = m := ⟨n.toNat, by omega⟩
        rw [show itoB (m : Int) = digB m from itoB_nat m]
        have := digB_len20 9 m (by omega)
        omega
      · split at h
        · cases h; exact ⟨by simp, by simp⟩
        · unfold betweenA at h
          split at h
          · cases h; exact ⟨by simp, by simp⟩
          · split at h
            · cases h
            · rename_i sp hsp
              split at h
              · cases h
              · rename_i t ht
                cases h
                have hok := spellN_okb hsp
                have hm : ∀ m ∈ slashed sp, m.b < 256 := fun m hm => by
                  simp only [slashed, List.mem_map] at hm
                  obtain ⟨b, hb, rfl⟩ := hm
                  exact (hok.1 b hb).2
                unfold textL at ht
                rw [if_neg (by decide)] at ht
                have htl := textT_length 47 (slashed sp) false t ht
                have hsl : (slashed sp).length = sp.length := by simp [slashed]
                refine ⟨fun x hx => ?_, by simp; omega⟩
                rcases List.mem_append.1 hx with hx | hx
                · rcases List.mem_cons.1 hx with rfl | hx
                  · decide
                  · exact textT_lt (by decide) _ _ _ hm ht x hx
                · simp only [List.mem_singleton] at hx; subst hx; decide
end Go.Proofs.YtfjbnpdffillbaaGreatDoor
