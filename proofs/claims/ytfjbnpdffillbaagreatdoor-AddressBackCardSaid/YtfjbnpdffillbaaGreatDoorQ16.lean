/- Parts: Pj Kb Ga Gb Gc Fe Gg Gd Ge. -/
import Derived.Test.YtfjbnpdffillbaaGreatDoorQ15
import Derived.Test.YtfjbnpdffillbaaGreatDoorQ14
import Derived.Test.YtfjbnpdffillbaaGreatDoorQ0
import Derived.Lib.ItoaNum
/- The plain law of intervals: an interval of any two numbers. No program in sight. -/
namespace Go.Proofs.YtfjbnpdffillbaaGreatDoor

/-- Special marks of bytes. -/
def mk (b : Nat) : Mk := ⟨b, false⟩
def step (n : Int) (b : Nat) : Int := min (max n 0 * 10 + ((b : Int) - 48)) 256
theorem numberL_digits {L : List Mk} {rest : List Mk} (hr : ∀ m l, rest = m :: l → m.p = true ∨ m.b < 48 ∨ 57 < m.b) :
    ∀ (ds : List Nat) (f i : Nat) (n : Int), L.drop i = ds.map mk ++ rest → (∀ d ∈ ds, 48 ≤ d ∧ d ≤ 57) → ds.length ≤ f → L.length ≤ i + f → numberL L f n i = (ds.foldl step n, i + ds.length) := by
  intro ds
  induction ds with
  | nil =>
    intro f i n hL _ _ hlen
    cases f with
    | zero => rfl
    | succ f =>
      simp only [List.map_nil, List.nil_append] at hL
      rw [numberL]
      split
      · rfl
      · rename_i hi
        have hi' : i < L.length := by omega
        have hd : L.drop i = L[i] :: L.drop (i + 1) := List.drop_eq_getElem_cons hi'
        have hm : markAt L i = L[i] := by simp [markAt, List.getD_eq_getElem?_getD, List.getElem?_eq_getElem hi']
        rw [if_pos]
        · rfl
        · rw [hm]
          rcases hr L[i] (L.drop (i + 1)) (by rw [← hL, hd]) with h | h | h
          · simp [h]
          · simp [h]
          · simp [h]
  | cons d ds ih =>
    intro f i n hL hd hf hlen
    cases f with
    | zero => simp at hf
    | succ f =>
      have hi : i < L.length := by
        by_cases h : i < L.length
        · exact h
        · rw [List.drop_eq_nil_of_le (by omega)] at hL
          simp at hL
      have hdr : L.drop i = L[i] :: L.drop (i + 1) := List.drop_eq_getElem_cons hi
      rw [hdr] at hL
      simp only [List.map_cons, List.cons_append, List.cons.injEq] at hL
      have hm : markAt L i = mk d := by simp [markAt, List.getD_eq_getElem?_getD, List.getElem?_eq_getElem hi, hL.1]
      have hdd := hd d (List.mem_cons_self ..)
      rw [numberL, if_neg (by omega), hm, if_neg (show ¬ ((mk d).p || decide ((mk d).b < 48) || decide (57 < (mk d).b)) = true by show ¬ (false || decide (d < 48) || decide (57 < d)) = true; rw [decide_eq_false (show ¬ d < 48 by omega), decide_eq_false (show ¬ 57 < d by omega)]; decide)]
      rw [show (mk d).b = d from rfl]
      rw [ih f (i + 1) _ hL.2 (fun x hx => hd x (List.mem_cons_of_mem _ hx)) (by simp only [List.length_cons] at hf; omega) (by omega)]
      simp only [List.foldl_cons, step, List.length_cons]
      congr 1
      omega
/-- The bytes of a number's numeral. -/
def digB (u : Nat) : List Nat := (Lib.decDigits u).map (·.toNat)
theorem digB_small {u : Nat} (h : u < 10) : digB u = [48 + u] := by
  rw [digB, Lib.decDigits, dif_pos h]
  simp only [List.map_cons, List.map_nil, List.cons.injEq, and_true]
  rw [UInt8.toNat_ofNat']
  omega
theorem digB_big {u : Nat} (h : ¬ u < 10) : digB u = digB (u / 10) ++ [48 + u % 10] := by
  rw [digB, Lib.decDigits, dif_neg h, List.map_append, ← digB]
  congr 1
  simp only [List.map_cons, List.map_nil, List.cons.injEq, and_true]
  rw [UInt8.toNat_ofNat']
  omega
theorem digB_digit (u : Nat) : ∀ d ∈ digB u, 48 ≤ d ∧ d ≤ 57 := by
  induction u using Nat.strongRecOn with
  | ind u ih =>
    by_cases h : u < 10
    · rw [digB_small h]; intro d hd; simp at hd; omega
    · rw [digB_big h]
      intro d hd
      rcases List.mem_append.1 hd with hd | hd
      · exact ih (u / 10) (by omega) d hd
      · simp at hd; omega
theorem digB_fold (u : Nat) : (digB u).foldl step (-1) = min (u : Int) 256 := by
  induction u using Nat.strongRecOn with
  | ind u ih =>
    by_cases h : u < 10
    · rw [digB_small h]; simp only [List.foldl_cons, List.foldl_nil, step]; omega
    · rw [digB_big h, List.foldl_append, ih (u / 10) (by omega)]
      simp only [List.foldl_cons, List.foldl_nil, step]
      omega
theorem digB_len (u : Nat) : 0 < (digB u).length := by
  by_cases h : u < 10
  · rw [digB_small h]; simp
  · rw [digB_big h]; simp
theorem digB_len20 : ∀ (k u : Nat), u < 10 ^ (k + 1) → (digB u).length ≤ k + 1
  | 0, u, h => by rw [digB_small (by omega)]; simp
  | k + 1, u, h => by
    by_cases h1 : u < 10
    · rw [digB_small h1]; simp
    · rw [digB_big h1, List.length_append, List.length_singleton]
      have := digB_len20 k (u / 10) (by rw [Nat.pow_succ] at h; omega)
      omega
theorem numL_digits {L rest : List Mk} (hr : ∀ m l, rest = m :: l → m.p = true ∨ m.b < 48 ∨ 57 < m.b) {i u : Nat} (hL : L.drop i = (digB u).map mk ++ rest) : numL L i = (min (u : Int) 256, i + (digB u).length) := by
  have hlen : L.length - i = (digB u).length + rest.length := by rw [← List.length_drop, hL, List.length_append, List.length_map]
  rw [numL, numberL_digits hr (digB u) _ i (-1) hL (digB_digit u) (by omega) (by omega), digB_fold]
theorem numL_none {L : List Mk} {i : Nat} {rest : List Mk} (hr : ∀ m l, rest = m :: l → m.p = true ∨ m.b < 48 ∨ 57 < m.b) (hL : L.drop i = rest) : numL L i = (-1, i) := by
  rw [numL, numberL_digits hr [] _ i (-1) (by simpa using hL) (by simp) (by simp) (by omega)]
  rfl
/-- A number's text. -/
def itoB (m : Int) : List Nat := if m < 0 then 45 :: digB m.natAbs else digB m.toNat
theorem signB_len (ere : Bool) (c : Nat) : (signB ere c).length = wideB ere := by cases ere <;> rfl
theorem itoB_len {m : Int} (h1 : -9223372036854775808 ≤ m) (h2 : m ≤ 9223372036854775807) : (itoB m).length ≤ 20 := by
  unfold itoB
  split
  · rw [List.length_cons]
    have := digB_len20 18 m.natAbs (by omega)
    omega
  · have := digB_len20 18 m.toNat (by omega)
    omega
end Go.Proofs.YtfjbnpdffillbaaGreatDoor

/- Plain functions on trees: what package spell writes. No program in sight. No condition. -/
namespace Go.Proofs.YtfjbnpdffillbaaGreatDoor

/-- The bytes that stand for themselves behind a backslash alone. -/
def spB (ere : Bool) : List Nat := [46, 91, 42, 94, 36, 92] ++ (if ere then [40, 41, 43, 63, 123, 124] else [])
/-- A set of one byte. -/
def byteB (ere : Bool) (b : Nat) : List Nat := if b = 10 then [92, 110] else if (spB ere).contains b then [92, b] else [b]
/-- A set. -/
def setB (ere : Bool) (c : Cls) : List Nat := if c.els.length = 256 then [46] else match c.els with
  | [b] => byteB ere b
  | _ => brackB c
/-- A duplication. -/
def dupB (ere : Bool) (n : Nd) : List Nat :=
  if n.min = 0 ∧ n.max < 0 then [42]
  else if ere = true ∧ n.min = 1 ∧ n.max < 0 then [43]
  else if ere = true ∧ n.min = 0 ∧ n.max = 1 then [63]
  else signB ere 123 ++ (itoB n.min ++ ((if n.max = n.min then [] else 44 :: (if 0 ≤ n.max then itoB n.max else [])) ++ signB ere 125))
/-- What is written of a node as an atom, and the place behind it; 'wh': what is written of what is in a group. -/
def atomP (ere : Bool) (re : List Nd) (wh : Nat → Option (List Nat × Nat)) (i : Nat) : Option (List Nat × Nat) :=
  match re[i]? with
  | none => none
  | some n =>
    if n.op = 1 then some (setB ere n.set, i + 1)
    else if n.op = 7 then
      match re[i + 1]? with
      | none => none
      | some k =>
        if k.op = 4 ∧ k.kids = 0 then some (signB ere 40 ++ signB ere 41, i + 2)
        else match wh (i + 1) with
          | none => none
          | some (s, j) => some (signB ere 40 ++ (s ++ signB ere 41), j)
    else if n.op = 8 then if ere = true ∨ 9 < n.n then none else some (92 :: itoB n.n, i + 1)
    else none
/-- A part of a row. -/
def partP (ere : Bool) (re : List Nd) (wh : Nat → Option (List Nat × Nat)) (first last : Bool) (i : Nat) : Option (List Nat × Nat) :=
  match re[i]? with
  | none => none
  | some n =>
    if n.op = 2 then if ere || first then some ([94], i + 1) else none
    else if n.op = 3 then if ere || last then some ([36], i + 1) else none
    else if n.op = 6 then
      match atomP ere re wh (i + 1) with
      | none => none
      | some (s, j) => some (s ++ dupB ere n, j)
    else atomP ere re wh i
/-- So many parts more. -/
def partsP (ere : Bool) (re : List Nd) (wh : Nat → Option (List Nat × Nat)) : Nat → Bool → Nat → Option (List Nat × Nat)
  | 0, _, i => some ([], i)
  | k + 1, first, i =>
    match partP ere re wh first (k == 0) i with
    | none => none
    | some (s, j) =>
      match partsP ere re wh k false j with
      | none => none
      | some (t, e) => some (s ++ t, e)
def rowP (ere : Bool) (re : List Nd) (wh : Nat → Option (List Nat × Nat)) (i : Nat) : Option (List Nat × Nat) :=
  match re[i]? with
  | none => none
  | some n => if n.op ≠ 4 then partP ere re wh true true i else if n.kids ≤ 0 then none else partsP ere re wh n.kids.toNat true (i + 1)
/-- So many rows more. -/
def rowsP (ere : Bool) (re : List Nd) (wh : Nat → Option (List Nat × Nat)) : Nat → Bool → Nat → Option (List Nat × Nat)
  | 0, _, i => some ([], i)
  | k + 1, first, i =>
    match rowP ere re wh i with
    | none => none
    | some (s, j) =>
      match rowsP ere re wh k false j with
      | none => none
      | some (t, e) => some ((if first then [] else [124]) ++ (s ++ t), e)
/-- The whole, or what is in a group; so many groups may stand in one another. -/
def wholeP (ere : Bool) (re : List Nd) : Nat → Nat → Option (List Nat × Nat)
  | 0, _ => none
  | f + 1, i =>
    match re[i]? with
    | none => none
    | some n => if n.op ≠ 5 then rowP ere re (wholeP ere re f) i else if ere then rowsP ere re (wholeP ere re f) n.kids.toNat true (i + 1) else none
/-- What Print answers: the bytes; none: there is no spelling. -/
def spellN (ere : Bool) (re : List Nd) : Option (List Nat) :=
  match wholeP ere re 66 0 with
  | none => none
  | some (s, _) => if s.length ≤ 4096 then some s else none
/-- What Text writes, from a state: does a backslash take the mark at hand with it? -/
def textT (d : Nat) : Bool → List Mk → Option (List Nat)
  | taken, [] => if taken then none else some []
  | true, m :: l => if m.p || m.b == d then none else (textT d false l).map fun s => m.b :: s
  | false, m :: l =>
    if m.p then (if m.b = d then (textT d false l).map fun s => 92 :: d :: s else none)
    else if m.b = d ∨ m.b = 10 then none
    else (textT d (m.b == 92) l).map fun s => m.b :: s
def textL (d : Nat) (l : List Mk) : Option (List Nat) := if d = 92 ∨ d = 10 then none else textT d false l
theorem textT_length (d : Nat) : ∀ (l : List Mk) (t : Bool) (s : List Nat), textT d t l = some s → s.length ≤ 2 * l.length
  | [], t, s, h => by
    unfold textT at h
    split at h <;> simp at h
    subst h; simp
  | m :: l, true, s, h => by
    unfold textT at h
    split at h
    · cases h
    · obtain ⟨s', h', rfl⟩ := Option.map_eq_some_iff.1 h
      have := textT_length d l _ _ h'
      simp only [List.length_cons]; omega
  | m :: l, false, s, h => by
    unfold textT at h
    split at h
    · split at h
      · obtain ⟨s', h', rfl⟩ := Option.map_eq_some_iff.1 h
        have := textT_length d l _ _ h'
        simp only [List.length_cons]; omega
      · cases h
    · split at h
      · cases h
      · obtain ⟨s', h', rfl⟩ := Option.map_eq_some_iff.1 h
        have := textT_length d l _ _ h'
        simp only [List.length_cons]; omega
end Go.Proofs.YtfjbnpdffillbaaGreatDoor

/- Plain laws of printed brackets: how many runs a class has; what is printed of a class is read as the class. No program in sight. No condition. -/
namespace Go.Proofs.YtfjbnpdffillbaaGreatDoor

/-- Marks of bytes: special, but a slash may be plain. -/
def mq (q : Bool) (b : Nat) : Mk := ⟨b, q && b == 47⟩
theorem mq_ne {q : Bool} {b : Nat} (h : b ≠ 47) : mq q b = ⟨b, false⟩ := by
  unfold mq
  rw [beq_eq_false_iff_ne.2 h, Bool.and_false]
theorem mq_sign {q : Bool} {b c : Nat} (h : c ≠ 47) : ((mq q b).b == c && !(mq q b).p) = (b == c) := by
  by_cases hb : b = 47
  · rw [show (b == c) = false from beq_eq_false_iff_ne.2 (by omega)]
    show (b == c && _) = false
    rw [show (b == c) = false from beq_eq_false_iff_ne.2 (by omega), Bool.false_and]
  · rw [mq_ne hb]
    show (b == c && !false) = _
    rw [Bool.not_false, Bool.and_true]
variable {q : Bool}

/-! ### Runs -/
def inRuns (l : List (Nat × Nat)) (x : Nat) : Prop := ∃ r, r ∈ l ∧ r.1 ≤ x ∧ x ≤ r.2
/-- At how many places below n a run begins. -/
def starts (p : Nat → Bool) : Nat → Nat
  | 0 => 0
  | n + 1 => starts p n + (p n && (n == 0 || !p (n - 1))).toNat
theorem starts_congr {p q : Nat → Bool} : ∀ (n : Nat), (∀ i, i < n → p i = q i) → starts p n = starts q n
  | 0, _ => rfl
  | n + 1, h => by
    rw [starts, starts, starts_congr n (fun i hi => h i (by omega)), h n (by omega)]
    cases n with
    | zero => cases q 0 <;> rfl
    | succ n => rw [show n + 1 - 1 = n from rfl, h n (by omega)]
theorem starts_or (p q : Nat → Bool) : ∀ (n : Nat), starts (fun i => p i || q i) n ≤ starts p n + starts q n
  | 0 => Nat.zero_le _
  | n + 1 => by
    have ih := starts_or p q n
    simp only [starts]
    have hb : ∀ a b c d e : Bool, ((a || b) && (e || !(c || d))).toNat ≤ (a && (e || !c)).toNat + (b && (e || !d)).toNat := by decide
    have := hb (p n) (q n) (p (n - 1)) (q (n - 1)) (n == 0)
    omega
theorem starts_not (p : Nat → Bool) : ∀ (n : Nat), starts (fun i => !p i) (n + 1) + (p 0).toNat + (p n).toNat = starts p (n + 1) + 1
  | 0 => by
    simp only [starts]
    cases p 0 <;> rfl
  | n + 1 => by
    have ih := starts_not p n
    rw [starts, starts.eq_2 p]
    rw [show n + 1 - 1 = n from rfl, show (n + 1 == 0) = false from rfl]
    have hb : ∀ a b : Bool, (!a && (false || !!b)).toNat + a.toNat = (a && (false || !b)).toNat + b.toNat := by decide
    have := hb (p (n + 1)) (p n)
    omega
theorem starts_not_le (p : Nat → Bool) : starts (fun i => !p i) 256 ≤ starts p 256 + 1 := by
  have : starts (fun i => !p i) 256 + (p 0).toNat + (p 255).toNat = starts p 256 + 1 := starts_not p 255
  omega
theorem starts_range (lo hi : Nat) : ∀ (n : Nat), starts (fun i => decide (lo ≤ i) && decide (i ≤ hi)) n ≤ (decide (lo < n)).toNat
  | 0 => Nat.zero_le _
  | n + 1 => by
    have ih := starts_range lo hi n
    rw [starts]
    by_cases h1 : lo < n
    · rw [decide_eq_true h1] at ih
      rw [decide_eq_true (show lo < n + 1 by omega)]
      have hz : ((decide (lo ≤ n) && decide (n ≤ hi)) && (n == 0 || !(decide (lo ≤ n - 1) && decide (n - 1 ≤ hi)))) = false := by
        rw [show (n == 0) = false by simp; omega, decide_eq_true (show lo ≤ n - 1 by omega), decide_eq_true (show lo ≤ n by omega)]
        by_cases h2 : n ≤ hi
        · rw [decide_eq_true h2, decide_eq_true (show n - 1 ≤ hi by omega)]; rfl
        · rw [decide_eq_false h2]; rfl
      rw [hz]
      exact ih
    · rw [decide_eq_false h1] at ih
      by_cases h2 : lo ≤ n
      · rw [decide_eq_true (show lo < n + 1 by omega)]
        have := Bool.toNat_le ((decide (lo ≤ n) && decide (n ≤ hi)) && (n == 0 || !(decide (lo ≤ n - 1) && decide (n - 1 ≤ hi))))
        have h3 : false.toNat = 0 := rfl
        have h4 : true.toNat = 1 := rfl
        omega
      · rw [decide_eq_false h2, Bool.false_and, Bool.false_and]
        have h3 : false.toNat = 0 := rfl
        omega
/-- The runs of the bytes below n. -/
structure RunsOk (l : List (Nat × Nat)) (p : Nat → Bool) (n : Nat) : Prop where
  le : ∀ r ∈ l, r.1 ≤ r.2 ∧ r.2 < n ∧ p r.1 = true ∧ p r.2 = true
  cover : ∀ x, inRuns l x ↔ (x < n ∧ p x = true)
  last : ∀ ys r, l = ys ++ [r] → (r.2 + 1 = n ↔ p (n - 1) = true)
  len : l.length = starts p n
theorem runsOk (p : Nat → Bool) : ∀ n, RunsOk (runsOf ((List.range n).filter p)) p n
  | 0 => ⟨by simp [runsOf], fun x => by simp [runsOf, inRuns], fun ys r h => by simp [runsOf] at h, rfl⟩
  | n + 1 => by
    have ih := runsOk p n
    rw [List.range_succ, List.filter_append]
    generalize hG : (List.range n).filter p = G at ih ⊢
    cases hp : p n with
    | false =>
      have : [n].filter p = [] := by simp [hp]
      rw [this, List.append_nil]
      refine ⟨fun r hr => ?_, fun x => ?_, fun ys r h => ?_, ?_⟩
      · have := ih.le r hr
        exact ⟨this.1, by omega, this.2.2⟩
      · rw [ih.cover]
        constructor
        · rintro ⟨h1, h2⟩; exact ⟨by omega, h2⟩
        · rintro ⟨h1, h2⟩
          refine ⟨?_, h2⟩
          by_cases hx : x = n
          · subst hx; rw [hp] at h2; cases h2
          · omega
      · have h1 := ih.le r (by rw [h]; simp)
        rw [Nat.add_sub_cancel, hp]
        constructor
        · intro h2; omega
        · intro h2; cases h2
      · rw [ih.len, starts, hp]; rfl
    | true =>
      have : [n].filter p = [n] := by simp [hp]
      rw [this]
      have hr : runsOf (G ++ [n]) = runAdd (runsOf G) n := by rw [runsOf, List.foldl_append]; rfl
      rw [hr]
      generalize runsOf G = l at ih ⊢
      unfold runAdd
      split
      · rename_i hl
        have hl' : l = [] := List.getLast?_eq_none_iff.1 hl
        subst hl'
        have hno : ∀ x, x < n → p x = false := fun x hx => by
          cases h : p x with
          | false => rfl
          | true =>
            obtain ⟨r, hr, _⟩ := (ih.cover x).2 ⟨hx, h⟩
            simp at hr
        refine ⟨fun r hr => ?_, fun x => ?_, fun ys r h => ?_, ?_⟩
        · simp only [List.mem_singleton] at hr
          subst hr
          exact ⟨Nat.le_refl _, Nat.lt_succ_self _, hp, hp⟩
        · constructor
          · rintro ⟨r, hr, h1, h2⟩
            simp only [List.mem_singleton] at hr
            subst hr
            have : x = n := Nat.le_antisymm h2 h1
            subst this
            exact ⟨Nat.lt_succ_self _, hp⟩
          · rintro ⟨h1, h2⟩
            refine ⟨(n, n), by simp, ?_⟩
            by_cases hx : x = n
            · subst hx; exact ⟨Nat.le_refl _, Nat.le_refl _⟩
            · rw [hno x (by omega)] at h2; cases h2
        · have h1 : ys = [] ∧ r = (n, n) := by
            cases ys with
            | nil => simp at h; exact ⟨rfl, h.symm⟩
            | cons y ys => simp at h
          rw [h1.2, Nat.add_sub_cancel]
          simp [hp]
        · have h0 := ih.len
          simp only [List.length_nil] at h0
          rw [starts, ← h0, hp]
          have : (n == 0 || !p (n - 1)) = true := by
            cases n with
            | zero => rfl
            | succ n => rw [show n + 1 - 1 = n from rfl, hno n (Nat.lt_succ_self _)]; rfl
          rw [this]
          rfl
      · rename_i r0 hl
        obtain ⟨ys, rfl⟩ := List.getLast?_eq_some_iff.1 hl
        have hla := ih.last ys r0 rfl
        have hle := ih.le r0 (by simp)
        split
        · rename_i he
          rw [List.dropLast_concat]
          have hpn := hla.1 he
          refine ⟨fun r hr => ?_, fun x => ?_, fun zs r h => ?_, ?_⟩
          · rcases List.mem_append.1 hr with h | h
            · have := ih.le r (List.mem_append_left _ h)
              exact ⟨this.1, by omega, this.2.2⟩
            · simp only [List.mem_singleton] at h
              subst h
              exact ⟨by show r0.1 ≤ n; omega, Nat.lt_succ_self _, hle.2.2.1, hp⟩
          · constructor
            · rintro ⟨r, hr, h1, h2⟩
              rcases List.mem_append.1 hr with h | h
              · have := (ih.cover x).1 ⟨r, List.mem_append_left _ h, h1, h2⟩
                exact ⟨by omega, this.2⟩
              · simp only [List.mem_singleton] at h
                subst h
                simp only at h1 h2
                by_cases hx : x = n
                · subst hx; exact ⟨Nat.lt_succ_self _, hp⟩
                · have := (ih.cover x).1 ⟨r0, by simp, h1, by omega⟩
                  exact ⟨by omega, this.2⟩
            · rintro ⟨h1, h2⟩
              by_cases hx : x = n
              · subst hx
                exact ⟨(r0.1, x), by simp, by show r0.1 ≤ x; omega, Nat.le_refl _⟩
              · obtain ⟨r, hr, h3, h4⟩ := (ih.cover x).2 ⟨by omega, h2⟩
                rcases List.mem_append.1 hr with h | h
                · exact ⟨r, List.mem_append_left _ h, h3, h4⟩
                · simp only [List.mem_singleton] at h
                  subst h
                  exact ⟨(r.1, n), by simp, h3, by show x ≤ n; omega⟩
          · have h1 : r = (r0.1, n) := by
              have := congrArg List.getLast? h
              simpa using this.symm
            rw [h1, Nat.add_sub_cancel]
            simp [hp]
          · rw [starts, ← ih.len, hp, hpn]
            have : (n == 0) = false := by
              have := hle.2.1
              simp; omega
            rw [this]
            simp
        · rename_i he
          have hpn : p (n - 1) = false := by
            cases h : p (n - 1) with
            | false => rfl
            | true => exact absurd (hla.2 h) he
          refine ⟨fun r hr => ?_, fun x => ?_, fun zs r h => ?_, ?_⟩
          · rcases List.mem_append.1 hr with h | h
            · have := ih.le r h
              exact ⟨this.1, by omega, this.2.2⟩
            · simp only [List.mem_singleton] at h
              subst h
              exact ⟨Nat.le_refl _, Nat.lt_succ_self _, hp, hp⟩
          · constructor
            · rintro ⟨r, hr, h1, h2⟩
              rcases List.mem_append.1 hr with h | h
              · have := (ih.cover x).1 ⟨r, h, h1, h2⟩
                exact ⟨by omega, this.2⟩
              · simp only [List.mem_singleton] at h
                subst h
                have : x = n := Nat.le_antisymm h2 h1
                subst this
                exact ⟨Nat.lt_succ_self _, hp⟩
            · rintro ⟨h1, h2⟩
              by_cases hx : x = n
              · subst hx
                exact ⟨(x, x), by simp, Nat.le_refl _, Nat.le_refl _⟩
              · obtain ⟨r, hr, h3⟩ := (ih.cover x).2 ⟨by omega, h2⟩
                exact ⟨r, List.mem_append_left _ hr, h3⟩
          · have h1 : r = (n, n) := by
              have := congrArg List.getLast? h
              simpa using this.symm
            rw [h1, Nat.add_sub_cancel]
            simp [hp]
          · rw [starts, List.length_append, ih.len, hp, hpn]
            simp
/-- How many runs a class has. -/
def Cls.starts (c : Cls) : Nat := Go.Proofs.YtfjbnpdffillbaaGreatDoor.starts c.has 256
theorem Cls.runsOk (c : Cls) : RunsOk c.runs c.has 256 := Go.Proofs.YtfjbnpdffillbaaGreatDoor.runsOk c.has 256
theorem runs_starts (c : Cls) : c.runs.length = c.starts := c.runsOk.len
theorem starts_orC (a b : Cls) : (a.or b).starts ≤ a.starts + b.starts := by
  unfold Cls.starts
  rw [starts_congr 256 (fun i _ => has_or a b i)]
  exact starts_or a.has b.has 256
theorem starts_notC (a : Cls) : a.not.starts ≤ a.starts + 1 := by
  unfold Cls.starts
  rw [starts_congr 256 (fun i _ => has_not a i)]
  exact starts_not_le a.has
theorem starts_rangeC {lo hi : Nat} (hh : hi < 256) : (Cls.range lo hi).starts ≤ 1 := by
  unfold Cls.starts
  rw [starts_congr 256 (fun i hi' => has_range hh hi')]
  have := starts_range lo hi 256
  have := Bool.toNat_le (decide (lo < 256))
  omega
theorem of_one {b : Nat} (hb : b < 256) : Cls.of [b] = Cls.range b b := Cls.ext' fun i hi => by
  rw [has_of (by simpa using hb) hi, has_range hb hi, ← Bool.decide_and, decide_eq_decide]
  simp only [List.mem_singleton]
  omega
theorem starts_ofC {b : Nat} (hb : b < 256) : (Cls.of [b]).starts ≤ 1 := by
  rw [of_one hb]; exact starts_rangeC hb
theorem starts_zero : Cls.zero.starts = 0 := by decide +kernel
theorem starts_named {s : List Nat} {c : Cls} (h : namedL s = some c) : c.starts ≤ 4 := by
  have step : ∀ {p : Prop} [Decidable p] {a c : Cls} {r : Option Cls}, (if p then some a else r) = some c → a = c ∨ r = some c := by
    intro p _ a c r h
    split at h
    · exact .inl (Option.some.inj h)
    · exact .inr h
  unfold namedL at h
  iterate 12
    rcases step h with rfl | h
    · decide +kernel
  cases h
/-! ### What is printed is read -/
section
variable {L : List Mk} {i : Nat}
theorem mark_drop {m : Mk} {r : List Mk} (h : L.drop i = m :: r) : markAt L i = m ∧ i < L.length ∧ L.drop (i + 1) = r := by
  have hi : i < L.length := by
    by_cases hi : i < L.length
    · exact hi
    · rw [List.drop_eq_nil_of_le (by omega)] at h; cases h
  rw [List.drop_eq_getElem_cons hi] at h
  simp only [List.cons.injEq] at h
  refine ⟨?_, hi, h.2⟩
  rw [markAt, List.getD_eq_getElem?_getD, List.getElem?_eq_getElem hi, Option.getD_some, h.1]
theorem sign_drop {m : Mk} {r : List Mk} (h : L.drop i = m :: r) (c : Nat) : signAt L i c = (m.b == c && !m.p) := by
  obtain ⟨h1, h2, _⟩ := mark_drop h
  rw [signAt, h1, decide_eq_true h2, Bool.true_and]
theorem sign_mk {b : Nat} {r : List Mk} (h : L.drop i = mq q b :: r) (c : Nat) (hc : c ≠ 47 := by decide) : signAt L i c = (b == c) := by
  rw [sign_drop h, mq_sign hc]
theorem len_drop {l : List Mk} (h : L.drop i = l) : L.length - i = l.length := by rw [← h, List.length_drop]
def escB (b : Nat) : Prop := b = 91 ∨ b = 93 ∨ b = 45 ∨ b = 94
instance (b : Nat) : Decidable (escB b) := by unfold escB; infer_instance
theorem endB_esc {b : Nat} (h : escB b) : endB b = [91, 46, b, 46, 93] := if_pos h
theorem endB_raw {b : Nat} (h : ¬ escB b) : endB b = [b] := if_neg h
theorem thing_end {at0 b : Nat} {rest : List Mk} (h : L.drop i = (endB b).map (mq q) ++ rest) : thingTh L at0 i = (⟨Cls.of [b], b, true, i + (endB b).length⟩, none) := by
  by_cases hb : escB b
  · rw [endB_esc hb] at h ⊢
    simp only [List.map_cons, List.map_nil, List.cons_append, List.nil_append] at h
    obtain ⟨m0, l0, d1⟩ := mark_drop h
    obtain ⟨m1, l1, d2⟩ := mark_drop d1
    rw [mq_ne (by decide)] at m1
    obtain ⟨m2, l2, d3⟩ := mark_drop d2
    obtain ⟨m3, l3, d4⟩ := mark_drop d3
    obtain ⟨m4, l4, d5⟩ := mark_drop d4
    have s0 : signAt L i 91 = true := sign_mk h 91
    have s3 : signAt L (i + 3) 46 = true := sign_mk d3 46
    have s4 : signAt L (i + 4) 93 = true := sign_mk d4 93
    unfold thingTh
    rw [if_neg (by omega), m1, s0, decide_eq_true l1]
    rw [if_neg (by decide), if_pos (by decide)]
    unfold enclosedTh
    rw [show (⟨46, false⟩ : Mk).b = 46 from rfl]
    rw [if_neg (by omega), s3, if_neg (by decide), if_neg (by omega), s4, if_neg (by decide), show i + 2 = i + 1 + 1 from rfl, m2]
    rfl
  · rw [endB_raw hb] at h ⊢
    simp only [List.map_cons, List.map_nil, List.cons_append, List.nil_append] at h
    obtain ⟨m0, l0, d1⟩ := mark_drop h
    have s0 : signAt L i 91 = false := by
      rw [sign_mk h 91]
      exact beq_eq_false_iff_ne.2 (fun e => hb (.inl e))
    unfold thingTh
    rw [if_neg (by omega), s0]
    simp only [Bool.false_and, Bool.false_eq_true, if_false, m0]
    rfl
def runC (r : Nat × Nat) : Cls := if r.2 = r.1 then Cls.of [r.1] else Cls.range r.1 r.2
theorem endB_head (b : Nat) : ∃ x l, endB b = x :: l ∧ x ≠ 45 ∧ x ≠ 93 ∧ x ≠ 94 := by
  by_cases hb : escB b
  · exact ⟨91, _, endB_esc hb, by decide, by decide, by decide⟩
  · refine ⟨b, [], endB_raw hb, ?_⟩
    unfold escB at hb
    omega
theorem runB_head (r : Nat × Nat) : ∃ x l, runB r = x :: l ∧ x ≠ 45 ∧ x ≠ 93 ∧ x ≠ 94 := by
  obtain ⟨x, l, h1, h2⟩ := endB_head r.1
  exact ⟨x, l ++ (if r.2 = r.1 then [] else 45 :: endB r.2), by rw [runB, h1]; rfl, h2⟩
theorem item_run {at0 : Nat} {r : Nat × Nat} {x : Nat} {rest : List Mk} {first : Bool} (hr : r.1 ≤ r.2) (hx : x ≠ 45) (h : L.drop i = (runB r).map (mq q) ++ mq q x :: rest) :
    ∃ t, itemTh L at0 i first = (t, none) ∧ t.next = i + (runB r).length ∧ t.set = runC r := by
  obtain ⟨lo, hi⟩ := r
  simp only at hr
  obtain ⟨y, l, hy, hy1, hy2, hy3⟩ := endB_head lo
  have hsgn : signAt L i 45 = false := by
    rw [runB, hy] at h
    simp only [List.cons_append, List.map_cons] at h
    rw [sign_mk h 45]
    exact beq_eq_false_iff_ne.2 hy1
  rw [runB, List.map_append, List.append_assoc] at h
  have h1 := thing_end (at0 := at0) h
  have hd : L.drop (i + (endB lo).length) = ((if hi = lo then [] else 45 :: endB hi) : List Nat).map (mq q) ++ mq q x :: rest := by
    rw [← List.drop_drop, h, List.drop_left' (by simp)]
  unfold itemTh
  rw [h1]
  simp only [hsgn, Bool.false_and, Bool.false_eq_true, if_false]
  by_cases he : hi = lo
  · rw [if_pos he] at hd
    simp only [List.map_nil, List.nil_append] at hd
    have hs : signAt L (i + (endB lo).length) 45 = false := by
      rw [sign_mk hd 45]
      exact beq_eq_false_iff_ne.2 hx
    rw [hs]
    simp only [Bool.not_false, Bool.true_or, if_true]
    refine ⟨_, rfl, ?_, ?_⟩
    · rw [runB]; simp [he]
    · rw [runC, if_pos (by exact he)]
  · rw [if_neg he] at hd
    simp only [List.map_cons, List.cons_append] at hd
    obtain ⟨_, l0, d1⟩ := mark_drop hd
    have hs : signAt L (i + (endB lo).length) 45 = true := by rw [sign_mk hd 45]; rfl
    obtain ⟨z, l', hz, hz1, hz2, hz3⟩ := endB_head hi
    have hs2 : signAt L (i + (endB lo).length + 1) 93 = false := by
      rw [hz] at d1
      simp only [List.map_cons, List.cons_append] at d1
      rw [sign_mk d1 93]
      exact beq_eq_false_iff_ne.2 hz2
    have hlt : i + (endB lo).length + 1 < L.length := by
      rw [hz] at d1
      simp only [List.map_cons, List.cons_append] at d1
      exact (mark_drop d1).2.1
    have h2 := thing_end (at0 := at0) d1
    rw [hs, hs2, decide_eq_false (by omega), h2]
    simp only [Bool.not_true, Bool.or_self, Bool.false_eq_true, if_false, Bool.false_or, decide_eq_true_eq]
    rw [if_neg (by omega)]
    refine ⟨_, rfl, ?_, ?_⟩
    · rw [runB]; simp [he]; omega
    · rw [runC, if_neg (by exact he)]
theorem items_runs {at0 : Nat} {rest : List Mk} : ∀ (l : List (Nat × Nat)) (f : Nat) (c : Cls) (i : Nat) (first : Bool), (∀ r ∈ l, r.1 ≤ r.2) → l.length < f → (first = true → l ≠ []) → L.drop i = (l.flatMap runB).map (mq q) ++ mq q 93 :: rest →
    itemsL L at0 f c i first = .ok (l.foldl (fun c r => c.or (runC r)) c, i + (l.flatMap runB).length)
  | [], f, c, i, first, _, hf, hn, h => by
    obtain ⟨f, rfl⟩ : ∃ k, f = k + 1 := ⟨f - 1, by simp at hf; omega⟩
    have hfi : first = false := by cases first with | false => rfl | true => exact absurd rfl (hn rfl)
    simp only [List.flatMap_nil, List.map_nil, List.nil_append] at h
    rw [itemsL, hfi, sign_mk h 93, if_pos (by decide)]
    rfl
  | r :: l, f, c, i, first, hr, hf, hn, h => by
    obtain ⟨f, rfl⟩ : ∃ k, f = k + 1 := ⟨f - 1, by simp at hf; omega⟩
    rw [List.flatMap_cons, List.map_append, List.append_assoc] at h
    have hno : signAt L i 93 = false := by
      obtain ⟨x, l2, hx, _, hx2, _⟩ := runB_head r
      rw [hx] at h
      simp only [List.map_cons, List.cons_append] at h
      rw [sign_mk h 93]
      exact beq_eq_false_iff_ne.2 hx2
    obtain ⟨x, rest2, hx, hx1⟩ : ∃ x rest2, (l.flatMap runB).map (mq q) ++ mq q 93 :: rest = mq q x :: rest2 ∧ x ≠ 45 := by
      cases l with
      | nil => exact ⟨93, rest, rfl, by decide⟩
      | cons r2 l =>
        obtain ⟨x, l2, hx, hx1, _⟩ := runB_head r2
        exact ⟨x, l2.map (mq q) ++ ((l.flatMap runB).map (mq q) ++ mq q 93 :: rest), by rw [List.flatMap_cons, hx]; simp, hx1⟩
    have h' := h
    rw [hx] at h'
    obtain ⟨t, h1, h2, h3⟩ := item_run (at0 := at0) (first := first) (hr r (List.mem_cons_self ..)) hx1 h'
    have hd : L.drop (i + (runB r).length) = (l.flatMap runB).map (mq q) ++ mq q 93 :: rest := by
      rw [← List.drop_drop, h, List.drop_left' (by simp)]
    rw [itemsL, hno, Bool.and_false, if_neg (by decide), h1]
    simp only
    rw [h2, h3, items_runs l f _ _ false (fun r h => hr r (List.mem_cons_of_mem _ h)) (by simp at hf; omega) (by simp) hd]
    simp only [List.foldl_cons, List.flatMap_cons, List.length_append, Nat.add_assoc]
theorem runs_fold_has {x : Nat} (hx : x < 256) : ∀ (l : List (Nat × Nat)) (c : Cls), (∀ r ∈ l, r.1 ≤ r.2 ∧ r.2 < 256) → ((l.foldl (fun c r => c.or (runC r)) c).has x = true ↔ (c.has x = true ∨ inRuns l x))
  | [], c, _ => by simp [inRuns]
  | r :: l, c, h => by
    have hr := h r (List.mem_cons_self ..)
    rw [List.foldl_cons, runs_fold_has hx l _ (fun r h' => h r (List.mem_cons_of_mem _ h')), has_or, Bool.or_eq_true]
    have hc : (runC r).has x = true ↔ r.1 ≤ x ∧ x ≤ r.2 := by
      unfold runC
      split
      · rename_i he
        rw [of_one (by omega), has_range (by omega) hx, Bool.and_eq_true, decide_eq_true_eq, decide_eq_true_eq]
        omega
      · rw [has_range hr.2 hx, Bool.and_eq_true, decide_eq_true_eq, decide_eq_true_eq]
    rw [hc]
    constructor
    · rintro ((h1 | h1) | ⟨q, hq, h1⟩)
      · exact .inl h1
      · exact .inr ⟨r, List.mem_cons_self .., h1⟩
      · exact .inr ⟨q, List.mem_cons_of_mem _ hq, h1⟩
    · rintro (h1 | ⟨q, hq, h1⟩)
      · exact .inl (.inl h1)
      · rcases List.mem_cons.1 hq with rfl | hq
        · exact .inl (.inr h1)
        · exact .inr ⟨q, hq, h1⟩
theorem runs_fold (c : Cls) : c.runs.foldl (fun c r => c.or (runC r)) Cls.zero = c := Cls.ext' fun i hi => by
  have h := runs_fold_has hi c.runs Cls.zero (fun r hr => ⟨(c.runsOk.le r hr).1, (c.runsOk.le r hr).2.1⟩)
  rw [has_zero, c.runsOk.cover] at h
  simp only [Bool.false_eq_true, false_or, hi, true_and] at h
  cases h1 : (c.runs.foldl (fun c r => c.or (runC r)) Cls.zero).has i <;> cases h2 : c.has i <;> simp_all
theorem runs_nil {c : Cls} (h : c.runs = []) : c = Cls.zero := by
  rw [← runs_fold c, h]; rfl
theorem allC_has {i : Nat} (hi : i < 256) : allC.has i = true := by
  rw [allC, has_range (by decide) hi, Bool.and_eq_true, decide_eq_true_eq, decide_eq_true_eq]
  omega
theorem not_zero : Cls.zero.not = allC := Cls.ext' fun i hi => by rw [has_not, has_zero, allC_has hi]; rfl
theorem not_not (c : Cls) : c.not.not = c := Cls.ext' fun i _ => by rw [has_not, has_not, Bool.not_not]
/-- The class whose runs are written. -/
def Cls.side (c : Cls) : Cls := if c.neg then c.not else c
theorem side_ne (c : Cls) : c.side ≠ Cls.zero := by
  unfold Cls.side
  split
  · rename_i h
    intro e
    have : c = allC := by rw [← not_zero, ← e, not_not]
    unfold Cls.neg at h
    simp [this] at h
  · rename_i h
    intro e
    subst e
    apply h
    unfold Cls.neg
    rw [decide_eq_true (show Cls.zero = Cls.zero from rfl), Bool.or_true, Bool.and_true]
    decide +kernel
theorem brackB_side (c : Cls) : brackB c = 91 :: ((if c.neg then [94] else []) ++ (c.side.runs.flatMap runB ++ [93])) := by
  unfold brackB Cls.side
  rw [List.singleton_append]
/-- What is printed of a class is read as it. -/
theorem bracketL_brackB {c : Cls} {rest : List Mk} (h : L.drop i = (brackB c).map (mq q) ++ rest) : bracketL L i = .ok (c, i + (brackB c).length) := by
  have hs := side_ne c
  have hle : ∀ r ∈ c.side.runs, r.1 ≤ r.2 := fun r hr => (c.side.runsOk.le r hr).1
  have hne : c.side.runs ≠ [] := fun e => hs (runs_nil e)
  have hfold := runs_fold c.side
  have hlen := len_drop h
  rw [brackB_side] at h hlen ⊢
  obtain ⟨x, l2, hx, hx1⟩ : ∃ x l2, c.side.runs.flatMap runB = x :: l2 ∧ x ≠ 94 := by
    cases hr : c.side.runs with
    | nil => exact absurd hr hne
    | cons r l =>
      obtain ⟨x, l2, hx, _, _, hx3⟩ := runB_head r
      exact ⟨x, l2 ++ l.flatMap runB, by rw [List.flatMap_cons, hx]; rfl, hx3⟩
  have hlr : c.side.runs.length ≤ (c.side.runs.flatMap runB).length := by
    generalize c.side.runs = l
    induction l with
    | nil => simp
    | cons r l ih =>
      obtain ⟨x, l2, hx, _⟩ := runB_head r
      rw [List.flatMap_cons, hx]
      simp only [List.length_append, List.length_cons]
      omega
  have hf : c.side.runs.length < L.length + 2 := by
    simp only [List.length_append, List.length_map, List.length_cons] at hlen
    omega
  simp only [List.map_cons, List.cons_append, List.map_append, List.append_assoc] at h
  obtain ⟨_, _, d1⟩ := mark_drop h
  unfold bracketL
  cases hn : c.neg with
  | true =>
    rw [hn] at d1
    simp only [if_true, List.map_cons, List.map_nil, List.cons_append, List.nil_append] at d1
    obtain ⟨_, _, d2⟩ := mark_drop d1
    have h1 : signAt L (i + 1) 94 = true := sign_mk d1 94
    simp only [h1, if_true]
    rw [items_runs c.side.runs _ _ _ _ hle hf (fun _ => hne) d2, hfold]
    simp only
    rw [show c.side.not = c by rw [Cls.side, hn, if_pos rfl, not_not]]
    refine congrArg (fun n => (Except.ok (c, n) : Except (Nat × Nat) (Cls × Nat))) ?_
    simp only [List.length_append, List.length_cons, List.length_nil]
    omega
  | false =>
    rw [hn] at d1
    simp only [Bool.false_eq_true, if_false, List.map_nil, List.nil_append] at d1
    have h1 : signAt L (i + 1) 94 = false := by
      have d1' := d1
      rw [hx] at d1'
      simp only [List.map_cons, List.cons_append] at d1'
      rw [sign_mk d1' 94]
      exact beq_eq_false_iff_ne.2 hx1
    simp only [h1, Bool.false_eq_true, if_false]
    rw [items_runs c.side.runs _ _ _ _ hle hf (fun _ => hne) d1, hfold]
    simp only
    rw [show c.side = c by rw [Cls.side, hn]; rfl]
    refine congrArg (fun n => (Except.ok (c, n) : Except (Nat × Nat) (Cls × Nat))) ?_
    simp only [List.length_append, List.length_cons, List.length_nil]
    omega
end
/-! ### Its length, and that no line end stands in it -/
theorem side_starts (c : Cls) : c.side.starts ≤ c.starts + 1 := by
  unfold Cls.side
  split
  · exact starts_notC c
  · omega
theorem brackB_len (c : Cls) : (brackB c).length ≤ 3 + 11 * c.side.starts := by
  have h1 := runsB_length c.side.runs
  rw [runs_starts] at h1
  rw [brackB_side]
  have h3 : (if c.neg then [94] else ([] : List Nat)).length ≤ 1 := by split <;> simp
  simp only [List.length_append, List.length_cons, List.length_nil]
  omega
theorem allC_runs : allC.runs = [(0, 255)] := by decide +kernel
theorem endB_ten {b : Nat} (hb : b ≠ 10) : 10 ∉ endB b := by
  unfold endB
  split
  · simp; omega
  · simp; omega
theorem runB_ten {r : Nat × Nat} (h1 : r.1 ≠ 10) (h2 : r.2 ≠ 10) : 10 ∉ runB r := by
  unfold runB
  intro h
  rcases List.mem_append.1 h with h | h
  · exact endB_ten h1 h
  · split at h
    · simp at h
    · rcases List.mem_cons.1 h with h | h
      · cases h
      · exact endB_ten h2 h
theorem side_ten (c : Cls) : c.side = allC ∨ c.side.has 10 = false := by
  unfold Cls.side
  split
  · rename_i h
    unfold Cls.neg at h
    simp only [Bool.and_eq_true, Bool.or_eq_true, decide_eq_true_eq] at h
    rcases h.2 with h2 | h2
    · exact .inr (by rw [has_not, h2]; rfl)
    · exact .inl (by rw [h2, not_zero])
  · rename_i h
    unfold Cls.neg at h
    by_cases ha : c = allC
    · exact .inl ha
    · refine .inr ?_
      rw [decide_eq_true ha, Bool.true_and] at h
      cases hh : c.has 10 with
      | false => rfl
      | true => rw [hh, Bool.true_or] at h; exact absurd rfl h
theorem brackB_ten (c : Cls) : 10 ∉ brackB c := by
  rw [brackB_side]
  intro h
  rcases List.mem_cons.1 h with h | h
  · cases h
  · rcases List.mem_append.1 h with h | h
    · split at h <;> simp at h
    · rcases List.mem_append.1 h with h | h
      · obtain ⟨r, hr, h⟩ := List.mem_flatMap.1 h
        rcases side_ten c with he | he
        · rw [he, allC_runs] at hr
          simp only [List.mem_singleton] at hr
          subst hr
          exact runB_ten (by decide) (by decide) h
        · have hl := c.side.runsOk.le r hr
          exact runB_ten (fun e => by rw [e, he] at hl; exact absurd hl.2.2.1 (by decide)) (fun e => by rw [e, he] at hl; exact absurd hl.2.2.2 (by decide)) h
      · simp at h
end Go.Proofs.YtfjbnpdffillbaaGreatDoor

/- Plain laws: what is spelled of a tree is read as the tree: beginnings, ends, atoms, duplications. No program in sight. No condition. -/
namespace Go.Proofs.YtfjbnpdffillbaaGreatDoor

variable {q : Bool}

/-! ### How a part begins, and how a row ends -/
def repL (ere : Bool) (r : List Mk) : Bool := seesL r [42] || ere && (seesL r [43] || seesL r [63]) || seesL r (signB ere 123)
theorem repeats_drop (ere : Bool) (L : List Mk) (i : Nat) : repeatsL ere L i = repL ere (L.drop i) := rfl
theorem seesL_nil' (r : List Mk) : seesL r [] = true := by cases r <;> rfl
theorem sees1 (m : Mk) (r : List Mk) (c : Nat) : seesL (m :: r) [c] = (!m.p && m.b == c) := by rw [seesL, seesL_nil', Bool.and_true]
theorem sees2 (m : Mk) (r : List Mk) (c d : Nat) : seesL (m :: r) [c, d] = (!m.p && m.b == c && seesL r [d]) := by rw [seesL]
theorem seesMk1 (b : Nat) (r : List Mk) (c : Nat) (hc : c ≠ 47) : seesL (mq q b :: r) [c] = (b == c) := by rw [sees1, Bool.and_comm, mq_sign hc]
theorem seesMk2 (b : Nat) (r : List Mk) (c d : Nat) (hc : c ≠ 47) : seesL (mq q b :: r) [c, d] = (b == c && seesL r [d]) := by rw [sees2, Bool.and_comm (!_), mq_sign hc]
theorem seesMz1 (b : Nat) (r : List Mk) (c : Nat) : seesL (mk b :: r) [c] = (b == c) := by rw [sees1]; show (!false && b == c) = _; rw [Bool.not_false, Bool.true_and]
theorem seesMz2 (b : Nat) (r : List Mk) (c d : Nat) : seesL (mk b :: r) [c, d] = (b == c && seesL r [d]) := by rw [sees2]; show (!false && b == c && _) = _; rw [Bool.not_false, Bool.true_and]
theorem mqp {b : Nat} (h : b ≠ 47) : (mq q b).p = false := by rw [mq_ne h]
/-- A beginning that no row takes for its end, and that repeats nothing. -/
def Hs (ere : Bool) (s : List Nat) : Prop := ∃ x s', s = x :: s' ∧ x ≠ 42 ∧ (ere = true → x ≠ 43 ∧ x ≠ 63 ∧ x ≠ 123 ∧ x ≠ 124 ∧ x ≠ 41) ∧ (ere = false → x = 92 → ∃ y s'', s' = y :: s'' ∧ y ≠ 123 ∧ y ≠ 41)
theorem Hs.append {ere : Bool} {s : List Nat} (h : Hs ere s) (t : List Nat) : Hs ere (s ++ t) := by
  obtain ⟨x, s', rfl, h1, h2, h3⟩ := h
  refine ⟨x, s' ++ t, rfl, h1, h2, fun a b => ?_⟩
  obtain ⟨y, s'', rfl, h4⟩ := h3 a b
  exact ⟨y, s'' ++ t, rfl, h4⟩
theorem Hs.pos {ere : Bool} {s : List Nat} (h : Hs ere s) : 1 ≤ s.length := by
  obtain ⟨x, s', rfl, _⟩ := h
  simp
theorem Hs.safe {ere : Bool} {s : List Nat} (h : Hs ere s) (r : List Mk) : repL ere (s.map (mq q) ++ r) = false ∧ (ere && seesL (s.map (mq q) ++ r) [124]) = false ∧ seesL (s.map (mq q) ++ r) (signB ere 41) = false := by
  obtain ⟨x, s', rfl, h1, h2, h3⟩ := h
  have e1 : (x == 42) = false := beq_eq_false_iff_ne.2 h1
  cases ere with
  | true =>
    obtain ⟨a, b, c, d, e⟩ := h2 rfl
    simp only [repL, signB, if_true, List.map_cons, List.cons_append, seesMk1 _ _ 42 (by decide), seesMk1 _ _ 43 (by decide), seesMk1 _ _ 63 (by decide), seesMk1 _ _ 123 (by decide), seesMk1 _ _ 124 (by decide), seesMk1 _ _ 41 (by decide), e1, beq_eq_false_iff_ne.2 a, beq_eq_false_iff_ne.2 b, beq_eq_false_iff_ne.2 c, beq_eq_false_iff_ne.2 d, beq_eq_false_iff_ne.2 e]
    decide
  | false =>
    have two : ∀ c, (c = 123 ∨ c = 41) → seesL (mq q x :: (s'.map (mq q) ++ r)) [92, c] = false := by
      intro c hc
      have hc47 : c ≠ 47 := by omega
      rw [seesMk2 _ _ _ _ (by decide)]
      by_cases hx : x = 92
      · obtain ⟨y, s'', rfl, h4, h5⟩ := h3 rfl hx
        simp only [List.map_cons, List.cons_append]
        rw [seesMk1 _ _ _ hc47]
        have : (y == c) = false := beq_eq_false_iff_ne.2 (by omega)
        rw [this, Bool.and_false]
      · rw [beq_eq_false_iff_ne.2 hx, Bool.false_and]
    simp only [repL, signB, Bool.false_eq_true, if_false, List.map_cons, List.cons_append, seesMk1 _ _ 42 (by decide), seesMk1 _ _ 43 (by decide), seesMk1 _ _ 63 (by decide), seesMk1 _ _ 124 (by decide), e1, Bool.false_and, Bool.or_false, two 123 (.inl rfl), two 41 (.inr rfl)]
    decide
/-- Where a row ends. -/
def Fin' (ere top : Bool) (r : List Mk) : Prop := r = [] ∨ (ere && seesL r [124]) = true ∨ (seesL r (signB ere 41) = true ∧ top = false)
theorem sees1_head {r : List Mk} {c : Nat} (h : seesL r [c] = true) : ∃ r', r = mk c :: r' := by
  cases r with
  | nil => cases h
  | cons m r =>
    rw [sees1] at h
    simp only [Bool.and_eq_true, Bool.not_eq_true', beq_iff_eq] at h
    obtain ⟨b, p⟩ := m
    simp only at h
    exact ⟨r, by rw [h.1, h.2]; rfl⟩
theorem sees2_head {r : List Mk} {c d : Nat} (h : seesL r [c, d] = true) : ∃ r', r = mk c :: mk d :: r' := by
  cases r with
  | nil => cases h
  | cons m r =>
    rw [sees2] at h
    simp only [Bool.and_eq_true, Bool.not_eq_true', beq_iff_eq] at h
    obtain ⟨b, p⟩ := m
    simp only at h
    obtain ⟨r', rfl⟩ := sees1_head h.2
    exact ⟨r', by rw [h.1.1, h.1.2]; rfl⟩
theorem signs_head {ere : Bool} {r : List Mk} {c : Nat} (h : seesL r (signB ere c) = true) : ∃ r', r = (signB ere c).map mk ++ r' := by
  cases ere with
  | true => exact sees1_head h
  | false => exact sees2_head h
theorem Fin'.rep {ere top : Bool} {r : List Mk} (h : Fin' ere top r) : repL ere r = false := by
  rcases h with rfl | h | ⟨h, _⟩
  · cases ere <;> rfl
  · simp only [Bool.and_eq_true] at h
    obtain ⟨rfl, h⟩ := h
    obtain ⟨r', rfl⟩ := sees1_head h
    simp only [repL, signB, if_true, seesMz1]
    decide
  · obtain ⟨r', rfl⟩ := signs_head h
    cases ere with
    | true =>
      simp only [repL, signB, if_true, List.map_cons, List.map_nil, List.cons_append, List.nil_append, seesMz1]
      decide
    | false =>
      simp only [repL, signB, Bool.false_eq_true, if_false, List.map_cons, List.map_nil, List.cons_append, List.nil_append, seesMz1, seesMz2]
      decide
/-- What closes the whole, where k groups may still be opened. -/
def Cl (ere : Bool) (k : Nat) (r : List Mk) : Prop := if k = 64 then r = [] else seesL r (signB ere 41) = true
theorem Cl.fin {ere : Bool} {k : Nat} {r : List Mk} (h : Cl ere k r) : Fin' ere (k == 64) r := by
  unfold Cl at h
  split at h
  · exact .inl h
  · rename_i hk
    exact .inr (.inr ⟨h, by simpa using hk⟩)
theorem Cl.bar {ere : Bool} {k : Nat} {r : List Mk} (h : Cl ere k r) : (ere && seesL r [124]) = false := by
  unfold Cl at h
  split at h
  · subst h; cases ere <;> rfl
  · obtain ⟨r', rfl⟩ := signs_head h
    cases ere with
    | true => simp only [signB, if_true, List.map_cons, List.map_nil, List.cons_append, List.nil_append, seesMz1]; decide
    | false => rfl
section
variable {ere : Bool} {L : List Mk} {grp : Rst → Out (List Nd)} {top : Bool}
theorem row_fin {f : Nat} {all : List Nd} {n : Nat} {lead : Bool} {s : Rst} (h : Fin' ere top (L.drop s.i)) : rowL ere top L grp (f + 1) all n lead s = .ok (n, all) s := by
  rw [rowL]
  by_cases hl : L.length ≤ s.i
  · rw [if_pos hl]
  · rw [if_neg hl]
    by_cases h2 : (ere && seesAt L s.i [124]) = true
    · rw [if_pos h2]
    · rw [if_neg h2]
      rcases h with h | h | ⟨h, ht⟩
      · have := List.drop_eq_nil_iff.1 h
        exact absurd this hl
      · exact absurd h h2
      · rw [if_pos (show seesAt L s.i (signB ere 41) = true from h), ht]
        rfl
theorem row_one {f : Nat} {all : List Nd} {n : Nat} {lead : Bool} {s t : Rst} {re : List Nd} {tk : Bool} {str : List Nat} {rest : List Mk} (hd : L.drop s.i = str.map (mq q) ++ rest) (hs : Hs ere str) (ha : atomL ere (n == 0) L grp s = .ok (re, tk) t) (hr : (tk && repL ere (L.drop t.i)) = false) :
    rowL ere top L grp (f + 1) all n lead s = rowL ere top L grp f (all ++ re) (n + 1) ((re.getD 0 Nd.zero).op == 2) t := by
  obtain ⟨a, b, c⟩ := hs.safe rest
  rw [← hd] at a b c
  have hlt : ¬ L.length ≤ s.i := by
    intro h
    have := hs.pos
    have := len_drop hd
    simp only [List.length_append, List.length_map] at this
    omega
  rw [rowL, if_neg hlt]
  rw [show seesAt L s.i [124] = seesL (L.drop s.i) [124] from rfl, b, if_neg Bool.false_ne_true, show seesAt L s.i (signB ere 41) = seesL (L.drop s.i) (signB ere 41) from rfl, c, if_neg Bool.false_ne_true, repeats_drop, a, Bool.false_and, if_neg Bool.false_ne_true, ha]
  simp only
  rw [repeats_drop, hr, if_neg Bool.false_ne_true]
theorem row_dup {f : Nat} {all : List Nd} {n : Nat} {lead : Bool} {s t u : Rst} {re : List Nd} {d : Nd} {str : List Nat} {rest : List Mk} (hd : L.drop s.i = str.map (mq q) ++ rest) (hs : Hs ere str) (ha : atomL ere (n == 0) L grp s = .ok (re, true) t) (hr : repL ere (L.drop t.i) = true) (hu : dupL ere L t = .ok d u) :
    rowL ere top L grp (f + 1) all n lead s = rowL ere top L grp f (all ++ d :: re) (n + 1) ((re.getD 0 Nd.zero).op == 2) u := by
  obtain ⟨a, b, c⟩ := hs.safe rest
  rw [← hd] at a b c
  have hlt : ¬ L.length ≤ s.i := by
    intro h
    have := hs.pos
    have := len_drop hd
    simp only [List.length_append, List.length_map] at this
    omega
  rw [rowL, if_neg hlt]
  rw [show seesAt L s.i [124] = seesL (L.drop s.i) [124] from rfl, b, if_neg Bool.false_ne_true, show seesAt L s.i (signB ere 41) = seesL (L.drop s.i) (signB ere 41) from rfl, c, if_neg Bool.false_ne_true, repeats_drop, a, Bool.false_and, if_neg Bool.false_ne_true, ha]
  simp only
  rw [repeats_drop, hr, Bool.and_self, if_pos rfl, hu]
end
/-! ### Nodes by their kinds -/
theorem good_set {x : Nd} (h : goodN x = true) (ho : x.op = 1) : x = setN x.set := by
  obtain ⟨op, set, n, min, max, kids⟩ := x
  simp only at ho
  subst ho
  simp only [goodN, setN] at h ⊢
  simp at h
  simp [h]
theorem good_begin {x : Nd} (h : goodN x = true) (ho : x.op = 2) : x = beginN := by
  obtain ⟨op, set, n, min, max, kids⟩ := x
  simp only at ho
  subst ho
  simp only [goodN, beginN] at h ⊢
  simp at h
  simp [h]
theorem good_end {x : Nd} (h : goodN x = true) (ho : x.op = 3) : x = endN := by
  obtain ⟨op, set, n, min, max, kids⟩ := x
  simp only at ho
  subst ho
  simp only [goodN, endN] at h ⊢
  simp at h
  simp [h]
theorem good_cat {x : Nd} (h : goodN x = true) (ho : x.op = 4) : ∃ k : Nat, x = catN k ∧ k ≠ 1 := by
  obtain ⟨op, set, n, min, max, kids⟩ := x
  simp only at ho
  subst ho
  simp only [goodN, catN] at h ⊢
  simp at h
  refine ⟨kids.toNat, ?_, by omega⟩
  simp [h]
  omega
theorem good_alt {x : Nd} (h : goodN x = true) (ho : x.op = 5) : ∃ k : Nat, x = altN k ∧ 2 ≤ k := by
  obtain ⟨op, set, n, min, max, kids⟩ := x
  simp only at ho
  subst ho
  simp only [goodN, altN] at h ⊢
  simp at h
  refine ⟨kids.toNat, ?_, by omega⟩
  simp [h]
  omega
theorem good_rep {x : Nd} (h : goodN x = true) (ho : x.op = 6) : x = repN x.min x.max ∧ 0 ≤ x.min ∧ x.min ≤ 255 ∧ (x.max = -1 ∨ (x.min ≤ x.max ∧ x.max ≤ 255)) := by
  obtain ⟨op, set, n, min, max, kids⟩ := x
  simp only at ho
  subst ho
  simp only [goodN, repN] at h ⊢
  simp at h
  simp [h]
theorem good_group {x : Nd} (h : goodN x = true) (ho : x.op = 7) : x.set = Cls.zero ∧ x.min = 0 ∧ x.max = 0 ∧ x.kids = 1 := by
  obtain ⟨op, set, n, min, max, kids⟩ := x
  simp only at ho
  subst ho
  simp only [goodN] at h ⊢
  simp at h
  simp [h]
theorem good_ref {x : Nd} (h : goodN x = true) (ho : x.op = 8) : x.set = Cls.zero ∧ x.min = 0 ∧ x.max = 0 ∧ x.kids = 0 := by
  obtain ⟨op, set, n, min, max, kids⟩ := x
  simp only at ho
  subst ho
  simp only [goodN] at h ⊢
  simp at h
  simp [h]
theorem kidsN_un {G : Nat → List Bool → Option (Nat × List Bool)} {i : Nat} {en : List Bool} {r : Nat × List Bool} (h : kidsN G 1 i en = some r) : G i en = some r := by
  unfold kidsN at h
  split at h
  · cases h
  · rename_i j e1 h1
    simp only [kidsN, Option.some.injEq] at h
    rw [h1, h]
/-- What a tree's shape tells at a node, with the groups. -/
structure NdE (re : List Nd) (f g i : Nat) (en : List Bool) (j : Nat) (en' : List Bool) (x : Nd) : Prop where
  hx : re[i]? = some x
  good : goodN x = true
  leaf : x.op ≤ 3 ∨ x.op = 8 → j = i + 1 ∧ en' = en
  ref : x.op = 8 → ∃ n : Nat, x = refN n ∧ 1 ≤ n ∧ n ≤ en.length ∧ en.getD (n - 1) false = true
  rep : x.op = 6 → nodeN re f g (i + 1) en = some (j, en')
  grp : x.op = 7 → x = groupN (en.length + 1) ∧ en.length < 255 ∧ g < 64 ∧ ∃ e1, nodeN re f (g + 1) (i + 1) (en ++ [false]) = some (j, e1) ∧ en' = e1.set en.length true
  kids : x.op = 4 ∨ x.op = 5 → kidsN (nodeN re f g) x.kids.toNat (i + 1) en = some (j, en')
theorem good_op {x : Nd} (h : goodN x = true) : 1 ≤ x.op ∧ x.op ≤ 8 := by
  unfold goodN at h
  simp only [Bool.and_eq_true, decide_eq_true_eq] at h
  exact h.1.1.1.1
theorem nodeN_e {re : List Nd} {f g i : Nat} {en : List Bool} {j : Nat} {en' : List Bool} (h : nodeN re (f + 1) g i en = some (j, en')) : ∃ x, NdE re f g i en j en' x := by
  rw [nodeN] at h
  split at h
  · cases h
  rename_i x hx
  split at h
  · cases h
  rename_i hg
  have hg' : goodN x = true := by simpa using hg
  split at h
  · cases h
  rename_i h8
  have hop := good_op hg'
  refine ⟨x, hx, hg', ?_, ?_, ?_, ?_, ?_⟩
  · intro ho
    rw [if_neg (by omega)] at h
    have hk : x.kids = 0 := by
      have h1 := hg'
      unfold goodN at h1
      simp only [Bool.and_eq_true] at h1
      have h2 := h1.2
      rw [if_neg (by omega), if_neg (by omega), if_neg (by omega)] at h2
      simpa using h2
    rw [hk] at h
    simp only [Int.toNat_zero, kidsN, Option.some.injEq, Prod.mk.injEq] at h
    exact ⟨h.1.symm, h.2.symm⟩
  · intro ho
    have hr := good_ref hg' ho
    rw [ho] at h8
    simp only [beq_self_eq_true, Bool.true_and, Bool.or_eq_true, decide_eq_true_eq, Bool.not_eq_true', not_or, Bool.not_eq_false] at h8
    refine ⟨x.n.toNat, ?_, by omega, by omega, h8.2⟩
    obtain ⟨op, set, n, min, max, kids⟩ := x
    simp only at ho hr h8
    obtain ⟨rfl, rfl, rfl, rfl⟩ := hr
    subst ho
    simp only [refN]
    congr
    omega
  · intro ho
    rw [if_neg (by omega)] at h
    have hk : x.kids = 1 := by
      have := (good_rep hg' ho).1
      rw [this]; rfl
    rw [hk] at h
    exact kidsN_un h
  · intro ho
    have hr := good_group hg' ho
    rw [if_pos ho] at h
    split at h
    · cases h
    rename_i hn
    split at h
    · cases h
    rename_i j1 e1 h1
    cases h
    rw [hr.2.2.2] at h1
    refine ⟨?_, by omega, by omega, e1, kidsN_un h1, rfl⟩
    obtain ⟨op, set, n, min, max, kids⟩ := x
    simp only at ho hr hn
    obtain ⟨rfl, rfl, rfl, rfl⟩ := hr
    subst ho
    simp only [groupN]
    congr
    omega
  · intro ho
    rw [if_neg (by omega)] at h
    exact h
/-! ### Atoms of one node -/
theorem spB_own (ere : Bool) (b : Nat) (h : (spB ere).contains b = true) : (ownB ere).contains b = true ∧ b ≠ 40 ∧ b ≠ 110 ∧ b ≠ 123 ∧ b ≠ 10 ∨ (ere = true ∧ (ownB ere).contains b = true ∧ b ≠ 110 ∧ b ≠ 10) := by
  cases ere with
  | false =>
    refine .inl ?_
    simp [spB] at h
    rcases h with rfl | rfl | rfl | rfl | rfl | rfl <;> decide
  | true =>
    refine .inr ⟨rfl, ?_⟩
    simp [spB] at h
    rcases h with rfl | rfl | rfl | rfl | rfl | rfl | rfl | rfl | rfl | rfl | rfl | rfl <;> decide
theorem byteB_hs (ere : Bool) (b : Nat) : Hs ere (byteB ere b) := by
  unfold byteB
  split
  · exact ⟨92, [110], rfl, by decide, fun _ => by decide, fun _ _ => ⟨110, [], rfl, by decide, by decide⟩⟩
  · split
    · rename_i h
      refine ⟨92, [b], rfl, by decide, fun _ => by decide, fun he _ => ⟨b, [], rfl, ?_⟩⟩
      subst he
      simp [spB] at h
      omega
    · rename_i h
      refine ⟨b, [], rfl, ?_, fun he => ?_, fun he => ?_⟩
      · intro e; subst e; apply h; cases ere <;> decide
      · subst he
        simp [spB] at h
        omega
      · intro e; subst e; exfalso; apply h; cases ere <;> decide
theorem setB_hs (ere : Bool) (c : Cls) : Hs ere (setB ere c) := by
  unfold setB
  split
  · exact ⟨46, [], rfl, by decide, fun _ => by decide, fun _ h => by cases h⟩
  · split
    · exact byteB_hs ere _
    · rw [brackB_side]
      exact ⟨91, _, rfl, by decide, fun _ => by decide, fun _ h => by cases h⟩
theorem full_all {c : Cls} (h : c.els.length = 256) : c = allC := Cls.ext' fun i hi => by
  have h2 : (List.filter c.has (List.range 256)).length = (List.range 256).length := by rw [List.length_range]; exact h
  rw [List.length_filter_eq_length_iff] at h2
  rw [allC_has hi]
  exact h2 i (List.mem_range.2 hi)
section
variable {ere : Bool} {L : List Mk} {grp : Rst → Out (List Nd)} {first : Bool}
theorem atom_byte {b p : Nat} {en : List Bool} {rest : List Mk} (hd : L.drop p = (byteB ere b).map (mq q) ++ rest) : atomL ere first L grp ⟨p, en⟩ = .ok ([oneN b], true) ⟨p + (byteB ere b).length, en⟩ := by
  unfold byteB at hd ⊢
  have esc : ∀ c, c ≠ 47 → L.drop p = mq q 92 :: mq q c :: rest → (!ere && c == 40) = false → atomL ere first L grp ⟨p, en⟩ = if c = 110 then .ok ([oneN 10], true) ⟨p + 2, en⟩ else if (ownB ere).contains c then .ok ([oneN c], true) ⟨p + 2, en⟩ else if !ere && decide (49 ≤ c) && decide (c ≤ 57) then
      if en.length < c - 48 then .no 44 p else if !en.getD (c - 48 - 1) false then .no 44 p else .ok ([refN (c - 48)], true) ⟨p + 2, en⟩ else .no 40 p := by
    intro c h47 h hc
    obtain ⟨m0, l0, d1⟩ := mark_drop h
    obtain ⟨m1, l1, d2⟩ := mark_drop d1
    unfold atomL
    simp only [m0, show (mq q 92).p = false from mqp (by decide), show (mq q 92).b = 92 from rfl]
    rw [if_neg (by decide), if_neg (by decide), if_neg (by decide), if_pos (by decide)]
    unfold escapeL
    simp only
    rw [if_neg (by omega), m1, if_neg (by rw [mqp h47]; decide)]
    rw [show (mq q c).b = c from rfl, hc, if_neg (by decide)]
  split at hd
  · rename_i h10
    subst h10
    rw [if_pos rfl]
    rw [esc 110 (by decide) hd (by cases ere <;> rfl), if_pos rfl]
    rfl
  · rename_i h10
    rw [if_neg h10]
    split at hd
    · rename_i hs
      rw [if_pos hs]
      have ho := spB_own ere b hs
      rw [esc b (by rintro rfl; cases ere <;> revert hs <;> decide) hd (by rcases ho with h | h <;> simp [h]), if_neg (by omega), if_pos (by rcases ho with h | h; exact h.1; exact h.2.1)]
      rfl
    · rename_i hs
      rw [if_neg hs]
      simp only [List.map_cons, List.map_nil, List.cons_append, List.nil_append] at hd
      obtain ⟨m0, l0, d1⟩ := mark_drop hd
      unfold atomL
      by_cases hpl : (mq q b).p = true
      · simp only [m0, show (mq q b).b = b from rfl]
        rw [if_pos hpl]
        rfl
      simp only [m0, show (mq q b).p = false from Bool.eq_false_iff.2 hpl, show (mq q b).b = b from rfl]
      have hs' : b ≠ 46 ∧ b ≠ 91 ∧ b ≠ 42 ∧ b ≠ 94 ∧ b ≠ 36 ∧ b ≠ 92 ∧ (ere = true → b ≠ 40) := by
        refine ⟨?_, ?_, ?_, ?_, ?_, ?_, fun he => ?_⟩
        all_goals (intro e; subst e; apply hs)
        all_goals first | (cases ere <;> decide) | (subst he; decide)
      rw [if_neg (by decide), if_neg hs'.1, if_neg hs'.2.1, if_neg hs'.2.2.2.2.2.1, if_neg hs'.2.2.2.1, if_neg hs'.2.2.2.2.1]
      rw [if_neg (by
        intro h
        simp only [Bool.and_eq_true, beq_iff_eq] at h
        exact hs'.2.2.2.2.2.2 h.1 h.2)]
      rfl
theorem atom_set {c : Cls} {p : Nat} {en : List Bool} {rest : List Mk} (hd : L.drop p = (setB ere c).map (mq q) ++ rest) : atomL ere first L grp ⟨p, en⟩ = .ok ([setN c], true) ⟨p + (setB ere c).length, en⟩ := by
  unfold setB at hd ⊢
  split at hd
  · rename_i h
    rw [if_pos h]
    simp only [List.map_cons, List.map_nil, List.cons_append, List.nil_append] at hd
    obtain ⟨m0, l0, d1⟩ := mark_drop hd
    unfold atomL
    simp only [m0, show (mq q 46).p = false from mqp (by decide), show (mq q 46).b = 46 from rfl]
    rw [if_neg (by decide), if_pos (by decide), anyL, full_all h]
    rfl
  · rename_i h
    rw [if_neg h]
    split at hd
    · rename_i b hb
      rw [atom_byte hd]
      have : oneN b = setN c := by
        rw [oneN, setN, ← hb, els_of]
      rw [this]
    · rename_i hb
      have h91 : ∃ r, L.drop p = mq q 91 :: r := ⟨_, by rw [hd, brackB_side]; rfl⟩
      obtain ⟨r, h91⟩ := h91
      obtain ⟨m0, l0, d1⟩ := mark_drop h91
      unfold atomL
      simp only [m0, show (mq q 91).p = false from mqp (by decide), show (mq q 91).b = 91 from rfl]
      rw [if_neg (by decide), if_neg (by decide), if_pos (by decide), brackL]
      simp only
      rw [bracketL_brackB hd]
theorem atom_ref {n p : Nat} {en : List Bool} {rest : List Mk} (he : ere = false) (h1 : 1 ≤ n) (h9 : n ≤ 9) (hl : n ≤ en.length) (hen : en.getD (n - 1) false = true) (hd : L.drop p = mq q 92 :: mq q (48 + n) :: rest) :
    atomL ere first L grp ⟨p, en⟩ = .ok ([refN n], true) ⟨p + 2, en⟩ := by
  subst he
  obtain ⟨m0, l0, d1⟩ := mark_drop hd
  obtain ⟨m1, l1, d2⟩ := mark_drop d1
  unfold atomL
  simp only [m0, show (mq q 92).p = false from mqp (by decide), show (mq q 92).b = 92 from rfl]
  rw [if_neg (by decide), if_neg (by decide), if_neg (by decide), if_pos (by decide)]
  unfold escapeL
  simp only
  rw [if_neg (by omega), m1, if_neg (by rw [mqp (by omega)]; decide)]
  rw [show (mq q (48 + n)).b = 48 + n from rfl, beq_eq_false_iff_ne.2 (show 48 + n ≠ 40 by omega), Bool.and_false, if_neg (by decide), if_neg (by omega)]
  have ho : (ownB false).contains (48 + n) = false := by
    simp [ownB]
    omega
  rw [ho, if_neg (by decide), decide_eq_true (show 49 ≤ 48 + n by omega), decide_eq_true (show 48 + n ≤ 57 by omega), if_pos (by decide)]
  rw [show 48 + n - 48 = n by omega, if_neg (by omega), hen, if_neg (by decide)]
theorem atom_begin {p : Nat} {en : List Bool} {rest : List Mk} (h : ere = true ∨ first = true) (hd : L.drop p = mq q 94 :: rest) : atomL ere first L grp ⟨p, en⟩ = .ok ([beginN], false) ⟨p + 1, en⟩ := by
  obtain ⟨m0, l0, d1⟩ := mark_drop hd
  unfold atomL
  simp only [m0, show (mq q 94).p = false from mqp (by decide), show (mq q 94).b = 94 from rfl]
  rw [if_neg (by decide), if_neg (by decide), if_neg (by decide), if_neg (by decide), if_pos (by decide), beginL]
  rcases h with h | h <;> subst h <;> simp
theorem atom_end {p : Nat} {en : List Bool} {rest : List Mk} (h : ere = true ∨ rest = [] ∨ seesL rest [92, 41] = true) (hd : L.drop p = mq q 36 :: rest) : atomL ere first L grp ⟨p, en⟩ = .ok ([endN], false) ⟨p + 1, en⟩ := by
  obtain ⟨m0, l0, d1⟩ := mark_drop hd
  unfold atomL
  simp only [m0, show (mq q 36).p = false from mqp (by decide), show (mq q 36).b = 36 from rfl]
  rw [if_neg (by decide), if_neg (by decide), if_neg (by decide), if_neg (by decide), if_neg (by decide), if_pos (by decide), endL]
  simp only
  rcases h with h | h | h
  · subst h
    simp
  · subst h
    have := List.drop_eq_nil_iff.1 d1
    rw [decide_eq_false (by omega), Bool.and_false, Bool.false_and, if_neg (by decide)]
  · rw [show seesAt L (p + 1) [92, 41] = seesL (L.drop (p + 1)) [92, 41] from rfl, d1, h, Bool.not_true, Bool.and_false, if_neg (by decide)]
end
/-! ### Duplications -/
theorem itoB_nat (n : Nat) : itoB (n : Int) = digB n := by
  unfold itoB
  rw [if_neg (by omega)]
  rfl
theorem head_sign {ere : Bool} {c : Nat} (hc : 57 < c) (rest : List Mk) : ∀ m l, (signB ere c).map (mq q) ++ rest = m :: l → m.p = true ∨ m.b < 48 ∨ 57 < m.b := by
  intro m l h
  cases ere with
  | false =>
    simp only [signB, Bool.false_eq_true, if_false, List.map_cons, List.cons_append, List.cons.injEq] at h
    rw [← h.1]; right; right; show 57 < 92; decide
  | true =>
    simp only [signB, if_true, List.map_cons, List.cons_append, List.cons.injEq] at h
    rw [← h.1]; right; right; exact hc
theorem map_dig {L r : List Mk} {i n : Nat} (h : L.drop i = (digB n).map (mq q) ++ r) : L.drop i = (digB n).map mk ++ r := by
  rw [h]
  congr 1
  exact List.map_congr_left fun d hd => by have := digB_digit n d hd; rw [mq_ne (by omega)]; rfl
theorem sees_sign (ere : Bool) (c : Nat) (rest : List Mk) (hc : c ≠ 47 := by decide) : seesL ((signB ere c).map (mq q) ++ rest) (signB ere c) = true := by
  cases ere with
  | true => simp only [signB, if_true, List.map_cons, List.map_nil, List.cons_append, List.nil_append, seesMk1 _ _ c hc, beq_self_eq_true]
  | false => simp only [signB, Bool.false_eq_true, if_false, List.map_cons, List.map_nil, List.cons_append, List.nil_append, seesMk2 _ _ 92 c (by decide), seesMk1 _ _ c hc, beq_self_eq_true, Bool.and_self]
theorem drop_add {L : List Mk} {p : Nat} {s : List Nat} {r : List Mk} (h : L.drop p = s.map (mq q) ++ r) : L.drop (p + s.length) = r := by
  rw [← List.drop_drop, h, List.drop_left' (by simp)]
section
variable {ere : Bool} {L : List Mk}
theorem interval_read {p : Nat} {en : List Bool} {lo hi : Int} {rest : List Mk} (h1 : 0 ≤ lo) (h2 : lo ≤ 255) (h3 : hi = -1 ∨ (lo ≤ hi ∧ hi ≤ 255))
    (hd : L.drop p = (signB ere 123 ++ (itoB lo ++ ((if hi = lo then [] else 44 :: (if 0 ≤ hi then itoB hi else [])) ++ signB ere 125))).map (mq q) ++ rest) :
    intervalL ere L ⟨p, en⟩ = .ok (lo, hi) ⟨p + (signB ere 123 ++ (itoB lo ++ ((if hi = lo then [] else 44 :: (if 0 ≤ hi then itoB hi else [])) ++ signB ere 125))).length, en⟩ := by
  obtain ⟨m, rfl⟩ : ∃ k : Nat, lo = k := ⟨lo.toNat, by omega⟩
  rw [itoB_nat] at hd ⊢
  simp only [List.map_append, List.append_assoc] at hd
  have d1 := drop_add hd
  rw [signB_len] at d1
  simp only [List.length_append, signB_len]
  unfold intervalL
  simp only
  by_cases he : hi = (m : Int)
  · subst he
    simp only [if_true, List.map_nil, List.nil_append, List.length_nil, Nat.zero_add] at d1 ⊢
    have n1 := numL_digits (head_sign (q := q) (c := 125) (by decide) rest) (map_dig d1)
    have d2 := drop_add d1
    rw [n1]
    simp only
    have hs : seesAt L (p + wideB ere + (digB m).length) [44] = false := by
      rw [seesAt, d2]
      cases ere with
      | true => simp only [signB, if_true, List.map_cons, List.map_nil, List.cons_append, seesMk1 _ _ 44 (by decide)]; decide
      | false => simp only [signB, Bool.false_eq_true, if_false, List.map_cons, List.map_nil, List.cons_append, seesMk1 _ _ 44 (by decide)]; decide
    have hs2 : seesAt L (p + wideB ere + (digB m).length) (signB ere 125) = true := by rw [seesAt, d2, sees_sign _ 125]
    rw [hs, if_neg Bool.false_ne_true]
    simp only
    rw [hs2, show min (m : Int) 256 = m by omega, decide_eq_false (show ¬ (m : Int) < 0 by omega), decide_eq_false (show ¬ 255 < (m : Int) by omega), decide_eq_false (show ¬ (m : Int) < (m : Int) by omega), Bool.and_false, if_neg (by decide)]
    congr 2
    omega
  · rw [if_neg he] at d1 ⊢
    simp only [List.map_cons, List.cons_append] at d1
    have d1' := map_dig d1
    have n1 := numL_digits (u := m) (by
      intro x l h
      simp only [List.cons.injEq] at h
      rw [← h.1]; right; left; show 44 < 48; decide) d1'
    have d2 := drop_add d1
    rw [n1]
    simp only
    have hs : seesAt L (p + wideB ere + (digB m).length) [44] = true := by
      rw [seesAt, d2, seesMk1 _ _ 44 (by decide)]; rfl
    obtain ⟨_, _, d3⟩ := mark_drop d2
    rw [hs, if_pos rfl, show min (m : Int) 256 = m by omega, decide_eq_false (show ¬ (m : Int) < 0 by omega), decide_eq_false (show ¬ 255 < (m : Int) by omega)]
    by_cases h0 : 0 ≤ hi
    · obtain ⟨M, rfl⟩ : ∃ k : Nat, hi = k := ⟨hi.toNat, by omega⟩
      rw [if_pos h0] at d3 ⊢
      rw [itoB_nat] at d3 ⊢
      have n2 := numL_digits (head_sign (q := q) (c := 125) (by decide) rest) (map_dig d3)
      have d4 := drop_add d3
      rw [n2]
      simp only
      have hs2 : seesAt L (p + wideB ere + (digB m).length + 1 + (digB M).length) (signB ere 125) = true := by rw [seesAt, d4, sees_sign _ 125]
      rw [hs2, show min (M : Int) 256 = M by omega, decide_eq_false (show ¬ 255 < (M : Int) by omega), decide_eq_false (show ¬ (M : Int) < (m : Int) by omega), Bool.and_false, if_neg (by decide)]
      simp only [List.length_cons]
      congr 2
      omega
    · rw [if_neg h0] at d3 ⊢
      have hm1 : hi = -1 := by omega
      subst hm1
      simp only [List.map_nil, List.nil_append] at d3
      have n2 := numL_none (head_sign (q := q) (c := 125) (by decide) rest) d3
      rw [n2]
      simp only
      have hs2 : seesAt L (p + wideB ere + (digB m).length + 1) (signB ere 125) = true := by rw [seesAt, d3, sees_sign _ 125]
      rw [hs2, decide_eq_false (show ¬ (0 : Int) ≤ -1 by decide), decide_eq_false (show ¬ (255 : Int) < -1 by decide), Bool.false_and, if_neg (by decide)]
      simp only [List.length_cons, List.length_nil]
      congr 2
      omega
theorem dup_read {p : Nat} {en : List Bool} {x : Nd} {rest : List Mk} (hx : goodN x = true) (ho : x.op = 6) (hd : L.drop p = (dupB ere x).map (mq q) ++ rest) :
    repL ere (L.drop p) = true ∧ dupL ere L ⟨p, en⟩ = .ok x ⟨p + (dupB ere x).length, en⟩ := by
  obtain ⟨hx1, h1, h2, h3⟩ := good_rep hx ho
  generalize hlo : x.min = lo at hx1 h1 h2 h3
  generalize hhi : x.max = hi at hx1 h3
  unfold dupB at hd ⊢
  rw [hlo, hhi] at hd ⊢
  by_cases c1 : lo = 0 ∧ hi < 0
  · rw [if_pos c1] at hd ⊢
    simp only [List.map_cons, List.map_nil, List.cons_append, List.nil_append] at hd
    refine ⟨by rw [hd, repL, seesMk1 _ _ 42 (by decide)]; rfl, ?_⟩
    rw [dupL, if_pos (by rw [seesAt]; simp only; rw [hd, seesMk1 _ _ 42 (by decide)]; rfl), hx1, c1.1, show hi = -1 by omega]
    rfl
  · rw [if_neg c1] at hd ⊢
    by_cases c2 : ere = true ∧ lo = 1 ∧ hi < 0
    · rw [if_pos c2] at hd ⊢
      obtain ⟨rfl, rfl, c2⟩ := c2
      simp only [List.map_cons, List.map_nil, List.cons_append, List.nil_append] at hd
      refine ⟨by rw [hd, repL]; simp only [seesMk1 _ _ 42 (by decide), seesMk1 _ _ 43 (by decide), seesMk1 _ _ 63 (by decide)]; rfl, ?_⟩
      rw [dupL, if_neg (by rw [seesAt]; simp only; rw [hd, seesMk1 _ _ 42 (by decide)]; decide), if_pos (by rw [seesAt]; simp only; rw [hd, seesMk1 _ _ 43 (by decide)]; rfl), hx1, show hi = -1 by omega]
      rfl
    · rw [if_neg c2] at hd ⊢
      by_cases c3 : ere = true ∧ lo = 0 ∧ hi = 1
      · rw [if_pos c3] at hd ⊢
        obtain ⟨rfl, rfl, rfl⟩ := c3
        simp only [List.map_cons, List.map_nil, List.cons_append, List.nil_append] at hd
        refine ⟨by rw [hd, repL]; simp only [seesMk1 _ _ 42 (by decide), seesMk1 _ _ 43 (by decide), seesMk1 _ _ 63 (by decide)]; rfl, ?_⟩
        rw [dupL, if_neg (by rw [seesAt]; simp only; rw [hd, seesMk1 _ _ 42 (by decide)]; decide), if_neg (by rw [seesAt]; simp only; rw [hd, seesMk1 _ _ 43 (by decide)]; decide), if_pos (by rw [seesAt]; simp only; rw [hd, seesMk1 _ _ 63 (by decide)]; rfl), hx1]
        rfl
      · rw [if_neg c3] at hd ⊢
        have hi1 := interval_read (en := en) h1 h2 h3 hd
        generalize itoB lo ++ ((if hi = lo then [] else 44 :: (if 0 ≤ hi then itoB hi else [])) ++ signB ere 125) = body at hd hi1 ⊢
        rw [List.map_append, List.append_assoc] at hd
        have hs := sees_sign (q := q) ere 123 (body.map (mq q) ++ rest)
        rw [← hd] at hs
        refine ⟨by rw [repL, hs, Bool.or_true], ?_⟩
        have no : ∀ c, c = 42 ∨ c = 43 ∨ c = 63 → seesAt L p [c] = false := by
          intro c hc
          rw [seesAt, hd]
          cases ere with
          | true => simp only [signB, if_true, List.map_cons, List.cons_append, seesMk1 _ _ c (by omega)]; rcases hc with rfl | rfl | rfl <;> decide
          | false => simp only [signB, Bool.false_eq_true, if_false, List.map_cons, List.cons_append, seesMk1 _ _ c (by omega)]; rcases hc with rfl | rfl | rfl <;> decide
        rw [dupL]
        simp only
        rw [no 42 (by simp), no 43 (by simp), no 63 (by simp), if_neg Bool.false_ne_true, if_neg Bool.false_ne_true, if_neg Bool.false_ne_true, hi1]
        simp only
        rw [← hx1]
end
end Go.Proofs.YtfjbnpdffillbaaGreatDoor

/- Plain law: what is spelled of a tree is read as the tree; no line end stands in it. No program in sight. No condition. -/
namespace Go.Proofs.YtfjbnpdffillbaaGreatDoor

variable {q : Bool}

/-! ### Parts of a list of nodes -/
def seg (re : List Nd) (i j : Nat) : List Nd := (re.drop i).take (j - i)
theorem seg_nil (re : List Nd) (i : Nat) : seg re i i = [] := by simp [seg]
theorem seg_cons {re : List Nd} {i j : Nat} {x : Nd} (hx : re[i]? = some x) (hij : i < j) : seg re i j = x :: seg re (i + 1) j := by
  obtain ⟨hi, hx⟩ := List.getElem?_eq_some_iff.1 hx
  rw [seg, seg, List.drop_eq_getElem_cons hi, hx, show j - i = (j - (i + 1)) + 1 by omega, List.take_succ_cons]
theorem seg_append {re : List Nd} {i a j : Nat} (h1 : i ≤ a) (h2 : a ≤ j) : seg re i a ++ seg re a j = seg re i j := by
  rw [seg, seg, seg, show j - i = (a - i) + (j - a) by omega, List.take_add, List.drop_drop, show i + (a - i) = a by omega]
theorem seg_all (re : List Nd) : seg re 0 re.length = re := by simp [seg]
theorem node_lt {re : List Nd} {f g i : Nat} {en : List Bool} {j : Nat} {en' : List Bool} (h : nodeN re f g i en = some (j, en')) : i < j ∧ j ≤ re.length := by
  have := nodeN_good re f g i en _ h
  exact ⟨this.1, this.2.1⟩
theorem kids_le {re : List Nd} {f g : Nat} : ∀ (k i : Nat) (en : List Bool) (j : Nat) (en' : List Bool), kidsN (nodeN re f g) k i en = some (j, en') → i + k ≤ j
  | 0, i, en, j, en', h => by simp only [kidsN, Option.some.injEq, Prod.mk.injEq] at h; omega
  | k + 1, i, en, j, en', h => by
    rw [kidsN] at h
    split at h
    · cases h
    · rename_i a e1 h1
      have := node_lt h1
      have := kids_le k a e1 j en' h
      omega
theorem node_el {re : List Nd} : ∀ (f g i : Nat) (en : List Bool) (j : Nat) (en' : List Bool), nodeN re f g i en = some (j, en') → en.length ≤ 255 → en'.length ≤ 255
  | 0, _, _, _, _, _, h, _ => by simp [nodeN] at h
  | f + 1, g, i, en, j, en', h, hl => by
    have hk : ∀ (g k i : Nat) (en : List Bool) (j : Nat) (en' : List Bool), kidsN (nodeN re f g) k i en = some (j, en') → en.length ≤ 255 → en'.length ≤ 255 := by
      intro g k
      induction k with
      | zero => intro i en j en' h hl; simp only [kidsN, Option.some.injEq, Prod.mk.injEq] at h; rw [← h.2]; exact hl
      | succ k ih =>
        intro i en j en' h hl
        rw [kidsN] at h
        split at h
        · cases h
        · rename_i a e1 h1
          exact ih _ _ _ _ h (node_el f g i en a e1 h1 hl)
    obtain ⟨x, hx⟩ := nodeN_e h
    have ho := good_op hx.good
    by_cases h1 : x.op ≤ 3 ∨ x.op = 8
    · rw [(hx.leaf h1).2]; exact hl
    · by_cases h6 : x.op = 6
      · exact node_el f g _ _ _ _ (hx.rep h6) hl
      · by_cases h7 : x.op = 7
        · obtain ⟨_, h2, _, e1, h3, rfl⟩ := hx.grp h7
          have := node_el f (g + 1) _ _ _ _ h3 (by simp; omega)
          simpa using this
        · exact hk _ _ _ _ _ _ (hx.kids (by omega)) hl
/-! ### How parts begin -/
theorem itoB_head (m : Int) : ∃ y t, itoB m = y :: t ∧ (y = 45 ∨ 48 ≤ y ∧ y ≤ 57) := by
  unfold itoB
  split
  · exact ⟨45, _, rfl, .inl rfl⟩
  · cases h : digB m.toNat with
    | nil => have := digB_len m.toNat; rw [h] at this; cases this
    | cons y t => exact ⟨y, t, rfl, .inr (digB_digit m.toNat y (by rw [h]; exact List.mem_cons_self ..))⟩
theorem sign40_hs (ere : Bool) (t : List Nat) : Hs ere (signB ere 40 ++ t) := by
  cases ere with
  | true => exact ⟨40, t, rfl, by decide, fun _ => by decide, fun h => by cases h⟩
  | false => exact ⟨92, 40 :: t, rfl, by decide, fun _ => by decide, fun _ _ => ⟨40, t, rfl, by decide, by decide⟩⟩
section
variable {ere : Bool} {re : List Nd} {wh : Nat → Option (List Nat × Nat)}
theorem atomP_hs {i : Nat} {s : List Nat} {j : Nat} (h : atomP ere re wh i = some (s, j)) : Hs ere s := by
  unfold atomP at h
  split at h
  · cases h
  · split at h
    · cases h; exact setB_hs _ _
    · split at h
      · split at h
        · cases h
        · split at h
          · cases h; exact sign40_hs _ _
          · split at h
            · cases h
            · cases h; exact sign40_hs _ _
      · split at h
        · split at h
          · cases h
          · rename_i hc
            cases h
            rename_i x _ _ _ _
            obtain ⟨y, t, hy, hy2⟩ := itoB_head x.n
            rw [hy]
            exact ⟨92, y :: t, rfl, by decide, fun _ => by decide, fun _ _ => ⟨y, t, rfl, by omega, by omega⟩⟩
        · cases h
theorem partP_hs {first last : Bool} {i : Nat} {s : List Nat} {j : Nat} (h : partP ere re wh first last i = some (s, j)) : Hs ere s := by
  unfold partP at h
  split at h
  · cases h
  · split at h
    · split at h
      · cases h; exact ⟨94, [], rfl, by decide, fun _ => by decide, fun _ h => by cases h⟩
      · cases h
    · split at h
      · split at h
        · cases h; exact ⟨36, [], rfl, by decide, fun _ => by decide, fun _ h => by cases h⟩
        · cases h
      · split at h
        · split at h
          · cases h
          · rename_i h1
            cases h
            exact (atomP_hs h1).append _
        · exact atomP_hs h
theorem partsP_hs : ∀ {m : Nat} {first : Bool} {i : Nat} {s : List Nat} {j : Nat}, partsP ere re wh (m + 1) first i = some (s, j) → Hs ere s := by
  intro m first i s j h
  rw [partsP] at h
  split at h
  · cases h
  · rename_i h1
    split at h
    · cases h
    · cases h
      exact (partP_hs h1).append _
theorem partsP_len : ∀ (m : Nat) {first : Bool} {i : Nat} {s : List Nat} {j : Nat}, partsP ere re wh m first i = some (s, j) → m ≤ s.length
  | 0, _, _, _, _, _ => Nat.zero_le _
  | m + 1, first, i, s, j, h => by
    rw [partsP] at h
    split at h
    · cases h
    · rename_i h1
      split at h
      · cases h
      · rename_i h2
        cases h
        have := (partP_hs h1).pos
        have := partsP_len m h2
        rw [List.length_append]
        omega
theorem rowP_hs {i : Nat} {s : List Nat} {j : Nat} (h : rowP ere re wh i = some (s, j)) : Hs ere s := by
  unfold rowP at h
  split at h
  · cases h
  · rename_i x hx
    split at h
    · exact partP_hs h
    · split at h
      · cases h
      · rename_i h1
        obtain ⟨m, hm⟩ : ∃ m, x.kids.toNat = m + 1 := ⟨x.kids.toNat - 1, by omega⟩
        rw [hm] at h
        exact partsP_hs h
theorem rowsP_len : ∀ (m : Nat) {first : Bool} {i : Nat} {s : List Nat} {j : Nat}, rowsP ere re wh m first i = some (s, j) → m ≤ s.length
  | 0, _, _, _, _, _ => Nat.zero_le _
  | m + 1, first, i, s, j, h => by
    rw [rowsP] at h
    split at h
    · cases h
    · rename_i h1
      split at h
      · cases h
      · rename_i h2
        cases h
        have := (rowP_hs h1).pos
        have := rowsP_len m h2
        simp only [List.length_append]
        omega
theorem rowsP_bar {m i : Nat} {s : List Nat} {j : Nat} (h : rowsP ere re wh (m + 1) false i = some (s, j)) : ∃ t, s = 124 :: t ∧ rowsP ere re wh (m + 1) true i = some (t, j) := by
  rw [rowsP] at h ⊢
  split at h
  · cases h
  · split at h
    · cases h
    · rename_i h2
      cases h
      exact ⟨_, rfl, rfl⟩
/-! ### There and back -/
/-- The whole at a place, where k more groups may be opened. -/
def WOK (q ere : Bool) (re : List Nd) (L : List Mk) (wh : Nat → Option (List Nat × Nat)) (k : Nat) : Prop :=
  ∀ (F i : Nat) (en : List Bool) (j : Nat) (en' : List Bool) (s : List Nat) (jj p : Nat) (rest : List Mk), en.length ≤ 255 → nodeN re F (64 - k) i en = some (j, en') → wh i = some (s, jj) → L.drop p = s.map (mq q) ++ rest → Cl ere k rest →
    jj = j ∧ sidesK ere L k ⟨p, en⟩ = .ok (seg re i j) ⟨p + s.length, en'⟩
variable {L : List Mk}
theorem sides_empty {k p : Nat} {en : List Bool} {rest : List Mk} (hk : k ≠ 64) (hd : L.drop p = (signB ere 41).map (mq q) ++ rest) : sidesK ere L k ⟨p, en⟩ = .ok [catN 0] ⟨p, en⟩ := by
  have hs := sees_sign (q := q) ere 41 rest
  rw [← hd] at hs
  have hc : Cl ere k (L.drop p) := by unfold Cl; rw [if_neg hk]; exact hs
  rw [sidesK, sidesS, sidesL, rowS, row_fin (s := ⟨p, en⟩) hc.fin]
  simp only
  rw [show seesAt L p [124] = seesL (L.drop p) [124] from rfl, hc.bar]
  rfl
theorem atom_group {grp : Rst → Out (List Nd)} {first : Bool} {p : Nat} {en : List Bool} {rest : List Mk} (hd : L.drop p = (signB ere 40).map (mq q) ++ rest) : atomL ere first L grp ⟨p, en⟩ = withTrue (grp ⟨p, en⟩) := by
  cases ere with
  | true =>
    simp only [signB, if_true, List.map_cons, List.map_nil, List.cons_append, List.nil_append] at hd
    obtain ⟨m0, l0, d1⟩ := mark_drop hd
    unfold atomL
    simp only [m0, show (mq q 40).p = false from mqp (by decide), show (mq q 40).b = 40 from rfl]
    rw [if_neg (by decide), if_neg (by decide), if_neg (by decide), if_neg (by decide), if_neg (by decide), if_neg (by decide), if_pos (by decide)]
  | false =>
    simp only [signB, Bool.false_eq_true, if_false, List.map_cons, List.map_nil, List.cons_append, List.nil_append] at hd
    obtain ⟨m0, l0, d1⟩ := mark_drop hd
    obtain ⟨m1, l1, d2⟩ := mark_drop d1
    unfold atomL
    simp only [m0, show (mq q 92).p = false from mqp (by decide), show (mq q 92).b = 92 from rfl]
    rw [if_neg (by decide), if_neg (by decide), if_neg (by decide), if_pos (by decide)]
    unfold escapeL
    simp only
    rw [if_neg (by omega), m1, if_neg (by rw [mqp (by decide)]; decide), if_pos (by rfl)]
theorem group_ok {k p : Nat} {en e1 : List Bool} {inner : List Nat} {rest : List Mk} {l : List Nd} (hk : k < 64) (hen : en.length < 255) (hd : L.drop p = (signB ere 40 ++ (inner ++ signB ere 41)).map (mq q) ++ rest)
    (hs : sidesK ere L k ⟨p + wideB ere, en ++ [false]⟩ = .ok l ⟨p + wideB ere + inner.length, e1⟩) :
    groupL ere L (k + 1) ⟨p, en⟩ = .ok (groupN (en.length + 1) :: l) ⟨p + (signB ere 40 ++ (inner ++ signB ere 41)).length, e1.set en.length true⟩ := by
  rw [groupL_succ ere L k hk, if_neg (by simp only; omega)]
  simp only
  rw [hs]
  simp only
  simp only [List.map_append, List.append_assoc] at hd
  have d1 := drop_add hd
  have d2 := drop_add d1
  rw [signB_len] at d2
  rw [if_neg]
  · simp only [List.length_append, signB_len]
    congr 2
    omega
  · intro e
    rw [e, List.drop_length] at d2
    cases ere <;> simp [signB] at d2
theorem atom_ok {k : Nat} (hk : k ≤ 64) (HW : ∀ k', k = k' + 1 → WOK q ere re L wh k') {F i : Nat} {en : List Bool} {j : Nat} {en' : List Bool} {s : List Nat} {jj p : Nat} {rest : List Mk} {first : Bool} (_ : en.length ≤ 255)
    (hn : nodeN re F (64 - k) i en = some (j, en')) (ha : atomP ere re wh i = some (s, jj)) (hd : L.drop p = s.map (mq q) ++ rest) :
    jj = j ∧ atomL ere first L (groupL ere L k) ⟨p, en⟩ = .ok (seg re i j, true) ⟨p + s.length, en'⟩ := by
  cases F with
  | zero => simp [nodeN] at hn
  | succ F =>
    have hij := node_lt hn
    obtain ⟨x, hx⟩ := nodeN_e hn
    have hsg := seg_cons hx.hx hij.1
    unfold atomP at ha
    rw [hx.hx] at ha
    simp only at ha
    split at ha
    · rename_i h1
      obtain ⟨rfl, rfl⟩ := hx.leaf (.inl (by omega))
      cases ha
      refine ⟨rfl, ?_⟩
      rw [hsg, seg_nil, good_set hx.good h1]
      exact atom_set hd
    · split at ha
      · rename_i h7
        obtain ⟨hxe, hel, hg, e1, hin, rfl⟩ := hx.grp h7
        obtain ⟨k, rfl⟩ : ∃ k', k = k' + 1 := ⟨k - 1, by omega⟩
        have hk64 : k < 64 := by omega
        rw [show 64 - (k + 1) + 1 = 64 - k by omega] at hin
        split at ha
        · cases ha
        · rename_i y hy
          split at ha
          · rename_i h4
            cases F with
            | zero => simp [nodeN] at hin
            | succ F =>
              obtain ⟨y', hy'⟩ := nodeN_e hin
              obtain rfl : y' = y := Option.some.inj (hy'.hx.symm.trans hy)
              have hkid := hy'.kids (.inl h4.1)
              rw [h4.2] at hkid
              simp only [Int.toNat_zero, kidsN, Option.some.injEq, Prod.mk.injEq] at hkid
              obtain ⟨rfl, rfl⟩ := hkid
              cases ha
              refine ⟨rfl, ?_⟩
              have hd' : L.drop p = (signB ere 40 ++ ([] ++ signB ere 41)).map (mq q) ++ rest := hd
              have hd2 := hd
              simp only [List.map_append, List.append_assoc] at hd2
              have d1 := drop_add hd2
              rw [signB_len] at d1
              have hs := sides_empty (en := en ++ [false]) (show k ≠ 64 by omega) d1
              have hgr := group_ok hk64 hel hd' hs
              rw [atom_group hd2, hgr, hsg, seg_cons hy (by omega), seg_nil, hxe]
              obtain ⟨c, hc, _⟩ := good_cat hy'.good h4.1
              have hc0 : c = 0 := by
                have := h4.2
                rw [hc] at this
                simp only [catN] at this
                omega
              rw [hc, hc0]
              rfl
          · split at ha
            · cases ha
            · rename_i inner k2 hw
              cases ha
              have hd2 := hd
              simp only [List.map_append, List.append_assoc] at hd2
              have d1 := drop_add hd2
              rw [signB_len] at d1
              obtain ⟨rfl, hs⟩ := HW k rfl F (i + 1) (en ++ [false]) j e1 inner jj (p + wideB ere) _ (by simp; omega) hin hw d1 (by
                unfold Cl
                rw [if_neg (by omega)]
                exact sees_sign (q := q) ere 41 rest)
              refine ⟨rfl, ?_⟩
              rw [atom_group hd2, group_ok hk64 hel hd hs, hsg, hxe]
              rfl
      · split at ha
        · rename_i h8
          split at ha
          · cases ha
          · rename_i hc
            obtain ⟨n, hxe, h1, h2, h3⟩ := hx.ref h8
            obtain ⟨rfl, rfl⟩ := hx.leaf (.inr h8)
            cases ha
            have hxn : x.n = (n : Int) := by rw [hxe]; rfl
            have he : ere = false := by cases ere with | false => rfl | true => exact absurd (.inl rfl) hc
            have h9 : n ≤ 9 := by
              rw [hxn] at hc
              omega
            rw [hxn, itoB_nat, digB_small (by omega)] at hd ⊢
            refine ⟨rfl, ?_⟩
            rw [hsg, seg_nil, hxe]
            exact atom_ref he h1 h9 h2 h3 hd
        · cases ha
theorem part_ok {k : Nat} (hk : k ≤ 64) (HW : ∀ k', k = k' + 1 → WOK q ere re L wh k') {F i : Nat} {en : List Bool} {j : Nat} {en' : List Bool} {s : List Nat} {jj p : Nat} {rest : List Mk} {first last : Bool} (hel : en.length ≤ 255)
    (hn : nodeN re F (64 - k) i en = some (j, en')) (hp : partP ere re wh first last i = some (s, jj)) (hd : L.drop p = s.map (mq q) ++ rest) (hrep : repL ere rest = false) (hlast : last = true → Fin' ere (k == 64) rest)
    {f : Nat} {all : List Nd} {n : Nat} {lead : Bool} (hf : first = (n == 0)) :
    jj = j ∧ ∃ lead', rowL ere (k == 64) L (groupL ere L k) (f + 1) all n lead ⟨p, en⟩ = rowL ere (k == 64) L (groupL ere L k) f (all ++ seg re i j) (n + 1) lead' ⟨p + s.length, en'⟩ := by
  have hs := partP_hs hp
  have hn0 := hn
  cases F with
  | zero => simp [nodeN] at hn
  | succ F =>
    have hij := node_lt hn
    obtain ⟨x, hx⟩ := nodeN_e hn
    have hsg := seg_cons hx.hx hij.1
    unfold partP at hp
    rw [hx.hx] at hp
    simp only at hp
    have hrest : repL ere (L.drop (p + s.length)) = false := by rw [drop_add hd]; exact hrep
    split at hp
    · rename_i h2
      obtain ⟨rfl, rfl⟩ := hx.leaf (.inl (by omega))
      split at hp
      · rename_i hc
        cases hp
        refine ⟨rfl, (([beginN] : List Nd).getD 0 Nd.zero).op == 2, ?_⟩
        rw [hsg, seg_nil, good_begin hx.good h2]
        refine row_one hd hs (atom_begin ?_ hd) rfl
        rw [← hf]
        simpa using hc
      · cases hp
    · split at hp
      · rename_i h3
        obtain ⟨rfl, rfl⟩ := hx.leaf (.inl (by omega))
        split at hp
        · rename_i hc
          cases hp
          refine ⟨rfl, (([endN] : List Nd).getD 0 Nd.zero).op == 2, ?_⟩
          rw [hsg, seg_nil, good_end hx.good h3]
          refine row_one hd hs (atom_end ?_ hd) rfl
          cases he : ere with
          | true => exact .inl rfl
          | false =>
            subst he
            refine .inr ?_
            rcases hlast (by simpa using hc) with h | h | h
            · exact .inl h
            · cases h
            · exact .inr h.1
        · cases hp
      · split at hp
        · rename_i h6
          split at hp
          · cases hp
          · rename_i t j1 ha
            cases hp
            have hd' := hd
            rw [List.map_append, List.append_assoc] at hd'
            obtain ⟨rfl, hat⟩ := atom_ok hk HW (first := n == 0) hel (hx.rep h6) ha hd'
            have d1 := drop_add hd'
            obtain ⟨hr1, hr2⟩ := dup_read (en := en') hx.good h6 d1
            refine ⟨rfl, ((seg re (i + 1) jj).getD 0 Nd.zero).op == 2, ?_⟩
            rw [hsg, row_dup hd' (atomP_hs ha) hat hr1 hr2]
            rw [List.length_append, ← Nat.add_assoc]
        · obtain ⟨rfl, hat⟩ := atom_ok hk HW (first := n == 0) hel hn0 hp hd
          refine ⟨rfl, ((seg re i jj).getD 0 Nd.zero).op == 2, ?_⟩
          rw [row_one hd hs hat (by rw [Bool.true_and]; exact hrest)]
theorem parts_ok {k : Nat} (hk : k ≤ 64) (HW : ∀ k', k = k' + 1 → WOK q ere re L wh k') {F : Nat} : ∀ (m i : Nat) (en : List Bool) (j : Nat) (en' : List Bool) (first : Bool) (s : List Nat) (jj p : Nat) (rest : List Mk) (f : Nat) (all : List Nd) (n : Nat) (lead : Bool),
    en.length ≤ 255 → kidsN (nodeN re F (64 - k)) m i en = some (j, en') → partsP ere re wh m first i = some (s, jj) → L.drop p = s.map (mq q) ++ rest → Fin' ere (k == 64) rest → m < f → first = (n == 0) →
    jj = j ∧ rowL ere (k == 64) L (groupL ere L k) f all n lead ⟨p, en⟩ = .ok (n + m, all ++ seg re i j) ⟨p + s.length, en'⟩
  | 0, i, en, j, en', first, s, jj, p, rest, f, all, n, lead, _, hn, hp, hd, hfin, hf, _ => by
    simp only [kidsN, partsP, Option.some.injEq, Prod.mk.injEq] at hn hp
    obtain ⟨rfl, rfl⟩ := hn
    obtain ⟨rfl, rfl⟩ := hp
    obtain ⟨f, rfl⟩ : ∃ k, f = k + 1 := ⟨f - 1, by omega⟩
    simp only [List.map_nil, List.nil_append] at hd
    refine ⟨rfl, ?_⟩
    rw [row_fin (by simp only; rw [hd]; exact hfin), seg_nil, List.append_nil]
    rfl
  | m + 1, i, en, j, en', first, s, jj, p, rest, f, all, n, lead, hel, hn, hp, hd, hfin, hf, hfi => by
    obtain ⟨f, rfl⟩ : ∃ k, f = k + 1 := ⟨f - 1, by omega⟩
    rw [kidsN] at hn
    split at hn
    · cases hn
    rename_i a e1 h1
    rw [partsP] at hp
    split at hp
    · cases hp
    rename_i s1 j1 h2
    split at hp
    · cases hp
    rename_i t e h3
    cases hp
    have hd' := hd
    rw [List.map_append, List.append_assoc] at hd'
    have hrep : repL ere (t.map (mq q) ++ rest) = false := by
      cases m with
      | zero =>
        simp only [partsP, Option.some.injEq, Prod.mk.injEq] at h3
        rw [← h3.1]
        exact hfin.rep
      | succ m => exact ((partsP_hs h3).safe rest).1
    obtain ⟨rfl, lead', hr⟩ := part_ok hk HW (f := f) (all := all) (lead := lead) hel h1 h2 hd' hrep (by
      intro hm
      have hm0 : m = 0 := by simpa using hm
      subst hm0
      simp only [partsP, Option.some.injEq, Prod.mk.injEq] at h3
      rw [← h3.1]
      exact hfin) hfi
    have d1 := drop_add hd'
    obtain ⟨rfl, hr2⟩ := parts_ok hk HW m j1 e1 j en' false t jj (p + s1.length) rest f (all ++ seg re i j1) (n + 1) lead' (node_el _ _ _ _ _ _ h1 hel) hn h3 d1 hfin (by omega) (by simp)
    refine ⟨rfl, ?_⟩
    have := node_lt h1
    have := kids_le _ _ _ _ _ hn
    rw [hr, hr2, List.append_assoc, seg_append (by omega) (by omega), List.length_append, show n + 1 + m = n + (m + 1) by omega, Nat.add_assoc p]
theorem row_ok {k : Nat} (hk : k ≤ 64) (HW : ∀ k', k = k' + 1 → WOK q ere re L wh k') {F i : Nat} {en : List Bool} {j : Nat} {en' : List Bool} {s : List Nat} {jj p : Nat} {rest : List Mk} (hel : en.length ≤ 255)
    (hn : nodeN re F (64 - k) i en = some (j, en')) (hp : rowP ere re wh i = some (s, jj)) (hd : L.drop p = s.map (mq q) ++ rest) (hfin : Fin' ere (k == 64) rest) :
    jj = j ∧ ∃ m l, rowS ere (k == 64) L (groupL ere L k) ⟨p, en⟩ = .ok (m, l) ⟨p + s.length, en'⟩ ∧ 1 ≤ m ∧ (if m = 1 then l else catN m :: l) = seg re i j := by
  have hs := rowP_hs hp
  have hpos := hs.pos
  have hlen := len_drop hd
  simp only [List.length_append, List.length_map] at hlen
  have hn0 := hn
  cases F with
  | zero => simp [nodeN] at hn
  | succ F =>
    have hij := node_lt hn
    obtain ⟨x, hx⟩ := nodeN_e hn
    have hsg := seg_cons hx.hx hij.1
    unfold rowP at hp
    rw [hx.hx] at hp
    simp only at hp
    split at hp
    · obtain ⟨rfl, lead', hr⟩ := part_ok hk HW (f := L.length) (all := []) (n := 0) (lead := true) hel hn0 hp hd hfin.rep (fun _ => hfin) rfl
      refine ⟨rfl, 1, seg re i jj, ?_, Nat.le_refl _, by rw [if_pos rfl]⟩
      rw [rowS, hr]
      obtain ⟨q, hq⟩ : ∃ q, L.length = q + 1 := ⟨L.length - 1, by omega⟩
      rw [hq, row_fin (by simp only; rw [drop_add hd]; exact hfin), List.nil_append]
    · rename_i h4
      have h4' : x.op = 4 := by omega
      split at hp
      · cases hp
      · rename_i hk0
        have hkid := hx.kids (.inl h4')
        have hm := partsP_len _ hp
        obtain ⟨rfl, hr⟩ := parts_ok hk HW x.kids.toNat (i + 1) en j en' true s jj p rest (L.length + 1) [] 0 true hel hkid hp hd hfin (by omega) rfl
        obtain ⟨c, hc, hc1⟩ := good_cat hx.good h4'
        have hxk : x.kids.toNat = c := by rw [hc]; rfl
        have hc2 : 2 ≤ c := by
          have : ¬ x.kids ≤ 0 := hk0
          rw [hc] at this
          simp only [catN] at this
          omega
        refine ⟨rfl, c, seg re (i + 1) jj, ?_, by omega, ?_⟩
        · rw [rowS, hr, hxk, Nat.zero_add, List.nil_append]
        · rw [if_neg hc1, hsg, hc]
theorem rows_ok {k : Nat} (hk : k ≤ 64) (HW : ∀ k', k = k' + 1 → WOK q ere re L wh k') {F : Nat} : ∀ (m i : Nat) (en : List Bool) (j : Nat) (en' : List Bool) (s : List Nat) (jj p : Nat) (rest : List Mk) (f : Nat) (all : List Nd) (n : Nat),
    en.length ≤ 255 → kidsN (nodeN re F (64 - k)) (m + 1) i en = some (j, en') → rowsP ere re wh (m + 1) true i = some (s, jj) → L.drop p = s.map (mq q) ++ rest → Cl ere k rest → m < f → (1 ≤ m → ere = true) →
    jj = j ∧ sidesL ere L (rowS ere (k == 64) L (groupL ere L k)) f all n ⟨p, en⟩ = .ok (if 1 < n + m + 1 then altN (n + m + 1) :: (all ++ seg re i j) else all ++ seg re i j) ⟨p + s.length, en'⟩
  | m, i, en, j, en', s, jj, p, rest, f, all, n, hel, hn, hp, hd, hcl, hf, he => by
    obtain ⟨f, rfl⟩ : ∃ k, f = k + 1 := ⟨f - 1, by omega⟩
    rw [kidsN] at hn
    split at hn
    · cases hn
    rename_i a e1 h1
    rw [rowsP] at hp
    split at hp
    · cases hp
    rename_i s1 j1 h2
    split at hp
    · cases hp
    rename_i t e h3
    simp only [if_true, List.nil_append, Option.some.injEq, Prod.mk.injEq] at hp
    obtain ⟨rfl, rfl⟩ := hp
    have hd' := hd
    rw [List.map_append, List.append_assoc] at hd'
    have d1 := drop_add hd'
    have hlt := node_lt h1
    have hle := kids_le _ _ _ _ _ hn
    cases m with
    | zero =>
      simp only [rowsP, Option.some.injEq, Prod.mk.injEq] at h3
      obtain ⟨rfl, rfl⟩ := h3
      simp only [kidsN, Option.some.injEq, Prod.mk.injEq] at hn
      obtain ⟨rfl, rfl⟩ := hn
      simp only [List.map_nil, List.nil_append] at hd' d1
      obtain ⟨rfl, m, l, hr, hm, hl⟩ := row_ok hk HW hel h1 h2 hd' hcl.fin
      refine ⟨rfl, ?_⟩
      rw [sidesL, hr]
      simp only
      rw [show seesAt L (p + s1.length) [124] = seesL (L.drop (p + s1.length)) [124] from rfl, d1, hcl.bar, beq_eq_false_iff_ne.2 (show m ≠ 0 by omega), Bool.false_and, if_neg (by decide), Bool.not_false, if_pos rfl, hl, List.append_nil]
    | succ m =>
      have he' := he (by omega)
      obtain ⟨t', rfl, h4⟩ := rowsP_bar h3
      obtain ⟨rfl, q, l, hr, hm, hl⟩ := row_ok hk HW hel h1 h2 hd' (.inr (.inl (by
        rw [he', Bool.true_and]
        simp only [List.map_cons, List.cons_append]
        rw [seesMk1 _ _ 124 (by decide)]
        rfl)))
      simp only [List.map_cons, List.cons_append] at d1
      obtain ⟨_, _, d2⟩ := mark_drop d1
      obtain ⟨rfl, hr2⟩ := rows_ok hk HW m j1 e1 j en' t' e (p + s1.length + 1) rest f (all ++ seg re i j1) (n + 1) (node_el _ _ _ _ _ _ h1 hel) hn h4 d2 hcl (by omega) (fun _ => he')
      refine ⟨rfl, ?_⟩
      rw [sidesL, hr]
      simp only
      rw [show seesAt L (p + s1.length) [124] = seesL (L.drop (p + s1.length)) [124] from rfl, d1, seesMk1 _ _ 124 (by decide), he', beq_eq_false_iff_ne.2 (show q ≠ 0 by omega), Bool.false_and, if_neg (by decide), beq_self_eq_true, Bool.and_self, Bool.not_true, if_neg (by decide), hl]
      rw [he'] at hr2
      rw [hr2, List.append_assoc, seg_append (by omega) (by omega)]
      simp only [List.length_append, List.length_cons]
      rw [show n + 1 + m + 1 = n + (m + 1) + 1 by omega, show p + s1.length + 1 + t'.length = p + (s1.length + (t'.length + 1)) by omega]
theorem whole_ok : ∀ (f k : Nat), k ≤ 64 → WOK q ere re L (wholeP ere re f) k
  | 0, k, _ => fun F i en j en' s jj p rest _ _ h => by simp [wholeP] at h
  | f + 1, k, hk => fun F i en j en' s jj p rest hel hn hw hd hcl => by
    have HW : ∀ k', k = k' + 1 → WOK q ere re L (wholeP ere re f) k' := fun k' h => whole_ok f k' (by omega)
    have hlen := len_drop hd
    simp only [List.length_append, List.length_map] at hlen
    have hn0 := hn
    cases F with
    | zero => simp [nodeN] at hn
    | succ F =>
      have hij := node_lt hn
      obtain ⟨x, hx⟩ := nodeN_e hn
      have hsg := seg_cons hx.hx hij.1
      rw [wholeP, hx.hx] at hw
      simp only at hw
      split at hw
      · have h1 : kidsN (nodeN re (F + 1) (64 - k)) 1 i en = some (j, en') := by simp only [kidsN, hn0]
        have h2 : rowsP ere re (wholeP ere re f) 1 true i = some (s, jj) := by simp only [rowsP, hw, if_true, List.nil_append, List.append_nil]
        have hm := rowsP_len _ h2
        obtain ⟨rfl, hr⟩ := rows_ok hk HW 0 i en j en' s jj p rest (L.length + 1) [] 0 hel h1 h2 hd hcl (by omega) (by omega)
        refine ⟨rfl, ?_⟩
        rw [sidesK, sidesS, hr, if_neg (by omega), List.nil_append]
      · rename_i h5
        have h5' : x.op = 5 := by omega
        split at hw
        · rename_i he
          have hkid := hx.kids (.inr h5')
          obtain ⟨c, hc, hc2⟩ := good_alt hx.good h5'
          have hxk : x.kids.toNat = c := by rw [hc]; rfl
          rw [hxk] at hkid hw
          obtain ⟨m, rfl⟩ : ∃ m, c = m + 1 := ⟨c - 1, by omega⟩
          have hm := rowsP_len _ hw
          obtain ⟨rfl, hr⟩ := rows_ok hk HW m (i + 1) en j en' s jj p rest (L.length + 1) [] 0 hel hkid hw hd hcl (by omega) (fun _ => he)
          refine ⟨rfl, ?_⟩
          rw [sidesK, sidesS, hr, if_pos (by omega), List.nil_append, hsg, hc, Nat.zero_add]
        · cases hw
/-- Bytes, no line end among them. -/
def Okb (s : List Nat) : Prop := ∀ x ∈ s, x ≠ 10 ∧ x < 256
theorem Okb.app {s t : List Nat} (hs : Okb s) (ht : Okb t) : Okb (s ++ t) := fun x hx => (List.mem_append.1 hx).elim (hs x) (ht x)
theorem Okb.nil : Okb [] := fun x hx => by cases hx
theorem Okb.cons {b : Nat} {s : List Nat} (h1 : b ≠ 10) (h2 : b < 256) (hs : Okb s) : Okb (b :: s) := fun x hx => by
  rcases List.mem_cons.1 hx with rfl | h
  · exact ⟨h1, h2⟩
  · exact hs x h
theorem byteB_ok {b : Nat} (hb : b < 256) : Okb (byteB ere b) := by
  unfold byteB
  split
  · exact .cons (by decide) (by decide) (.cons (by decide) (by decide) .nil)
  · split
    · exact .cons (by decide) (by decide) (.cons (by assumption) hb .nil)
    · exact .cons (by assumption) hb .nil
theorem setB_ok (c : Cls) : Okb (setB ere c) := by
  unfold setB
  split
  · exact .cons (by decide) (by decide) .nil
  · split
    · rename_i b hb
      exact byteB_ok (els_lt (c := c) (by rw [hb]; exact List.mem_cons_self ..))
    · exact fun x hx => ⟨fun e => brackB_ten c (e ▸ hx), brackB_lt c x hx⟩
theorem signB_ok {c : Nat} (h : c ≠ 10) (h2 : c < 256) : Okb (signB ere c) := by
  cases ere with
  | true => exact .cons h h2 .nil
  | false => exact .cons (by decide) (by decide) (.cons h h2 .nil)
theorem itoB_ok (m : Int) : Okb (itoB m) := by
  unfold itoB
  split
  · exact .cons (by decide) (by decide) fun x hx => by have := digB_digit _ _ hx; omega
  · exact fun x hx => by have := digB_digit _ _ hx; omega
theorem dupB_ok (x : Nd) : Okb (dupB ere x) := by
  unfold dupB
  split
  · exact .cons (by decide) (by decide) .nil
  · split
    · exact .cons (by decide) (by decide) .nil
    · split
      · exact .cons (by decide) (by decide) .nil
      · refine (signB_ok (by decide) (by decide)).app ((itoB_ok _).app (Okb.app ?_ (signB_ok (by decide) (by decide))))
        split
        · exact .nil
        · refine .cons (by decide) (by decide) ?_
          split
          · exact itoB_ok _
          · exact .nil
section
variable (hw : ∀ i s j, wh i = some (s, j) → Okb s)
include hw
theorem atomP_okb {i : Nat} {s : List Nat} {j : Nat} (h : atomP ere re wh i = some (s, j)) : Okb s := by
  unfold atomP at h
  split at h
  · cases h
  · split at h
    · cases h; exact setB_ok _
    · split at h
      · split at h
        · cases h
        · split at h
          · cases h
            exact (signB_ok (by decide) (by decide)).app (signB_ok (by decide) (by decide))
          · split at h
            · cases h
            · rename_i s2 j2 h2
              cases h
              exact (signB_ok (by decide) (by decide)).app ((hw _ _ _ h2).app (signB_ok (by decide) (by decide)))
      · split at h
        · split at h
          · cases h
          · cases h
            exact .cons (by decide) (by decide) (itoB_ok _)
        · cases h
theorem partP_okb {first last : Bool} {i : Nat} {s : List Nat} {j : Nat} (h : partP ere re wh first last i = some (s, j)) : Okb s := by
  unfold partP at h
  split at h
  · cases h
  · split at h
    · split at h
      · cases h; exact .cons (by decide) (by decide) .nil
      · cases h
    · split at h
      · split at h
        · cases h; exact .cons (by decide) (by decide) .nil
        · cases h
      · split at h
        · split at h
          · cases h
          · rename_i h1
            cases h
            exact (atomP_okb hw h1).app (dupB_ok _)
        · exact atomP_okb hw h
theorem partsP_okb : ∀ (m : Nat) {first : Bool} {i : Nat} {s : List Nat} {j : Nat}, partsP ere re wh m first i = some (s, j) → Okb s
  | 0, _, _, _, _, h => by
    simp only [partsP, Option.some.injEq, Prod.mk.injEq] at h
    rw [← h.1]
    exact .nil
  | m + 1, first, i, s, j, h => by
    rw [partsP] at h
    split at h
    · cases h
    · rename_i h1
      split at h
      · cases h
      · rename_i h2
        cases h
        exact (partP_okb hw h1).app (partsP_okb m h2)
theorem rowP_okb {i : Nat} {s : List Nat} {j : Nat} (h : rowP ere re wh i = some (s, j)) : Okb s := by
  unfold rowP at h
  split at h
  · cases h
  · split at h
    · exact partP_okb hw h
    · split at h
      · cases h
      · exact partsP_okb hw _ h
theorem rowsP_okb : ∀ (m : Nat) {first : Bool} {i : Nat} {s : List Nat} {j : Nat}, rowsP ere re wh m first i = some (s, j) → Okb s
  | 0, _, _, _, _, h => by
    simp only [rowsP, Option.some.injEq, Prod.mk.injEq] at h
    rw [← h.1]
    exact .nil
  | m + 1, first, i, s, j, h => by
    rw [rowsP] at h
    split at h
    · cases h
    · rename_i h1
      split at h
      · cases h
      · rename_i h2
        cases h
        refine Okb.app ?_ ((rowP_okb hw h1).app (rowsP_okb m h2))
        split
        · exact .nil
        · exact .cons (by decide) (by decide) .nil
end
end
theorem wholeP_okb {ere : Bool} {re : List Nd} : ∀ (f i : Nat) (s : List Nat) (j : Nat), wholeP ere re f i = some (s, j) → Okb s
  | 0, _, _, _, h => by simp [wholeP] at h
  | f + 1, i, s, j, h => by
    rw [wholeP] at h
    split at h
    · cases h
    · split at h
      · exact rowP_okb (wholeP_okb f) h
      · split at h
        · exact rowsP_okb (wholeP_okb f) _ h
        · cases h
theorem spellN_okb {ere : Bool} {re : List Nd} {s : List Nat} (h : spellN ere re = some s) : Okb s ∧ s.length ≤ 4096 := by
  unfold spellN at h
  split at h
  · cases h
  · rename_i h1
    split at h
    · cases h
      exact ⟨wholeP_okb _ _ _ _ h1, by assumption⟩
    · cases h
/-- What is spelled of a tree is read as the tree. -/
theorem spell_parse {ere : Bool} {re : List Nd} {s : List Nat} (hs : shapedN re = true) (h : spellN ere re = some s) : parseL ere (s.map (mq q)) = .ok re := by
  unfold spellN at h
  split at h
  · cases h
  rename_i s0 j0 hw
  split at h
  · rename_i hlen
    cases h
    unfold shapedN at hs
    split at hs
    · cases hs
    rename_i j en' hn
    simp only [Bool.and_eq_true, decide_eq_true_eq] at hs
    obtain ⟨rfl, hwt⟩ := hs
    have hd : (s.map (mq q)).drop 0 = s.map (mq q) ++ [] := by simp
    obtain ⟨rfl, hr⟩ := whole_ok (L := s.map (mq q)) 66 64 (Nat.le_refl _) 260 0 [] _ en' s j0 0 [] (by simp) hn hw hd (by unfold Cl; rw [if_pos rfl])
    have hpos : 1 ≤ s.length := by
      rw [show (66 : Nat) = 65 + 1 from rfl, wholeP] at hw
      split at hw
      · cases hw
      · rename_i x hx
        split at hw
        · exact (rowP_hs hw).pos
        · split at hw
          · have := rowsP_len _ hw
            have hij := node_lt hn
            obtain ⟨y, hy⟩ := nodeN_e (f := 259) hn
            obtain rfl : y = x := Option.some.inj (hy.hx.symm.trans hx)
            obtain ⟨c, hc, hc2⟩ := good_alt hy.good (by omega)
            rw [hc] at this
            simp only [altN] at this
            omega
          · cases hw
    rw [seg_all] at hr
    unfold parseL
    rw [List.length_map, if_neg (by omega), if_neg (by omega), hr]
    simp only
    split at hwt
    · cases hwt
    · rename_i wt wn hwe
      rw [hwe]
      simp only [decide_eq_true_eq] at hwt
      simp only
      rw [if_neg (by omega)]
  · cases h
end Go.Proofs.YtfjbnpdffillbaaGreatDoor

/- Plain functions: what address.Print writes; the examples of works. No program in sight. No condition. -/
namespace Go.Proofs.YtfjbnpdffillbaaGreatDoor

/-- Is an address right? -/
def rightA (a : Ad) : Bool :=
  if a.kind = 0 ∨ a.kind = 2 then a.n == 0 && a.re.isEmpty
  else if a.kind = 1 then decide (1 ≤ a.n ∧ a.n ≤ 2147483647) && a.re.isEmpty
  else if a.kind = 3 then a.n == 0 && (a.re.isEmpty || shapedN a.re)
  else false
/-- A spelled regex, a slash being plain. -/
def slashed (s : List Nat) : List Mk := s.map fun b => ⟨b, b == 47⟩
/-- A regex between slashes. -/
def betweenA (ere : Bool) (re : List Nd) : Except Nat (List Nat) :=
  if re = [] then .ok [47, 47]
  else match spellN ere re with
    | none => .error 50
    | some s => match textL 47 (slashed s) with
      | none => .error 50
      | some t => .ok (47 :: t ++ [47])
/-- What Print answers: an error or the bytes. -/
def printA (ere : Bool) (a : Ad) : Except Nat (List Nat) :=
  if rightA a = false then .error 71
  else if a.kind = 0 then .ok []
  else if a.kind = 1 then .ok (itoB a.n)
  else if a.kind = 2 then .ok [36]
  else betweenA ere a.re

/-- The text of works. -/
def wT : List Nat := [49, 50, 44, 47, 97, 47, 112]
theorem wT_one : addrL false wT 0 = (⟨1, 12, []⟩, 0, 2) := by kernel_rfl
theorem wT_two : addrL false wT 3 = (⟨3, 0, [oneN 97]⟩, 0, 6) := by kernel_rfl
end Go.Proofs.YtfjbnpdffillbaaGreatDoor

/- Plain laws: what is spelled is a text between slashes. No program in sight. No condition. -/
namespace Go.Proofs.YtfjbnpdffillbaaGreatDoor

/-- Text's walk over a spelled text whose slashes are plain: is a byte taken by a backslash? none: it fails. -/
def runT : Bool → List Nat → Option Bool
  | t, [] => some t
  | true, b :: l => if b = 47 then none else runT false l
  | false, b :: l => if b = 10 then none else runT (b == 92) l
theorem runT_app : ∀ (a b : List Nat) (t : Bool), runT t (a ++ b) = (runT t a).bind fun t' => runT t' b
  | [], b, t => by simp [runT]
  | x :: a, b, true => by
    rw [List.cons_append, runT, runT]
    split
    · rfl
    · exact runT_app a b false
  | x :: a, b, false => by
    rw [List.cons_append, runT, runT]
    split
    · rfl
    · exact runT_app a b _
theorem text_run : ∀ (s : List Nat) (t t' : Bool) (r : List Mk), runT t s = some t' → (textT 47 t' r).isSome = true → (textT 47 t (slashed s ++ r)).isSome = true
  | [], t, t', r, h, hr => by
    simp only [runT, Option.some.injEq] at h
    subst h
    exact hr
  | b :: s, true, t', r, h, hr => by
    rw [runT] at h
    split at h
    · cases h
    · rename_i hb
      have ih := text_run s false t' r h hr
      have e : slashed (b :: s) = ⟨b, b == 47⟩ :: slashed s := rfl
      rw [e, List.cons_append, textT, beq_eq_false_iff_ne.2 hb, Bool.false_or, if_neg (by decide), Option.isSome_map]
      exact ih
  | b :: s, false, t', r, h, hr => by
    rw [runT] at h
    split at h
    · cases h
    · rename_i hb
      have ih := text_run s _ t' r h hr
      have e : slashed (b :: s) = ⟨b, b == 47⟩ :: slashed s := rfl
      rw [e, List.cons_append, textT]
      by_cases h47 : b = 47
      · subst h47
        rw [if_pos (by decide), if_pos rfl, Option.isSome_map]
        exact ih
      · rw [beq_eq_false_iff_ne.2 h47, if_neg (fun h => by cases h), if_neg (fun h => by rcases h with h | h; exact h47 h; exact hb h), Option.isSome_map]
        exact ih
def Rn (s : List Nat) : Prop := runT false s = some false
theorem Rn.nil : Rn [] := rfl
theorem Rn.app {s t : List Nat} (hs : Rn s) (ht : Rn t) : Rn (s ++ t) := by
  unfold Rn at *
  rw [runT_app, hs]
  exact ht
theorem Rn.cons {b : Nat} {s : List Nat} (h1 : b ≠ 10) (h2 : b ≠ 92) (hs : Rn s) : Rn (b :: s) := by
  unfold Rn at *
  rw [runT, if_neg h1, beq_eq_false_iff_ne.2 h2]
  exact hs
theorem Rn.esc {b : Nat} {s : List Nat} (h : b ≠ 47) (hs : Rn s) : Rn (92 :: b :: s) := by
  unfold Rn at *
  rw [runT, if_neg (by decide), show ((92 : Nat) == 92) = true from rfl, runT, if_neg h]
  exact hs
section
variable {ere : Bool}
theorem byteB_rn (b : Nat) : Rn (byteB ere b) := by
  unfold byteB
  split
  · exact .esc (by decide) .nil
  · rename_i h10
    split
    · rename_i hs
      exact .esc (by rintro rfl; cases ere <;> revert hs <;> decide) .nil
    · rename_i hs
      exact .cons h10 (by rintro rfl; apply hs; cases ere <;> decide) .nil
theorem signB_rn {c : Nat} (h : c ≠ 10 ∧ c ≠ 47) (h2 : c ≠ 92) : Rn (signB ere c) := by
  cases ere with
  | true => exact .cons h.1 h2 .nil
  | false => exact .esc h.2 .nil
theorem dig_rn (n : Nat) : Rn (digB n) := by
  have h : ∀ l : List Nat, (∀ d ∈ l, 48 ≤ d ∧ d ≤ 57) → Rn l := by
    intro l
    induction l with
    | nil => intro _; exact .nil
    | cons d l ih =>
      intro h
      have hd := h d (List.mem_cons_self ..)
      exact .cons (by omega) (by omega) (ih fun x hx => h x (List.mem_cons_of_mem _ hx))
  exact h _ (digB_digit n)
theorem itoB_rn (m : Int) : Rn (itoB m) := by
  unfold itoB
  split
  · exact .cons (by decide) (by decide) (dig_rn _)
  · exact dig_rn _
theorem ref_rn (m : Int) : Rn (92 :: itoB m) := by
  obtain ⟨y, t, h, hy⟩ := itoB_head m
  have hr := itoB_rn m
  rw [h] at hr ⊢
  refine .esc (by omega) ?_
  unfold Rn at hr ⊢
  rw [runT, if_neg (by omega), beq_eq_false_iff_ne.2 (by omega)] at hr
  exact hr
theorem dupB_rn (x : Nd) : Rn (dupB ere x) := by
  unfold dupB
  split
  · exact .cons (by decide) (by decide) .nil
  · split
    · exact .cons (by decide) (by decide) .nil
    · split
      · exact .cons (by decide) (by decide) .nil
      · refine (signB_rn (by decide) (by decide)).app ((itoB_rn _).app (Rn.app ?_ (signB_rn (by decide) (by decide))))
        split
        · exact .nil
        · refine .cons (by decide) (by decide) ?_
          split
          · exact itoB_rn _
          · exact .nil
/-! Brackets: runs rise, so no slash comes behind a backslash. -/
theorem run_end {b : Nat} (X : List Nat) {t : Bool} (h47 : t = true → b ≠ 47) (h10 : b ≠ 10) : ∃ t', runT t (endB b ++ X) = runT t' X ∧ (t' = true → b = 92) := by
  unfold endB
  split
  · rename_i h
    refine ⟨false, ?_, fun h => by cases h⟩
    cases t <;> rcases h with rfl | rfl | rfl | rfl <;> rfl
  · cases t with
    | true => exact ⟨false, by simp [runT, h47 rfl], fun h => by cases h⟩
    | false => exact ⟨b == 92, by simp [runT, h10], fun h => by simpa using h⟩
theorem run_run {r : Nat × Nat} (X : List Nat) {t : Bool} (h47 : t = true → r.1 ≠ 47) (h1 : r.1 ≠ 10) (h2 : r.2 ≠ 10) : ∃ t', runT t (runB r ++ X) = runT t' X ∧ (t' = true → r.2 = 92) := by
  unfold runB
  rw [List.append_assoc]
  obtain ⟨t1, e1, c1⟩ := run_end ((if r.2 = r.1 then [] else 45 :: endB r.2) ++ X) h47 h1
  rw [e1]
  split
  · rename_i h
    exact ⟨t1, rfl, fun ht => h.trans (c1 ht)⟩
  · have e : runT t1 (45 :: endB r.2 ++ X) = runT false (endB r.2 ++ X) := by cases t1 <;> rfl
    rw [e]
    exact run_end X (fun h => by cases h) h2
theorem run_runs : ∀ (l : List (Nat × Nat)) (t : Bool), l.Pairwise (fun a b => a.2 < b.1) → (t = true → ∀ r ∈ l, 92 < r.1) → (∀ r ∈ l, r.1 ≠ 10 ∧ r.2 ≠ 10) → runT t (l.flatMap runB ++ [93]) = some false
  | [], t, _, _, _ => by cases t <;> rfl
  | r :: l, t, hp, ht, hn => by
    rw [List.flatMap_cons, List.append_assoc]
    have hr := hn r (List.mem_cons_self ..)
    obtain ⟨t1, e1, c1⟩ := run_run (r := r) (l.flatMap runB ++ [93]) (t := t) (fun h => by have := ht h r (List.mem_cons_self ..); omega) hr.1 hr.2
    rw [e1]
    rw [List.pairwise_cons] at hp
    exact run_runs l t1 hp.2 (fun h x hx => by have := c1 h; have := hp.1 x hx; omega) (fun x hx => hn x (List.mem_cons_of_mem _ hx))
theorem runs_rise (p : Nat → Bool) : ∀ n, (runsOf ((List.range n).filter p)).Pairwise (fun a b => a.2 < b.1)
  | 0 => by simp [runsOf]
  | n + 1 => by
    have ih := runs_rise p n
    have ok := runsOk p n
    rw [List.range_succ, List.filter_append]
    generalize (List.range n).filter p = G at ih ok ⊢
    cases hp : p n with
    | false =>
      rw [show [n].filter p = [] by simp [hp], List.append_nil]
      exact ih
    | true =>
      rw [show [n].filter p = [n] by simp [hp]]
      have hr : runsOf (G ++ [n]) = runAdd (runsOf G) n := by rw [runsOf, List.foldl_append]; rfl
      rw [hr]
      generalize runsOf G = l at ih ok ⊢
      unfold runAdd
      split
      · simp
      · rename_i r hl
        obtain ⟨ys, rfl⟩ := List.getLast?_eq_some_iff.1 hl
        split
        · rw [List.dropLast_concat]
          rw [List.pairwise_append] at ih ⊢
          exact ⟨ih.1, by simp, fun a ha b hb => by
            simp only [List.mem_singleton] at hb
            subst hb
            exact ih.2.2 a ha r (List.mem_singleton_self _)⟩
        · rw [List.pairwise_append]
          exact ⟨ih, by simp, fun a ha b hb => by
            simp only [List.mem_singleton] at hb
            subst hb
            have := (ok.le a ha).2.1
            exact this⟩
theorem brackB_rn (c : Cls) : Rn (brackB c) := by
  rw [brackB_side]
  refine .cons (by decide) (by decide) (Rn.app ?_ ?_)
  · split
    · exact .cons (by decide) (by decide) .nil
    · exact .nil
  · refine run_runs _ false (runs_rise _ _) (fun h => by cases h) (fun r hr => ?_)
    rcases side_ten c with he | he
    · rw [he, allC_runs] at hr
      simp only [List.mem_singleton] at hr
      subst hr
      decide
    · have h := c.side.runsOk.le r hr
      refine ⟨fun e => ?_, fun e => ?_⟩
      · rw [e, he] at h; cases h.2.2.1
      · rw [e, he] at h; cases h.2.2.2
theorem setB_rn (c : Cls) : Rn (setB ere c) := by
  unfold setB
  split
  · exact .cons (by decide) (by decide) .nil
  · split
    · exact byteB_rn _
    · exact brackB_rn c
variable {re : List Nd} {wh : Nat → Option (List Nat × Nat)}
section
variable (hw : ∀ i s j, wh i = some (s, j) → Rn s)
include hw
theorem atomP_rn {i : Nat} {s : List Nat} {j : Nat} (h : atomP ere re wh i = some (s, j)) : Rn s := by
  unfold atomP at h
  split at h
  · cases h
  · split at h
    · cases h; exact setB_rn _
    · split at h
      · split at h
        · cases h
        · split at h
          · cases h
            exact (signB_rn (by decide) (by decide)).app (signB_rn (by decide) (by decide))
          · split at h
            · cases h
            · rename_i s2 j2 h2
              cases h
              exact (signB_rn (by decide) (by decide)).app ((hw _ _ _ h2).app (signB_rn (by decide) (by decide)))
      · split at h
        · split at h
          · cases h
          · cases h
            exact ref_rn _
        · cases h
theorem partP_rn {first last : Bool} {i : Nat} {s : List Nat} {j : Nat} (h : partP ere re wh first last i = some (s, j)) : Rn s := by
  unfold partP at h
  split at h
  · cases h
  · split at h
    · split at h
      · cases h; exact .cons (by decide) (by decide) .nil
      · cases h
    · split at h
      · split at h
        · cases h; exact .cons (by decide) (by decide) .nil
        · cases h
      · split at h
        · split at h
          · cases h
          · rename_i h1
            cases h
            exact (atomP_rn hw h1).app (dupB_rn _)
        · exact atomP_rn hw h
theorem partsP_rn : ∀ (m : Nat) {first : Bool} {i : Nat} {s : List Nat} {j : Nat}, partsP ere re wh m first i = some (s, j) → Rn s
  | 0, _, _, _, _, h => by
    simp only [partsP, Option.some.injEq, Prod.mk.injEq] at h
    rw [← h.1]
    exact .nil
  | m + 1, first, i, s, j, h => by
    rw [partsP] at h
    split at h
    · cases h
    · rename_i h1
      split at h
      · cases h
      · rename_i h2
        cases h
        exact (partP_rn hw h1).app (partsP_rn m h2)
theorem rowP_rn {i : Nat} {s : List Nat} {j : Nat} (h : rowP ere re wh i = some (s, j)) : Rn s := by
  unfold rowP at h
  split at h
  · cases h
  · split at h
    · exact partP_rn hw h
    · split at h
      · cases h
      · exact partsP_rn hw _ h
theorem rowsP_rn : ∀ (m : Nat) {first : Bool} {i : Nat} {s : List Nat} {j : Nat}, rowsP ere re wh m first i = some (s, j) → Rn s
  | 0, _, _, _, _, h => by
    simp only [rowsP, Option.some.injEq, Prod.mk.injEq] at h
    rw [← h.1]
    exact .nil
  | m + 1, first, i, s, j, h => by
    rw [rowsP] at h
    split at h
    · cases h
    · rename_i h1
      split at h
      · cases h
      · rename_i h2
        cases h
        refine Rn.app ?_ ((rowP_rn hw h1).app (rowsP_rn m h2))
        split
        · exact .nil
        · exact .cons (by decide) (by decide) .nil
end
end
theorem wholeP_rn {ere : Bool} {re : List Nd} : ∀ (f i : Nat) (s : List Nat) (j : Nat), wholeP ere re f i = some (s, j) → Rn s
  | 0, _, _, _, h => by simp [wholeP] at h
  | f + 1, i, s, j, h => by
    rw [wholeP] at h
    split at h
    · cases h
    · split at h
      · exact rowP_rn (wholeP_rn f) h
      · split at h
        · exact rowsP_rn (wholeP_rn f) _ h
        · cases h
/-- What is spelled can be written between slashes. -/
theorem spell_text {ere : Bool} {re : List Nd} {s : List Nat} (h : spellN ere re = some s) : ∃ t, textL 47 (slashed s) = some t := by
  have hr : Rn s := by
    unfold spellN at h
    split at h
    · cases h
    · rename_i h1
      split at h
      · cases h
        exact wholeP_rn _ _ _ _ h1
      · cases h
  have := text_run s false false [] hr rfl
  rw [List.append_nil] at this
  unfold textL
  rw [if_neg (by decide)]
  exact Option.isSome_iff_exists.1 this
end Go.Proofs.YtfjbnpdffillbaaGreatDoor

/- Plain law: what was read of a short list of marks can be spelled. No program in sight. No condition. -/
namespace Go.Proofs.YtfjbnpdffillbaaGreatDoor

/-! ### Runs of a bracket that was read -/
section
variable {L : List Mk}
theorem mark_lt (hu : ∀ i, i < L.length → (markAt L i).b < 256) (i : Nat) : (markAt L i).b < 256 := by
  by_cases h : i < L.length
  · exact hu i h
  · rw [markAt, List.getD_eq_getElem?_getD, List.getElem?_eq_none (by omega)]
    show 0 < 256
    decide
theorem nameL_starts {at0 b0 : Nat} : ∀ (n i : Nat) (s : List Nat) (a : Th), nameL L at0 b0 n i s = (a, none) → a.set.starts ≤ 4 ∧ i + 2 ≤ a.next
  | 0, i, s, a, h => by simp [nameL] at h
  | n + 1, i, s, a, h => by
    unfold nameL at h
    split at h
    · split at h
      · simp at h
      · rename_i c hc
        cases h
        exact ⟨starts_named hc, Nat.le_refl _⟩
    · have := nameL_starts n _ _ _ h
      omega
theorem thing_starts (hu : ∀ i, i < L.length → (markAt L i).b < 256) {at0 n : Nat} {a : Th} (h : thingTh L at0 n = (a, none)) : a.set.starts + n ≤ a.next ∧ a.b < 256 := by
  have hb := (thingTh_next h hu).2.2
  refine ⟨?_, hb⟩
  unfold thingTh at h
  split at h
  · simp at h
  · split at h
    · have := nameL_starts _ _ _ _ h
      omega
    · split at h
      · unfold enclosedTh at h
        repeat' split at h
        all_goals first | (simp at h; done) | skip
        cases h
        have := starts_ofC (mark_lt hu (n + 2))
        simp only
        omega
      · cases h
        have := starts_ofC (mark_lt hu n)
        simp only
        omega
theorem item_starts (hu : ∀ i, i < L.length → (markAt L i).b < 256) {at0 n : Nat} {first : Bool} {a : Th} (h : itemTh L at0 n first = (a, none)) : a.set.starts + n ≤ a.next := by
  unfold itemTh at h
  split at h
  · simp at h
  · rename_i x hx
    have h1 := thing_starts hu hx
    split at h
    · split at h <;> simp at h
    · split at h
      · cases h
        exact h1.1
      · split at h
        · simp at h
        · split at h
          · simp at h
          · rename_i y hy
            have h2 := thing_starts hu hy
            split at h
            · simp at h
            · cases h
              have := starts_rangeC (lo := x.b) h2.2
              simp only
              omega
theorem items_starts (hu : ∀ i, i < L.length → (markAt L i).b < 256) {at0 : Nat} : ∀ (n : Nat) (c : Cls) (i : Nat) (first : Bool) (r : Cls × Nat), itemsL L at0 n c i first = .ok r → r.1.starts + i ≤ c.starts + r.2
  | 0, c, i, first, r, h => by simp [itemsL] at h
  | n + 1, c, i, first, r, h => by
    unfold itemsL at h
    split at h
    · cases h
      exact Nat.le_refl _
    · split at h
      · cases h
      · rename_i x hx
        have h1 := item_starts hu hx
        have h2 := items_starts hu n _ _ _ _ h
        have h3 := starts_orC c x.set
        omega
theorem items_first (hu : ∀ i, i < L.length → (markAt L i).b < 256) {at0 n : Nat} {c : Cls} {i : Nat} {r : Cls × Nat} (h : itemsL L at0 n c i true = .ok r) : i < r.2 := by
  cases n with
  | zero => simp [itemsL] at h
  | succ n =>
    unfold itemsL at h
    rw [Bool.not_true, Bool.false_and, if_neg Bool.false_ne_true] at h
    split at h
    · cases h
    · rename_i x hx
      have h1 := (itemTh_next hx hu).1
      have h2 := (itemsL_next hu _ _ _ _ _ h).1
      omega
theorem bracket_starts (hu : ∀ i, i < L.length → (markAt L i).b < 256) {at0 : Nat} {r : Cls × Nat} (h : bracketL L at0 = .ok r) : r.1.side.starts + at0 + 1 ≤ r.2 ∧ at0 + 3 ≤ r.2 := by
  unfold bracketL at h
  simp only at h
  split at h
  · cases h
  · rename_i c i hx
    have h1 := items_starts hu _ _ _ _ _ hx
    have h2 := items_first hu hx
    rw [starts_zero] at h1
    have hi : at0 + 1 ≤ (if signAt L (at0 + 1) 94 = true then at0 + 2 else at0 + 1) := by split <;> omega
    generalize (if signAt L (at0 + 1) 94 = true then at0 + 2 else at0 + 1) = i0 at h1 h2 hi
    cases h
    simp only at h1 h2 ⊢
    have hs : (if signAt L (at0 + 1) 94 = true then c.not else c).side.starts ≤ c.starts + 1 := by
      split
      · unfold Cls.side
        split
        · rw [not_not]; omega
        · exact starts_notC c
      · exact side_starts c
    exact ⟨by omega, by omega⟩
end
/-! ### Lengths -/
theorem els_one {b : Nat} (hb : b < 256) : (Cls.of [b]).els = [b] := by
  have hm : ∀ x, x ∈ (Cls.of [b]).els ↔ x = b := fun x => by
    rw [mem_els]
    constructor
    · rintro ⟨h1, h2⟩
      rw [has_of (by simpa using hb) h1] at h2
      simpa using h2
    · rintro rfl
      refine ⟨hb, ?_⟩
      rw [has_of (by simpa using hb) hb]
      simp
  have hs := els_sorted (Cls.of [b])
  generalize (Cls.of [b]).els = l at hm hs
  cases l with
  | nil => have := (hm b).2 rfl; simp at this
  | cons x l =>
    have hx := (hm x).1 (List.mem_cons_self ..)
    cases l with
    | nil => rw [hx]
    | cons y l =>
      have hy := (hm y).1 (by simp)
      rw [List.pairwise_cons] at hs
      have := hs.1 y (List.mem_cons_self ..)
      omega
theorem byteB_len (ere : Bool) (b : Nat) : (byteB ere b).length ≤ 2 := by
  unfold byteB
  split
  · simp
  · split <;> simp
theorem setB_one (ere : Bool) {b : Nat} (hb : b < 256) : (setB ere (Cls.of [b])).length ≤ 2 := by
  unfold setB
  rw [els_one hb]
  rw [if_neg (by simp)]
  exact byteB_len ere b
theorem setB_len (ere : Bool) (c : Cls) : (setB ere c).length ≤ 3 + 11 * c.side.starts := by
  unfold setB
  split
  · simp only [List.length_cons, List.length_nil]
    omega
  · split
    · have := byteB_len ere (by assumption)
      omega
    · exact brackB_len c
theorem setB_all (ere : Bool) : setB ere (Cls.range 0 255) = [46] := by
  unfold setB
  rw [if_pos]
  show (Cls.range 0 255).els.length = 256
  decide +kernel
theorem itoB_len3 {m : Int} (h0 : 0 ≤ m) (h1 : m ≤ 255) : (itoB m).length ≤ 3 := by
  unfold itoB
  rw [if_neg (by omega)]
  exact digB_len20 2 m.toNat (by omega)
theorem signB_le2 (ere : Bool) (c : Nat) : (signB ere c).length ≤ 2 := by cases ere <;> simp [signB]
theorem dupB_len (ere : Bool) {x : Nd} (hx : goodN x = true) (ho : x.op = 6) : (dupB ere x).length ≤ 11 := by
  obtain ⟨_, h1, h2, h3⟩ := good_rep hx ho
  unfold dupB
  split
  · simp
  · split
    · simp
    · split
      · simp
      · have a1 := signB_le2 ere 123
        have a2 := signB_le2 ere 125
        have a3 := itoB_len3 h1 h2
        have a4 : (if x.max = x.min then ([] : List Nat) else 44 :: (if 0 ≤ x.max then itoB x.max else [])).length ≤ 4 := by
          split
          · simp
          · rw [List.length_cons]
            split
            · have := itoB_len3 (m := x.max) (by omega) (by omega)
              omega
            · simp
        simp only [List.length_append]
        omega
/-! ### What can be spelled, wherever it stands -/
def PA (ere : Bool) (k : Nat) (l : List Nd) (n : Nat) : Prop := ∀ pre post f, k ≤ f → ∃ s, atomP ere (pre ++ l ++ post) (wholeP ere (pre ++ l ++ post) f) pre.length = some (s, pre.length + l.length) ∧ s.length ≤ n
def PP (ere first last : Bool) (k : Nat) (l : List Nd) (n : Nat) : Prop := ∀ pre post f, k ≤ f → ∃ s, partP ere (pre ++ l ++ post) (wholeP ere (pre ++ l ++ post) f) first last pre.length = some (s, pre.length + l.length) ∧ s.length ≤ n
def PS (ere first : Bool) (m k : Nat) (l : List Nd) (n : Nat) : Prop := ∀ pre post f, k ≤ f → ∃ s, partsP ere (pre ++ l ++ post) (wholeP ere (pre ++ l ++ post) f) m first pre.length = some (s, pre.length + l.length) ∧ s.length ≤ n
def PRow (ere : Bool) (k : Nat) (l : List Nd) (n : Nat) : Prop := ∀ pre post f, k ≤ f → ∃ s, rowP ere (pre ++ l ++ post) (wholeP ere (pre ++ l ++ post) f) pre.length = some (s, pre.length + l.length) ∧ s.length ≤ n
def PRS (ere : Bool) (m k : Nat) (l : List Nd) (n : Nat) : Prop := ∀ pre post f, k ≤ f → ∃ s, rowsP ere (pre ++ l ++ post) (wholeP ere (pre ++ l ++ post) f) m true pre.length = some (s, pre.length + l.length) ∧ s.length ≤ n
def PW (ere : Bool) (k : Nat) (l : List Nd) (n : Nat) : Prop := ∀ pre post f, k < f → ∃ s, wholeP ere (pre ++ l ++ post) f pre.length = some (s, pre.length + l.length) ∧ s.length ≤ n
theorem atomP_op {ere : Bool} {re : List Nd} {wh : Nat → Option (List Nat × Nat)} {i : Nat} {r : List Nat × Nat} (h : atomP ere re wh i = some r) : ∃ x, re[i]? = some x ∧ (x.op = 1 ∨ x.op = 7 ∨ x.op = 8) := by
  unfold atomP at h
  split at h
  · cases h
  · rename_i x hx
    refine ⟨x, hx, ?_⟩
    split at h
    · exact .inl (by assumption)
    · split at h
      · exact .inr (.inl (by assumption))
      · split at h
        · exact .inr (.inr (by assumption))
        · cases h
theorem partP_op {ere : Bool} {re : List Nd} {wh : Nat → Option (List Nat × Nat)} {first last : Bool} {i : Nat} {r : List Nat × Nat} (h : partP ere re wh first last i = some r) : ∃ x, re[i]? = some x ∧ x.op ≠ 4 ∧ x.op ≠ 5 := by
  have h0 := h
  unfold partP at h
  split at h
  · cases h
  · rename_i x hx
    refine ⟨x, hx, ?_⟩
    split at h
    · omega
    · split at h
      · omega
      · split at h
        · omega
        · obtain ⟨y, hy, ho⟩ := atomP_op h
          obtain rfl : y = x := Option.some.inj (hy.symm.trans hx)
          omega
theorem rowP_op {ere : Bool} {re : List Nd} {wh : Nat → Option (List Nat × Nat)} {i : Nat} {r : List Nat × Nat} (h : rowP ere re wh i = some r) : ∃ x, re[i]? = some x ∧ x.op ≠ 5 ∧ ¬ (x.op = 4 ∧ x.kids = 0) := by
  unfold rowP at h
  split at h
  · cases h
  · rename_i x hx
    refine ⟨x, hx, ?_⟩
    split at h
    · rename_i h4
      obtain ⟨y, hy, ho⟩ := partP_op h
      obtain rfl : y = x := Option.some.inj (hy.symm.trans hx)
      exact ⟨ho.2, fun h => h4 h.1⟩
    · split at h
      · cases h
      · rename_i h4 hk
        exact ⟨by omega, fun h => hk (by omega)⟩
section
variable {ere : Bool} {k : Nat}
theorem PA.mono {l : List Nd} {n m : Nat} (h : PA ere k l n) (hn : n ≤ m) : PA ere k l m := fun pre post f hf => by
  obtain ⟨s, h1, h2⟩ := h pre post f hf
  exact ⟨s, h1, by omega⟩
theorem PP.mono {first last : Bool} {l : List Nd} {n m : Nat} (h : PP ere first last k l n) (hn : n ≤ m) : PP ere first last k l m := fun pre post f hf => by
  obtain ⟨s, h1, h2⟩ := h pre post f hf
  exact ⟨s, h1, by omega⟩
theorem PA.set (c : Cls) : PA ere k [setN c] (setB ere c).length := fun pre post f _ => by
  refine ⟨setB ere c, ?_, Nat.le_refl _⟩
  unfold atomP
  rw [get_mid]
  rfl
theorem PA.ref {n : Nat} (he : ere = false) (h9 : n ≤ 9) : PA ere k [refN n] 2 := fun pre post f _ => by
  refine ⟨92 :: itoB (n : Int), ?_, ?_⟩
  · unfold atomP
    rw [get_mid]
    simp only
    rw [if_neg (by show ¬ (8 : Int) = 1; decide), if_neg (by show ¬ (8 : Int) = 7; decide), if_pos (by rfl), if_neg]
    · rfl
    · rw [he]
      simp only [refN, Bool.false_eq_true, false_or]
      omega
  · rw [itoB_nat, digB_small (by omega)]
    simp
theorem PA.group {l : List Nd} {n m : Nat} (h : PW ere k l n ∨ l = [catN 0]) : PA ere (k + 1) (groupN m :: l) (n + 4) := fun pre post f hf => by
  have a1 := signB_le2 ere 40
  have a2 := signB_le2 ere 41
  have hg : (pre ++ (groupN m :: l) ++ post)[pre.length]? = some (groupN m) := get_mid ..
  unfold atomP
  rw [hg]
  simp only
  rw [if_neg (by show ¬ (7 : Int) = 1; decide), if_pos (by rfl)]
  rcases h with h | rfl
  · obtain ⟨s, h1, h2⟩ := h (pre ++ [groupN m]) post f (by omega)
    rw [show pre ++ [groupN m] ++ l ++ post = pre ++ (groupN m :: l) ++ post by simp, show (pre ++ [groupN m]).length = pre.length + 1 by simp] at h1
    obtain ⟨x, hx, hno⟩ : ∃ x, (pre ++ (groupN m :: l) ++ post)[pre.length + 1]? = some x ∧ ¬ (x.op = 4 ∧ x.kids = 0) := by
      have h3 := h1
      cases f with
      | zero => simp [wholeP] at h3
      | succ f =>
        rw [wholeP] at h3
        split at h3
        · cases h3
        · rename_i x hx
          refine ⟨x, hx, ?_⟩
          split at h3
          · obtain ⟨y, hy, _, ho⟩ := rowP_op h3
            obtain rfl : y = x := Option.some.inj (hy.symm.trans hx)
            exact ho
          · omega
    rw [hx]
    simp only
    rw [if_neg hno, h1]
    refine ⟨signB ere 40 ++ (s ++ signB ere 41), ?_, ?_⟩
    · simp only [List.length_cons, Nat.add_assoc, Nat.add_comm 1]
    · simp only [List.length_append]
      omega
  · have hx : (pre ++ [groupN m, catN 0] ++ post)[pre.length + 1]? = some (catN 0) := by
      simp
    rw [hx]
    simp only
    rw [if_pos ⟨rfl, rfl⟩]
    refine ⟨_, rfl, ?_⟩
    simp only [List.length_append]
    omega
theorem PA.part {l : List Nd} {n : Nat} (h : PA ere k l n) (first last : Bool) : PP ere first last k l n := fun pre post f hf => by
  obtain ⟨s, h1, h2⟩ := h pre post f hf
  refine ⟨s, ?_, h2⟩
  obtain ⟨x, hx, ho⟩ := atomP_op h1
  unfold partP
  rw [hx]
  simp only
  rw [if_neg (by omega), if_neg (by omega), if_neg (by omega), h1]
theorem PP.begin {first last : Bool} (h : ere = true ∨ first = true) : PP ere first last k [beginN] 1 := fun pre post f _ => by
  refine ⟨[94], ?_, by simp⟩
  unfold partP
  rw [get_mid]
  simp only
  rw [if_pos (by rfl), if_pos (by simpa using h)]
  rfl
theorem PP.end_ {first last : Bool} (h : ere = true ∨ last = true) : PP ere first last k [endN] 1 := fun pre post f _ => by
  refine ⟨[36], ?_, by simp⟩
  unfold partP
  rw [get_mid]
  simp only
  rw [if_neg (by show ¬ (3 : Int) = 2; decide), if_pos (by rfl), if_pos (by simpa using h)]
  rfl
theorem PS.nil (first : Bool) : PS ere first 0 k [] 0 := fun pre post f _ => ⟨[], by simp [partsP], Nat.le_refl _⟩
theorem PS.cons {first : Bool} {m : Nat} {a l : List Nd} {n1 n2 : Nat} (h1 : PP ere first (m == 0) k a n1) (h2 : PS ere false m k l n2) : PS ere first (m + 1) k (a ++ l) (n1 + n2) := fun pre post f hf => by
  obtain ⟨s, e1, l1⟩ := h1 pre (l ++ post) f hf
  obtain ⟨t, e2, l2⟩ := h2 (pre ++ a) post f hf
  rw [show pre ++ a ++ (l ++ post) = pre ++ (a ++ l) ++ post by simp] at e1
  rw [show pre ++ a ++ l ++ post = pre ++ (a ++ l) ++ post by simp, List.length_append] at e2
  refine ⟨s ++ t, ?_, by rw [List.length_append]; omega⟩
  rw [partsP, e1]
  simp only
  rw [e2]
  simp only [List.length_append, Nat.add_assoc]
theorem PS.row {m : Nat} {l : List Nd} {n : Nat} (h : PS ere true m k l n) (hm : 1 ≤ m) : PRow ere k (if m = 1 then l else catN m :: l) n := by
  by_cases h1 : m = 1
  · subst h1
    rw [if_pos rfl]
    intro pre post f hf
    obtain ⟨s, e1, l1⟩ := h pre post f hf
    have e2 := e1
    simp only [partsP] at e2
    split at e2
    · cases e2
    · rename_i s1 j1 hp
      simp only [List.append_nil] at e2
      obtain ⟨x, hx, h4, _⟩ := partP_op hp
      refine ⟨s, ?_, l1⟩
      unfold rowP
      rw [hx]
      simp only
      rw [if_pos h4]
      rw [← e2]
      exact hp
  · rw [if_neg h1]
    intro pre post f hf
    obtain ⟨s, e1, l1⟩ := h (pre ++ [catN m]) post f hf
    rw [show pre ++ [catN m] ++ l ++ post = pre ++ (catN m :: l) ++ post by simp, show (pre ++ [catN m]).length = pre.length + 1 by simp] at e1
    refine ⟨s, ?_, l1⟩
    unfold rowP
    rw [get_mid]
    simp only
    rw [if_neg (by simp [catN]), if_neg (by simp only [catN]; omega), show (catN m).kids.toNat = m from rfl, e1, List.length_cons, Nat.add_assoc, Nat.add_comm 1]
theorem PRow.one {l : List Nd} {n : Nat} (h : PRow ere k l n) : PRS ere 1 k l n := fun pre post f hf => by
  obtain ⟨s, e1, l1⟩ := h pre post f hf
  refine ⟨s, ?_, l1⟩
  simp only [rowsP, e1, if_true, List.nil_append, List.append_nil]
theorem PRow.cons {m : Nat} {a l : List Nd} {n1 n2 : Nat} (h1 : PRow ere k a n1) (h2 : PRS ere (m + 1) k l n2) : PRS ere (m + 2) k (a ++ l) (n1 + 1 + n2) := fun pre post f hf => by
  obtain ⟨s, e1, l1⟩ := h1 pre (l ++ post) f hf
  obtain ⟨t, e2, l2⟩ := h2 (pre ++ a) post f hf
  rw [show pre ++ a ++ (l ++ post) = pre ++ (a ++ l) ++ post by simp] at e1
  rw [show pre ++ a ++ l ++ post = pre ++ (a ++ l) ++ post by simp, List.length_append] at e2
  have e3 : rowsP ere (pre ++ (a ++ l) ++ post) (wholeP ere (pre ++ (a ++ l) ++ post) f) (m + 1) false (pre.length + a.length) = some (124 :: t, pre.length + a.length + l.length) := by
    rw [rowsP] at e2 ⊢
    split at e2
    · cases e2
    · rename_i h3
      split at e2
      · cases e2
      · rename_i h4
        simp only [if_true, List.nil_append, Option.some.injEq, Prod.mk.injEq] at e2
        simp only [Bool.false_eq_true, if_false]
        rw [← e2.1, ← e2.2]
        rfl
  refine ⟨s ++ (124 :: t), ?_, by simp only [List.length_append, List.length_cons]; omega⟩
  rw [rowsP, e1]
  simp only
  rw [e3]
  simp only [if_true, List.nil_append, List.length_append, Nat.add_assoc]
theorem PRS.whole {m : Nat} {l : List Nd} {n : Nat} (h : PRS ere (m + 1) k l n) (he : 1 ≤ m → ere = true) : PW ere k (if 1 < m + 1 then altN (m + 1) :: l else l) n := by
  by_cases h1 : 1 < m + 1
  · rw [if_pos h1]
    intro pre post f hf
    obtain ⟨f, rfl⟩ : ∃ q, f = q + 1 := ⟨f - 1, by omega⟩
    obtain ⟨s, e1, l1⟩ := h (pre ++ [altN (m + 1)]) post f (by omega)
    rw [show pre ++ [altN (m + 1)] ++ l ++ post = pre ++ (altN (m + 1) :: l) ++ post by simp, show (pre ++ [altN (m + 1)]).length = pre.length + 1 by simp] at e1
    refine ⟨s, ?_, l1⟩
    rw [wholeP, get_mid]
    simp only
    rw [if_neg (by simp [altN]), if_pos (he (by omega)), show (altN (m + 1)).kids.toNat = m + 1 from rfl, e1, List.length_cons, Nat.add_assoc, Nat.add_comm 1]
  · rw [if_neg h1]
    obtain rfl : m = 0 := by omega
    intro pre post f hf
    obtain ⟨f, rfl⟩ : ∃ q, f = q + 1 := ⟨f - 1, by omega⟩
    obtain ⟨s, e1, l1⟩ := h pre post f (by omega)
    simp only [rowsP] at e1
    split at e1
    · cases e1
    · rename_i s1 j1 hr
      simp only [if_true, List.nil_append, List.append_nil] at e1
      obtain ⟨x, hx, h5, _⟩ := rowP_op hr
      refine ⟨s, ?_, l1⟩
      rw [wholeP, hx]
      simp only
      rw [if_pos h5, hr, e1]
end
/-! ### What is read can be spelled -/
section
variable {ere : Bool} {L : List Mk}
end
end Go.Proofs.YtfjbnpdffillbaaGreatDoor

/- Plain laws: how long a printed bracket is at most: only four bytes are written between dots. No program in sight. No condition. -/
namespace Go.Proofs.YtfjbnpdffillbaaGreatDoor
/-- How many of the four special bytes lie in a run. -/
def spc (r : Nat × Nat) : Nat := [45, 91, 93, 94].countP fun x => decide (r.1 ≤ x) && decide (x ≤ r.2)
def qn (a b x : Nat) : Nat := if a ≤ x ∧ x ≤ b then 1 else 0
def un (k x : Nat) : Nat := if k ≤ x then 1 else 0
theorem qn_two {a b : Nat} (h : a < b) (x : Nat) : qn a a x + qn b b x ≤ qn a b x := by
  unfold qn
  (repeat' split) <;> omega
theorem qn_more {a b : Nat} (h : a ≤ b) (x : Nat) : qn a (b + 1) x = qn a b x + qn (b + 1) (b + 1) x := by
  unfold qn
  (repeat' split) <;> omega
theorem qn_un {b k : Nat} (h : k ≤ b) (x : Nat) : qn b b x + un (b + 1) x ≤ un k x := by
  unfold qn un
  (repeat' split) <;> omega
theorem qn_self (b : Nat) : qn b b b = 1 := if_pos ⟨Nat.le_refl _, Nat.le_refl _⟩
theorem un_zero (x : Nat) : un 0 x = 1 := if_pos (Nat.zero_le _)
theorem spc_eq (r : Nat × Nat) : spc r = qn r.1 r.2 94 + qn r.1 r.2 93 + qn r.1 r.2 91 + qn r.1 r.2 45 := by
  unfold spc qn
  simp only [List.countP_cons, List.countP_nil, ← Bool.decide_and, decide_eq_true_eq, Nat.zero_add]
theorem endB_len (b : Nat) : (endB b).length ≤ 1 + 4 * spc (b, b) := by
  rw [spc_eq]
  unfold endB
  simp only
  split
  · rename_i h
    simp only [List.length_cons, List.length_nil]
    rcases h with rfl | rfl | rfl | rfl
    · have := qn_self 91; omega
    · have := qn_self 93; omega
    · have := qn_self 45; omega
    · have := qn_self 94; omega
  · simp only [List.length_cons, List.length_nil]; omega
theorem spc_two {r : Nat × Nat} (h : r.1 < r.2) : spc (r.1, r.1) + spc (r.2, r.2) ≤ spc r := by
  simp only [spc_eq]
  have a := qn_two h 94
  have b := qn_two h 93
  have c := qn_two h 91
  have d := qn_two h 45
  omega
theorem runB_spc {r : Nat × Nat} (h : r.1 ≤ r.2) : (runB r).length ≤ 3 + 4 * spc r := by
  have e1 := endB_len r.1
  have e2 := endB_len r.2
  unfold runB
  rw [List.length_append]
  split
  · rename_i he
    have : spc (r.1, r.1) = spc r := by rw [show r = (r.1, r.1) from Prod.ext rfl he]
    simp only [List.length_nil]
    omega
  · rename_i he
    have := spc_two (r := r) (by omega)
    rw [List.length_cons]
    omega
def spcs (l : List (Nat × Nat)) : Nat := (l.map spc).sum
theorem runs_spcs : ∀ (l : List (Nat × Nat)), (∀ r ∈ l, r.1 ≤ r.2) → (l.flatMap runB).length ≤ 3 * l.length + 4 * spcs l
  | [], _ => by simp
  | r :: l, h => by
    have h1 := runB_spc (h r (List.mem_cons_self ..))
    have h2 := runs_spcs l fun x hx => h x (List.mem_cons_of_mem _ hx)
    simp only [List.flatMap_cons, List.length_append, List.length_cons, spcs, List.map_cons, List.sum_cons] at h2 ⊢
    omega
theorem spcs_append (l m : List (Nat × Nat)) : spcs (l ++ m) = spcs l + spcs m := by simp [spcs]
theorem spcs_one (r : Nat × Nat) : spcs [r] = spc r := by simp [spcs]
theorem spc_more {r : Nat × Nat} (h : r.1 ≤ r.2) : spc (r.1, r.2 + 1) = spc r + spc (r.2 + 1, r.2 + 1) := by
  simp only [spc_eq]
  have a := qn_more h 94
  have b := qn_more h 93
  have c := qn_more h 91
  have d := qn_more h 45
  omega
theorem runAdd_spcs {l : List (Nat × Nat)} {b : Nat} (h : ∀ r ∈ l, r.1 ≤ r.2) : spcs (runAdd l b) = spcs l + spc (b, b) ∧ ∀ r ∈ runAdd l b, r.1 ≤ r.2 := by
  unfold runAdd
  split
  · rename_i hn
    rw [List.getLast?_eq_none_iff] at hn
    subst hn
    exact ⟨by rw [spcs_one]; simp [spcs], fun r hr => by simp only [List.mem_singleton] at hr; subst hr; exact Nat.le_refl _⟩
  · rename_i r hr
    have hm := h r (List.mem_of_getLast? hr)
    have hl : l = l.dropLast ++ [r] := by
      obtain ⟨ys, rfl⟩ := List.getLast?_eq_some_iff.1 hr
      rw [List.dropLast_concat]
    split
    · rename_i hb
      subst hb
      refine ⟨?_, fun x hx => ?_⟩
      · rw [spcs_append, spcs_one, spc_more hm]
        conv => rhs; rw [hl, spcs_append, spcs_one]
        omega
      · rcases List.mem_append.1 hx with h1 | h1
        · exact h x (List.dropLast_subset _ h1)
        · simp only [List.mem_singleton] at h1; subst h1; simp only; omega
    · refine ⟨by rw [spcs_append, spcs_one], fun x hx => ?_⟩
      rcases List.mem_append.1 hx with h1 | h1
      · exact h x h1
      · simp only [List.mem_singleton] at h1; subst h1; exact Nat.le_refl _
theorem fold_spcs : ∀ (bs : List Nat) (l : List (Nat × Nat)), (∀ r ∈ l, r.1 ≤ r.2) → spcs (bs.foldl runAdd l) = spcs l + (bs.map fun b => spc (b, b)).sum
  | [], l, _ => by simp
  | b :: bs, l, h => by
    obtain ⟨h1, h2⟩ := runAdd_spcs (b := b) h
    rw [List.foldl_cons, fold_spcs bs _ h2, h1, List.map_cons, List.sum_cons]
    omega
theorem sum_spc : ∀ (bs : List Nat) (k : Nat), bs.Pairwise (· < ·) → (∀ b ∈ bs, k ≤ b) → (bs.map fun b => spc (b, b)).sum ≤ un k 94 + un k 93 + un k 91 + un k 45
  | [], _, _, _ => by simp
  | b :: bs, k, hp, hk => by
    obtain ⟨h1, h2⟩ := List.pairwise_cons.1 hp
    have ih := sum_spc bs (b + 1) h2 fun x hx => h1 x hx
    have hb := hk b (List.mem_cons_self ..)
    rw [List.map_cons, List.sum_cons, spc_eq]
    simp only
    have a := qn_un hb 94
    have b' := qn_un hb 93
    have c := qn_un hb 91
    have d := qn_un hb 45
    omega
theorem runs_spcs_four (c : Cls) : spcs c.runs ≤ 4 := by
  unfold Cls.runs runsOf
  rw [fold_spcs _ _ (by simp)]
  have h := sum_spc c.els 0 (els_sorted c) fun _ _ => Nat.zero_le _
  simp only [un_zero] at h
  have : spcs [] = 0 := rfl
  omega
theorem runsB_len3 (c : Cls) : (c.runs.flatMap runB).length ≤ 3 * c.starts + 16 := by
  have h1 := runs_spcs c.runs fun r hr => (c.runsOk.le r hr).1
  have h2 := runs_spcs_four c
  rw [runs_starts] at h1
  omega
theorem brackB_len3 (c : Cls) : (brackB c).length ≤ 19 + 3 * c.side.starts := by
  have h1 := runsB_len3 c.side
  rw [brackB_side]
  have h3 : (if c.neg then [94] else ([] : List Nat)).length ≤ 1 := by split <;> simp
  simp only [List.length_append, List.length_cons, List.length_nil]
  omega
end Go.Proofs.YtfjbnpdffillbaaGreatDoor
