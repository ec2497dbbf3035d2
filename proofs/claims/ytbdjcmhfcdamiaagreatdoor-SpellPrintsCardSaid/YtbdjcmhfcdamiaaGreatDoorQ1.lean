/- Parts: Spec Rs Ts Ka Pk. -/

/- Plain functions on lists: what the code of syntax, class and bracket computes. No program in sight. No condition. -/

namespace Go.Proofs.YtbdjcmhfcdamiaaGreatDoor

/-- A mark: its byte, and whether it is plain. -/
structure Mk where
  b : Nat
  p : Bool
deriving DecidableEq

/-- A class: four words. -/
structure Cls where
  w0 : BitVec 64
  w1 : BitVec 64
  w2 : BitVec 64
  w3 : BitVec 64
deriving DecidableEq

/-- 'or', 'and', 'not', one bit: by names that simp does not open. -/
def orw (a b : BitVec 64) : BitVec 64 := a ||| b
def andw (a b : BitVec 64) : BitVec 64 := a &&& b
def notw (a : BitVec 64) : BitVec 64 := ~~~a
def bit1 (n : Nat) : BitVec 64 := 1#64 <<< n

def Cls.zero : Cls := ⟨0#64, 0#64, 0#64, 0#64⟩
def Cls.word (c : Cls) : Nat → BitVec 64
  | 0 => c.w0
  | 1 => c.w1
  | 2 => c.w2
  | _ => c.w3
def Cls.set (c : Cls) (j : Nat) (v : BitVec 64) : Cls :=
  match j with
  | 0 => { c with w0 := v }
  | 1 => { c with w1 := v }
  | 2 => { c with w2 := v }
  | _ => { c with w3 := v }
/-- The class and a byte. -/
def Cls.add (c : Cls) (b : Nat) : Cls := c.set (b / 64) (orw (c.word (b / 64)) (bit1 (b % 64)))
def Cls.of (l : List Nat) : Cls := l.foldl Cls.add Cls.zero
def Cls.or (a b : Cls) : Cls := ⟨orw a.w0 b.w0, orw a.w1 b.w1, orw a.w2 b.w2, orw a.w3 b.w3⟩
def Cls.and (a b : Cls) : Cls := ⟨andw a.w0 b.w0, andw a.w1 b.w1, andw a.w2 b.w2, andw a.w3 b.w3⟩
def Cls.not (a : Cls) : Cls := ⟨notw a.w0, notw a.w1, notw a.w2, notw a.w3⟩
/-- The bytes from lo to hi. -/
def Cls.range (lo hi : Nat) : Cls := Cls.of (List.range' lo (hi + 1 - lo))

/-! ### Bracket expressions -/
def markAt (L : List Mk) (i : Nat) : Mk := L.getD i ⟨0, false⟩
end Go.Proofs.YtbdjcmhfcdamiaaGreatDoor

/- Plain functions on lists: what the reader of package syntax computes. No program in sight. No condition. -/
namespace Go.Proofs.YtbdjcmhfcdamiaaGreatDoor

/-- A node of a tree. -/
structure Nd where
  op : Int
  set : Cls
  n : Int
  min : Int
  max : Int
  kids : Int
deriving DecidableEq
def Nd.zero : Nd := ⟨0, Cls.zero, 0, 0, 0, 0⟩
def setN (c : Cls) : Nd := ⟨1, c, 0, 0, 0, 0⟩
/-- Where the reader stands, and which groups have ended. -/
structure Rst where
  i : Nat
  ended : List Bool
deriving DecidableEq
/-- What a part of the reader comes to: an answer and where it stands then, or an error and its place. -/
inductive Out (α : Type) where
  | ok (a : α) (s : Rst)
  | no (e i : Nat)

def signB (ere : Bool) (c : Nat) : List Nat := if ere then [c] else [92, c]
end Go.Proofs.YtbdjcmhfcdamiaaGreatDoor

/- Plain functions on lists of nodes: what the trees' functions compute. No program in sight. No condition. -/
namespace Go.Proofs.YtbdjcmhfcdamiaaGreatDoor

/-- How often a node's kids count. -/
def timesN (n : Nd) : Int := if n.op = 6 then (if n.max < 0 then n.min + 1 else max n.max 1) else 1
def kidsW (g : Nat → Option (Int × Nat)) : Nat → Int → Nat → Option (Int × Nat)
  | 0, sum, to => some (sum, to)
  | k + 1, sum, to => match g to with
    | none => none
    | some (w, nx) => kidsW g k (min (sum + w) 16385) nx
/-- The weight of the tree at a place, and the place behind it. -/
def weighN (re : List Nd) : Nat → Nat → Option (Int × Nat)
  | 0, _ => none
  | f + 1, i => match re[i]? with
    | none => none
    | some n => match kidsW (weighN re f) n.kids.toNat 0 (i + 1) with
      | none => none
      | some (sum, to) => some (min (timesN n * sum + 1) 16385, to)

/-- Has a node just what its kind names, and as many kids as it may? -/
def goodN (n : Nd) : Bool :=
  decide (1 ≤ n.op) && decide (n.op ≤ 8)
  && (n.op == 1 || n.set == Cls.zero)
  && (n.op == 7 || n.op == 8 || n.n == 0)
  && (if n.op = 6 then decide (0 ≤ n.min) && decide (n.min ≤ 255) && (n.max == -1 || decide (n.min ≤ n.max) && decide (n.max ≤ 255)) else n.min == 0 && n.max == 0)
  && (if n.op = 6 ∨ n.op = 7 then n.kids == 1 else if n.op = 5 then decide (2 ≤ n.kids) else if n.op = 4 then n.kids == 0 || decide (2 ≤ n.kids) else n.kids == 0)

def kidsN (g : Nat → List Bool → Option (Nat × List Bool)) : Nat → Nat → List Bool → Option (Nat × List Bool)
  | 0, i, en => some (i, en)
  | k + 1, i, en => match g i en with
    | none => none
    | some (j, en') => kidsN g k j en'
/-- Is the node at the place right, with all in it? So many levels are left, so many groups stand around it; the place behind it, the groups so far and which have ended. -/
def nodeN (re : List Nd) : Nat → Nat → Nat → List Bool → Option (Nat × List Bool)
  | 0, _, _, _ => none
  | f + 1, g, i, en => match re[i]? with
    | none => none
    | some n =>
      if !goodN n then none
      else if n.op == 8 && (decide (n.n < 1) || decide ((en.length : Int) < n.n) || !en.getD (n.n.toNat - 1) false) then none
      else if n.op = 7 then
        if n.n ≠ (en.length : Int) + 1 ∨ 255 < n.n ∨ 64 ≤ g then none
        else match kidsN (nodeN re f (g + 1)) n.kids.toNat (i + 1) (en ++ [false]) with
          | none => none
          | some (j, en') => some (j, en'.set en.length true)
      else kidsN (nodeN re f g) n.kids.toNat (i + 1) en
def shapedN (re : List Nd) : Bool :=
  match nodeN re 260 0 0 [] with
  | none => false
  | some (j, _) => decide (j = re.length) && (match weighN re 260 0 with
    | none => false
    | some (w, _) => decide (w ≤ 16384))
def behindN (re : List Nd) (i : Int) : Int := if shapedN re && decide (0 ≤ i) && decide (i < re.length) then (match weighN re 260 i.toNat with | none => -1 | some (_, to) => to) else -1

/-! ### Laws -/
theorem kidsW_of_kidsN {g : Nat → List Bool → Option (Nat × List Bool)} {h : Nat → Option (Int × Nat)} (hg : ∀ i en j en', g i en = some (j, en') → ∃ w, h i = some (w, j)) :
    ∀ (k i : Nat) (en : List Bool) (j : Nat) (en' : List Bool), kidsN g k i en = some (j, en') → ∀ sum, ∃ w, kidsW h k sum i = some (w, j)
  | 0, i, en, j, en', he, sum => by simp only [kidsN, Option.some.injEq, Prod.mk.injEq] at he; exact ⟨sum, by simp [kidsW, he.1]⟩
  | k + 1, i, en, j, en', he, sum => by
    unfold kidsN at he
    split at he
    · cases he
    · rename_i j1 en1 h1
      obtain ⟨w, hw⟩ := hg _ _ _ _ h1
      obtain ⟨w2, hw2⟩ := kidsW_of_kidsN hg k _ _ _ _ he (min (sum + w) 16385)
      exact ⟨w2, by simp only [kidsW, hw, hw2]⟩
/-- What is well shaped can be weighed, and ends there. -/
theorem weighN_of_nodeN (re : List Nd) : ∀ (f g i : Nat) (en : List Bool) (j : Nat) (en' : List Bool), nodeN re f g i en = some (j, en') → ∃ w, weighN re f i = some (w, j)
  | 0, _, _, _, _, _, h => by simp [nodeN] at h
  | f + 1, g, i, en, j, en', h => by
    unfold nodeN at h
    split at h
    · cases h
    · rename_i n hn
      have fin : ∀ g' en1 j1 en2, kidsN (nodeN re f g') n.kids.toNat (i + 1) en1 = some (j1, en2) → ∃ w, weighN re (f + 1) i = some (w, j1) := fun g' en1 j1 en2 hk => by
        obtain ⟨w, hw⟩ := kidsW_of_kidsN (fun i en j en' => weighN_of_nodeN re f g' i en j en') _ _ _ _ _ hk 0
        exact ⟨min (timesN n * w + 1) 16385, by simp only [weighN, hn, hw]⟩
      split at h
      · cases h
      · split at h
        · cases h
        · split at h
          · split at h
            · cases h
            · split at h
              · cases h
              · rename_i j1 en1 hk
                cases h
                exact fin _ _ _ _ hk
          · exact fin _ _ _ _ h
theorem kidsW_mono {g h : Nat → Option (Int × Nat)} (hg : ∀ i r, g i = some r → h i = some r) : ∀ (k : Nat) (sum : Int) (i : Nat) (r : Int × Nat), kidsW g k sum i = some r → kidsW h k sum i = some r
  | 0, _, _, _, he => he
  | k + 1, sum, i, r, he => by
    unfold kidsW at he ⊢
    split at he
    · cases he
    · rename_i w nx h1
      rw [hg _ _ h1]
      exact kidsW_mono hg k _ _ _ he
theorem weighN_succ (re : List Nd) : ∀ (f i : Nat) (r : Int × Nat), weighN re f i = some r → weighN re (f + 1) i = some r
  | 0, _, _, h => by simp [weighN] at h
  | f + 1, i, r, h => by
    rw [weighN] at h ⊢
    split at h
    · cases h
    · split at h
      · cases h
      · rename_i sum to hk
        rw [kidsW_mono (fun i r => weighN_succ re f i r) _ _ _ _ hk]
        exact h
theorem weighN_mono (re : List Nd) {f g i : Nat} {r : Int × Nat} (hfg : f ≤ g) (h : weighN re f i = some r) : weighN re g i = some r := by
  induction hfg with
  | refl => exact h
  | step _ ih => exact weighN_succ re _ _ _ ih
end Go.Proofs.YtbdjcmhfcdamiaaGreatDoor

/- Plain laws on classes as sets of bytes; what class.Runs and bracket.Print compute. No program in sight. No condition. -/
namespace Go.Proofs.YtbdjcmhfcdamiaaGreatDoor

/-- Is the byte in the class? -/
def Cls.has (c : Cls) (b : Nat) : Bool := (c.word (b / 64)).getLsbD (b % 64)
/-- Its bytes, rising. -/
def Cls.els (c : Cls) : List Nat := (List.range 256).filter c.has
theorem bit1_at {n i : Nat} (hn : n < 64) : (bit1 n).getLsbD i = decide (i = n) := by
  unfold bit1
  rw [BitVec.getLsbD_shiftLeft, BitVec.getLsbD_one]
  by_cases h : i = n
  · subst h; simp [hn]
  · by_cases h2 : i < n
    · simp [h2, h]
    · have : i - n ≠ 0 := by omega
      simp [h, this]
theorem word_set (c : Cls) (j k : Nat) (hj : j < 4) (hk : k < 4) (v : BitVec 64) : (c.set j v).word k = if k = j then v else c.word k := by
  match j, hj, k, hk with
  | 0, _, 0, _ | 0, _, 1, _ | 0, _, 2, _ | 0, _, 3, _ | 1, _, 0, _ | 1, _, 1, _ | 1, _, 2, _ | 1, _, 3, _ | 2, _, 0, _ | 2, _, 1, _ | 2, _, 2, _ | 2, _, 3, _ | 3, _, 0, _ | 3, _, 1, _ | 3, _, 2, _ | 3, _, 3, _ => rfl
theorem has_add (c : Cls) {b i : Nat} (hb : b < 256) (hi : i < 256) : (c.add b).has i = (c.has i || decide (i = b)) := by
  unfold Cls.has Cls.add
  rw [word_set _ _ _ (by omega) (by omega)]
  by_cases h : i / 64 = b / 64
  · rw [if_pos h, h, orw, BitVec.getLsbD_or, bit1_at (by omega)]
    congr 1
    rw [decide_eq_decide]
    omega
  · rw [if_neg h, decide_eq_false (show i ≠ b by omega), Bool.or_false]
theorem word_not (a : Cls) (k : Nat) : a.not.word k = ~~~(a.word k) := by
  match k with
  | 0 | 1 | 2 | _ + 3 => rfl
theorem has_not (a : Cls) (i : Nat) : a.not.has i = !a.has i := by
  unfold Cls.has; rw [word_not, BitVec.getLsbD_not, decide_eq_true (show i % 64 < 64 by omega), Bool.true_and]
theorem has_zero (i : Nat) : Cls.zero.has i = false := by
  unfold Cls.has Cls.zero Cls.word
  split <;> simp
theorem has_adds : ∀ (l : List Nat) (c : Cls) {i : Nat}, (∀ b ∈ l, b < 256) → i < 256 → (l.foldl Cls.add c).has i = (c.has i || decide (i ∈ l))
  | [], c, i, _, _ => by simp
  | b :: l, c, i, hl, hi => by
    rw [List.foldl_cons, has_adds l (c.add b) (fun x hx => hl x (List.mem_cons_of_mem _ hx)) hi, has_add c (hl b (List.mem_cons_self ..)) hi, Bool.or_assoc]
    congr 1
    simp
theorem has_of {l : List Nat} {i : Nat} (hl : ∀ b ∈ l, b < 256) (hi : i < 256) : (Cls.of l).has i = decide (i ∈ l) := by
  unfold Cls.of
  rw [has_adds l _ hl hi, has_zero, Bool.false_or]
theorem has_range {lo hi i : Nat} (hh : hi < 256) (hi' : i < 256) : (Cls.range lo hi).has i = (decide (lo ≤ i) && decide (i ≤ hi)) := by
  unfold Cls.range
  rw [has_of (fun b hb => by have := List.mem_range'_1.1 hb; omega) hi', ← Bool.decide_and, decide_eq_decide, List.mem_range'_1]
  omega
theorem Cls.ext' {c d : Cls} (h : ∀ i, i < 256 → c.has i = d.has i) : c = d := by
  have hw : ∀ k, k < 4 → c.word k = d.word k := fun k hk => by
    refine BitVec.eq_of_getLsbD_eq fun i hi => ?_
    have := h (k * 64 + i) (by omega)
    unfold Cls.has at this
    rwa [show (k * 64 + i) / 64 = k by omega, show (k * 64 + i) % 64 = i by omega] at this
  obtain ⟨c0, c1, c2, c3⟩ := c
  obtain ⟨d0, d1, d2, d3⟩ := d
  have h0 := hw 0 (by omega)
  have h1 := hw 1 (by omega)
  have h2 := hw 2 (by omega)
  have h3 := hw 3 (by omega)
  simp only [Cls.word] at h0 h1 h2 h3
  subst h0 h1 h2 h3
  rfl
theorem mem_els {c : Cls} {b : Nat} : b ∈ c.els ↔ b < 256 ∧ c.has b = true := by
  unfold Cls.els
  rw [List.mem_filter, List.mem_range]
theorem els_lt {c : Cls} {b : Nat} (h : b ∈ c.els) : b < 256 := (mem_els.1 h).1
theorem els_inj {c d : Cls} (h : c.els = d.els) : c = d := Cls.ext' fun i hi => by
  have : i ∈ c.els ↔ i ∈ d.els := by rw [h]
  rw [mem_els, mem_els] at this
  cases hc : c.has i <;> cases hd : d.has i <;> simp_all
theorem els_length (c : Cls) : c.els.length ≤ 256 := by
  have := List.length_filter_le c.has (List.range 256)
  rwa [List.length_range] at this

/-! ### Runs, and the canonical bracket -/
/-- One byte more, behind all that came. -/
def runAdd (l : List (Nat × Nat)) (b : Nat) : List (Nat × Nat) :=
  match l.getLast? with
  | none => [(b, b)]
  | some r => if r.2 + 1 = b then l.dropLast ++ [(r.1, b)] else l ++ [(b, b)]
def runsOf (l : List Nat) : List (Nat × Nat) := l.foldl runAdd []
def Cls.runs (c : Cls) : List (Nat × Nat) := runsOf c.els
def endB (b : Nat) : List Nat := if b = 91 ∨ b = 93 ∨ b = 45 ∨ b = 94 then [91, 46, b, 46, 93] else [b]
def runB (r : Nat × Nat) : List Nat := endB r.1 ++ (if r.2 = r.1 then [] else 45 :: endB r.2)
def allC : Cls := Cls.range 0 255
/-- Is it written as what it is not? -/
def Cls.neg (c : Cls) : Bool := decide (c ≠ allC) && (c.has 10 || decide (c = Cls.zero))
def brackB (c : Cls) : List Nat := [91] ++ ((if c.neg then [94] else []) ++ ((if c.neg then c.not else c).runs.flatMap runB ++ [93]))
theorem runAdd_length (l : List (Nat × Nat)) (b : Nat) : (runAdd l b).length ≤ l.length + 1 := by
  unfold runAdd
  split
  · simp
  · split
    · simp
    · simp
theorem runsOf_go (l : List Nat) : ∀ r : List (Nat × Nat), (l.foldl runAdd r).length ≤ r.length + l.length := by
  induction l with
  | nil => intro r; simp
  | cons b l ih =>
    intro r
    have := ih (runAdd r b)
    have := runAdd_length r b
    rw [List.foldl_cons, List.length_cons]
    omega
theorem runs_length (c : Cls) : c.runs.length ≤ 256 := by
  have := runsOf_go c.els []
  have := els_length c
  unfold Cls.runs runsOf
  simp at *
  omega
theorem runAdd_mem {l : List (Nat × Nat)} {b : Nat} (h : ∀ r ∈ l, r.1 < 256 ∧ r.2 < 256) (hb : b < 256) : ∀ r ∈ runAdd l b, r.1 < 256 ∧ r.2 < 256 := by
  intro r hr
  unfold runAdd at hr
  split at hr
  · simp only [List.mem_singleton] at hr; subst hr; exact ⟨hb, hb⟩
  · rename_i q hq
    have hq' := h q (List.mem_of_getLast? hq)
    split at hr
    · rcases List.mem_append.1 hr with h1 | h1
      · exact h r (List.dropLast_subset _ h1)
      · simp only [List.mem_singleton] at h1; subst h1; exact ⟨hq'.1, hb⟩
    · rcases List.mem_append.1 hr with h1 | h1
      · exact h r h1
      · simp only [List.mem_singleton] at h1; subst h1; exact ⟨hb, hb⟩
theorem runsOf_mem (l : List Nat) (hl : ∀ b ∈ l, b < 256) : ∀ r : List (Nat × Nat), (∀ x ∈ r, x.1 < 256 ∧ x.2 < 256) → ∀ x ∈ l.foldl runAdd r, x.1 < 256 ∧ x.2 < 256 := by
  induction l with
  | nil => intro r h; exact h
  | cons b l ih =>
    intro r h
    exact ih (fun x hx => hl x (List.mem_cons_of_mem _ hx)) _ (runAdd_mem h (hl b (List.mem_cons_self ..)))
theorem runs_lt {c : Cls} : ∀ r ∈ c.runs, r.1 < 256 ∧ r.2 < 256 := runsOf_mem _ (fun _ hb => els_lt hb) [] (by simp)
theorem endB_length (b : Nat) : 1 ≤ (endB b).length ∧ (endB b).length ≤ 5 := by unfold endB; split <;> simp
theorem runB_length (r : Nat × Nat) : (runB r).length ≤ 11 := by
  have := endB_length r.1
  have := endB_length r.2
  unfold runB
  split <;> simp <;> omega
theorem runsB_length : ∀ l : List (Nat × Nat), (l.flatMap runB).length ≤ 11 * l.length
  | [] => by simp
  | r :: l => by
    have := runB_length r
    have := runsB_length l
    simp only [List.flatMap_cons, List.length_append, List.length_cons]
    omega
theorem brackB_length (c : Cls) : (brackB c).length ≤ 2819 := by
  unfold brackB
  have h1 := runsB_length (if c.neg then c.not else c).runs
  have h2 := runs_length (if c.neg then c.not else c)
  generalize (if c.neg then c.not else c).runs = l at h1 h2 ⊢
  have h3 : (if c.neg then [94] else ([] : List Nat)).length ≤ 1 := by split <;> simp
  simp only [List.length_append, List.length_cons, List.length_nil]
  omega
end Go.Proofs.YtbdjcmhfcdamiaaGreatDoor

/- The plain law of the count of the ones of a word. No program in sight. -/
namespace Go.Proofs.YtbdjcmhfcdamiaaGreatDoor

/-- How many of the lowest n bits are ones. -/
def pc (n x : Nat) : Nat := (List.range n).countP fun i => x.testBit i
theorem testBit_low {k d x : Nat} (h : d < 2 ^ k) (j : Nat) : (2 ^ k * x + d).testBit j = if j < k then d.testBit j else x.testBit (j - k) := Nat.testBit_two_pow_mul_add x h j
theorem and_low {k d m x y : Nat} (hd : d < 2 ^ k) (hm : m < 2 ^ k) : (2 ^ k * x + d) &&& (2 ^ k * y + m) = 2 ^ k * (x &&& y) + (d &&& m) := by
  refine Nat.eq_of_testBit_eq fun j => ?_
  rw [Nat.testBit_and, testBit_low hd, testBit_low hm, testBit_low (Nat.lt_of_le_of_lt Nat.and_le_left hd)]
  split <;> rw [Nat.testBit_and]
/-- n bytes, each m. -/
def rep8 (m : Nat) : Nat → Nat
  | 0 => 0
  | n + 1 => 256 * rep8 m n + m
/-- A function of each byte. -/
def each8 (f : Nat → Nat) : Nat → Nat → Nat
  | 0, _ => 0
  | n + 1, x => 256 * each8 f n (x / 256) + f (x % 256)
theorem shr_and {s m : Nat} (hs : s ≤ 8) (hm : m < 2 ^ (8 - s)) : ∀ (n x : Nat), x < 256 ^ n → (x >>> s) &&& rep8 m n = each8 (fun d => (d >>> s) &&& m) n x
  | 0, x, h => by simp [rep8, each8]
  | n + 1, x, h => by
    have hx : x / 256 < 256 ^ n := by rw [Nat.pow_succ] at h; omega
    have h2 : 2 ^ s * 2 ^ (8 - s) = 256 := by rw [← Nat.pow_add, show s + (8 - s) = 8 by omega]
    have hp : 0 < 2 ^ s := Nat.two_pow_pos s
    have hm8 : m < 2 ^ 8 := Nat.lt_of_lt_of_le hm (Nat.pow_le_pow_right (by decide) (by omega))
    have e1 : x >>> s = 2 ^ 8 * ((x / 256) >>> s) + (x >>> s) % 256 := by
      have hc : x / 256 / 2 ^ s = x / 2 ^ s / 256 := by rw [Nat.div_div_eq_div_mul, Nat.div_div_eq_div_mul, Nat.mul_comm]
      rw [Nat.shiftRight_eq_div_pow, Nat.shiftRight_eq_div_pow, hc]
      omega
    have e2 : (x >>> s) % 256 &&& m = ((x % 256) >>> s) &&& m := by
      refine Nat.eq_of_testBit_eq fun j => ?_
      rw [Nat.testBit_and, Nat.testBit_and]
      by_cases hj : j < 8 - s
      · rw [show (256 : Nat) = 2 ^ 8 from rfl, Nat.testBit_mod_two_pow, Nat.testBit_shiftRight, Nat.testBit_shiftRight, Nat.testBit_mod_two_pow]
        rw [decide_eq_true (show j < 8 by omega), decide_eq_true (show s + j < 8 by omega)]
      · rw [Nat.testBit_lt_two_pow (x := m) (Nat.lt_of_lt_of_le hm (Nat.pow_le_pow_right (by decide) (by omega))), Bool.and_false, Bool.and_false]
    rw [e1, rep8, show 256 * rep8 m n + m = 2 ^ 8 * rep8 m n + m from rfl, and_low (by omega) hm8, shr_and hs hm n _ hx, e2]
    rfl
theorem each8_congr {f g : Nat → Nat} : ∀ (n x : Nat), (∀ d, d < 256 → f d = g d) → each8 f n x = each8 g n x
  | 0, _, _ => rfl
  | n + 1, x, h => by rw [each8, each8, each8_congr n _ h, h _ (Nat.mod_lt _ (by decide))]
theorem each8_add {f g : Nat → Nat} : ∀ (n x : Nat), each8 f n x + each8 g n x = each8 (fun d => f d + g d) n x
  | 0, _ => rfl
  | n + 1, x => by rw [each8, each8, each8, ← each8_add n]; omega
theorem each8_lt {f : Nat → Nat} (hf : ∀ d, d < 256 → f d < 256) : ∀ (n x : Nat), each8 f n x < 256 ^ n
  | 0, _ => by simp [each8]
  | n + 1, x => by
    have := each8_lt hf n (x / 256)
    have := hf (x % 256) (Nat.mod_lt _ (by decide))
    rw [each8, Nat.pow_succ]
    omega
theorem each8_each8 {f g : Nat → Nat} (hf : ∀ d, d < 256 → f d < 256) : ∀ (n x : Nat), each8 g n (each8 f n x) = each8 (fun d => g (f d)) n x
  | 0, _ => rfl
  | n + 1, x => by
    have h := hf (x % 256) (Nat.mod_lt _ (by decide))
    rw [each8, each8, each8, show (256 * each8 f n (x / 256) + f (x % 256)) / 256 = each8 f n (x / 256) by omega, show (256 * each8 f n (x / 256) + f (x % 256)) % 256 = f (x % 256) by omega, each8_each8 hf n]
def pf1 (d : Nat) : Nat := ((d >>> 1) &&& 85) + (d &&& 85)
def pf2 (d : Nat) : Nat := ((d >>> 2) &&& 51) + (d &&& 51)
def pf3 (d : Nat) : Nat := d / 16 + d % 16
theorem step_of {s m : Nat} (hs : s ≤ 8) (hm : m < 2 ^ (8 - s)) (x n : Nat) (h : x < 256 ^ n) : ((x >>> s) &&& rep8 m n) + (x &&& rep8 m n) = each8 (fun d => ((d >>> s) &&& m) + (d &&& m)) n x := by
  have h0 := shr_and (s := 0) (m := m) (by omega) (Nat.lt_of_lt_of_le hm (Nat.pow_le_pow_right (by decide) (by omega))) n x h
  rw [Nat.shiftRight_zero] at h0
  rw [shr_and hs hm n x h, h0, each8_add]
  exact each8_congr n x fun d _ => rfl
theorem pf1_lt : ∀ d, d < 256 → pf1 d < 256 := by decide +kernel
theorem pf2_lt : ∀ d, d < 256 → pf2 (pf1 d) < 256 ∧ pf2 (pf1 d) / 16 ≤ 4 ∧ pf2 (pf1 d) % 16 ≤ 4 := by decide +kernel
theorem pf3_pc : ∀ d, d < 256 → pf3 (pf2 (pf1 d)) = pc 8 d := by decide +kernel
/-- The third step: the halves of each byte together. -/
theorem step3 (f : Nat → Nat) (hf : ∀ d, d < 256 → f d < 256 ∧ f d / 16 ≤ 4 ∧ f d % 16 ≤ 4) : ∀ (n x : Nat), (((each8 f n x) >>> 4) + each8 f n x) &&& rep8 15 n = each8 (fun d => pf3 (f d)) n x
  | 0, x => by simp [rep8, each8]
  | n + 1, x => by
    obtain ⟨h1, h2, h3⟩ := hf (x % 256) (Nat.mod_lt _ (by decide))
    have ih := step3 f hf n (x / 256)
    have hlow : each8 f n (x / 256) % 16 ≤ 4 := by
      cases n with
      | zero => simp [each8]
      | succ n =>
        obtain ⟨_, _, h6⟩ := hf (x / 256 % 256) (Nat.mod_lt _ (by decide))
        rw [each8]
        omega
    rw [each8]
    generalize hy : each8 f n (x / 256) = y at *
    generalize hd : f (x % 256) = d at *
    have e : (256 * y + d) >>> 4 + (256 * y + d) = 2 ^ 8 * (y >>> 4 + y) + (16 * (y % 16) + d / 16 + d) := by
      rw [Nat.shiftRight_eq_div_pow, Nat.shiftRight_eq_div_pow]
      omega
    have e2 : (16 * (y % 16) + d / 16 + d) &&& 15 = pf3 d := by
      rw [show (15 : Nat) = 2 ^ 4 - 1 from rfl, Nat.and_two_pow_sub_one_eq_mod]
      unfold pf3
      omega
    rw [e, rep8, show 256 * rep8 15 n + 15 = 2 ^ 8 * rep8 15 n + 15 from rfl, and_low (by omega) (by decide), ih, e2, each8]
    rw [hd]
theorem pc_add (k n d x : Nat) (h : d < 2 ^ k) : pc (k + n) (2 ^ k * x + d) = pc k d + pc n x := by
  unfold pc
  rw [List.range_add, List.countP_append, List.countP_map]
  congr 1
  · refine List.countP_congr fun i hi => ?_
    rw [testBit_low h, if_pos (List.mem_range.1 hi)]
  · refine List.countP_congr fun i _ => ?_
    simp only [Function.comp]
    rw [testBit_low h, if_neg (by omega), show k + i - k = i by omega]
theorem pc_le (n x : Nat) : pc n x ≤ n := by
  unfold pc
  have := List.countP_le_length (p := fun i => x.testBit i) (l := List.range n)
  simpa using this
theorem div_low {m a b x : Nat} (hm : b < m) (h : x = m * a + b) : x / m = a := by
  subst h
  rw [Nat.mul_add_div (by omega), Nat.div_eq_of_lt hm, Nat.add_zero]
theorem low2 {c0 c1 c2 : Nat} (p0 : c0 ≤ 8) (p1 : c1 ≤ 8) (p2 : c2 ≤ 8) : c0 + c1 + 256 * (c1 + c2) < 65536 := by omega
theorem low4 {a b c d : Nat} (p0 : a ≤ 32) (p1 : b ≤ 32) (p2 : c ≤ 32) (p3 : d ≤ 32) : a + 256 * b + 65536 * c + 16777216 * d < 4294967296 := by omega
theorem eq1 {c y1 y2 y3 c0 c1 c2 : Nat} (e0 : c = 256 * y1 + c0) (e1 : y1 = 256 * y2 + c1) (e2 : y2 = 256 * y3 + c2) : c + y1 = 65536 * (y2 + y3) + (c0 + c1 + 256 * (c1 + c2)) := by
  rw [e0, e1, e2]; omega
theorem up {y z a k m : Nat} (h : y = 256 * z + a) (ha : a ≤ 8) (hz : z < k) (hm : m = 256 * k) : y < m := by omega
theorem eq2 {c y1 y2 y3 y4 y5 y6 y7 c0 c1 c2 c3 c4 c5 c6 : Nat} (e0 : c = 256 * y1 + c0) (e1 : y1 = 256 * y2 + c1) (e2 : y2 = 256 * y3 + c2) (e3 : y3 = 256 * y4 + c3) (e4 : y4 = 256 * y5 + c4) (e5 : y5 = 256 * y6 + c5) (e6 : y6 = 256 * y7 + c6) :
    c + y1 + (y2 + y3) = 4294967296 * (y4 + y5 + y6 + y7) + ((c0 + c1 + c2 + c3) + 256 * (c1 + c2 + c3 + c4) + 65536 * (c2 + c3 + c4 + c5) + 16777216 * (c3 + c4 + c5 + c6)) := by
  have h0 : c = 4294967296 * y4 + (c0 + 256 * c1 + 65536 * c2 + 16777216 * c3) := by rw [e0, e1, e2, e3]; omega
  have h1 : y1 = 4294967296 * y5 + (c1 + 256 * c2 + 65536 * c3 + 16777216 * c4) := by rw [e1, e2, e3, e4]; omega
  have h2 : y2 = 4294967296 * y6 + (c2 + 256 * c3 + 65536 * c4 + 16777216 * c5) := by rw [e2, e3, e4, e5]; omega
  have h3 : y3 = 4294967296 * y7 + (c3 + 256 * c4 + 65536 * c5 + 16777216 * c6) := by rw [e3, e4, e5, e6]; omega
  rw [h0, h1, h2, h3]
  clear e0 e1 e2 e3 e4 e5 e6 h0 h1 h2 h3
  omega
theorem eq3 {c y1 y2 y3 y4 y5 y6 y7 c0 c1 c2 c3 c4 c5 c6 : Nat} (e0 : c = 256 * y1 + c0) (e1 : y1 = 256 * y2 + c1) (e2 : y2 = 256 * y3 + c2) (e3 : y3 = 256 * y4 + c3) (e4 : y4 = 256 * y5 + c4) (e5 : y5 = 256 * y6 + c5) (e6 : y6 = 256 * y7 + c6) :
    c + y1 + (y2 + y3) + (y4 + y5 + y6 + y7) = 128 * (2 * (y1 + y2 + y3 + y4 + y5 + y6 + y7)) + (c0 + c1 + c2 + c3 + c4 + c5 + c6 + y7) := by
  have h : c + y1 + y2 + y3 + y4 + y5 + y6 = 256 * (y1 + y2 + y3 + y4 + y5 + y6 + y7) + (c0 + c1 + c2 + c3 + c4 + c5 + c6) := by
    have : c + y1 + y2 + y3 + y4 + y5 + y6 = (256 * y1 + c0) + (256 * y2 + c1) + (256 * y3 + c2) + (256 * y4 + c3) + (256 * y5 + c4) + (256 * y6 + c5) + (256 * y7 + c6) := by rw [← e0, ← e1, ← e2, ← e3, ← e4, ← e5, ← e6]
    rw [this]
    clear e0 e1 e2 e3 e4 e5 e6 this
    omega
  clear e0 e1 e2 e3 e4 e5 e6
  omega
theorem sum8 {c y1 y2 y3 y4 y5 y6 y7 c0 c1 c2 c3 c4 c5 c6 : Nat} (e0 : c = 256 * y1 + c0) (e1 : y1 = 256 * y2 + c1) (e2 : y2 = 256 * y3 + c2) (e3 : y3 = 256 * y4 + c3) (e4 : y4 = 256 * y5 + c4) (e5 : y5 = 256 * y6 + c5) (e6 : y6 = 256 * y7 + c6)
    (p0 : c0 ≤ 8) (p1 : c1 ≤ 8) (p2 : c2 ≤ 8) (p3 : c3 ≤ 8) (p4 : c4 ≤ 8) (p5 : c5 ≤ 8) (p6 : c6 ≤ 8) (p7 : y7 ≤ 8) :
    c + c >>> 8 = c + y1 ∧ (c + y1) + (c + y1) >>> 16 = c + y1 + (y2 + y3) ∧ (c + y1 + (y2 + y3)) + (c + y1 + (y2 + y3)) >>> 32 = c + y1 + (y2 + y3) + (y4 + y5 + y6 + y7) ∧
    c + y1 + (y2 + y3) + (y4 + y5 + y6 + y7) < 2 ^ 63 ∧ (c + y1 + (y2 + y3) + (y4 + y5 + y6 + y7)) &&& 127 = c0 + c1 + c2 + c3 + c4 + c5 + c6 + y7 := by
  have l6 : y6 < 4096 := up e6 p6 (show y7 < 16 by omega) rfl
  have l5 : y5 < 1048576 := up e5 p5 l6 rfl
  have l4 : y4 < 268435456 := up e4 p4 l5 rfl
  have l3 : y3 < 68719476736 := up e3 p3 l4 rfl
  have l2 : y2 < 17592186044416 := up e2 p2 l3 rfl
  have l1 : y1 < 4503599627370496 := up e1 p1 l2 rfl
  have l0 : c < 1152921504606846976 := up e0 p0 l1 rfl
  refine ⟨?_, ?_, ?_, ?_, ?_⟩
  · rw [Nat.shiftRight_eq_div_pow, div_low (a := y1) (b := c0) (by omega) e0]
  · rw [Nat.shiftRight_eq_div_pow, div_low (show _ < 2 ^ 16 from low2 p0 p1 p2) (eq1 e0 e1 e2)]
  · rw [Nat.shiftRight_eq_div_pow, div_low (show _ < 2 ^ 32 from low4 (by omega) (by omega) (by omega) (by omega)) (eq2 e0 e1 e2 e3 e4 e5 e6)]
  · clear e0 e1 e2 e3 e4 e5 e6
    omega
  · rw [show (127 : Nat) = 2 ^ 7 - 1 from rfl, Nat.and_two_pow_sub_one_eq_mod, eq3 e0 e1 e2 e3 e4 e5 e6, show 2 ^ 7 = 128 from rfl, Nat.mul_add_mod]
    exact Nat.mod_eq_of_lt (by clear e0 e1 e2 e3 e4 e5 e6; omega)
theorem each8_le {f : Nat → Nat} {k : Nat} (hf : ∀ d, d < 256 → f d ≤ k) : ∀ (n x : Nat), each8 f n x ≤ rep8 k n
  | 0, _ => Nat.le_refl _
  | n + 1, x => by
    have := each8_le hf n (x / 256)
    have := hf (x % 256) (Nat.mod_lt _ (by decide))
    rw [each8, rep8]
    omega
set_option maxHeartbeats 1000000 in
/-- The steps on eight bytes. -/
theorem swar (x : Nat) (h : x < 2 ^ 64) : let a := ((x >>> 1) &&& 6148914691236517205) + (x &&& 6148914691236517205); let b := ((a >>> 2) &&& 3689348814741910323) + (a &&& 3689348814741910323); let c := ((b >>> 4) + b) &&& 1085102592571150095
    a < 2 ^ 64 ∧ b < 2 ^ 64 ∧ (b >>> 4) + b < 2 ^ 64 ∧ c + c >>> 8 < 2 ^ 64 ∧ (c + c >>> 8) + (c + c >>> 8) >>> 16 < 2 ^ 64 ∧ ((c + c >>> 8) + (c + c >>> 8) >>> 16) + ((c + c >>> 8) + (c + c >>> 8) >>> 16) >>> 32 < 2 ^ 63 ∧
    (((c + c >>> 8) + (c + c >>> 8) >>> 16) + ((c + c >>> 8) + (c + c >>> 8) >>> 16) >>> 32) &&& 127 = pc 64 x := by
  intro a b c
  have ha : a = each8 pf1 8 x := step_of (s := 1) (m := 85) (by decide) (by decide) x 8 h
  have hb : b = each8 (fun d => pf2 (pf1 d)) 8 x := by
    have := step_of (s := 2) (m := 51) (by decide) (by decide) a 8 (by rw [ha]; exact each8_lt pf1_lt 8 x)
    rw [show b = _ from this, ha]
    exact each8_each8 pf1_lt 8 x
  have hc : c = each8 (fun d => pf3 (pf2 (pf1 d))) 8 x := by
    have := step3 (fun d => pf2 (pf1 d)) pf2_lt 8 x
    rw [← hb] at this
    exact this
  rw [each8_congr 8 x pf3_pc] at hc
  have hpc : pc 64 x = pc 8 (x % 256) + (pc 8 (x / 256 % 256) + (pc 8 (x / 256 / 256 % 256) + (pc 8 (x / 256 / 256 / 256 % 256) + (pc 8 (x / 256 / 256 / 256 / 256 % 256) + (pc 8 (x / 256 / 256 / 256 / 256 / 256 % 256) + (pc 8 (x / 256 / 256 / 256 / 256 / 256 / 256 % 256) + pc 8 (x / 256 / 256 / 256 / 256 / 256 / 256 / 256))))))) := by
    have s := fun n y => pc_add 8 n (y % 256) (y / 256) (Nat.mod_lt _ (by decide))
    have t := fun y : Nat => show 2 ^ 8 * (y / 256) + y % 256 = y by omega
    simp only [t] at s
    rw [s 56 x, s 48, s 40, s 32, s 24, s 16, s 8]
  have h7 : x / 256 / 256 / 256 / 256 / 256 / 256 / 256 % 256 = x / 256 / 256 / 256 / 256 / 256 / 256 / 256 := by omega
  simp only [each8, h7] at hc
  have hb0 : b < 2 ^ 63 := by
    rw [hb]
    exact Nat.lt_of_le_of_lt (each8_le (k := 68) (fun d hd => by have := pf2_lt d hd; omega) 8 x) (by decide)
  rw [hpc]
  have p0 := pc_le 8 (x % 256)
  have p1 := pc_le 8 (x / 256 % 256)
  have p2 := pc_le 8 (x / 256 / 256 % 256)
  have p3 := pc_le 8 (x / 256 / 256 / 256 % 256)
  have p4 := pc_le 8 (x / 256 / 256 / 256 / 256 % 256)
  have p5 := pc_le 8 (x / 256 / 256 / 256 / 256 / 256 % 256)
  have p6 := pc_le 8 (x / 256 / 256 / 256 / 256 / 256 / 256 % 256)
  have p7 := pc_le 8 (x / 256 / 256 / 256 / 256 / 256 / 256 / 256)
  rw [Nat.mul_zero, Nat.zero_add] at hc
  have ha64 : a < 2 ^ 64 := by rw [ha]; exact each8_lt pf1_lt 8 x
  generalize pc 8 (x % 256) = c0 at *
  generalize pc 8 (x / 256 % 256) = c1 at *
  generalize pc 8 (x / 256 / 256 % 256) = c2 at *
  generalize pc 8 (x / 256 / 256 / 256 % 256) = c3 at *
  generalize pc 8 (x / 256 / 256 / 256 / 256 % 256) = c4 at *
  generalize pc 8 (x / 256 / 256 / 256 / 256 / 256 % 256) = c5 at *
  generalize pc 8 (x / 256 / 256 / 256 / 256 / 256 / 256 % 256) = c6 at *
  generalize pc 8 (x / 256 / 256 / 256 / 256 / 256 / 256 / 256) = c7 at *
  clear hpc h7 hb ha
  clear_value a b c
  obtain ⟨s1, s2, s3, s4, s5⟩ := sum8 hc rfl rfl rfl rfl rfl rfl p0 p1 p2 p3 p4 p5 p6 p7
  have r4 : b >>> 4 ≤ b := by rw [Nat.shiftRight_eq_div_pow]; exact Nat.div_le_self _ _
  rw [s1, s2, s3, s5]
  refine ⟨ha64, by omega, by omega, by omega, by omega, s4, by omega⟩
end Go.Proofs.YtbdjcmhfcdamiaaGreatDoor
