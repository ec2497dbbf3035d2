/- Plain functions on lists of nodes: what the trees' functions compute. No program in sight. No condition. -/
import Derived.Test.YtbdjcmhfcdamiaaDoorRs
namespace Go.Proofs.YtbdjcmhfcdamiaaDoor

/-- How often a node's kids count. -/
def timesN (n : Nd) : Int := if n.op = 6 then (if n.max < 0 then n.min + 1 else max n.max 1) else 1
def kidsW (g : Nat → Option (Int × Nat)) : Nat → Int → Nat → Option (Int × Nat)
  | 0, sum, to => some (sum, to)
  | k + 1, sum, to => match g to with
    | none => none
    | some (w, nx) => kidsW g k (min (sum + w) 16385) nx
/-- The weight of the tree at a place, and the place behind it. -/
def weighN (re : List Nd) : Nat → Nat → Option (Int × Nat)
  | 0, _ => none
  | f + 1, i => match re[i]? with
    | none => none
    | some n => match kidsW (weighN re f) n.kids.toNat 0 (i + 1) with
      | none => none
      | some (sum, to) => some (min (timesN n * sum + 1) 16385, to)

/-- Has a node just what its kind names, and as many kids as it may? -/
def goodN (n : Nd) : Bool :=
  decide (1 ≤ n.op) && decide (n.op ≤ 8)
  && (n.op == 1 || n.set == Cls.zero)
  && (n.op == 7 || n.op == 8 || n.n == 0)
  && (if n.op = 6 then decide (0 ≤ n.min) && decide (n.min ≤ 255) && (n.max == -1 || decide (n.min ≤ n.max) && decide (n.max ≤ 255)) else n.min == 0 && n.max == 0)
  && (if n.op = 6 ∨ n.op = 7 then n.kids == 1 else if n.op = 5 then decide (2 ≤ n.kids) else if n.op = 4 then n.kids == 0 || decide (2 ≤ n.kids) else n.kids == 0)

def kidsN (g : Nat → List Bool → Option (Nat × List Bool)) : Nat → Nat → List Bool → Option (Nat × List Bool)
  | 0, i, en => some (i, en)
  | k + 1, i, en => match g i en with
    | none => none
    | some (j, en') => kidsN g k j en'
/-- Is the node at the place right, with all in it? So many levels are left, so many groups stand around it; the place behind it, the groups so far and which have ended. -/
def nodeN (re : List Nd) : Nat → Nat → Nat → List Bool → Option (Nat × List Bool)
  | 0, _, _, _ => none
  | f + 1, g, i, en => match re[i]? with
    | none => none
    | some n =>
      if !goodN n then none
      else if n.op == 8 && (decide (n.n < 1) || decide ((en.length : Int) < n.n) || !en.getD (n.n.toNat - 1) false) then none
      else if n.op = 7 then
        if n.n ≠ (en.length : Int) + 1 ∨ 255 < n.n ∨ 64 ≤ g then none
        else match kidsN (nodeN re f (g + 1)) n.kids.toNat (i + 1) (en ++ [false]) with
          | none => none
          | some (j, en') => some (j, en'.set en.length true)
      else kidsN (nodeN re f g) n.kids.toNat (i + 1) en
def shapedN (re : List Nd) : Bool :=
  match nodeN re 260 0 0 [] with
  | none => false
  | some (j, _) => decide (j = re.length) && (match weighN re 260 0 with
    | none => false
    | some (w, _) => decide (w ≤ 16384))
def weightN (re : List Nd) : Int := if shapedN re then (match weighN re 260 0 with | none => 0 | some (w, _) => w) else 0
def groupsN (re : List Nd) : Nat := if shapedN re then (re.filter (·.op == 7)).length else 0
def refsN (re : List Nd) : Bool := shapedN re && re.any (·.op == 8)
def behindN (re : List Nd) (i : Int) : Int := if shapedN re && decide (0 ≤ i) && decide (i < re.length) then (match weighN re 260 i.toNat with | none => -1 | some (_, to) => to) else -1

/-! ### Laws -/
theorem kidsW_of_kidsN {g : Nat → List Bool → Option (Nat × List Bool)} {h : Nat → Option (Int × Nat)} (hg : ∀ i en j en', g i en = some (j, en') → ∃ w, h i = some (w, j)) :
    ∀ (k i : Nat) (en : List Bool) (j : Nat) (en' : List Bool), kidsN g k i en = some (j, en') → ∀ sum, ∃ w, kidsW h k sum i = some (w, j)
  | 0, i, en, j, en', he, sum => by simp only [kidsN, Option.some.injEq, Prod.mk.injEq] at he; exact ⟨sum, by simp [kidsW, he.1]⟩
  | k + 1, i, en, j, en', he, sum => by
    unfold kidsN at he
    split at he
    · cases he
    · rename_i j1 en1 h1
      obtain ⟨w, hw⟩ := hg _ _ _ _ h1
      obtain ⟨w2, hw2⟩ := kidsW_of_kidsN hg k _ _ _ _ he (min (sum + w) 16385)
      exact ⟨w2, by simp only [kidsW, hw, hw2]⟩
/-- What is well shaped can be weighed, and ends there. -/
theorem weighN_of_nodeN (re : List Nd) : ∀ (f g i : Nat) (en : List Bool) (j : Nat) (en' : List Bool), nodeN re f g i en = some (j, en') → ∃ w, weighN re f i = some (w, j)
  | 0, _, _, _, _, _, h => by simp [nodeN] at h
  | f + 1, g, i, en, j, en', h => by
    unfold nodeN at h
    split at h
    · cases h
    · rename_i n hn
      have fin : ∀ g' en1 j1 en2, kidsN (nodeN re f g') n.kids.toNat (i + 1) en1 = some (j1, en2) → ∃ w, weighN re (f + 1) i = some (w, j1) := fun g' en1 j1 en2 hk => by
        obtain ⟨w, hw⟩ := kidsW_of_kidsN (fun i en j en' => weighN_of_nodeN re f g' i en j en') _ _ _ _ _ hk 0
        exact ⟨min (timesN n * w + 1) 16385, by simp only [weighN, hn, hw]⟩
      split at h
      · cases h
      · split at h
        · cases h
        · split at h
          · split at h
            · cases h
            · split at h
              · cases h
              · rename_i j1 en1 hk
                cases h
                exact fin _ _ _ _ hk
          · exact fin _ _ _ _ h
theorem kidsW_mono {g h : Nat → Option (Int × Nat)} (hg : ∀ i r, g i = some r → h i = some r) : ∀ (k : Nat) (sum : Int) (i : Nat) (r : Int × Nat), kidsW g k sum i = some r → kidsW h k sum i = some r
  | 0, _, _, _, he => he
  | k + 1, sum, i, r, he => by
    unfold kidsW at he ⊢
    split at he
    · cases he
    · rename_i w nx h1
      rw [hg _ _ h1]
      exact kidsW_mono hg k _ _ _ he
theorem weighN_succ (re : List Nd) : ∀ (f i : Nat) (r : Int × Nat), weighN re f i = some r → weighN re (f + 1) i = some r
  | 0, _, _, h => by simp [weighN] at h
  | f + 1, i, r, h => by
    rw [weighN] at h ⊢
    split at h
    · cases h
    · split at h
      · cases h
      · rename_i sum to hk
        rw [kidsW_mono (fun i r => weighN_succ re f i r) _ _ _ _ hk]
        exact h
theorem weighN_mono (re : List Nd) {f g i : Nat} {r : Int × Nat} (hfg : f ≤ g) (h : weighN re f i = some r) : weighN re g i = some r := by
  induction hfg with
  | refl => exact h
  | step _ ih => exact weighN_succ re _ _ _ ih
end Go.Proofs.YtbdjcmhfcdamiaaDoor
