/- Parts: Pj Kb. -/
import Derived.Test.YtbdjcmhfcdamiaaGreatDoorQ10
import Derived.Test.YtbdjcmhfcdamiaaGreatDoorQ1
import Derived.Test.YtbdjcmhfcdamiaaGreatDoorQ9
import Derived.Lib.ItoaNum
/- The plain law of intervals: an interval of any two numbers. No program in sight. -/
namespace Go.Proofs.YtbdjcmhfcdamiaaGreatDoor

/-- Special marks of bytes. -/
def mk (b : Nat) : Mk := ⟨b, false⟩
def step (n : Int) (b : Nat) : Int := min (max n 0 * 10 + ((b : Int) - 48)) 256
/-- The bytes of a number's numeral. -/
def digB (u : Nat) : List Nat := (Lib.decDigits u).map (·.toNat)
theorem digB_small {u : Nat} (h : u < 10) : digB u = [48 + u] := by
  rw [digB, Lib.decDigits, dif_pos h]
  simp only [List.map_cons, List.map_nil, List.cons.injEq, and_true]
  rw [UInt8.toNat_ofNat']
  omega
theorem digB_big {u : Nat} (h : ¬ u < 10) : digB u = digB (u / 10) ++ [48 + u % 10] := by
  rw [digB, Lib.decDigits, dif_neg h, List.map_append, ← digB]
  congr 1
  simp only [List.map_cons, List.map_nil, List.cons.injEq, and_true]
  rw [UInt8.toNat_ofNat']
  omega
theorem digB_len20 : ∀ (k u : Nat), u < 10 ^ (k + 1) → (digB u).length ≤ k + 1
  | 0, u, h => by rw [digB_small (by omega)]; simp
  | k + 1, u, h => by
    by_cases h1 : u < 10
    · rw [digB_small h1]; simp
    · rw [digB_big h1, List.length_append, List.length_singleton]
      have := digB_len20 k (u / 10) (by rw [Nat.pow_succ] at h; omega)
      omega
/-- A number's text. -/
def itoB (m : Int) : List Nat := if m < 0 then 45 :: digB m.natAbs else digB m.toNat
theorem itoB_len {m : Int} (h1 : -9223372036854775808 ≤ m) (h2 : m ≤ 9223372036854775807) : (itoB m).length ≤ 20 := by
  unfold itoB
  split
  · rw [List.length_cons]
    have := digB_len20 18 m.natAbs (by omega)
    omega
  · have := digB_len20 18 m.toNat (by omega)
    omega
end Go.Proofs.YtbdjcmhfcdamiaaGreatDoor

/- Plain functions on trees: what package spell writes. No program in sight. No condition. -/
namespace Go.Proofs.YtbdjcmhfcdamiaaGreatDoor

/-- The bytes that stand for themselves behind a backslash alone. -/
def spB (ere : Bool) : List Nat := [46, 91, 42, 94, 36, 92] ++ (if ere then [40, 41, 43, 63, 123, 124] else [])
/-- A set of one byte. -/
def byteB (ere : Bool) (b : Nat) : List Nat := if b = 10 then [92, 110] else if (spB ere).contains b then [92, b] else [b]
/-- A set. -/
def setB (ere : Bool) (c : Cls) : List Nat := if c.els.length = 256 then [46] else match c.els with
  | [b] => byteB ere b
  | _ => brackB c
/-- A duplication. -/
def dupB (ere : Bool) (n : Nd) : List Nat :=
  if n.min = 0 ∧ n.max < 0 then [42]
  else if ere = true ∧ n.min = 1 ∧ n.max < 0 then [43]
  else if ere = true ∧ n.min = 0 ∧ n.max = 1 then [63]
  else signB ere 123 ++ (itoB n.min ++ ((if n.max = n.min then [] else 44 :: (if 0 ≤ n.max then itoB n.max else [])) ++ signB ere 125))
/-- What is written of a node as an atom, and the place behind it; 'wh': what is written of what is in a group. -/
def atomP (ere : Bool) (re : List Nd) (wh : Nat → Option (List Nat × Nat)) (i : Nat) : Option (List Nat × Nat) :=
  match re[i]? with
  | none => none
  | some n =>
    if n.op = 1 then some (setB ere n.set, i + 1)
    else if n.op = 7 then
      match re[i + 1]? with
      | none => none
      | some k =>
        if k.op = 4 ∧ k.kids = 0 then some (signB ere 40 ++ signB ere 41, i + 2)
        else match wh (i + 1) with
          | none => none
          | some (s, j) => some (signB ere 40 ++ (s ++ signB ere 41), j)
    else if n.op = 8 then if ere = true ∨ 9 < n.n then none else some (92 :: itoB n.n, i + 1)
    else none
/-- A part of a row. -/
def partP (ere : Bool) (re : List Nd) (wh : Nat → Option (List Nat × Nat)) (first last : Bool) (i : Nat) : Option (List Nat × Nat) :=
  match re[i]? with
  | none => none
  | some n =>
    if n.op = 2 then if ere || first then some ([94], i + 1) else none
    else if n.op = 3 then if ere || last then some ([36], i + 1) else none
    else if n.op = 6 then
      match atomP ere re wh (i + 1) with
      | none => none
      | some (s, j) => some (s ++ dupB ere n, j)
    else atomP ere re wh i
/-- So many parts more. -/
def partsP (ere : Bool) (re : List Nd) (wh : Nat → Option (List Nat × Nat)) : Nat → Bool → Nat → Option (List Nat × Nat)
  | 0, _, i => some ([], i)
  | k + 1, first, i =>
    match partP ere re wh first (k == 0) i with
    | none => none
    | some (s, j) =>
      match partsP ere re wh k false j with
      | none => none
      | some (t, e) => some (s ++ t, e)
def rowP (ere : Bool) (re : List Nd) (wh : Nat → Option (List Nat × Nat)) (i : Nat) : Option (List Nat × Nat) :=
  match re[i]? with
  | none => none
  | some n => if n.op ≠ 4 then partP ere re wh true true i else if n.kids ≤ 0 then none else partsP ere re wh n.kids.toNat true (i + 1)
/-- So many rows more. -/
def rowsP (ere : Bool) (re : List Nd) (wh : Nat → Option (List Nat × Nat)) : Nat → Bool → Nat → Option (List Nat × Nat)
  | 0, _, i => some ([], i)
  | k + 1, first, i =>
    match rowP ere re wh i with
    | none => none
    | some (s, j) =>
      match rowsP ere re wh k false j with
      | none => none
      | some (t, e) => some ((if first then [] else [124]) ++ (s ++ t), e)
/-- The whole, or what is in a group; so many groups may stand in one another. -/
def wholeP (ere : Bool) (re : List Nd) : Nat → Nat → Option (List Nat × Nat)
  | 0, _ => none
  | f + 1, i =>
    match re[i]? with
    | none => none
    | some n => if n.op ≠ 5 then rowP ere re (wholeP ere re f) i else if ere then rowsP ere re (wholeP ere re f) n.kids.toNat true (i + 1) else none
/-- What Print answers: the bytes; none: there is no spelling. -/
def spellN (ere : Bool) (re : List Nd) : Option (List Nat) :=
  match wholeP ere re 66 0 with
  | none => none
  | some (s, _) => if s.length ≤ 4096 then some s else none
/-- What Text writes, from a state: does a backslash take the mark at hand with it? -/
def textT (d : Nat) : Bool → List Mk → Option (List Nat)
  | taken, [] => if taken then none else some []
  | true, m :: l => if m.p || m.b == d then none else (textT d false l).map fun s => m.b :: s
  | false, m :: l =>
    if m.p then (if m.b = d then (textT d false l).map fun s => 92 :: d :: s else none)
    else if m.b = d ∨ m.b = 10 then none
    else (textT d (m.b == 92) l).map fun s => m.b :: s
def textL (d : Nat) (l : List Mk) : Option (List Nat) := if d = 92 ∨ d = 10 then none else textT d false l
end Go.Proofs.YtbdjcmhfcdamiaaGreatDoor
