/- Plain functions on lists: what the code of syntax, class and bracket computes. No program in sight. No condition. -/
namespace Go.Proofs.YtbdjcmhfcdamiaaDoor

/-- A mark: its byte, and whether it is plain. -/
structure Mk where
  b : Nat
  p : Bool
deriving DecidableEq

/-- Do these special bytes stand at the head of the marks? -/
def seesL : List Mk → List Nat → Bool
  | _, [] => true
  | [], _ :: _ => false
  | m :: l, c :: s => !m.p && m.b == c && seesL l s

theorem seesL_short : ∀ (l : List Mk) (s : List Nat), l.length < s.length → seesL l s = false
  | _, [], h => by simp at h
  | [], _ :: _, _ => rfl
  | m :: l, c :: s, h => by
    simp only [seesL, seesL_short l s (by simpa using h), Bool.and_false]

theorem seesL_at (L : List Mk) (bs : List Nat) (i k : Nat) (hi : i < L.length) (hk : k < bs.length) :
    seesL (L.drop i) (bs.drop k) = (!(L.getD i ⟨0, false⟩).p && (L.getD i ⟨0, false⟩).b == bs.getD k 0 && seesL (L.drop (i + 1)) (bs.drop (k + 1))) := by
  rw [List.drop_eq_getElem_cons hi, List.drop_eq_getElem_cons hk, seesL]
  simp [List.getD_eq_getElem?_getD, hi, hk]


/-- A class: four words. -/
structure Cls where
  w0 : BitVec 64
  w1 : BitVec 64
  w2 : BitVec 64
  w3 : BitVec 64
deriving DecidableEq

/-- 'or', 'and', 'not', one bit: by names that simp does not open. -/
def orw (a b : BitVec 64) : BitVec 64 := a ||| b
def andw (a b : BitVec 64) : BitVec 64 := a &&& b
def notw (a : BitVec 64) : BitVec 64 := ~~~a
def bit1 (n : Nat) : BitVec 64 := 1#64 <<< n

def Cls.zero : Cls := ⟨0#64, 0#64, 0#64, 0#64⟩
def Cls.word (c : Cls) : Nat → BitVec 64
  | 0 => c.w0
  | 1 => c.w1
  | 2 => c.w2
  | _ => c.w3
def Cls.set (c : Cls) (j : Nat) (v : BitVec 64) : Cls :=
  match j with
  | 0 => { c with w0 := v }
  | 1 => { c with w1 := v }
  | 2 => { c with w2 := v }
  | _ => { c with w3 := v }
/-- The class and a byte. -/
def Cls.add (c : Cls) (b : Nat) : Cls := c.set (b / 64) (orw (c.word (b / 64)) (bit1 (b % 64)))
def Cls.of (l : List Nat) : Cls := l.foldl Cls.add Cls.zero
def Cls.or (a b : Cls) : Cls := ⟨orw a.w0 b.w0, orw a.w1 b.w1, orw a.w2 b.w2, orw a.w3 b.w3⟩
def Cls.and (a b : Cls) : Cls := ⟨andw a.w0 b.w0, andw a.w1 b.w1, andw a.w2 b.w2, andw a.w3 b.w3⟩
def Cls.not (a : Cls) : Cls := ⟨notw a.w0, notw a.w1, notw a.w2, notw a.w3⟩
/-- The bytes from lo to hi. -/
def Cls.range (lo hi : Nat) : Cls := Cls.of (List.range' lo (hi + 1 - lo))

def upperC : Cls := Cls.range 65 90
def lowerC : Cls := Cls.range 97 122
def digitC : Cls := Cls.range 48 57
def alnumC : Cls := (upperC.or lowerC).or digitC
/-- The class of a name. -/
def namedL (n : List Nat) : Option Cls :=
  if n = [97, 108, 110, 117, 109] then some alnumC
  else if n = [97, 108, 112, 104, 97] then some (upperC.or lowerC)
  else if n = [98, 108, 97, 110, 107] then some (Cls.of [32, 9])
  else if n = [99, 110, 116, 114, 108] then some ((Cls.range 0 31).or (Cls.of [127]))
  else if n = [100, 105, 103, 105, 116] then some digitC
  else if n = [103, 114, 97, 112, 104] then some (Cls.range 33 126)
  else if n = [108, 111, 119, 101, 114] then some lowerC
  else if n = [112, 114, 105, 110, 116] then some (Cls.range 32 126)
  else if n = [112, 117, 110, 99, 116] then some ((Cls.range 33 126).and alnumC.not)
  else if n = [115, 112, 97, 99, 101] then some ((Cls.range 9 13).or (Cls.of [32]))
  else if n = [117, 112, 112, 101, 114] then some upperC
  else if n = [120, 100, 105, 103, 105, 116] then some (digitC.or ((Cls.range 65 70).or (Cls.range 97 102)))
  else none

theorem namedL_alnum : namedL (([97, 108, 110, 117, 109] : List UInt8).map (·.toNat)) = some alnumC := rfl
theorem namedL_alpha : namedL (([97, 108, 112, 104, 97] : List UInt8).map (·.toNat)) = some (upperC.or lowerC) := rfl
theorem namedL_blank : namedL (([98, 108, 97, 110, 107] : List UInt8).map (·.toNat)) = some (Cls.of [32, 9]) := rfl
theorem namedL_cntrl : namedL (([99, 110, 116, 114, 108] : List UInt8).map (·.toNat)) = some ((Cls.range 0 31).or (Cls.of [127])) := rfl
theorem namedL_digit : namedL (([100, 105, 103, 105, 116] : List UInt8).map (·.toNat)) = some digitC := rfl
theorem namedL_graph : namedL (([103, 114, 97, 112, 104] : List UInt8).map (·.toNat)) = some (Cls.range 33 126) := rfl
theorem namedL_lower : namedL (([108, 111, 119, 101, 114] : List UInt8).map (·.toNat)) = some lowerC := rfl
theorem namedL_print : namedL (([112, 114, 105, 110, 116] : List UInt8).map (·.toNat)) = some (Cls.range 32 126) := rfl
theorem namedL_punct : namedL (([112, 117, 110, 99, 116] : List UInt8).map (·.toNat)) = some ((Cls.range 33 126).and alnumC.not) := rfl
theorem namedL_space : namedL (([115, 112, 97, 99, 101] : List UInt8).map (·.toNat)) = some ((Cls.range 9 13).or (Cls.of [32])) := rfl
theorem namedL_upper : namedL (([117, 112, 112, 101, 114] : List UInt8).map (·.toNat)) = some upperC := rfl
theorem namedL_xdigit : namedL (([120, 100, 105, 103, 105, 116] : List UInt8).map (·.toNat)) = some (digitC.or ((Cls.range 65 70).or (Cls.range 97 102))) := rfl
theorem namedL_none {l : List Nat} (h0 : l ≠ ([97, 108, 110, 117, 109] : List UInt8).map (·.toNat)) (h1 : l ≠ ([97, 108, 112, 104, 97] : List UInt8).map (·.toNat)) (h2 : l ≠ ([98, 108, 97, 110, 107] : List UInt8).map (·.toNat)) (h3 : l ≠ ([99, 110, 116, 114, 108] : List UInt8).map (·.toNat)) (h4 : l ≠ ([100, 105, 103, 105, 116] : List UInt8).map (·.toNat)) (h5 : l ≠ ([103, 114, 97, 112, 104] : List UInt8).map (·.toNat)) (h6 : l ≠ ([108, 111, 119, 101, 114] : List UInt8).map (·.toNat)) (h7 : l ≠ ([112, 114, 105, 110, 116] : List UInt8).map (·.toNat)) (h8 : l ≠ ([112, 117, 110, 99, 116] : List UInt8).map (·.toNat)) (h9 : l ≠ ([115, 112, 97, 99, 101] : List UInt8).map (·.toNat)) (h10 : l ≠ ([117, 112, 112, 101, 114] : List UInt8).map (·.toNat)) (h11 : l ≠ ([120, 100, 105, 103, 105, 116] : List UInt8).map (·.toNat)) : namedL l = none := by
  unfold namedL
  exact (if_neg h0).trans ((if_neg h1).trans ((if_neg h2).trans ((if_neg h3).trans ((if_neg h4).trans ((if_neg h5).trans ((if_neg h6).trans ((if_neg h7).trans ((if_neg h8).trans ((if_neg h9).trans ((if_neg h10).trans (if_neg h11)))))))))))

/-! ### Bracket expressions -/
def markAt (L : List Mk) (i : Nat) : Mk := L.getD i ⟨0, false⟩
/-- Does the sign of a byte stand there? -/
def signAt (L : List Mk) (i c : Nat) : Bool := decide (i < L.length) && ((markAt L i).b == c && !(markAt L i).p)

/-- A thing of a bracket: its class, its byte, whether it is an end, the place behind it. -/
structure Th where
  set : Cls
  b : Nat
  fin : Bool
  next : Nat
def Th.zero : Th := ⟨Cls.zero, 0, false, 0⟩

def nameL (L : List Mk) (at0 begin_ : Nat) : Nat → Nat → List Nat → Th × Option (Nat × Nat)
  | 0, _, _ => (Th.zero, some (32, at0))
  | n + 1, i, s =>
    if signAt L i 58 && signAt L (i + 1) 93 then
      match namedL s with
      | none => (Th.zero, some (31, begin_))
      | some c => (⟨c, 0, false, i + 2⟩, none)
    else nameL L at0 begin_ n (i + 1) (s ++ [(markAt L i).b])
/-- A name, from behind its two signs: 'L.length - (begin_ + 2)' rounds. -/
def nameTh (L : List Mk) (at0 begin_ : Nat) : Th × Option (Nat × Nat) := nameL L at0 begin_ (L.length - (begin_ + 2)) (begin_ + 2) []

def enclosedTh (L : List Mk) (at0 begin_ by_ : Nat) : Th × Option (Nat × Nat) :=
  if L.length ≤ begin_ + 3 then (Th.zero, some (32, at0))
  else if !signAt L (begin_ + 3) by_ then (Th.zero, some (31, begin_))
  else if L.length ≤ begin_ + 4 then (Th.zero, some (32, at0))
  else if !signAt L (begin_ + 4) 93 then (Th.zero, some (31, begin_))
  else (⟨Cls.of [(markAt L (begin_ + 2)).b], (markAt L (begin_ + 2)).b, by_ == 46, begin_ + 5⟩, none)

def thingTh (L : List Mk) (at0 begin_ : Nat) : Th × Option (Nat × Nat) :=
  if L.length ≤ begin_ then (Th.zero, some (32, at0))
  else if signAt L begin_ 91 && decide (begin_ + 1 < L.length) && !(markAt L (begin_ + 1)).p && (markAt L (begin_ + 1)).b == 58 then nameTh L at0 begin_
  else if signAt L begin_ 91 && decide (begin_ + 1 < L.length) && !(markAt L (begin_ + 1)).p && ((markAt L (begin_ + 1)).b == 61 || (markAt L (begin_ + 1)).b == 46) then enclosedTh L at0 begin_ (markAt L (begin_ + 1)).b
  else (⟨Cls.of [(markAt L begin_).b], (markAt L begin_).b, true, begin_ + 1⟩, none)

def itemTh (L : List Mk) (at0 begin_ : Nat) (first : Bool) : Th × Option (Nat × Nat) :=
  match thingTh L at0 begin_ with
  | (a, some f) => (a, some f)
  | (a, none) =>
    if signAt L begin_ 45 && !first && !signAt L (begin_ + 1) 93 then
      if L.length ≤ begin_ + 1 then (a, some (32, at0)) else (a, some (30, begin_))
    else if !signAt L a.next 45 || decide (L.length ≤ a.next + 1) || signAt L (a.next + 1) 93 then (a, none)
    else if !a.fin then (a, some (30, begin_))
    else match thingTh L at0 (a.next + 1) with
      | (b, some f) => (b, some f)
      | (b, none) => if !b.fin || decide (b.b < a.b) then (b, some (30, begin_)) else (⟨Cls.range a.b b.b, 0, false, b.next⟩, none)

/-- The items up to the bracket's end. -/
def itemsL (L : List Mk) (at0 : Nat) : Nat → Cls → Nat → Bool → Except (Nat × Nat) (Cls × Nat)
  | 0, _, _, _ => .error (32, at0)
  | n + 1, c, i, first =>
    if !first && signAt L i 93 then .ok (c, i)
    else match itemTh L at0 i first with
      | (_, some f) => .error f
      | (x, none) => itemsL L at0 n (c.or x.set) x.next false

/-- What bracket.Parse answers at a bracket's sign: an error and its place, or the class and the place behind it. -/
def bracketL (L : List Mk) (at0 : Nat) : Except (Nat × Nat) (Cls × Nat) :=
  let no := signAt L (at0 + 1) 94
  let i := if no then at0 + 2 else at0 + 1
  match itemsL L at0 (L.length + 2) Cls.zero i true with
  | .error f => .error f
  | .ok (c, i) => .ok (if no then c.not else c, i + 1)

end Go.Proofs.YtbdjcmhfcdamiaaDoor
