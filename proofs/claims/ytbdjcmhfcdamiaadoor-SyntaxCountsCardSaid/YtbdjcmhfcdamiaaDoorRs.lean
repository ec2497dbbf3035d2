/- Plain functions on lists: what the reader of package syntax computes. No program in sight. No condition. -/
import Derived.Test.YtbdjcmhfcdamiaaDoorSb
namespace Go.Proofs.YtbdjcmhfcdamiaaDoor

/-- A node of a tree. -/
structure Nd where
  op : Int
  set : Cls
  n : Int
  min : Int
  max : Int
  kids : Int
deriving DecidableEq
def Nd.zero : Nd := ⟨0, Cls.zero, 0, 0, 0, 0⟩
/-- One byte; any byte; the other kinds. -/
def oneN (b : Nat) : Nd := ⟨1, Cls.of [b], 0, 0, 0, 0⟩
def setN (c : Cls) : Nd := ⟨1, c, 0, 0, 0, 0⟩
def beginN : Nd := ⟨2, Cls.zero, 0, 0, 0, 0⟩
def endN : Nd := ⟨3, Cls.zero, 0, 0, 0, 0⟩
def catN (k : Nat) : Nd := ⟨4, Cls.zero, 0, 0, 0, k⟩
def altN (k : Nat) : Nd := ⟨5, Cls.zero, 0, 0, 0, k⟩
def repN (lo hi : Int) : Nd := ⟨6, Cls.zero, 0, lo, hi, 1⟩
def groupN (n : Nat) : Nd := ⟨7, Cls.zero, n, 0, 0, 1⟩
def refN (n : Nat) : Nd := ⟨8, Cls.zero, n, 0, 0, 0⟩

/-- Where the reader stands, and which groups have ended. -/
structure Rst where
  i : Nat
  ended : List Bool
deriving DecidableEq
/-- What a part of the reader comes to: an answer and where it stands then, or an error and its place. -/
inductive Out (α : Type) where
  | ok (a : α) (s : Rst)
  | no (e i : Nat)

def signB (ere : Bool) (c : Nat) : List Nat := if ere then [c] else [92, c]
def wideB (ere : Bool) : Nat := if ere then 1 else 2
def seesAt (L : List Mk) (i : Nat) (s : List Nat) : Bool := seesL (L.drop i) s
def repeatsL (ere : Bool) (L : List Mk) (i : Nat) : Bool := seesAt L i [42] || ere && (seesAt L i [43] || seesAt L i [63]) || seesAt L i (signB ere 123)

def beginL (ere first : Bool) (s : Rst) : Out (List Nd × Bool) :=
  if !ere && !first then .ok ([oneN 94], true) ⟨s.i + 1, s.ended⟩ else .ok ([beginN], false) ⟨s.i + 1, s.ended⟩
def endL (ere : Bool) (L : List Mk) (s : Rst) : Out (List Nd × Bool) :=
  if !ere && decide (s.i + 1 < L.length) && !seesAt L (s.i + 1) [92, 41] then .ok ([oneN 36], true) ⟨s.i + 1, s.ended⟩ else .ok ([endN], false) ⟨s.i + 1, s.ended⟩
def anyL (s : Rst) : Out (List Nd × Bool) := .ok ([setN (Cls.range 0 255)], true) ⟨s.i + 1, s.ended⟩
def brackL (L : List Mk) (s : Rst) : Out (List Nd × Bool) :=
  match bracketL L s.i with
  | .error (e, i) => .no e i
  | .ok (c, i) => .ok ([setN c], true) ⟨i, s.ended⟩
def ownB (ere : Bool) : List Nat := if ere then [46, 91, 93, 42, 94, 36, 92, 47, 40, 41, 43, 63, 123, 125, 124] else [46, 91, 93, 42, 94, 36, 92, 47]
def withTrue : Out (List Nd) → Out (List Nd × Bool)
  | .ok re t => .ok (re, true) t
  | .no e i => .no e i
def escapeL (ere : Bool) (L : List Mk) (grp : Rst → Out (List Nd)) (s : Rst) : Out (List Nd × Bool) :=
  if s.i + 1 = L.length then .no 40 s.i
  else if (markAt L (s.i + 1)).p then .no 40 s.i
  else
    let c := (markAt L (s.i + 1)).b
    if !ere && c == 40 then withTrue (grp s)
    else if c = 110 then .ok ([oneN 10], true) ⟨s.i + 2, s.ended⟩
    else if (ownB ere).contains c then .ok ([oneN c], true) ⟨s.i + 2, s.ended⟩
    else if !ere && decide (49 ≤ c) && decide (c ≤ 57) then
      if s.ended.length < c - 48 then .no 44 s.i
      else if !s.ended.getD (c - 48 - 1) false then .no 44 s.i
      else .ok ([refN (c - 48)], true) ⟨s.i + 2, s.ended⟩
    else .no 40 s.i
/-- What a special byte begins. -/
def atomL (ere first : Bool) (L : List Mk) (grp : Rst → Out (List Nd)) (s : Rst) : Out (List Nd × Bool) :=
  let m := markAt L s.i
  if m.p then .ok ([oneN m.b], true) ⟨s.i + 1, s.ended⟩
  else if m.b = 46 then anyL s
  else if m.b = 91 then brackL L s
  else if m.b = 92 then escapeL ere L grp s
  else if m.b = 94 then beginL ere first s
  else if m.b = 36 then endL ere L s
  else if ere && m.b == 40 then withTrue (grp s)
  else .ok ([oneN m.b], true) ⟨s.i + 1, s.ended⟩

def numberL (L : List Mk) : Nat → Int → Nat → Int × Nat
  | 0, n, i => (n, i)
  | f + 1, n, i =>
    if L.length ≤ i then (n, i)
    else if (markAt L i).p || decide ((markAt L i).b < 48) || decide (57 < (markAt L i).b) then (n, i)
    else numberL L f (min (max n 0 * 10 + (((markAt L i).b : Int) - 48)) 256) (i + 1)
/-- The digits that stand there: -1 where there is none. -/
def numL (L : List Mk) (i : Nat) : Int × Nat := numberL L (L.length - i) (-1) i
def intervalL (ere : Bool) (L : List Mk) (s : Rst) : Out (Int × Int) :=
  let a := numL L (s.i + wideB ere)
  let b := if seesAt L a.2 [44] then numL L (a.2 + 1) else a
  if decide (a.1 < 0) || decide (255 < a.1) || decide (255 < b.1) || (decide (0 ≤ b.1) && decide (b.1 < a.1)) || !seesAt L b.2 (signB ere 125) then .no 43 s.i
  else .ok (a.1, b.1) ⟨b.2 + wideB ere, s.ended⟩
def dupL (ere : Bool) (L : List Mk) (s : Rst) : Out Nd :=
  if seesAt L s.i [42] then .ok (repN 0 (-1)) ⟨s.i + 1, s.ended⟩
  else if seesAt L s.i [43] then .ok (repN 1 (-1)) ⟨s.i + 1, s.ended⟩
  else if seesAt L s.i [63] then .ok (repN 0 1) ⟨s.i + 1, s.ended⟩
  else match intervalL ere L s with
    | .no e i => .no e i
    | .ok (lo, hi) t => .ok (repN lo hi) t

/-- The parts up to a bar, to what closes, to the end; 'top': no group is open. -/
def rowL (ere top : Bool) (L : List Mk) (grp : Rst → Out (List Nd)) : Nat → List Nd → Nat → Bool → Rst → Out (Nat × List Nd)
  | 0, _, _, _, _ => .no 0 0
  | f + 1, all, n, lead, s =>
    if L.length ≤ s.i then .ok (n, all) s
    else if ere && seesAt L s.i [124] then .ok (n, all) s
    else if seesAt L s.i (signB ere 41) then if top then .no 41 s.i else .ok (n, all) s
    else if repeatsL ere L s.i && (ere || !lead || !seesAt L s.i [42]) then .no 42 s.i
    else match atomL ere (n == 0) L grp s with
      | .no e i => .no e i
      | .ok (re, takes) t =>
        let lead' := (re.getD 0 Nd.zero).op == 2
        if takes && repeatsL ere L t.i then
          match dupL ere L t with
          | .no e i => .no e i
          | .ok d u => rowL ere top L grp f (all ++ d :: re) (n + 1) lead' u
        else rowL ere top L grp f (all ++ re) (n + 1) lead' t
def rowS (ere top : Bool) (L : List Mk) (grp : Rst → Out (List Nd)) (s : Rst) : Out (Nat × List Nd) := rowL ere top L grp (L.length + 1) [] 0 true s

/-- The sides up to what closes them, or the end. -/
def sidesL (ere : Bool) (L : List Mk) (row : Rst → Out (Nat × List Nd)) : Nat → List Nd → Nat → Rst → Out (List Nd)
  | 0, _, _, _ => .no 0 0
  | f + 1, all, n, s =>
    match row s with
    | .no e i => .no e i
    | .ok (parts, re) t =>
      let more := ere && seesAt L t.i [124]
      if parts == 0 && (more || decide (0 < n)) then .no 45 t.i
      else
        let all' := all ++ (if parts = 1 then re else catN parts :: re)
        if !more then .ok (if 1 < n + 1 then altN (n + 1) :: all' else all') t
        else sidesL ere L row f all' (n + 1) ⟨t.i + 1, t.ended⟩
def sidesS (ere : Bool) (L : List Mk) (row : Rst → Out (Nat × List Nd)) (s : Rst) : Out (List Nd) := sidesL ere L row (L.length + 1) [] 0 s

/-- A group, where k more may be open in one another. -/
def groupL (ere : Bool) (L : List Mk) : Nat → Rst → Out (List Nd)
  | 0, s => .no 46 s.i
  | k + 1, s =>
    if s.ended.length = 255 then .no 47 s.i
    else match sidesS ere L (rowS ere false L (groupL ere L k)) ⟨s.i + wideB ere, s.ended ++ [false]⟩ with
      | .no e i => .no e i
      | .ok re t =>
        if t.i = L.length then .no 41 s.i
        else .ok (groupN (s.ended.length + 1) :: re) ⟨t.i + wideB ere, t.ended.set s.ended.length true⟩
/-- The sides where k more may be open. -/
def sidesK (ere : Bool) (L : List Mk) (k : Nat) (s : Rst) : Out (List Nd) := sidesS ere L (rowS ere (k == 64) L (groupL ere L k)) s
theorem groupL_succ (ere : Bool) (L : List Mk) (k : Nat) (hk : k < 64) (s : Rst) : groupL ere L (k + 1) s =
    if s.ended.length = 255 then .no 47 s.i
    else match sidesK ere L k ⟨s.i + wideB ere, s.ended ++ [false]⟩ with
      | .no e i => .no e i
      | .ok re t =>
        if t.i = L.length then .no 41 s.i
        else .ok (groupN (s.ended.length + 1) :: re) ⟨t.i + wideB ere, t.ended.set s.ended.length true⟩ := by
  have : (k == 64) = false := by simp; omega
  simp only [groupL, sidesK, this]
end Go.Proofs.YtbdjcmhfcdamiaaDoor
