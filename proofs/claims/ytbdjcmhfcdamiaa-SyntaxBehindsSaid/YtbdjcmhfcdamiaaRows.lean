/-
  No cell of these rows narrows 'for every input' (looked for: loops, veiled, ifaces, maps, wideKeys, modest, calm, conditions, laid).
  DERIVED. THE GIVEN ROWS OF THIS SEAT. 7 by the template 'for every input the law returns true; each argument reads behind the call as it read before'; 0 by the template 'total and deterministic' (their statements: YtbdjcmhfcdamiaaTotals.lean).
  GIVEN WITH THE SEED: the statements are not yours to turn. If you find one false, say at which input.
  Laid BY PROGRAM, IN A SANDBOX (cutbox-rows.mjs): the forced cells as the released guide's own fill.sh prints them over the translation 99737d36d9bc0529… (all of the seat's roots in one cut). By AI agents, Wed Nov 11 2026. No macro, syntax, notation, axiom, sorry.
-/
import Derived.Test.YtbdjcmhfcdamiaaChecked
import GoSem.Claim
import GoSem.ClaimJoined
import GoSem.ClaimMapViews
import Derived.JoinedTies
import Derived.KernelRfl
namespace Go.Proofs.Ytbdjcmhfcdamiaa
/- THE CELL 'sum', in the pinned program and in every row, IS THE sha256 OF THE DUMP (.gsa) THAT YtbdjcmhfcdamiaaProg.lean LOADS. Nothing in Lean hashes anything: it is a label: what it is worth is what the hold of that sum in a sandbox is worth. -/
noncomputable def Try.pinned : Pinned := { name := "ytbdjcmhfcdamiaa", sum := "99737d36d9bc05295c8084f46a589956c0b4904d78131f7d900db542b2fdf8e7", checked := Try.checked }
namespace Rows
def none {H : Type} : Left H := { results := [], args := [] }

/-- 'galleylaw05.SyntaxShapes': WHATEVER THE INPUT: true; the input reads as it did. -/
def syntaxShapesSpec : ChangeSpec := { name := "syntaxShapes", fn := fun _ => fun
  | [d] => { results := [.lit (.bool true)], args := [d] }
  | _ => none }
def syntaxShapesRow : OpenClaim := { program := "ytbdjcmhfcdamiaa", sum := "99737d36d9bc05295c8084f46a589956c0b4904d78131f7d900db542b2fdf8e7", func := "galley/galleylaw05.SyntaxShapes", spec := "syntaxShapes", inPlace := ["internal/bytealg.IndexByteString"], unfollowed := true, recurses := true, apart := false }
def SyntaxShapesSaid : Prop := syntaxShapesRow.holds Try.pinned (OpenSpec.ofChange syntaxShapesSpec)

/-- ITS FALSE NEIGHBOUR: 'it returns false'. Refute it at one input. -/
def syntaxShapesWrong : ChangeSpec := { name := "syntaxShapes", fn := fun _ => fun
  | [d] => { results := [.lit (.bool false)], args := [d] }
  | _ => none }
def SyntaxShapesWrongFalsely : Prop := syntaxShapesRow.holds Try.pinned (OpenSpec.ofChange syntaxShapesWrong)

/-- 'galleylaw05.SyntaxBehinds': WHATEVER THE INPUT: true; the input reads as it did. -/
def syntaxBehindsSpec : ChangeSpec := { name := "syntaxBehinds", fn := fun _ => fun
  | [d1, d2] => { results := [.lit (.bool true)], args := [d1, d2] }
  | _ => none }
def syntaxBehindsRow : OpenClaim := { program := "ytbdjcmhfcdamiaa", sum := "99737d36d9bc05295c8084f46a589956c0b4904d78131f7d900db542b2fdf8e7", func := "galley/galleylaw05.SyntaxBehinds", spec := "syntaxBehinds", inPlace := ["internal/bytealg.IndexByteString"], unfollowed := true, recurses := true, apart := false }
def SyntaxBehindsSaid : Prop := syntaxBehindsRow.holds Try.pinned (OpenSpec.ofChange syntaxBehindsSpec)

/-- ITS FALSE NEIGHBOUR: 'it returns false'. Refute it at one input. -/
def syntaxBehindsWrong : ChangeSpec := { name := "syntaxBehinds", fn := fun _ => fun
  | [d1, d2] => { results := [.lit (.bool false)], args := [d1, d2] }
  | _ => none }
def SyntaxBehindsWrongFalsely : Prop := syntaxBehindsRow.holds Try.pinned (OpenSpec.ofChange syntaxBehindsWrong)

/-- 'galleylaw05.SyntaxMakes': WHATEVER THE INPUT: true; the input reads as it did. -/
def syntaxMakesSpec : ChangeSpec := { name := "syntaxMakes", fn := fun _ => fun
  | [d1, d2] => { results := [.lit (.bool true)], args := [d1, d2] }
  | _ => none }
def syntaxMakesRow : OpenClaim := { program := "ytbdjcmhfcdamiaa", sum := "99737d36d9bc05295c8084f46a589956c0b4904d78131f7d900db542b2fdf8e7", func := "galley/galleylaw05.SyntaxMakes", spec := "syntaxMakes", inPlace := ["internal/bytealg.IndexByteString"], unfollowed := true, recurses := true, apart := false }
def SyntaxMakesSaid : Prop := syntaxMakesRow.holds Try.pinned (OpenSpec.ofChange syntaxMakesSpec)

/-- ITS FALSE NEIGHBOUR: 'it returns false'. Refute it at one input. -/
def syntaxMakesWrong : ChangeSpec := { name := "syntaxMakes", fn := fun _ => fun
  | [d1, d2] => { results := [.lit (.bool false)], args := [d1, d2] }
  | _ => none }
def SyntaxMakesWrongFalsely : Prop := syntaxMakesRow.holds Try.pinned (OpenSpec.ofChange syntaxMakesWrong)

/-- 'galleylaw05.SyntaxWraps': WHATEVER THE INPUT: true; the input reads as it did. -/
def syntaxWrapsSpec : ChangeSpec := { name := "syntaxWraps", fn := fun _ => fun
  | [d1, d2] => { results := [.lit (.bool true)], args := [d1, d2] }
  | _ => none }
def syntaxWrapsRow : OpenClaim := { program := "ytbdjcmhfcdamiaa", sum := "99737d36d9bc05295c8084f46a589956c0b4904d78131f7d900db542b2fdf8e7", func := "galley/galleylaw05.SyntaxWraps", spec := "syntaxWraps", inPlace := ["internal/bytealg.IndexByteString"], unfollowed := true, recurses := true, apart := false }
def SyntaxWrapsSaid : Prop := syntaxWrapsRow.holds Try.pinned (OpenSpec.ofChange syntaxWrapsSpec)

/-- ITS FALSE NEIGHBOUR: 'it returns false'. Refute it at one input. -/
def syntaxWrapsWrong : ChangeSpec := { name := "syntaxWraps", fn := fun _ => fun
  | [d1, d2] => { results := [.lit (.bool false)], args := [d1, d2] }
  | _ => none }
def SyntaxWrapsWrongFalsely : Prop := syntaxWrapsRow.holds Try.pinned (OpenSpec.ofChange syntaxWrapsWrong)

/-- 'galleylaw05.SyntaxSides': WHATEVER THE INPUT: true; the input reads as it did. -/
def syntaxSidesSpec : ChangeSpec := { name := "syntaxSides", fn := fun _ => fun
  | [d1, d2] => { results := [.lit (.bool true)], args := [d1, d2] }
  | _ => none }
def syntaxSidesRow : OpenClaim := { program := "ytbdjcmhfcdamiaa", sum := "99737d36d9bc05295c8084f46a589956c0b4904d78131f7d900db542b2fdf8e7", func := "galley/galleylaw05.SyntaxSides", spec := "syntaxSides", inPlace := ["internal/bytealg.IndexByteString"], unfollowed := true, recurses := true, apart := false }
def SyntaxSidesSaid : Prop := syntaxSidesRow.holds Try.pinned (OpenSpec.ofChange syntaxSidesSpec)

/-- ITS FALSE NEIGHBOUR: 'it returns false'. Refute it at one input. -/
def syntaxSidesWrong : ChangeSpec := { name := "syntaxSides", fn := fun _ => fun
  | [d1, d2] => { results := [.lit (.bool false)], args := [d1, d2] }
  | _ => none }
def SyntaxSidesWrongFalsely : Prop := syntaxSidesRow.holds Try.pinned (OpenSpec.ofChange syntaxSidesWrong)

/-- 'galleylaw05.SyntaxPlain': WHATEVER THE INPUT: true; the input reads as it did. -/
def syntaxPlainSpec : ChangeSpec := { name := "syntaxPlain", fn := fun _ => fun
  | [d1, d2] => { results := [.lit (.bool true)], args := [d1, d2] }
  | _ => none }
def syntaxPlainRow : OpenClaim := { program := "ytbdjcmhfcdamiaa", sum := "99737d36d9bc05295c8084f46a589956c0b4904d78131f7d900db542b2fdf8e7", func := "galley/galleylaw05.SyntaxPlain", spec := "syntaxPlain", inPlace := ["internal/bytealg.IndexByteString"], unfollowed := true, recurses := true, apart := false }
def SyntaxPlainSaid : Prop := syntaxPlainRow.holds Try.pinned (OpenSpec.ofChange syntaxPlainSpec)

/-- ITS FALSE NEIGHBOUR: 'it returns false'. Refute it at one input. -/
def syntaxPlainWrong : ChangeSpec := { name := "syntaxPlain", fn := fun _ => fun
  | [d1, d2] => { results := [.lit (.bool false)], args := [d1, d2] }
  | _ => none }
def SyntaxPlainWrongFalsely : Prop := syntaxPlainRow.holds Try.pinned (OpenSpec.ofChange syntaxPlainWrong)

/-- 'galleylaw05.SyntaxFirst': WHATEVER THE INPUT: true; the input reads as it did. -/
def syntaxFirstSpec : ChangeSpec := { name := "syntaxFirst", fn := fun _ => fun
  | [d1, d2, d3] => { results := [.lit (.bool true)], args := [d1, d2, d3] }
  | _ => none }
def syntaxFirstRow : OpenClaim := { program := "ytbdjcmhfcdamiaa", sum := "99737d36d9bc05295c8084f46a589956c0b4904d78131f7d900db542b2fdf8e7", func := "galley/galleylaw05.SyntaxFirst", spec := "syntaxFirst", inPlace := ["internal/bytealg.IndexByteString"], unfollowed := true, recurses := true, apart := false }
def SyntaxFirstSaid : Prop := syntaxFirstRow.holds Try.pinned (OpenSpec.ofChange syntaxFirstSpec)

/-- ITS FALSE NEIGHBOUR: 'it returns false'. Refute it at one input. -/
def syntaxFirstWrong : ChangeSpec := { name := "syntaxFirst", fn := fun _ => fun
  | [d1, d2, d3] => { results := [.lit (.bool false)], args := [d1, d2, d3] }
  | _ => none }
def SyntaxFirstWrongFalsely : Prop := syntaxFirstRow.holds Try.pinned (OpenSpec.ofChange syntaxFirstWrong)

/- THE SECOND FORM. 'bulk': how many values and letters a reading holds, each counted each time it is reached (what is shared counts as often as it is met; a slice's spare places count too). A statement '..UptoSaid' is the law's where the arguments, and the package variables that the reading takes, are together of bulk at most 1048576: NARROWER than '..Said'. Prove '..Said' where nothing that the law and all that it calls make is longer than what came in: it says more and counts as full. Else prove '..UptoSaid'. A law counts once. -/
mutual
def uptoBulk {H : Type} : DataW H → Nat
  | .lit (.string bytes) => bytes.length + 1
  | .lit _ => 1
  | .nil => 1
  | .ptr d => uptoBulk d + 1
  | .slice elems spare => uptoBulkAll elems + uptoBulkAll spare + 1
  | .agg parts => uptoBulkAll parts + 1
  | .iface _ d => uptoBulk d + 1
  | .map entries => uptoBulkEntries entries + 1
  | .held _ => 1
def uptoBulkAll {H : Type} : List (DataW H) → Nat
  | [] => 0
  | d :: r => uptoBulk d + uptoBulkAll r
def uptoBulkEntries {H : Type} : List (Lit × DataW H) → Nat
  | [] => 0
  | x :: r => uptoBulkEntry x + uptoBulkEntries r
def uptoBulkEntry {H : Type} : Lit × DataW H → Nat
  | (.string bytes, d) => bytes.length + uptoBulk d + 1
  | (_, d) => uptoBulk d + 1
 end
def uptoSmall : (H : Type) → List (DataW H) → Bool := fun _ ds => decide (uptoBulkAll ds ≤ 1048576)
def OpenSpec.upto (s : _root_.Go.ChangeSpec) : _root_.Go.OpenSpec := { _root_.Go.OpenSpec.ofChange s with cond := some uptoSmall }

/-- 'galleylaw05.SyntaxShapes', WHERE WHAT IT READS IS OF BULK AT MOST 1048576: true; the input reads as it did. -/
def syntaxShapesUptoRow : OpenClaim := { program := "ytbdjcmhfcdamiaa", sum := "99737d36d9bc05295c8084f46a589956c0b4904d78131f7d900db542b2fdf8e7", func := "galley/galleylaw05.SyntaxShapes", spec := "syntaxShapes", inPlace := ["internal/bytealg.IndexByteString"], unfollowed := true, recurses := true, apart := false, narrowed := true }
def SyntaxShapesUptoSaid : Prop := syntaxShapesUptoRow.holds Try.pinned (OpenSpec.upto syntaxShapesSpec)

/-- 'galleylaw05.SyntaxBehinds', WHERE WHAT IT READS IS OF BULK AT MOST 1048576: true; the input reads as it did. -/
def syntaxBehindsUptoRow : OpenClaim := { program := "ytbdjcmhfcdamiaa", sum := "99737d36d9bc05295c8084f46a589956c0b4904d78131f7d900db542b2fdf8e7", func := "galley/galleylaw05.SyntaxBehinds", spec := "syntaxBehinds", inPlace := ["internal/bytealg.IndexByteString"], unfollowed := true, recurses := true, apart := false, narrowed := true }
def SyntaxBehindsUptoSaid : Prop := syntaxBehindsUptoRow.holds Try.pinned (OpenSpec.upto syntaxBehindsSpec)

/-- 'galleylaw05.SyntaxMakes', WHERE WHAT IT READS IS OF BULK AT MOST 1048576: true; the input reads as it did. -/
def syntaxMakesUptoRow : OpenClaim := { program := "ytbdjcmhfcdamiaa", sum := "99737d36d9bc05295c8084f46a589956c0b4904d78131f7d900db542b2fdf8e7", func := "galley/galleylaw05.SyntaxMakes", spec := "syntaxMakes", inPlace := ["internal/bytealg.IndexByteString"], unfollowed := true, recurses := true, apart := false, narrowed := true }
def SyntaxMakesUptoSaid : Prop := syntaxMakesUptoRow.holds Try.pinned (OpenSpec.upto syntaxMakesSpec)

/-- 'galleylaw05.SyntaxWraps', WHERE WHAT IT READS IS OF BULK AT MOST 1048576: true; the input reads as it did. -/
def syntaxWrapsUptoRow : OpenClaim := { program := "ytbdjcmhfcdamiaa", sum := "99737d36d9bc05295c8084f46a589956c0b4904d78131f7d900db542b2fdf8e7", func := "galley/galleylaw05.SyntaxWraps", spec := "syntaxWraps", inPlace := ["internal/bytealg.IndexByteString"], unfollowed := true, recurses := true, apart := false, narrowed := true }
def SyntaxWrapsUptoSaid : Prop := syntaxWrapsUptoRow.holds Try.pinned (OpenSpec.upto syntaxWrapsSpec)

/-- 'galleylaw05.SyntaxSides', WHERE WHAT IT READS IS OF BULK AT MOST 1048576: true; the input reads as it did. -/
def syntaxSidesUptoRow : OpenClaim := { program := "ytbdjcmhfcdamiaa", sum := "99737d36d9bc05295c8084f46a589956c0b4904d78131f7d900db542b2fdf8e7", func := "galley/galleylaw05.SyntaxSides", spec := "syntaxSides", inPlace := ["internal/bytealg.IndexByteString"], unfollowed := true, recurses := true, apart := false, narrowed := true }
def SyntaxSidesUptoSaid : Prop := syntaxSidesUptoRow.holds Try.pinned (OpenSpec.upto syntaxSidesSpec)

/-- 'galleylaw05.SyntaxPlain', WHERE WHAT IT READS IS OF BULK AT MOST 1048576: true; the input reads as it did. -/
def syntaxPlainUptoRow : OpenClaim := { program := "ytbdjcmhfcdamiaa", sum := "99737d36d9bc05295c8084f46a589956c0b4904d78131f7d900db542b2fdf8e7", func := "galley/galleylaw05.SyntaxPlain", spec := "syntaxPlain", inPlace := ["internal/bytealg.IndexByteString"], unfollowed := true, recurses := true, apart := false, narrowed := true }
def SyntaxPlainUptoSaid : Prop := syntaxPlainUptoRow.holds Try.pinned (OpenSpec.upto syntaxPlainSpec)

/-- 'galleylaw05.SyntaxFirst', WHERE WHAT IT READS IS OF BULK AT MOST 1048576: true; the input reads as it did. -/
def syntaxFirstUptoRow : OpenClaim := { program := "ytbdjcmhfcdamiaa", sum := "99737d36d9bc05295c8084f46a589956c0b4904d78131f7d900db542b2fdf8e7", func := "galley/galleylaw05.SyntaxFirst", spec := "syntaxFirst", inPlace := ["internal/bytealg.IndexByteString"], unfollowed := true, recurses := true, apart := false, narrowed := true }
def SyntaxFirstUptoSaid : Prop := syntaxFirstUptoRow.holds Try.pinned (OpenSpec.upto syntaxFirstSpec)

end Rows
end Go.Proofs.Ytbdjcmhfcdamiaa
