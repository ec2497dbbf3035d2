/-
  DERIVED. GIVEN WITH THE SEED: THE CARDS: each row of YtbdjcmhfcdamiaaGreatDoorRows.lean that lists a variable, with what it lists TIED to the program's text (the seventh form; the later family's looks); each row that meets fmt, with fmt's text TOLD by the authors' own Lean function (tested against real Go, not proved from fmt's source: count such statements apart). THE CARD IS WHAT COUNTS. Prove the row's statement (the work); the ties are given (YtbdjcmhfcdamiaaGreatDoorTie.lean); close each card by the builder's one call (the guide's Derived/Test/ToyasCard.lean, 'card_holds'). Laid BY PROGRAM, IN A SANDBOX (cutbox-door.mjs). By AI agents, Wed Nov 11 2026. No macro, syntax, notation, axiom, sorry.
-/
import Derived.Test.YtbdjcmhfcdamiaaGreatDoorRows
import GoSem.ClaimSeven
namespace Go.Proofs.YtbdjcmhfcdamiaaGreatDoor
namespace Rows

/-- THE TIED CARD OF 'galleylaw06.SpellPrints'. -/
def spellPrintsCard : Claim7 := { stood := { row := spellPrintsRow, standIns := [], harness := (true, "4c9f454379a7001475a68943285e4636162d5662c206e08314516ecd76bfb55e"), looks := true }, kinds := [], alts := [], laidByText := true, laidKinds := [.data, .data, .data, .data], laidTests := true, laidLooks := .later }
def SpellPrintsCardSaid : Prop := Claim7.holds Tryz.pinned (.plain (OpenSpec.ofChange spellPrintsSpec)) spellPrintsCard

/-- THE TIED CARD OF 'galleylaw05.SyntaxParses'. -/
def syntaxParsesCard : Claim7 := { stood := { row := syntaxParsesRow, standIns := [], harness := (true, "4c9f454379a7001475a68943285e4636162d5662c206e08314516ecd76bfb55e"), looks := true }, kinds := [], alts := [], laidByText := true, laidKinds := [.data, .data, .data], laidTests := true, laidLooks := .later }
def SyntaxParsesCardSaid : Prop := Claim7.holds Tryz.pinned (.plain (OpenSpec.ofChange syntaxParsesSpec)) syntaxParsesCard

/-- THE SECOND FORM's CARD OF 'galleylaw06.SpellPrints'. -/
def spellPrintsUptoCard : Claim7 := { stood := { row := spellPrintsUptoRow, standIns := [], harness := (true, "4c9f454379a7001475a68943285e4636162d5662c206e08314516ecd76bfb55e"), looks := true }, kinds := [], alts := [], laidByText := true, laidKinds := [.data, .data, .data, .data], laidTests := true, laidLooks := .later }
def SpellPrintsUptoCardSaid : Prop := Claim7.holds Tryz.pinned (.plain (OpenSpec.upto spellPrintsSpec)) spellPrintsUptoCard

/-- THE SECOND FORM's CARD OF 'galleylaw05.SyntaxParses'. -/
def syntaxParsesUptoCard : Claim7 := { stood := { row := syntaxParsesUptoRow, standIns := [], harness := (true, "4c9f454379a7001475a68943285e4636162d5662c206e08314516ecd76bfb55e"), looks := true }, kinds := [], alts := [], laidByText := true, laidKinds := [.data, .data, .data], laidTests := true, laidLooks := .later }
def SyntaxParsesUptoCardSaid : Prop := Claim7.holds Tryz.pinned (.plain (OpenSpec.upto syntaxParsesSpec)) syntaxParsesUptoCard
end Rows
end Go.Proofs.YtbdjcmhfcdamiaaGreatDoor
