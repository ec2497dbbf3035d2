/-
  DERIVED. GIVEN WITH THE SEED: THE CARDS: each row of YtdinjlglngpecaaGreatDoorRows.lean that lists a variable, with what it lists TIED to the program's text (the seventh form; the later family's looks); each row that meets fmt, with fmt's text TOLD by the authors' own Lean function (tested against real Go, not proved from fmt's source: count such statements apart). THE CARD IS WHAT COUNTS. Prove the row's statement (the work); the ties are given (YtdinjlglngpecaaGreatDoorTie.lean); close each card by the builder's one call (the guide's Derived/Test/ToyasCard.lean, 'card_holds'). Laid BY PROGRAM, IN A SANDBOX (cutbox-door.mjs). By AI agents, Wed Nov 11 2026. No macro, syntax, notation, axiom, sorry.
-/
import Derived.Test.YtdinjlglngpecaaGreatDoorRows
import GoSem.ClaimSeven
namespace Go.Proofs.YtdinjlglngpecaaGreatDoor
namespace Rows

/-- THE TIED CARD OF 'galleylaw26.StepCopies'. -/
def stepCopiesCard : Claim7 := { stood := { row := stepCopiesRow, standIns := [], harness := (true, "0dafe40dbba4dc3cfd5827fa5ca213aed59291bb84297e885a86bdb0d5826958"), looks := true }, kinds := [], alts := [], laidByText := true, laidKinds := [.data, .data, .data, .data, .widerDeep, .data, .pinned], laidTests := true, laidLooks := .later }
def StepCopiesCardSaid : Prop := Claim7.holds Tryz.pinned (.plain (OpenSpec.ofChange stepCopiesSpec)) stepCopiesCard

/-- THE SECOND FORM's CARD OF 'galleylaw26.StepCopies'. -/
def stepCopiesUptoCard : Claim7 := { stood := { row := stepCopiesUptoRow, standIns := [], harness := (true, "0dafe40dbba4dc3cfd5827fa5ca213aed59291bb84297e885a86bdb0d5826958"), looks := true }, kinds := [], alts := [], laidByText := true, laidKinds := [.data, .data, .data, .data, .widerDeep, .data, .pinned], laidTests := true, laidLooks := .later }
def StepCopiesUptoCardSaid : Prop := Claim7.holds Tryz.pinned (.plain (OpenSpec.upto stepCopiesSpec)) stepCopiesUptoCard
end Rows
end Go.Proofs.YtdinjlglngpecaaGreatDoor
