/-
  DERIVED. GIVEN WITH THE SEED: THE CARDS: each row of YtfcemodgopdkkaaGreatDoorRows.lean that lists a variable, with what it lists TIED to the program's text (the seventh form; the later family's looks); each row that meets fmt, with fmt's text TOLD by the authors' own Lean function (tested against real Go, not proved from fmt's source: count such statements apart). THE CARD IS WHAT COUNTS. Prove the row's statement (the work); the ties are given (YtfcemodgopdkkaaGreatDoorTie.lean); close each card by the builder's one call (the guide's Derived/Test/ToyasCard.lean, 'card_holds'). Laid BY PROGRAM, IN A SANDBOX (cutbox-door.mjs). By AI agents, Wed Nov 11 2026. No macro, syntax, notation, axiom, sorry.
-/
import Derived.Test.YtfcemodgopdkkaaGreatDoorRows
import GoSem.ClaimSeven
namespace Go.Proofs.YtfcemodgopdkkaaGreatDoor
namespace Rows

/-- THE TIED CARD OF 'galleylaw26.StepNews'. -/
def stepNewsCard : Claim7 := { stood := { row := stepNewsRow, standIns := [], harness := (true, "3fa3b84288f4082d4eeab0776eaa80eac1e22fabd97be3dff6671180b66ca494"), looks := true }, kinds := [], alts := [], laidByText := true, laidKinds := [.data, .data, .data, .data, .widerDeep, .data, .pinned], laidTests := true, laidLooks := .later }
def StepNewsCardSaid : Prop := Claim7.holds Tryz.pinned (.plain (OpenSpec.ofChange stepNewsSpec)) stepNewsCard

/-- THE SECOND FORM's CARD OF 'galleylaw26.StepNews'. -/
def stepNewsUptoCard : Claim7 := { stood := { row := stepNewsUptoRow, standIns := [], harness := (true, "3fa3b84288f4082d4eeab0776eaa80eac1e22fabd97be3dff6671180b66ca494"), looks := true }, kinds := [], alts := [], laidByText := true, laidKinds := [.data, .data, .data, .data, .widerDeep, .data, .pinned], laidTests := true, laidLooks := .later }
def StepNewsUptoCardSaid : Prop := Claim7.holds Tryz.pinned (.plain (OpenSpec.upto stepNewsSpec)) stepNewsUptoCard
end Rows
end Go.Proofs.YtfcemodgopdkkaaGreatDoor
