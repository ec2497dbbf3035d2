/-
  DERIVED. GIVEN WITH THE SEED: THE CARDS: each row of YtmaagpbjahjmhaaGreatDoorRows.lean that lists a variable, with what it lists TIED to the program's text (the seventh form; the later family's looks); each row that meets fmt, with fmt's text TOLD by the authors' own Lean function (tested against real Go, not proved from fmt's source: count such statements apart). THE CARD IS WHAT COUNTS. Prove the row's statement (the work); the ties are given (YtmaagpbjahjmhaaGreatDoorTie.lean); close each card by the builder's one call (the guide's Derived/Test/ToyasCard.lean, 'card_holds'). Laid BY PROGRAM, IN A SANDBOX (cutbox-door.mjs). By AI agents, Wed Nov 11 2026. No macro, syntax, notation, axiom, sorry.
-/
import Derived.Test.YtmaagpbjahjmhaaGreatDoorRows
import GoSem.ClaimSeven
namespace Go.Proofs.YtmaagpbjahjmhaaGreatDoor
namespace Rows

/-- THE TIED CARD OF 'galleylaw21.ParseJoined'. -/
def parseJoinedCard : Claim7 := { stood := { row := parseJoinedRow, standIns := [], harness := (true, "379956e0321afad2d9d6c2510d898ff1479ad62e9c78dde04570e17eed6b3d80"), looks := true }, kinds := [], alts := [], laidByText := true, laidKinds := [.data, .sentinel, .sentinel, .pinned], laidTests := true, laidLooks := .later }
def ParseJoinedCardSaid : Prop := Claim7.holds Tryz.pinned (.plain (OpenSpec.ofChange parseJoinedSpec)) parseJoinedCard

/-- THE TIED CARD OF 'galleylaw21.ParseShaped'. -/
def parseShapedCard : Claim7 := { stood := { row := parseShapedRow, standIns := [], harness := (true, "379956e0321afad2d9d6c2510d898ff1479ad62e9c78dde04570e17eed6b3d80"), looks := true }, kinds := [], alts := [], laidByText := true, laidKinds := [.data, .sentinel, .sentinel, .pinned], laidTests := true, laidLooks := .later }
def ParseShapedCardSaid : Prop := Claim7.holds Tryz.pinned (.plain (OpenSpec.ofChange parseShapedSpec)) parseShapedCard

/-- THE TIED CARD OF 'galleylaw21.ParseSound'. -/
def parseSoundCard : Claim7 := { stood := { row := parseSoundRow, standIns := [], harness := (true, "379956e0321afad2d9d6c2510d898ff1479ad62e9c78dde04570e17eed6b3d80"), looks := true }, kinds := [], alts := [], laidByText := true, laidKinds := [.data, .sentinel, .sentinel, .pinned], laidTests := true, laidLooks := .later }
def ParseSoundCardSaid : Prop := Claim7.holds Tryz.pinned (.plain (OpenSpec.ofChange parseSoundSpec)) parseSoundCard

/-- THE TIED CARD OF 'galleylaw21.ParseScripts'. -/
def parseScriptsCard : Claim7 := { stood := { row := parseScriptsRow, standIns := [], harness := (true, "379956e0321afad2d9d6c2510d898ff1479ad62e9c78dde04570e17eed6b3d80"), looks := true }, kinds := [], alts := [], laidByText := true, laidKinds := [.data, .data, .data, .data, .sentinel, .sentinel, .pinned], laidTests := true, laidLooks := .later }
def ParseScriptsCardSaid : Prop := Claim7.holds Tryz.pinned (.plain (OpenSpec.ofChange parseScriptsSpec)) parseScriptsCard

/-- THE SECOND FORM's CARD OF 'galleylaw21.ParseJoined'. -/
def parseJoinedUptoCard : Claim7 := { stood := { row := parseJoinedUptoRow, standIns := [], harness := (true, "379956e0321afad2d9d6c2510d898ff1479ad62e9c78dde04570e17eed6b3d80"), looks := true }, kinds := [], alts := [], laidByText := true, laidKinds := [.data, .sentinel, .sentinel, .pinned], laidTests := true, laidLooks := .later }
def ParseJoinedUptoCardSaid : Prop := Claim7.holds Tryz.pinned (.plain (OpenSpec.upto parseJoinedSpec)) parseJoinedUptoCard

/-- THE SECOND FORM's CARD OF 'galleylaw21.ParseShaped'. -/
def parseShapedUptoCard : Claim7 := { stood := { row := parseShapedUptoRow, standIns := [], harness := (true, "379956e0321afad2d9d6c2510d898ff1479ad62e9c78dde04570e17eed6b3d80"), looks := true }, kinds := [], alts := [], laidByText := true, laidKinds := [.data, .sentinel, .sentinel, .pinned], laidTests := true, laidLooks := .later }
def ParseShapedUptoCardSaid : Prop := Claim7.holds Tryz.pinned (.plain (OpenSpec.upto parseShapedSpec)) parseShapedUptoCard

/-- THE SECOND FORM's CARD OF 'galleylaw21.ParseSound'. -/
def parseSoundUptoCard : Claim7 := { stood := { row := parseSoundUptoRow, standIns := [], harness := (true, "379956e0321afad2d9d6c2510d898ff1479ad62e9c78dde04570e17eed6b3d80"), looks := true }, kinds := [], alts := [], laidByText := true, laidKinds := [.data, .sentinel, .sentinel, .pinned], laidTests := true, laidLooks := .later }
def ParseSoundUptoCardSaid : Prop := Claim7.holds Tryz.pinned (.plain (OpenSpec.upto parseSoundSpec)) parseSoundUptoCard

/-- THE SECOND FORM's CARD OF 'galleylaw21.ParseScripts'. -/
def parseScriptsUptoCard : Claim7 := { stood := { row := parseScriptsUptoRow, standIns := [], harness := (true, "379956e0321afad2d9d6c2510d898ff1479ad62e9c78dde04570e17eed6b3d80"), looks := true }, kinds := [], alts := [], laidByText := true, laidKinds := [.data, .data, .data, .data, .sentinel, .sentinel, .pinned], laidTests := true, laidLooks := .later }
def ParseScriptsUptoCardSaid : Prop := Claim7.holds Tryz.pinned (.plain (OpenSpec.upto parseScriptsSpec)) parseScriptsUptoCard
end Rows
end Go.Proofs.YtmaagpbjahjmhaaGreatDoor
