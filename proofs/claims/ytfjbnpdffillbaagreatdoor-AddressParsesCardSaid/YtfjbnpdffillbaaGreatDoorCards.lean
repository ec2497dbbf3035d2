/-
  DERIVED. GIVEN WITH THE SEED: THE CARDS: each row of YtfjbnpdffillbaaGreatDoorRows.lean that lists a variable, with what it lists TIED to the program's text (the seventh form; the later family's looks); each row that meets fmt, with fmt's text TOLD by the authors' own Lean function (tested against real Go, not proved from fmt's source: count such statements apart). THE CARD IS WHAT COUNTS. Prove the row's statement (the work); the ties are given (YtfjbnpdffillbaaGreatDoorTie.lean); close each card by the builder's one call (the guide's Derived/Test/ToyasCard.lean, 'card_holds'). Laid BY PROGRAM, IN A SANDBOX (cutbox-door.mjs). By AI agents, Wed Nov 11 2026. No macro, syntax, notation, axiom, sorry.
-/
import Derived.Test.YtfjbnpdffillbaaGreatDoorRows
import GoSem.ClaimSeven
namespace Go.Proofs.YtfjbnpdffillbaaGreatDoor
namespace Rows

/-- THE TIED CARD OF 'galleylaw20.AddressParses'. -/
def addressParsesCard : Claim7 := { stood := { row := addressParsesRow, standIns := [], harness := (true, "fd1299d85a7d5c42db94fd7194f5e0fb9110d8a2eba4059d98358f88b622d310"), looks := true }, kinds := [], alts := [], laidByText := true, laidKinds := [.data, .data, .data, .data], laidTests := true, laidLooks := .later }
def AddressParsesCardSaid : Prop := Claim7.holds Tryz.pinned (.plain (OpenSpec.ofChange addressParsesSpec)) addressParsesCard

/-- THE TIED CARD OF 'galleylaw20.AddressPrints'. -/
def addressPrintsCard : Claim7 := { stood := { row := addressPrintsRow, standIns := [], harness := (true, "fd1299d85a7d5c42db94fd7194f5e0fb9110d8a2eba4059d98358f88b622d310"), looks := true }, kinds := [], alts := [], laidByText := true, laidKinds := [.data, .data, .data, .data], laidTests := true, laidLooks := .later }
def AddressPrintsCardSaid : Prop := Claim7.holds Tryz.pinned (.plain (OpenSpec.ofChange addressPrintsSpec)) addressPrintsCard

/-- THE TIED CARD OF 'galleylaw20.AddressGates'. -/
def addressGatesCard : Claim7 := { stood := { row := addressGatesRow, standIns := [], harness := (true, "fd1299d85a7d5c42db94fd7194f5e0fb9110d8a2eba4059d98358f88b622d310"), looks := true }, kinds := [], alts := [], laidByText := true, laidKinds := [.data, .data, .data, .data], laidTests := true, laidLooks := .later }
def AddressGatesCardSaid : Prop := Claim7.holds Tryz.pinned (.plain (OpenSpec.ofChange addressGatesSpec)) addressGatesCard

/-- THE TIED CARD OF 'galleylaw20.AddressBack'. -/
def addressBackCard : Claim7 := { stood := { row := addressBackRow, standIns := [], harness := (true, "fd1299d85a7d5c42db94fd7194f5e0fb9110d8a2eba4059d98358f88b622d310"), looks := true }, kinds := [], alts := [], laidByText := true, laidKinds := [.data, .data, .data, .data], laidTests := true, laidLooks := .later }
def AddressBackCardSaid : Prop := Claim7.holds Tryz.pinned (.plain (OpenSpec.ofChange addressBackSpec)) addressBackCard

/-- THE TIED CARD OF 'galleylaw20.AddressRange'. -/
def addressRangeCard : Claim7 := { stood := { row := addressRangeRow, standIns := [], harness := (true, "fd1299d85a7d5c42db94fd7194f5e0fb9110d8a2eba4059d98358f88b622d310"), looks := true }, kinds := [], alts := [], laidByText := true, laidKinds := [.data, .data, .data, .data], laidTests := true, laidLooks := .later }
def AddressRangeCardSaid : Prop := Claim7.holds Tryz.pinned (.plain (OpenSpec.ofChange addressRangeSpec)) addressRangeCard

/-- THE TIED CARD OF 'galleylaw20.AddressNot'. -/
def addressNotCard : Claim7 := { stood := { row := addressNotRow, standIns := [], harness := (true, "fd1299d85a7d5c42db94fd7194f5e0fb9110d8a2eba4059d98358f88b622d310"), looks := true }, kinds := [], alts := [], laidByText := true, laidKinds := [.data, .data, .data, .data], laidTests := true, laidLooks := .later }
def AddressNotCardSaid : Prop := Claim7.holds Tryz.pinned (.plain (OpenSpec.ofChange addressNotSpec)) addressNotCard

/-- THE TIED CARD OF 'galleylaw20.AddressAlone'. -/
def addressAloneCard : Claim7 := { stood := { row := addressAloneRow, standIns := [], harness := (true, "fd1299d85a7d5c42db94fd7194f5e0fb9110d8a2eba4059d98358f88b622d310"), looks := true }, kinds := [], alts := [], laidByText := true, laidKinds := [.data, .data, .data, .data], laidTests := true, laidLooks := .later }
def AddressAloneCardSaid : Prop := Claim7.holds Tryz.pinned (.plain (OpenSpec.ofChange addressAloneSpec)) addressAloneCard

/-- THE SECOND FORM's CARD OF 'galleylaw20.AddressParses'. -/
def addressParsesUptoCard : Claim7 := { stood := { row := addressParsesUptoRow, standIns := [], harness := (true, "fd1299d85a7d5c42db94fd7194f5e0fb9110d8a2eba4059d98358f88b622d310"), looks := true }, kinds := [], alts := [], laidByText := true, laidKinds := [.data, .data, .data, .data], laidTests := true, laidLooks := .later }
def AddressParsesUptoCardSaid : Prop := Claim7.holds Tryz.pinned (.plain (OpenSpec.upto addressParsesSpec)) addressParsesUptoCard

/-- THE SECOND FORM's CARD OF 'galleylaw20.AddressPrints'. -/
def addressPrintsUptoCard : Claim7 := { stood := { row := addressPrintsUptoRow, standIns := [], harness := (true, "fd1299d85a7d5c42db94fd7194f5e0fb9110d8a2eba4059d98358f88b622d310"), looks := true }, kinds := [], alts := [], laidByText := true, laidKinds := [.data, .data, .data, .data], laidTests := true, laidLooks := .later }
def AddressPrintsUptoCardSaid : Prop := Claim7.holds Tryz.pinned (.plain (OpenSpec.upto addressPrintsSpec)) addressPrintsUptoCard

/-- THE SECOND FORM's CARD OF 'galleylaw20.AddressGates'. -/
def addressGatesUptoCard : Claim7 := { stood := { row := addressGatesUptoRow, standIns := [], harness := (true, "fd1299d85a7d5c42db94fd7194f5e0fb9110d8a2eba4059d98358f88b622d310"), looks := true }, kinds := [], alts := [], laidByText := true, laidKinds := [.data, .data, .data, .data], laidTests := true, laidLooks := .later }
def AddressGatesUptoCardSaid : Prop := Claim7.holds Tryz.pinned (.plain (OpenSpec.upto addressGatesSpec)) addressGatesUptoCard

/-- THE SECOND FORM's CARD OF 'galleylaw20.AddressBack'. -/
def addressBackUptoCard : Claim7 := { stood := { row := addressBackUptoRow, standIns := [], harness := (true, "fd1299d85a7d5c42db94fd7194f5e0fb9110d8a2eba4059d98358f88b622d310"), looks := true }, kinds := [], alts := [], laidByText := true, laidKinds := [.data, .data, .data, .data], laidTests := true, laidLooks := .later }
def AddressBackUptoCardSaid : Prop := Claim7.holds Tryz.pinned (.plain (OpenSpec.upto addressBackSpec)) addressBackUptoCard

/-- THE SECOND FORM's CARD OF 'galleylaw20.AddressRange'. -/
def addressRangeUptoCard : Claim7 := { stood := { row := addressRangeUptoRow, standIns := [], harness := (true, "fd1299d85a7d5c42db94fd7194f5e0fb9110d8a2eba4059d98358f88b622d310"), looks := true }, kinds := [], alts := [], laidByText := true, laidKinds := [.data, .data, .data, .data], laidTests := true, laidLooks := .later }
def AddressRangeUptoCardSaid : Prop := Claim7.holds Tryz.pinned (.plain (OpenSpec.upto addressRangeSpec)) addressRangeUptoCard

/-- THE SECOND FORM's CARD OF 'galleylaw20.AddressNot'. -/
def addressNotUptoCard : Claim7 := { stood := { row := addressNotUptoRow, standIns := [], harness := (true, "fd1299d85a7d5c42db94fd7194f5e0fb9110d8a2eba4059d98358f88b622d310"), looks := true }, kinds := [], alts := [], laidByText := true, laidKinds := [.data, .data, .data, .data], laidTests := true, laidLooks := .later }
def AddressNotUptoCardSaid : Prop := Claim7.holds Tryz.pinned (.plain (OpenSpec.upto addressNotSpec)) addressNotUptoCard

/-- THE SECOND FORM's CARD OF 'galleylaw20.AddressAlone'. -/
def addressAloneUptoCard : Claim7 := { stood := { row := addressAloneUptoRow, standIns := [], harness := (true, "fd1299d85a7d5c42db94fd7194f5e0fb9110d8a2eba4059d98358f88b622d310"), looks := true }, kinds := [], alts := [], laidByText := true, laidKinds := [.data, .data, .data, .data], laidTests := true, laidLooks := .later }
def AddressAloneUptoCardSaid : Prop := Claim7.holds Tryz.pinned (.plain (OpenSpec.upto addressAloneSpec)) addressAloneUptoCard
end Rows
end Go.Proofs.YtfjbnpdffillbaaGreatDoor
