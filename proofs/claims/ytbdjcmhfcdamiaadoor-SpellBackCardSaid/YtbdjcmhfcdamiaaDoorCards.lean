/-
  DERIVED. GIVEN WITH THE SEED: THE CARDS: each row of YtbdjcmhfcdamiaaDoorRows.lean that lists a variable, with what it lists TIED to the program's text (the seventh form; the later family's looks); each row that meets fmt, with fmt's text TOLD by the authors' own Lean function (tested against real Go, not proved from fmt's source: count such statements apart). THE CARD IS WHAT COUNTS. Prove the row's statement (the work); the ties are given (YtbdjcmhfcdamiaaDoorTie.lean); close each card by the builder's one call (the guide's Derived/Test/ToyasCard.lean, 'card_holds'). Laid BY PROGRAM, IN A SANDBOX (cutbox-door.mjs). By AI agents, Wed Nov 11 2026. No macro, syntax, notation, axiom, sorry.
-/
import Derived.Test.YtbdjcmhfcdamiaaDoorRows
import GoSem.ClaimSeven
namespace Go.Proofs.YtbdjcmhfcdamiaaDoor
namespace Rows

/-- THE TIED CARD OF 'galleylaw06.SpellTexts'. -/
def spellTextsCard : Claim7 := { stood := { row := spellTextsRow, standIns := [], harness := (true, "e6516a3c3c72f3f76381ec8d47c9d33bb87ee534fc7c5f7edcca3c234f460882"), looks := true }, kinds := [], alts := [], laidByText := true, laidKinds := [.data, .data, .data, .data], laidTests := true, laidLooks := .later }
def SpellTextsCardSaid : Prop := Claim7.holds Tryd.pinned (.plain (OpenSpec.ofChange spellTextsSpec)) spellTextsCard

/-- THE TIED CARD OF 'galleylaw06.SpellReads'. -/
def spellReadsCard : Claim7 := { stood := { row := spellReadsRow, standIns := [], harness := (true, "e6516a3c3c72f3f76381ec8d47c9d33bb87ee534fc7c5f7edcca3c234f460882"), looks := true }, kinds := [], alts := [], laidByText := true, laidKinds := [.data, .data, .data, .data], laidTests := true, laidLooks := .later }
def SpellReadsCardSaid : Prop := Claim7.holds Tryd.pinned (.plain (OpenSpec.ofChange spellReadsSpec)) spellReadsCard

/-- THE TIED CARD OF 'galleylaw05.SyntaxCounts'. -/
def syntaxCountsCard : Claim7 := { stood := { row := syntaxCountsRow, standIns := [], harness := (true, "e6516a3c3c72f3f76381ec8d47c9d33bb87ee534fc7c5f7edcca3c234f460882"), looks := true }, kinds := [], alts := [], laidByText := true, laidKinds := [.data, .data, .data], laidTests := true, laidLooks := .later }
def SyntaxCountsCardSaid : Prop := Claim7.holds Tryd.pinned (.plain (OpenSpec.ofChange syntaxCountsSpec)) syntaxCountsCard

/-- THE TIED CARD OF 'galleylaw06.SpellBack'. -/
def spellBackCard : Claim7 := { stood := { row := spellBackRow, standIns := [], harness := (true, "e6516a3c3c72f3f76381ec8d47c9d33bb87ee534fc7c5f7edcca3c234f460882"), looks := true }, kinds := [], alts := [], laidByText := true, laidKinds := [.data, .data, .data, .data], laidTests := true, laidLooks := .later }
def SpellBackCardSaid : Prop := Claim7.holds Tryd.pinned (.plain (OpenSpec.ofChange spellBackSpec)) spellBackCard

/-- THE SECOND FORM's CARD OF 'galleylaw06.SpellTexts'. -/
def spellTextsUptoCard : Claim7 := { stood := { row := spellTextsUptoRow, standIns := [], harness := (true, "e6516a3c3c72f3f76381ec8d47c9d33bb87ee534fc7c5f7edcca3c234f460882"), looks := true }, kinds := [], alts := [], laidByText := true, laidKinds := [.data, .data, .data, .data], laidTests := true, laidLooks := .later }
def SpellTextsUptoCardSaid : Prop := Claim7.holds Tryd.pinned (.plain (OpenSpec.upto spellTextsSpec)) spellTextsUptoCard

/-- THE SECOND FORM's CARD OF 'galleylaw06.SpellReads'. -/
def spellReadsUptoCard : Claim7 := { stood := { row := spellReadsUptoRow, standIns := [], harness := (true, "e6516a3c3c72f3f76381ec8d47c9d33bb87ee534fc7c5f7edcca3c234f460882"), looks := true }, kinds := [], alts := [], laidByText := true, laidKinds := [.data, .data, .data, .data], laidTests := true, laidLooks := .later }
def SpellReadsUptoCardSaid : Prop := Claim7.holds Tryd.pinned (.plain (OpenSpec.upto spellReadsSpec)) spellReadsUptoCard

/-- THE SECOND FORM's CARD OF 'galleylaw05.SyntaxCounts'. -/
def syntaxCountsUptoCard : Claim7 := { stood := { row := syntaxCountsUptoRow, standIns := [], harness := (true, "e6516a3c3c72f3f76381ec8d47c9d33bb87ee534fc7c5f7edcca3c234f460882"), looks := true }, kinds := [], alts := [], laidByText := true, laidKinds := [.data, .data, .data], laidTests := true, laidLooks := .later }
def SyntaxCountsUptoCardSaid : Prop := Claim7.holds Tryd.pinned (.plain (OpenSpec.upto syntaxCountsSpec)) syntaxCountsUptoCard

/-- THE SECOND FORM's CARD OF 'galleylaw06.SpellBack'. -/
def spellBackUptoCard : Claim7 := { stood := { row := spellBackUptoRow, standIns := [], harness := (true, "e6516a3c3c72f3f76381ec8d47c9d33bb87ee534fc7c5f7edcca3c234f460882"), looks := true }, kinds := [], alts := [], laidByText := true, laidKinds := [.data, .data, .data, .data], laidTests := true, laidLooks := .later }
def SpellBackUptoCardSaid : Prop := Claim7.holds Tryd.pinned (.plain (OpenSpec.upto spellBackSpec)) spellBackUptoCard
end Rows
end Go.Proofs.YtbdjcmhfcdamiaaDoor
