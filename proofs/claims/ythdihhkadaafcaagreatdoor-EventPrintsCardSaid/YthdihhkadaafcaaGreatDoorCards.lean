/-
  DERIVED. GIVEN WITH THE SEED: THE CARDS: each row of YthdihhkadaafcaaGreatDoorRows.lean that lists a variable, with what it lists TIED to the program's text (the seventh form; the later family's looks); each row that meets fmt, with fmt's text TOLD by the authors' own Lean function (tested against real Go, not proved from fmt's source: count such statements apart). THE CARD IS WHAT COUNTS. Prove the row's statement (the work); the ties are given (YthdihhkadaafcaaGreatDoorTie.lean); close each card by the builder's one call (the guide's Derived/Test/ToyasCard.lean, 'card_holds'). Laid BY PROGRAM, IN A SANDBOX (cutbox-door.mjs). By AI agents, Wed Nov 11 2026. No macro, syntax, notation, axiom, sorry.
-/
import Derived.Test.YthdihhkadaafcaaGreatDoorRows
import GoSem.ClaimSeven
namespace Go.Proofs.YthdihhkadaafcaaGreatDoor
namespace Rows

/-- THE TIED CARD OF 'gazettelaw06.CondPrints'. -/
def condPrintsCard : Claim7 := { stood := { row := condPrintsRow, standIns := [], harness := (true, "53f2180ee59d02666e6a18d09cb734af4413426d5ed333f845c43275a6f20527"), looks := true }, kinds := [], alts := [], laidByText := true, laidKinds := [.data, .data, .data, .data, .data, .data, .pinned, .pinned, .pinned, .pinned, .pinned, .pinned, .pinned, .pinned], laidTests := true, laidLooks := .later }
def CondPrintsCardSaid : Prop := Claim7.holds Tryz.pinned (.plain (OpenSpec.ofChange condPrintsSpec)) condPrintsCard

/-- THE TIED CARD OF 'gazettelaw03.EventPrints'. -/
def eventPrintsCard : Claim7 := { stood := { row := eventPrintsRow, standIns := [], harness := (true, "53f2180ee59d02666e6a18d09cb734af4413426d5ed333f845c43275a6f20527"), looks := true }, kinds := [], alts := [], laidByText := true, laidKinds := [.data, .data, .data, .data, .data, .pinned, .pinned, .pinned, .pinned, .pinned, .pinned, .pinned, .pinned], laidTests := true, laidLooks := .later }
def EventPrintsCardSaid : Prop := Claim7.holds Tryz.pinned (.plain (OpenSpec.ofChange eventPrintsSpec)) eventPrintsCard

/-- THE TIED CARD OF 'gazettelaw07.FilterTurns'. -/
def filterTurnsCard : Claim7 := { stood := { row := filterTurnsRow, standIns := [], harness := (true, "53f2180ee59d02666e6a18d09cb734af4413426d5ed333f845c43275a6f20527"), looks := true }, kinds := [], alts := [], laidByText := true, laidKinds := [.data, .data, .data, .data, .data, .data, .pinned, .pinned, .pinned, .pinned, .pinned, .pinned, .pinned, .pinned], laidTests := true, laidLooks := .later }
def FilterTurnsCardSaid : Prop := Claim7.holds Tryz.pinned (.plain (OpenSpec.ofChange filterTurnsSpec)) filterTurnsCard

/-- THE TIED CARD OF 'gazettelaw12.PolicyFull'. -/
def policyFullCard : Claim7 := { stood := { row := policyFullRow, standIns := [], harness := (true, "53f2180ee59d02666e6a18d09cb734af4413426d5ed333f845c43275a6f20527"), looks := true }, kinds := [], alts := [], laidByText := true, laidKinds := [.data, .data, .data, .data, .data, .data, .pinned, .pinned, .pinned, .pinned, .pinned, .pinned, .pinned, .pinned], laidTests := true, laidLooks := .later }
def PolicyFullCardSaid : Prop := Claim7.holds Tryz.pinned (.plain (OpenSpec.ofChange policyFullSpec)) policyFullCard

/-- THE TIED CARD OF 'gazettelaw12.PolicyRevokes'. -/
def policyRevokesCard : Claim7 := { stood := { row := policyRevokesRow, standIns := [], harness := (true, "53f2180ee59d02666e6a18d09cb734af4413426d5ed333f845c43275a6f20527"), looks := true }, kinds := [], alts := [], laidByText := true, laidKinds := [.data, .data, .data, .data, .data, .data, .pinned, .pinned, .pinned, .pinned, .pinned, .pinned, .pinned, .pinned], laidTests := true, laidLooks := .later }
def PolicyRevokesCardSaid : Prop := Claim7.holds Tryz.pinned (.plain (OpenSpec.ofChange policyRevokesSpec)) policyRevokesCard

/-- THE TIED CARD OF 'gazettelaw12.PolicyApart'. -/
def policyApartCard : Claim7 := { stood := { row := policyApartRow, standIns := [], harness := (true, "53f2180ee59d02666e6a18d09cb734af4413426d5ed333f845c43275a6f20527"), looks := true }, kinds := [], alts := [], laidByText := true, laidKinds := [.data, .data, .data, .data, .data, .data, .pinned, .pinned, .pinned, .pinned, .pinned, .pinned, .pinned, .pinned], laidTests := true, laidLooks := .later }
def PolicyApartCardSaid : Prop := Claim7.holds Tryz.pinned (.plain (OpenSpec.ofChange policyApartSpec)) policyApartCard

/-- THE TIED CARD OF 'gazettelaw07.FilterCovers'. -/
def filterCoversCard : Claim7 := { stood := { row := filterCoversRow, standIns := [], harness := (true, "53f2180ee59d02666e6a18d09cb734af4413426d5ed333f845c43275a6f20527"), looks := true }, kinds := [], alts := [], laidByText := true, laidKinds := [.data, .data, .data, .data, .data, .data, .pinned, .pinned, .pinned, .pinned, .pinned, .pinned, .pinned, .pinned], laidTests := true, laidLooks := .later }
def FilterCoversCardSaid : Prop := Claim7.holds Tryz.pinned (.plain (OpenSpec.ofChange filterCoversSpec)) filterCoversCard

/-- THE TIED CARD OF 'gazettelaw07.FilterNorms'. -/
def filterNormsCard : Claim7 := { stood := { row := filterNormsRow, standIns := [], harness := (true, "53f2180ee59d02666e6a18d09cb734af4413426d5ed333f845c43275a6f20527"), looks := true }, kinds := [], alts := [], laidByText := true, laidKinds := [.data, .data, .data, .data, .data, .data, .pinned, .pinned, .pinned, .pinned, .pinned, .pinned, .pinned, .pinned], laidTests := true, laidLooks := .later }
def FilterNormsCardSaid : Prop := Claim7.holds Tryz.pinned (.plain (OpenSpec.ofChange filterNormsSpec)) filterNormsCard

/-- THE TIED CARD OF 'gazettelaw07.FilterKeys'. -/
def filterKeysCard : Claim7 := { stood := { row := filterKeysRow, standIns := [], harness := (true, "53f2180ee59d02666e6a18d09cb734af4413426d5ed333f845c43275a6f20527"), looks := true }, kinds := [], alts := [], laidByText := true, laidKinds := [.data, .data, .data, .data, .data, .data, .pinned, .pinned, .pinned, .pinned, .pinned, .pinned, .pinned, .pinned], laidTests := true, laidLooks := .later }
def FilterKeysCardSaid : Prop := Claim7.holds Tryz.pinned (.plain (OpenSpec.ofChange filterKeysSpec)) filterKeysCard

/-- THE SECOND FORM's CARD OF 'gazettelaw06.CondPrints'. -/
def condPrintsUptoCard : Claim7 := { stood := { row := condPrintsUptoRow, standIns := [], harness := (true, "53f2180ee59d02666e6a18d09cb734af4413426d5ed333f845c43275a6f20527"), looks := true }, kinds := [], alts := [], laidByText := true, laidKinds := [.data, .data, .data, .data, .data, .data, .pinned, .pinned, .pinned, .pinned, .pinned, .pinned, .pinned, .pinned], laidTests := true, laidLooks := .later }
def CondPrintsUptoCardSaid : Prop := Claim7.holds Tryz.pinned (.plain (OpenSpec.upto condPrintsSpec)) condPrintsUptoCard

/-- THE SECOND FORM's CARD OF 'gazettelaw03.EventPrints'. -/
def eventPrintsUptoCard : Claim7 := { stood := { row := eventPrintsUptoRow, standIns := [], harness := (true, "53f2180ee59d02666e6a18d09cb734af4413426d5ed333f845c43275a6f20527"), looks := true }, kinds := [], alts := [], laidByText := true, laidKinds := [.data, .data, .data, .data, .data, .pinned, .pinned, .pinned, .pinned, .pinned, .pinned, .pinned, .pinned], laidTests := true, laidLooks := .later }
def EventPrintsUptoCardSaid : Prop := Claim7.holds Tryz.pinned (.plain (OpenSpec.upto eventPrintsSpec)) eventPrintsUptoCard

/-- THE SECOND FORM's CARD OF 'gazettelaw07.FilterTurns'. -/
def filterTurnsUptoCard : Claim7 := { stood := { row := filterTurnsUptoRow, standIns := [], harness := (true, "53f2180ee59d02666e6a18d09cb734af4413426d5ed333f845c43275a6f20527"), looks := true }, kinds := [], alts := [], laidByText := true, laidKinds := [.data, .data, .data, .data, .data, .data, .pinned, .pinned, .pinned, .pinned, .pinned, .pinned, .pinned, .pinned], laidTests := true, laidLooks := .later }
def FilterTurnsUptoCardSaid : Prop := Claim7.holds Tryz.pinned (.plain (OpenSpec.upto filterTurnsSpec)) filterTurnsUptoCard

/-- THE SECOND FORM's CARD OF 'gazettelaw12.PolicyFull'. -/
def policyFullUptoCard : Claim7 := { stood := { row := policyFullUptoRow, standIns := [], harness := (true, "53f2180ee59d02666e6a18d09cb734af4413426d5ed333f845c43275a6f20527"), looks := true }, kinds := [], alts := [], laidByText := true, laidKinds := [.data, .data, .data, .data, .data, .data, .pinned, .pinned, .pinned, .pinned, .pinned, .pinned, .pinned, .pinned], laidTests := true, laidLooks := .later }
def PolicyFullUptoCardSaid : Prop := Claim7.holds Tryz.pinned (.plain (OpenSpec.upto policyFullSpec)) policyFullUptoCard

/-- THE SECOND FORM's CARD OF 'gazettelaw12.PolicyRevokes'. -/
def policyRevokesUptoCard : Claim7 := { stood := { row := policyRevokesUptoRow, standIns := [], harness := (true, "53f2180ee59d02666e6a18d09cb734af4413426d5ed333f845c43275a6f20527"), looks := true }, kinds := [], alts := [], laidByText := true, laidKinds := [.data, .data, .data, .data, .data, .data, .pinned, .pinned, .pinned, .pinned, .pinned, .pinned, .pinned, .pinned], laidTests := true, laidLooks := .later }
def PolicyRevokesUptoCardSaid : Prop := Claim7.holds Tryz.pinned (.plain (OpenSpec.upto policyRevokesSpec)) policyRevokesUptoCard

/-- THE SECOND FORM's CARD OF 'gazettelaw12.PolicyApart'. -/
def policyApartUptoCard : Claim7 := { stood := { row := policyApartUptoRow, standIns := [], harness := (true, "53f2180ee59d02666e6a18d09cb734af4413426d5ed333f845c43275a6f20527"), looks := true }, kinds := [], alts := [], laidByText := true, laidKinds := [.data, .data, .data, .data, .data, .data, .pinned, .pinned, .pinned, .pinned, .pinned, .pinned, .pinned, .pinned], laidTests := true, laidLooks := .later }
def PolicyApartUptoCardSaid : Prop := Claim7.holds Tryz.pinned (.plain (OpenSpec.upto policyApartSpec)) policyApartUptoCard

/-- THE SECOND FORM's CARD OF 'gazettelaw07.FilterCovers'. -/
def filterCoversUptoCard : Claim7 := { stood := { row := filterCoversUptoRow, standIns := [], harness := (true, "53f2180ee59d02666e6a18d09cb734af4413426d5ed333f845c43275a6f20527"), looks := true }, kinds := [], alts := [], laidByText := true, laidKinds := [.data, .data, .data, .data, .data, .data, .pinned, .pinned, .pinned, .pinned, .pinned, .pinned, .pinned, .pinned], laidTests := true, laidLooks := .later }
def FilterCoversUptoCardSaid : Prop := Claim7.holds Tryz.pinned (.plain (OpenSpec.upto filterCoversSpec)) filterCoversUptoCard

/-- THE SECOND FORM's CARD OF 'gazettelaw07.FilterNorms'. -/
def filterNormsUptoCard : Claim7 := { stood := { row := filterNormsUptoRow, standIns := [], harness := (true, "53f2180ee59d02666e6a18d09cb734af4413426d5ed333f845c43275a6f20527"), looks := true }, kinds := [], alts := [], laidByText := true, laidKinds := [.data, .data, .data, .data, .data, .data, .pinned, .pinned, .pinned, .pinned, .pinned, .pinned, .pinned, .pinned], laidTests := true, laidLooks := .later }
def FilterNormsUptoCardSaid : Prop := Claim7.holds Tryz.pinned (.plain (OpenSpec.upto filterNormsSpec)) filterNormsUptoCard

/-- THE SECOND FORM's CARD OF 'gazettelaw07.FilterKeys'. -/
def filterKeysUptoCard : Claim7 := { stood := { row := filterKeysUptoRow, standIns := [], harness := (true, "53f2180ee59d02666e6a18d09cb734af4413426d5ed333f845c43275a6f20527"), looks := true }, kinds := [], alts := [], laidByText := true, laidKinds := [.data, .data, .data, .data, .data, .data, .pinned, .pinned, .pinned, .pinned, .pinned, .pinned, .pinned, .pinned], laidTests := true, laidLooks := .later }
def FilterKeysUptoCardSaid : Prop := Claim7.holds Tryz.pinned (.plain (OpenSpec.upto filterKeysSpec)) filterKeysUptoCard
end Rows
end Go.Proofs.YthdihhkadaafcaaGreatDoor
