/-
  DERIVED. GIVEN WITH THE SEED: THE CARDS: each row of YtjddkbgnndefaaaGreatDoorRows.lean that lists a variable, with what it lists TIED to the program's text (the seventh form; the later family's looks); each row that meets fmt, with fmt's text TOLD by the authors' own Lean function (tested against real Go, not proved from fmt's source: count such statements apart). THE CARD IS WHAT COUNTS. Prove the row's statement (the work); the ties are given (YtjddkbgnndefaaaGreatDoorTie.lean); close each card by the builder's one call (the guide's Derived/Test/ToyasCard.lean, 'card_holds'). Laid BY PROGRAM, IN A SANDBOX (cutbox-door.mjs). By AI agents, Wed Nov 11 2026. No macro, syntax, notation, axiom, sorry.
-/
import Derived.Test.YtjddkbgnndefaaaGreatDoorRows
import GoSem.ClaimSeven
namespace Go.Proofs.YtjddkbgnndefaaaGreatDoor
namespace Rows

/-- THE TIED CARD OF 'gazettelaw06.CondHolds'. -/
def condHoldsCard : Claim7 := { stood := { row := condHoldsRow, standIns := [], harness := (true, "9929b89d2a85392631d115ba751aa7aeec018f0cb0ace2c53c6ee7d00405369f"), looks := false }, kinds := [], alts := [], laidByText := true, laidKinds := [.data, .data, .data, .data, .data, .data, .pinned, .pinned, .pinned, .pinned, .pinned, .pinned, .pinned, .pinned], laidTests := true, laidLooks := .later }
def CondHoldsCardSaid : Prop := Claim7.holds Tryz.pinned (.plain (OpenSpec.ofChange condHoldsSpec)) condHoldsCard

/-- THE TIED CARD OF 'gazettelaw06.CondPrints'. -/
def condPrintsCard : Claim7 := { stood := { row := condPrintsRow, standIns := [], harness := (true, "9929b89d2a85392631d115ba751aa7aeec018f0cb0ace2c53c6ee7d00405369f"), looks := false }, kinds := [], alts := [], laidByText := true, laidKinds := [.data, .data, .data, .data, .data, .data, .pinned, .pinned, .pinned, .pinned, .pinned, .pinned, .pinned, .pinned], laidTests := true, laidLooks := .later }
def CondPrintsCardSaid : Prop := Claim7.holds Tryz.pinned (.plain (OpenSpec.ofChange condPrintsSpec)) condPrintsCard

/-- THE TIED CARD OF 'gazettelaw06.CondPrefixes'. -/
def condPrefixesCard : Claim7 := { stood := { row := condPrefixesRow, standIns := [], harness := (true, "9929b89d2a85392631d115ba751aa7aeec018f0cb0ace2c53c6ee7d00405369f"), looks := false }, kinds := [], alts := [], laidByText := true, laidKinds := [.data, .data, .data, .data, .data, .data, .pinned, .pinned, .pinned, .pinned, .pinned, .pinned, .pinned, .pinned], laidTests := true, laidLooks := .later }
def CondPrefixesCardSaid : Prop := Claim7.holds Tryz.pinned (.plain (OpenSpec.ofChange condPrefixesSpec)) condPrefixesCard

/-- THE TIED CARD OF 'gazettelaw06.CondNumbers'. -/
def condNumbersCard : Claim7 := { stood := { row := condNumbersRow, standIns := [], harness := (true, "9929b89d2a85392631d115ba751aa7aeec018f0cb0ace2c53c6ee7d00405369f"), looks := false }, kinds := [], alts := [], laidByText := true, laidKinds := [.data, .data, .data, .data, .data, .data, .pinned, .pinned, .pinned, .pinned, .pinned, .pinned, .pinned, .pinned], laidTests := true, laidLooks := .later }
def CondNumbersCardSaid : Prop := Claim7.holds Tryz.pinned (.plain (OpenSpec.ofChange condNumbersSpec)) condNumbersCard

/-- THE TIED CARD OF 'gazettelaw06.CondImplies'. -/
def condImpliesCard : Claim7 := { stood := { row := condImpliesRow, standIns := [], harness := (true, "9929b89d2a85392631d115ba751aa7aeec018f0cb0ace2c53c6ee7d00405369f"), looks := false }, kinds := [], alts := [], laidByText := true, laidKinds := [.data, .data, .data, .data, .data, .data, .pinned, .pinned, .pinned, .pinned, .pinned, .pinned, .pinned, .pinned], laidTests := true, laidLooks := .later }
def CondImpliesCardSaid : Prop := Claim7.holds Tryz.pinned (.plain (OpenSpec.ofChange condImpliesSpec)) condImpliesCard

/-- THE TIED CARD OF 'gazettelaw06.CondChains'. -/
def condChainsCard : Claim7 := { stood := { row := condChainsRow, standIns := [], harness := (true, "9929b89d2a85392631d115ba751aa7aeec018f0cb0ace2c53c6ee7d00405369f"), looks := false }, kinds := [], alts := [], laidByText := true, laidKinds := [.data, .data, .data, .data, .data, .data, .pinned, .pinned, .pinned, .pinned, .pinned, .pinned, .pinned, .pinned], laidTests := true, laidLooks := .later }
def CondChainsCardSaid : Prop := Claim7.holds Tryz.pinned (.plain (OpenSpec.ofChange condChainsSpec)) condChainsCard

/-- THE TIED CARD OF 'gazettelaw06.CondVoids'. -/
def condVoidsCard : Claim7 := { stood := { row := condVoidsRow, standIns := [], harness := (true, "9929b89d2a85392631d115ba751aa7aeec018f0cb0ace2c53c6ee7d00405369f"), looks := false }, kinds := [], alts := [], laidByText := true, laidKinds := [.data, .data, .data, .data, .data, .data, .pinned, .pinned, .pinned, .pinned, .pinned, .pinned, .pinned, .pinned], laidTests := true, laidLooks := .later }
def CondVoidsCardSaid : Prop := Claim7.holds Tryz.pinned (.plain (OpenSpec.ofChange condVoidsSpec)) condVoidsCard

/-- THE TIED CARD OF 'gazettelaw06.CondMatches'. -/
def condMatchesCard : Claim7 := { stood := { row := condMatchesRow, standIns := [], harness := (true, "9929b89d2a85392631d115ba751aa7aeec018f0cb0ace2c53c6ee7d00405369f"), looks := false }, kinds := [], alts := [], laidByText := true, laidKinds := [.data, .data, .data, .data, .data, .data, .pinned, .pinned, .pinned, .pinned, .pinned, .pinned, .pinned, .pinned], laidTests := true, laidLooks := .later }
def CondMatchesCardSaid : Prop := Claim7.holds Tryz.pinned (.plain (OpenSpec.ofChange condMatchesSpec)) condMatchesCard

/-- THE SECOND FORM's CARD OF 'gazettelaw06.CondHolds'. -/
def condHoldsUptoCard : Claim7 := { stood := { row := condHoldsUptoRow, standIns := [], harness := (true, "9929b89d2a85392631d115ba751aa7aeec018f0cb0ace2c53c6ee7d00405369f"), looks := false }, kinds := [], alts := [], laidByText := true, laidKinds := [.data, .data, .data, .data, .data, .data, .pinned, .pinned, .pinned, .pinned, .pinned, .pinned, .pinned, .pinned], laidTests := true, laidLooks := .later }
def CondHoldsUptoCardSaid : Prop := Claim7.holds Tryz.pinned (.plain (OpenSpec.upto condHoldsSpec)) condHoldsUptoCard

/-- THE SECOND FORM's CARD OF 'gazettelaw06.CondPrints'. -/
def condPrintsUptoCard : Claim7 := { stood := { row := condPrintsUptoRow, standIns := [], harness := (true, "9929b89d2a85392631d115ba751aa7aeec018f0cb0ace2c53c6ee7d00405369f"), looks := false }, kinds := [], alts := [], laidByText := true, laidKinds := [.data, .data, .data, .data, .data, .data, .pinned, .pinned, .pinned, .pinned, .pinned, .pinned, .pinned, .pinned], laidTests := true, laidLooks := .later }
def CondPrintsUptoCardSaid : Prop := Claim7.holds Tryz.pinned (.plain (OpenSpec.upto condPrintsSpec)) condPrintsUptoCard

/-- THE SECOND FORM's CARD OF 'gazettelaw06.CondPrefixes'. -/
def condPrefixesUptoCard : Claim7 := { stood := { row := condPrefixesUptoRow, standIns := [], harness := (true, "9929b89d2a85392631d115ba751aa7aeec018f0cb0ace2c53c6ee7d00405369f"), looks := false }, kinds := [], alts := [], laidByText := true, laidKinds := [.data, .data, .data, .data, .data, .data, .pinned, .pinned, .pinned, .pinned, .pinned, .pinned, .pinned, .pinned], laidTests := true, laidLooks := .later }
def CondPrefixesUptoCardSaid : Prop := Claim7.holds Tryz.pinned (.plain (OpenSpec.upto condPrefixesSpec)) condPrefixesUptoCard

/-- THE SECOND FORM's CARD OF 'gazettelaw06.CondNumbers'. -/
def condNumbersUptoCard : Claim7 := { stood := { row := condNumbersUptoRow, standIns := [], harness := (true, "9929b89d2a85392631d115ba751aa7aeec018f0cb0ace2c53c6ee7d00405369f"), looks := false }, kinds := [], alts := [], laidByText := true, laidKinds := [.data, .data, .data, .data, .data, .data, .pinned, .pinned, .pinned, .pinned, .pinned, .pinned, .pinned, .pinned], laidTests := true, laidLooks := .later }
def CondNumbersUptoCardSaid : Prop := Claim7.holds Tryz.pinned (.plain (OpenSpec.upto condNumbersSpec)) condNumbersUptoCard

/-- THE SECOND FORM's CARD OF 'gazettelaw06.CondImplies'. -/
def condImpliesUptoCard : Claim7 := { stood := { row := condImpliesUptoRow, standIns := [], harness := (true, "9929b89d2a85392631d115ba751aa7aeec018f0cb0ace2c53c6ee7d00405369f"), looks := false }, kinds := [], alts := [], laidByText := true, laidKinds := [.data, .data, .data, .data, .data, .data, .pinned, .pinned, .pinned, .pinned, .pinned, .pinned, .pinned, .pinned], laidTests := true, laidLooks := .later }
def CondImpliesUptoCardSaid : Prop := Claim7.holds Tryz.pinned (.plain (OpenSpec.upto condImpliesSpec)) condImpliesUptoCard

/-- THE SECOND FORM's CARD OF 'gazettelaw06.CondChains'. -/
def condChainsUptoCard : Claim7 := { stood := { row := condChainsUptoRow, standIns := [], harness := (true, "9929b89d2a85392631d115ba751aa7aeec018f0cb0ace2c53c6ee7d00405369f"), looks := false }, kinds := [], alts := [], laidByText := true, laidKinds := [.data, .data, .data, .data, .data, .data, .pinned, .pinned, .pinned, .pinned, .pinned, .pinned, .pinned, .pinned], laidTests := true, laidLooks := .later }
def CondChainsUptoCardSaid : Prop := Claim7.holds Tryz.pinned (.plain (OpenSpec.upto condChainsSpec)) condChainsUptoCard

/-- THE SECOND FORM's CARD OF 'gazettelaw06.CondVoids'. -/
def condVoidsUptoCard : Claim7 := { stood := { row := condVoidsUptoRow, standIns := [], harness := (true, "9929b89d2a85392631d115ba751aa7aeec018f0cb0ace2c53c6ee7d00405369f"), looks := false }, kinds := [], alts := [], laidByText := true, laidKinds := [.data, .data, .data, .data, .data, .data, .pinned, .pinned, .pinned, .pinned, .pinned, .pinned, .pinned, .pinned], laidTests := true, laidLooks := .later }
def CondVoidsUptoCardSaid : Prop := Claim7.holds Tryz.pinned (.plain (OpenSpec.upto condVoidsSpec)) condVoidsUptoCard

/-- THE SECOND FORM's CARD OF 'gazettelaw06.CondMatches'. -/
def condMatchesUptoCard : Claim7 := { stood := { row := condMatchesUptoRow, standIns := [], harness := (true, "9929b89d2a85392631d115ba751aa7aeec018f0cb0ace2c53c6ee7d00405369f"), looks := false }, kinds := [], alts := [], laidByText := true, laidKinds := [.data, .data, .data, .data, .data, .data, .pinned, .pinned, .pinned, .pinned, .pinned, .pinned, .pinned, .pinned], laidTests := true, laidLooks := .later }
def CondMatchesUptoCardSaid : Prop := Claim7.holds Tryz.pinned (.plain (OpenSpec.upto condMatchesSpec)) condMatchesUptoCard
end Rows
end Go.Proofs.YtjddkbgnndefaaaGreatDoor
