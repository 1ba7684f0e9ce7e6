/-
  DERIVED. GIVEN WITH THE SEED: THE CARDS: each row of YtfkedobofamkiaaGreatDoorRows.lean that lists a variable, with what it lists TIED to the program's text (the seventh form; the later family's looks); each row that meets fmt, with fmt's text TOLD by the authors' own Lean function (tested against real Go, not proved from fmt's source: count such statements apart). THE CARD IS WHAT COUNTS. Prove the row's statement (the work); the ties are given (YtfkedobofamkiaaGreatDoorTie.lean); close each card by the builder's one call (the guide's Derived/Test/ToyasCard.lean, 'card_holds'). Laid BY PROGRAM, IN A SANDBOX (cutbox-door.mjs). By AI agents, Wed Nov 11 2026. No macro, syntax, notation, axiom, sorry.
-/
import Derived.Test.YtfkedobofamkiaaGreatDoorRows
import GoSem.ClaimSeven
namespace Go.Proofs.YtfkedobofamkiaaGreatDoor
namespace Rows

/-- THE TIED CARD OF 'gazettelaw12.PolicyFull'. -/
def policyFullCard : Claim7 := { stood := { row := policyFullRow, standIns := [], harness := (true, "d3998ff658c8ed2ba16952b987c0f50d9258dfb577b1957740fe540a82b9e58f"), looks := false }, kinds := [], alts := [], laidByText := true, laidKinds := [.data, .data, .data, .data, .data, .data, .pinned, .pinned, .pinned, .pinned, .pinned, .pinned, .pinned, .pinned], laidTests := true, laidLooks := .later }
def PolicyFullCardSaid : Prop := Claim7.holds Tryz.pinned (.plain (OpenSpec.ofChange policyFullSpec)) policyFullCard

/-- THE TIED CARD OF 'gazettelaw12.PolicyRevokes'. -/
def policyRevokesCard : Claim7 := { stood := { row := policyRevokesRow, standIns := [], harness := (true, "d3998ff658c8ed2ba16952b987c0f50d9258dfb577b1957740fe540a82b9e58f"), looks := false }, kinds := [], alts := [], laidByText := true, laidKinds := [.data, .data, .data, .data, .data, .data, .pinned, .pinned, .pinned, .pinned, .pinned, .pinned, .pinned, .pinned], laidTests := true, laidLooks := .later }
def PolicyRevokesCardSaid : Prop := Claim7.holds Tryz.pinned (.plain (OpenSpec.ofChange policyRevokesSpec)) policyRevokesCard

/-- THE TIED CARD OF 'gazettelaw12.PolicyApart'. -/
def policyApartCard : Claim7 := { stood := { row := policyApartRow, standIns := [], harness := (true, "d3998ff658c8ed2ba16952b987c0f50d9258dfb577b1957740fe540a82b9e58f"), looks := false }, kinds := [], alts := [], laidByText := true, laidKinds := [.data, .data, .data, .data, .data, .data, .pinned, .pinned, .pinned, .pinned, .pinned, .pinned, .pinned, .pinned], laidTests := true, laidLooks := .later }
def PolicyApartCardSaid : Prop := Claim7.holds Tryz.pinned (.plain (OpenSpec.ofChange policyApartSpec)) policyApartCard

/-- THE SECOND FORM's CARD OF 'gazettelaw12.PolicyFull'. -/
def policyFullUptoCard : Claim7 := { stood := { row := policyFullUptoRow, standIns := [], harness := (true, "d3998ff658c8ed2ba16952b987c0f50d9258dfb577b1957740fe540a82b9e58f"), looks := false }, kinds := [], alts := [], laidByText := true, laidKinds := [.data, .data, .data, .data, .data, .data, .pinned, .pinned, .pinned, .pinned, .pinned, .pinned, .pinned, .pinned], laidTests := true, laidLooks := .later }
def PolicyFullUptoCardSaid : Prop := Claim7.holds Tryz.pinned (.plain (OpenSpec.upto policyFullSpec)) policyFullUptoCard

/-- THE SECOND FORM's CARD OF 'gazettelaw12.PolicyRevokes'. -/
def policyRevokesUptoCard : Claim7 := { stood := { row := policyRevokesUptoRow, standIns := [], harness := (true, "d3998ff658c8ed2ba16952b987c0f50d9258dfb577b1957740fe540a82b9e58f"), looks := false }, kinds := [], alts := [], laidByText := true, laidKinds := [.data, .data, .data, .data, .data, .data, .pinned, .pinned, .pinned, .pinned, .pinned, .pinned, .pinned, .pinned], laidTests := true, laidLooks := .later }
def PolicyRevokesUptoCardSaid : Prop := Claim7.holds Tryz.pinned (.plain (OpenSpec.upto policyRevokesSpec)) policyRevokesUptoCard

/-- THE SECOND FORM's CARD OF 'gazettelaw12.PolicyApart'. -/
def policyApartUptoCard : Claim7 := { stood := { row := policyApartUptoRow, standIns := [], harness := (true, "d3998ff658c8ed2ba16952b987c0f50d9258dfb577b1957740fe540a82b9e58f"), looks := false }, kinds := [], alts := [], laidByText := true, laidKinds := [.data, .data, .data, .data, .data, .data, .pinned, .pinned, .pinned, .pinned, .pinned, .pinned, .pinned, .pinned], laidTests := true, laidLooks := .later }
def PolicyApartUptoCardSaid : Prop := Claim7.holds Tryz.pinned (.plain (OpenSpec.upto policyApartSpec)) policyApartUptoCard
end Rows
end Go.Proofs.YtfkedobofamkiaaGreatDoor
