/-
  DERIVED. GIVEN WITH THE SEED: THE CARDS: each row of YtceplbanfpnhbaaGreatDoorRows.lean that lists a variable, with what it lists TIED to the program's text (the seventh form; the later family's looks); each row that meets fmt, with fmt's text TOLD by the authors' own Lean function (tested against real Go, not proved from fmt's source: count such statements apart). THE CARD IS WHAT COUNTS. Prove the row's statement (the work); the ties are given (YtceplbanfpnhbaaGreatDoorTie.lean); close each card by the builder's one call (the guide's Derived/Test/ToyasCard.lean, 'card_holds'). Laid BY PROGRAM, IN A SANDBOX (cutbox-door.mjs). By AI agents, Wed Nov 11 2026. No macro, syntax, notation, axiom, sorry.
-/
import Derived.Test.YtceplbanfpnhbaaGreatDoorRows
import GoSem.ClaimSeven
namespace Go.Proofs.YtceplbanfpnhbaaGreatDoor
namespace Rows

/-- THE TIED CARD OF 'gazettelaw07.FilterTurns'. -/
def filterTurnsCard : Claim7 := { stood := { row := filterTurnsRow, standIns := [], harness := (true, "ea0f1a17adf952e9b0d8c7833ac2d3f318593d55ed1157f2e2c27686935f0c37"), looks := true }, kinds := [], alts := [], laidByText := true, laidKinds := [.data, .data, .data, .data, .data, .data, .pinned, .pinned, .pinned, .pinned, .pinned, .pinned, .pinned, .pinned], laidTests := true, laidLooks := .later }
def FilterTurnsCardSaid : Prop := Claim7.holds Tryz.pinned (.plain (OpenSpec.ofChange filterTurnsSpec)) filterTurnsCard

/-- THE TIED CARD OF 'gazettelaw12.PolicyFull'. -/
def policyFullCard : Claim7 := { stood := { row := policyFullRow, standIns := [], harness := (true, "ea0f1a17adf952e9b0d8c7833ac2d3f318593d55ed1157f2e2c27686935f0c37"), looks := true }, kinds := [], alts := [], laidByText := true, laidKinds := [.data, .data, .data, .data, .data, .data, .pinned, .pinned, .pinned, .pinned, .pinned, .pinned, .pinned, .pinned], laidTests := true, laidLooks := .later }
def PolicyFullCardSaid : Prop := Claim7.holds Tryz.pinned (.plain (OpenSpec.ofChange policyFullSpec)) policyFullCard

/-- THE TIED CARD OF 'gazettelaw12.PolicyRevokes'. -/
def policyRevokesCard : Claim7 := { stood := { row := policyRevokesRow, standIns := [], harness := (true, "ea0f1a17adf952e9b0d8c7833ac2d3f318593d55ed1157f2e2c27686935f0c37"), looks := true }, kinds := [], alts := [], laidByText := true, laidKinds := [.data, .data, .data, .data, .data, .data, .pinned, .pinned, .pinned, .pinned, .pinned, .pinned, .pinned, .pinned], laidTests := true, laidLooks := .later }
def PolicyRevokesCardSaid : Prop := Claim7.holds Tryz.pinned (.plain (OpenSpec.ofChange policyRevokesSpec)) policyRevokesCard

/-- THE TIED CARD OF 'gazettelaw12.PolicyApart'. -/
def policyApartCard : Claim7 := { stood := { row := policyApartRow, standIns := [], harness := (true, "ea0f1a17adf952e9b0d8c7833ac2d3f318593d55ed1157f2e2c27686935f0c37"), looks := true }, kinds := [], alts := [], laidByText := true, laidKinds := [.data, .data, .data, .data, .data, .data, .pinned, .pinned, .pinned, .pinned, .pinned, .pinned, .pinned, .pinned], laidTests := true, laidLooks := .later }
def PolicyApartCardSaid : Prop := Claim7.holds Tryz.pinned (.plain (OpenSpec.ofChange policyApartSpec)) policyApartCard

/-- THE TIED CARD OF 'gazettelaw07.FilterCovers'. -/
def filterCoversCard : Claim7 := { stood := { row := filterCoversRow, standIns := [], harness := (true, "ea0f1a17adf952e9b0d8c7833ac2d3f318593d55ed1157f2e2c27686935f0c37"), looks := true }, kinds := [], alts := [], laidByText := true, laidKinds := [.data, .data, .data, .data, .data, .data, .pinned, .pinned, .pinned, .pinned, .pinned, .pinned, .pinned, .pinned], laidTests := true, laidLooks := .later }
def FilterCoversCardSaid : Prop := Claim7.holds Tryz.pinned (.plain (OpenSpec.ofChange filterCoversSpec)) filterCoversCard

/-- THE TIED CARD OF 'gazettelaw07.FilterNorms'. -/
def filterNormsCard : Claim7 := { stood := { row := filterNormsRow, standIns := [], harness := (true, "ea0f1a17adf952e9b0d8c7833ac2d3f318593d55ed1157f2e2c27686935f0c37"), looks := true }, kinds := [], alts := [], laidByText := true, laidKinds := [.data, .data, .data, .data, .data, .data, .pinned, .pinned, .pinned, .pinned, .pinned, .pinned, .pinned, .pinned], laidTests := true, laidLooks := .later }
def FilterNormsCardSaid : Prop := Claim7.holds Tryz.pinned (.plain (OpenSpec.ofChange filterNormsSpec)) filterNormsCard

/-- THE TIED CARD OF 'gazettelaw07.FilterKeys'. -/
def filterKeysCard : Claim7 := { stood := { row := filterKeysRow, standIns := [], harness := (true, "ea0f1a17adf952e9b0d8c7833ac2d3f318593d55ed1157f2e2c27686935f0c37"), looks := true }, kinds := [], alts := [], laidByText := true, laidKinds := [.data, .data, .data, .data, .data, .data, .pinned, .pinned, .pinned, .pinned, .pinned, .pinned, .pinned, .pinned], laidTests := true, laidLooks := .later }
def FilterKeysCardSaid : Prop := Claim7.holds Tryz.pinned (.plain (OpenSpec.ofChange filterKeysSpec)) filterKeysCard

/-- THE TIED CARD OF 'gazettelaw02.ValueRights'. -/
def valueRightsCard : Claim7 := { stood := { row := valueRightsRow, standIns := [], harness := (true, "ea0f1a17adf952e9b0d8c7833ac2d3f318593d55ed1157f2e2c27686935f0c37"), looks := true }, kinds := [], alts := [], laidByText := true, laidKinds := [.data, .data, .widerDeep, .widerDeep, .data, .data, .data, .data, .data, .data, .sentinel, .sentinel, .pinned, .pinned, .pinned, .pinned, .pinned, .pinned, .pinned, .pinned], laidTests := true, laidLooks := .later }
def ValueRightsCardSaid : Prop := Claim7.holds Tryz.pinned (.plain (OpenSpec.ofChange valueRightsSpec)) valueRightsCard

/-- THE TIED CARD OF 'gazettelaw02.ValueOrders'. -/
def valueOrdersCard : Claim7 := { stood := { row := valueOrdersRow, standIns := [], harness := (true, "ea0f1a17adf952e9b0d8c7833ac2d3f318593d55ed1157f2e2c27686935f0c37"), looks := true }, kinds := [], alts := [], laidByText := true, laidKinds := [.data, .data, .widerDeep, .widerDeep, .data, .data, .data, .data, .data, .data, .sentinel, .sentinel, .pinned, .pinned, .pinned, .pinned, .pinned, .pinned, .pinned, .pinned], laidTests := true, laidLooks := .later }
def ValueOrdersCardSaid : Prop := Claim7.holds Tryz.pinned (.plain (OpenSpec.ofChange valueOrdersSpec)) valueOrdersCard

/-- THE TIED CARD OF 'gazettelaw02.ValueThings'. -/
def valueThingsCard : Claim7 := { stood := { row := valueThingsRow, standIns := [], harness := (true, "ea0f1a17adf952e9b0d8c7833ac2d3f318593d55ed1157f2e2c27686935f0c37"), looks := true }, kinds := [], alts := [], laidByText := true, laidKinds := [.data, .data, .widerDeep, .widerDeep, .data, .data, .data, .data, .data, .data, .sentinel, .sentinel, .pinned, .pinned, .pinned, .pinned, .pinned, .pinned, .pinned, .pinned], laidTests := true, laidLooks := .later }
def ValueThingsCardSaid : Prop := Claim7.holds Tryz.pinned (.plain (OpenSpec.ofChange valueThingsSpec)) valueThingsCard

/-- THE TIED CARD OF 'gazettelaw02.ValueCompares'. -/
def valueComparesCard : Claim7 := { stood := { row := valueComparesRow, standIns := [], harness := (true, "ea0f1a17adf952e9b0d8c7833ac2d3f318593d55ed1157f2e2c27686935f0c37"), looks := true }, kinds := [], alts := [], laidByText := true, laidKinds := [.data, .data, .widerDeep, .widerDeep, .data, .data, .data, .data, .data, .data, .sentinel, .sentinel, .pinned, .pinned, .pinned, .pinned, .pinned, .pinned, .pinned, .pinned], laidTests := true, laidLooks := .later }
def ValueComparesCardSaid : Prop := Claim7.holds Tryz.pinned (.plain (OpenSpec.ofChange valueComparesSpec)) valueComparesCard

/-- THE TIED CARD OF 'gazettelaw02.ValueKinds'. -/
def valueKindsCard : Claim7 := { stood := { row := valueKindsRow, standIns := [], harness := (true, "ea0f1a17adf952e9b0d8c7833ac2d3f318593d55ed1157f2e2c27686935f0c37"), looks := true }, kinds := [], alts := [], laidByText := true, laidKinds := [.data, .data, .widerDeep, .widerDeep, .data, .data, .data, .data, .data, .data, .sentinel, .sentinel, .pinned, .pinned, .pinned, .pinned, .pinned, .pinned, .pinned, .pinned], laidTests := true, laidLooks := .later }
def ValueKindsCardSaid : Prop := Claim7.holds Tryz.pinned (.plain (OpenSpec.ofChange valueKindsSpec)) valueKindsCard

/-- THE SECOND FORM's CARD OF 'gazettelaw07.FilterTurns'. -/
def filterTurnsUptoCard : Claim7 := { stood := { row := filterTurnsUptoRow, standIns := [], harness := (true, "ea0f1a17adf952e9b0d8c7833ac2d3f318593d55ed1157f2e2c27686935f0c37"), looks := true }, kinds := [], alts := [], laidByText := true, laidKinds := [.data, .data, .data, .data, .data, .data, .pinned, .pinned, .pinned, .pinned, .pinned, .pinned, .pinned, .pinned], laidTests := true, laidLooks := .later }
def FilterTurnsUptoCardSaid : Prop := Claim7.holds Tryz.pinned (.plain (OpenSpec.upto filterTurnsSpec)) filterTurnsUptoCard

/-- THE SECOND FORM's CARD OF 'gazettelaw12.PolicyFull'. -/
def policyFullUptoCard : Claim7 := { stood := { row := policyFullUptoRow, standIns := [], harness := (true, "ea0f1a17adf952e9b0d8c7833ac2d3f318593d55ed1157f2e2c27686935f0c37"), looks := true }, kinds := [], alts := [], laidByText := true, laidKinds := [.data, .data, .data, .data, .data, .data, .pinned, .pinned, .pinned, .pinned, .pinned, .pinned, .pinned, .pinned], laidTests := true, laidLooks := .later }
def PolicyFullUptoCardSaid : Prop := Claim7.holds Tryz.pinned (.plain (OpenSpec.upto policyFullSpec)) policyFullUptoCard

/-- THE SECOND FORM's CARD OF 'gazettelaw12.PolicyRevokes'. -/
def policyRevokesUptoCard : Claim7 := { stood := { row := policyRevokesUptoRow, standIns := [], harness := (true, "ea0f1a17adf952e9b0d8c7833ac2d3f318593d55ed1157f2e2c27686935f0c37"), looks := true }, kinds := [], alts := [], laidByText := true, laidKinds := [.data, .data, .data, .data, .data, .data, .pinned, .pinned, .pinned, .pinned, .pinned, .pinned, .pinned, .pinned], laidTests := true, laidLooks := .later }
def PolicyRevokesUptoCardSaid : Prop := Claim7.holds Tryz.pinned (.plain (OpenSpec.upto policyRevokesSpec)) policyRevokesUptoCard

/-- THE SECOND FORM's CARD OF 'gazettelaw12.PolicyApart'. -/
def policyApartUptoCard : Claim7 := { stood := { row := policyApartUptoRow, standIns := [], harness := (true, "ea0f1a17adf952e9b0d8c7833ac2d3f318593d55ed1157f2e2c27686935f0c37"), looks := true }, kinds := [], alts := [], laidByText := true, laidKinds := [.data, .data, .data, .data, .data, .data, .pinned, .pinned, .pinned, .pinned, .pinned, .pinned, .pinned, .pinned], laidTests := true, laidLooks := .later }
def PolicyApartUptoCardSaid : Prop := Claim7.holds Tryz.pinned (.plain (OpenSpec.upto policyApartSpec)) policyApartUptoCard

/-- THE SECOND FORM's CARD OF 'gazettelaw07.FilterCovers'. -/
def filterCoversUptoCard : Claim7 := { stood := { row := filterCoversUptoRow, standIns := [], harness := (true, "ea0f1a17adf952e9b0d8c7833ac2d3f318593d55ed1157f2e2c27686935f0c37"), looks := true }, kinds := [], alts := [], laidByText := true, laidKinds := [.data, .data, .data, .data, .data, .data, .pinned, .pinned, .pinned, .pinned, .pinned, .pinned, .pinned, .pinned], laidTests := true, laidLooks := .later }
def FilterCoversUptoCardSaid : Prop := Claim7.holds Tryz.pinned (.plain (OpenSpec.upto filterCoversSpec)) filterCoversUptoCard

/-- THE SECOND FORM's CARD OF 'gazettelaw07.FilterNorms'. -/
def filterNormsUptoCard : Claim7 := { stood := { row := filterNormsUptoRow, standIns := [], harness := (true, "ea0f1a17adf952e9b0d8c7833ac2d3f318593d55ed1157f2e2c27686935f0c37"), looks := true }, kinds := [], alts := [], laidByText := true, laidKinds := [.data, .data, .data, .data, .data, .data, .pinned, .pinned, .pinned, .pinned, .pinned, .pinned, .pinned, .pinned], laidTests := true, laidLooks := .later }
def FilterNormsUptoCardSaid : Prop := Claim7.holds Tryz.pinned (.plain (OpenSpec.upto filterNormsSpec)) filterNormsUptoCard

/-- THE SECOND FORM's CARD OF 'gazettelaw07.FilterKeys'. -/
def filterKeysUptoCard : Claim7 := { stood := { row := filterKeysUptoRow, standIns := [], harness := (true, "ea0f1a17adf952e9b0d8c7833ac2d3f318593d55ed1157f2e2c27686935f0c37"), looks := true }, kinds := [], alts := [], laidByText := true, laidKinds := [.data, .data, .data, .data, .data, .data, .pinned, .pinned, .pinned, .pinned, .pinned, .pinned, .pinned, .pinned], laidTests := true, laidLooks := .later }
def FilterKeysUptoCardSaid : Prop := Claim7.holds Tryz.pinned (.plain (OpenSpec.upto filterKeysSpec)) filterKeysUptoCard

/-- THE SECOND FORM's CARD OF 'gazettelaw02.ValueRights'. -/
def valueRightsUptoCard : Claim7 := { stood := { row := valueRightsUptoRow, standIns := [], harness := (true, "ea0f1a17adf952e9b0d8c7833ac2d3f318593d55ed1157f2e2c27686935f0c37"), looks := true }, kinds := [], alts := [], laidByText := true, laidKinds := [.data, .data, .widerDeep, .widerDeep, .data, .data, .data, .data, .data, .data, .sentinel, .sentinel, .pinned, .pinned, .pinned, .pinned, .pinned, .pinned, .pinned, .pinned], laidTests := true, laidLooks := .later }
def ValueRightsUptoCardSaid : Prop := Claim7.holds Tryz.pinned (.plain (OpenSpec.upto valueRightsSpec)) valueRightsUptoCard

/-- THE SECOND FORM's CARD OF 'gazettelaw02.ValueOrders'. -/
def valueOrdersUptoCard : Claim7 := { stood := { row := valueOrdersUptoRow, standIns := [], harness := (true, "ea0f1a17adf952e9b0d8c7833ac2d3f318593d55ed1157f2e2c27686935f0c37"), looks := true }, kinds := [], alts := [], laidByText := true, laidKinds := [.data, .data, .widerDeep, .widerDeep, .data, .data, .data, .data, .data, .data, .sentinel, .sentinel, .pinned, .pinned, .pinned, .pinned, .pinned, .pinned, .pinned, .pinned], laidTests := true, laidLooks := .later }
def ValueOrdersUptoCardSaid : Prop := Claim7.holds Tryz.pinned (.plain (OpenSpec.upto valueOrdersSpec)) valueOrdersUptoCard

/-- THE SECOND FORM's CARD OF 'gazettelaw02.ValueThings'. -/
def valueThingsUptoCard : Claim7 := { stood := { row := valueThingsUptoRow, standIns := [], harness := (true, "ea0f1a17adf952e9b0d8c7833ac2d3f318593d55ed1157f2e2c27686935f0c37"), looks := true }, kinds := [], alts := [], laidByText := true, laidKinds := [.data, .data, .widerDeep, .widerDeep, .data, .data, .data, .data, .data, .data, .sentinel, .sentinel, .pinned, .pinned, .pinned, .pinned, .pinned, .pinned, .pinned, .pinned], laidTests := true, laidLooks := .later }
def ValueThingsUptoCardSaid : Prop := Claim7.holds Tryz.pinned (.plain (OpenSpec.upto valueThingsSpec)) valueThingsUptoCard

/-- THE SECOND FORM's CARD OF 'gazettelaw02.ValueCompares'. -/
def valueComparesUptoCard : Claim7 := { stood := { row := valueComparesUptoRow, standIns := [], harness := (true, "ea0f1a17adf952e9b0d8c7833ac2d3f318593d55ed1157f2e2c27686935f0c37"), looks := true }, kinds := [], alts := [], laidByText := true, laidKinds := [.data, .data, .widerDeep, .widerDeep, .data, .data, .data, .data, .data, .data, .sentinel, .sentinel, .pinned, .pinned, .pinned, .pinned, .pinned, .pinned, .pinned, .pinned], laidTests := true, laidLooks := .later }
def ValueComparesUptoCardSaid : Prop := Claim7.holds Tryz.pinned (.plain (OpenSpec.upto valueComparesSpec)) valueComparesUptoCard

/-- THE SECOND FORM's CARD OF 'gazettelaw02.ValueKinds'. -/
def valueKindsUptoCard : Claim7 := { stood := { row := valueKindsUptoRow, standIns := [], harness := (true, "ea0f1a17adf952e9b0d8c7833ac2d3f318593d55ed1157f2e2c27686935f0c37"), looks := true }, kinds := [], alts := [], laidByText := true, laidKinds := [.data, .data, .widerDeep, .widerDeep, .data, .data, .data, .data, .data, .data, .sentinel, .sentinel, .pinned, .pinned, .pinned, .pinned, .pinned, .pinned, .pinned, .pinned], laidTests := true, laidLooks := .later }
def ValueKindsUptoCardSaid : Prop := Claim7.holds Tryz.pinned (.plain (OpenSpec.upto valueKindsSpec)) valueKindsUptoCard
end Rows
end Go.Proofs.YtceplbanfpnhbaaGreatDoor
