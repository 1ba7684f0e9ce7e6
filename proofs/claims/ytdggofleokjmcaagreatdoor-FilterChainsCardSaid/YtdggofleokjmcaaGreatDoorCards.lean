/-
  DERIVED. GIVEN WITH THE SEED: THE CARDS: each row of YtdggofleokjmcaaGreatDoorRows.lean that lists a variable, with what it lists TIED to the program's text (the seventh form; the later family's looks); each row that meets fmt, with fmt's text TOLD by the authors' own Lean function (tested against real Go, not proved from fmt's source: count such statements apart). THE CARD IS WHAT COUNTS. Prove the row's statement (the work); the ties are given (YtdggofleokjmcaaGreatDoorTie.lean); close each card by the builder's one call (the guide's Derived/Test/ToyasCard.lean, 'card_holds'). Laid BY PROGRAM, IN A SANDBOX (cutbox-door.mjs). By AI agents, Wed Nov 11 2026. No macro, syntax, notation, axiom, sorry.
-/
import Derived.Test.YtdggofleokjmcaaGreatDoorRows
import GoSem.ClaimSeven
namespace Go.Proofs.YtdggofleokjmcaaGreatDoor
namespace Rows

/-- THE TIED CARD OF 'gazettelaw03.EventRights'. -/
def eventRightsCard : Claim7 := { stood := { row := eventRightsRow, standIns := [], harness := (true, "9b498c01d33571bc58f55fc99c7ad28072163687976ef592af377a5053bf9244"), looks := true }, kinds := [], alts := [], laidByText := true, laidKinds := [.data, .data, .data, .data, .data, .pinned, .pinned, .pinned, .pinned, .pinned, .pinned, .pinned, .pinned], laidTests := true, laidLooks := .later }
def EventRightsCardSaid : Prop := Claim7.holds Tryz.pinned (.plain (OpenSpec.ofChange eventRightsSpec)) eventRightsCard

/-- THE TIED CARD OF 'gazettelaw03.EventMany'. -/
def eventManyCard : Claim7 := { stood := { row := eventManyRow, standIns := [], harness := (true, "9b498c01d33571bc58f55fc99c7ad28072163687976ef592af377a5053bf9244"), looks := true }, kinds := [], alts := [], laidByText := true, laidKinds := [.data, .data, .data, .data, .data, .pinned, .pinned, .pinned, .pinned, .pinned, .pinned, .pinned, .pinned], laidTests := true, laidLooks := .later }
def EventManyCardSaid : Prop := Claim7.holds Tryz.pinned (.plain (OpenSpec.ofChange eventManySpec)) eventManyCard

/-- THE TIED CARD OF 'gazettelaw03.EventScopes'. -/
def eventScopesCard : Claim7 := { stood := { row := eventScopesRow, standIns := [], harness := (true, "9b498c01d33571bc58f55fc99c7ad28072163687976ef592af377a5053bf9244"), looks := true }, kinds := [], alts := [], laidByText := true, laidKinds := [.data, .data, .data, .data, .data, .pinned, .pinned, .pinned, .pinned, .pinned, .pinned, .pinned, .pinned], laidTests := true, laidLooks := .later }
def EventScopesCardSaid : Prop := Claim7.holds Tryz.pinned (.plain (OpenSpec.ofChange eventScopesSpec)) eventScopesCard

/-- THE TIED CARD OF 'gazettelaw03.EventNews'. -/
def eventNewsCard : Claim7 := { stood := { row := eventNewsRow, standIns := [], harness := (true, "9b498c01d33571bc58f55fc99c7ad28072163687976ef592af377a5053bf9244"), looks := true }, kinds := [], alts := [], laidByText := true, laidKinds := [.data, .data, .data, .data, .data, .pinned, .pinned, .pinned, .pinned, .pinned, .pinned, .pinned, .pinned], laidTests := true, laidLooks := .later }
def EventNewsCardSaid : Prop := Claim7.holds Tryz.pinned (.plain (OpenSpec.ofChange eventNewsSpec)) eventNewsCard

/-- THE TIED CARD OF 'gazettelaw03.EventWithout'. -/
def eventWithoutCard : Claim7 := { stood := { row := eventWithoutRow, standIns := [], harness := (true, "9b498c01d33571bc58f55fc99c7ad28072163687976ef592af377a5053bf9244"), looks := true }, kinds := [], alts := [], laidByText := true, laidKinds := [.data, .data, .data, .data, .data, .pinned, .pinned, .pinned, .pinned, .pinned, .pinned, .pinned, .pinned], laidTests := true, laidLooks := .later }
def EventWithoutCardSaid : Prop := Claim7.holds Tryz.pinned (.plain (OpenSpec.ofChange eventWithoutSpec)) eventWithoutCard

/-- THE TIED CARD OF 'gazettelaw03.EventPrints'. -/
def eventPrintsCard : Claim7 := { stood := { row := eventPrintsRow, standIns := [], harness := (true, "9b498c01d33571bc58f55fc99c7ad28072163687976ef592af377a5053bf9244"), looks := true }, kinds := [], alts := [], laidByText := true, laidKinds := [.data, .data, .data, .data, .data, .pinned, .pinned, .pinned, .pinned, .pinned, .pinned, .pinned, .pinned], laidTests := true, laidLooks := .later }
def EventPrintsCardSaid : Prop := Claim7.holds Tryz.pinned (.plain (OpenSpec.ofChange eventPrintsSpec)) eventPrintsCard

/-- THE TIED CARD OF 'gazettelaw03.EventGets'. -/
def eventGetsCard : Claim7 := { stood := { row := eventGetsRow, standIns := [], harness := (true, "9b498c01d33571bc58f55fc99c7ad28072163687976ef592af377a5053bf9244"), looks := true }, kinds := [], alts := [], laidByText := true, laidKinds := [.data, .data, .data, .data, .data, .pinned, .pinned, .pinned, .pinned, .pinned, .pinned, .pinned, .pinned], laidTests := true, laidLooks := .later }
def EventGetsCardSaid : Prop := Claim7.holds Tryz.pinned (.plain (OpenSpec.ofChange eventGetsSpec)) eventGetsCard

/-- THE TIED CARD OF 'gazettelaw06.CondMatches'. -/
def condMatchesCard : Claim7 := { stood := { row := condMatchesRow, standIns := [], harness := (true, "9b498c01d33571bc58f55fc99c7ad28072163687976ef592af377a5053bf9244"), looks := true }, kinds := [], alts := [], laidByText := true, laidKinds := [.data, .data, .data, .data, .data, .data, .pinned, .pinned, .pinned, .pinned, .pinned, .pinned, .pinned, .pinned], laidTests := true, laidLooks := .later }
def CondMatchesCardSaid : Prop := Claim7.holds Tryz.pinned (.plain (OpenSpec.ofChange condMatchesSpec)) condMatchesCard

/-- THE TIED CARD OF 'gazettelaw07.FilterScopes'. -/
def filterScopesCard : Claim7 := { stood := { row := filterScopesRow, standIns := [], harness := (true, "9b498c01d33571bc58f55fc99c7ad28072163687976ef592af377a5053bf9244"), looks := true }, kinds := [], alts := [], laidByText := true, laidKinds := [.data, .data, .data, .data, .data, .data, .pinned, .pinned, .pinned, .pinned, .pinned, .pinned, .pinned, .pinned], laidTests := true, laidLooks := .later }
def FilterScopesCardSaid : Prop := Claim7.holds Tryz.pinned (.plain (OpenSpec.ofChange filterScopesSpec)) filterScopesCard

/-- THE TIED CARD OF 'gazettelaw07.FilterMatches'. -/
def filterMatchesCard : Claim7 := { stood := { row := filterMatchesRow, standIns := [], harness := (true, "9b498c01d33571bc58f55fc99c7ad28072163687976ef592af377a5053bf9244"), looks := true }, kinds := [], alts := [], laidByText := true, laidKinds := [.data, .data, .data, .data, .data, .data, .pinned, .pinned, .pinned, .pinned, .pinned, .pinned, .pinned, .pinned], laidTests := true, laidLooks := .later }
def FilterMatchesCardSaid : Prop := Claim7.holds Tryz.pinned (.plain (OpenSpec.ofChange filterMatchesSpec)) filterMatchesCard

/-- THE TIED CARD OF 'gazettelaw07.FilterChains'. -/
def filterChainsCard : Claim7 := { stood := { row := filterChainsRow, standIns := [], harness := (true, "9b498c01d33571bc58f55fc99c7ad28072163687976ef592af377a5053bf9244"), looks := true }, kinds := [], alts := [], laidByText := true, laidKinds := [.data, .data, .data, .data, .data, .data, .pinned, .pinned, .pinned, .pinned, .pinned, .pinned, .pinned, .pinned], laidTests := true, laidLooks := .later }
def FilterChainsCardSaid : Prop := Claim7.holds Tryz.pinned (.plain (OpenSpec.ofChange filterChainsSpec)) filterChainsCard

/-- THE TIED CARD OF 'gazettelaw07.FilterHides'. -/
def filterHidesCard : Claim7 := { stood := { row := filterHidesRow, standIns := [], harness := (true, "9b498c01d33571bc58f55fc99c7ad28072163687976ef592af377a5053bf9244"), looks := true }, kinds := [], alts := [], laidByText := true, laidKinds := [.data, .data, .data, .data, .data, .data, .pinned, .pinned, .pinned, .pinned, .pinned, .pinned, .pinned, .pinned], laidTests := true, laidLooks := .later }
def FilterHidesCardSaid : Prop := Claim7.holds Tryz.pinned (.plain (OpenSpec.ofChange filterHidesSpec)) filterHidesCard

/-- THE SECOND FORM's CARD OF 'gazettelaw03.EventRights'. -/
def eventRightsUptoCard : Claim7 := { stood := { row := eventRightsUptoRow, standIns := [], harness := (true, "9b498c01d33571bc58f55fc99c7ad28072163687976ef592af377a5053bf9244"), looks := true }, kinds := [], alts := [], laidByText := true, laidKinds := [.data, .data, .data, .data, .data, .pinned, .pinned, .pinned, .pinned, .pinned, .pinned, .pinned, .pinned], laidTests := true, laidLooks := .later }
def EventRightsUptoCardSaid : Prop := Claim7.holds Tryz.pinned (.plain (OpenSpec.upto eventRightsSpec)) eventRightsUptoCard

/-- THE SECOND FORM's CARD OF 'gazettelaw03.EventMany'. -/
def eventManyUptoCard : Claim7 := { stood := { row := eventManyUptoRow, standIns := [], harness := (true, "9b498c01d33571bc58f55fc99c7ad28072163687976ef592af377a5053bf9244"), looks := true }, kinds := [], alts := [], laidByText := true, laidKinds := [.data, .data, .data, .data, .data, .pinned, .pinned, .pinned, .pinned, .pinned, .pinned, .pinned, .pinned], laidTests := true, laidLooks := .later }
def EventManyUptoCardSaid : Prop := Claim7.holds Tryz.pinned (.plain (OpenSpec.upto eventManySpec)) eventManyUptoCard

/-- THE SECOND FORM's CARD OF 'gazettelaw03.EventScopes'. -/
def eventScopesUptoCard : Claim7 := { stood := { row := eventScopesUptoRow, standIns := [], harness := (true, "9b498c01d33571bc58f55fc99c7ad28072163687976ef592af377a5053bf9244"), looks := true }, kinds := [], alts := [], laidByText := true, laidKinds := [.data, .data, .data, .data, .data, .pinned, .pinned, .pinned, .pinned, .pinned, .pinned, .pinned, .pinned], laidTests := true, laidLooks := .later }
def EventScopesUptoCardSaid : Prop := Claim7.holds Tryz.pinned (.plain (OpenSpec.upto eventScopesSpec)) eventScopesUptoCard

/-- THE SECOND FORM's CARD OF 'gazettelaw03.EventNews'. -/
def eventNewsUptoCard : Claim7 := { stood := { row := eventNewsUptoRow, standIns := [], harness := (true, "9b498c01d33571bc58f55fc99c7ad28072163687976ef592af377a5053bf9244"), looks := true }, kinds := [], alts := [], laidByText := true, laidKinds := [.data, .data, .data, .data, .data, .pinned, .pinned, .pinned, .pinned, .pinned, .pinned, .pinned, .pinned], laidTests := true, laidLooks := .later }
def EventNewsUptoCardSaid : Prop := Claim7.holds Tryz.pinned (.plain (OpenSpec.upto eventNewsSpec)) eventNewsUptoCard

/-- THE SECOND FORM's CARD OF 'gazettelaw03.EventWithout'. -/
def eventWithoutUptoCard : Claim7 := { stood := { row := eventWithoutUptoRow, standIns := [], harness := (true, "9b498c01d33571bc58f55fc99c7ad28072163687976ef592af377a5053bf9244"), looks := true }, kinds := [], alts := [], laidByText := true, laidKinds := [.data, .data, .data, .data, .data, .pinned, .pinned, .pinned, .pinned, .pinned, .pinned, .pinned, .pinned], laidTests := true, laidLooks := .later }
def EventWithoutUptoCardSaid : Prop := Claim7.holds Tryz.pinned (.plain (OpenSpec.upto eventWithoutSpec)) eventWithoutUptoCard

/-- THE SECOND FORM's CARD OF 'gazettelaw03.EventPrints'. -/
def eventPrintsUptoCard : Claim7 := { stood := { row := eventPrintsUptoRow, standIns := [], harness := (true, "9b498c01d33571bc58f55fc99c7ad28072163687976ef592af377a5053bf9244"), looks := true }, kinds := [], alts := [], laidByText := true, laidKinds := [.data, .data, .data, .data, .data, .pinned, .pinned, .pinned, .pinned, .pinned, .pinned, .pinned, .pinned], laidTests := true, laidLooks := .later }
def EventPrintsUptoCardSaid : Prop := Claim7.holds Tryz.pinned (.plain (OpenSpec.upto eventPrintsSpec)) eventPrintsUptoCard

/-- THE SECOND FORM's CARD OF 'gazettelaw03.EventGets'. -/
def eventGetsUptoCard : Claim7 := { stood := { row := eventGetsUptoRow, standIns := [], harness := (true, "9b498c01d33571bc58f55fc99c7ad28072163687976ef592af377a5053bf9244"), looks := true }, kinds := [], alts := [], laidByText := true, laidKinds := [.data, .data, .data, .data, .data, .pinned, .pinned, .pinned, .pinned, .pinned, .pinned, .pinned, .pinned], laidTests := true, laidLooks := .later }
def EventGetsUptoCardSaid : Prop := Claim7.holds Tryz.pinned (.plain (OpenSpec.upto eventGetsSpec)) eventGetsUptoCard

/-- THE SECOND FORM's CARD OF 'gazettelaw06.CondMatches'. -/
def condMatchesUptoCard : Claim7 := { stood := { row := condMatchesUptoRow, standIns := [], harness := (true, "9b498c01d33571bc58f55fc99c7ad28072163687976ef592af377a5053bf9244"), looks := true }, kinds := [], alts := [], laidByText := true, laidKinds := [.data, .data, .data, .data, .data, .data, .pinned, .pinned, .pinned, .pinned, .pinned, .pinned, .pinned, .pinned], laidTests := true, laidLooks := .later }
def CondMatchesUptoCardSaid : Prop := Claim7.holds Tryz.pinned (.plain (OpenSpec.upto condMatchesSpec)) condMatchesUptoCard

/-- THE SECOND FORM's CARD OF 'gazettelaw07.FilterScopes'. -/
def filterScopesUptoCard : Claim7 := { stood := { row := filterScopesUptoRow, standIns := [], harness := (true, "9b498c01d33571bc58f55fc99c7ad28072163687976ef592af377a5053bf9244"), looks := true }, kinds := [], alts := [], laidByText := true, laidKinds := [.data, .data, .data, .data, .data, .data, .pinned, .pinned, .pinned, .pinned, .pinned, .pinned, .pinned, .pinned], laidTests := true, laidLooks := .later }
def FilterScopesUptoCardSaid : Prop := Claim7.holds Tryz.pinned (.plain (OpenSpec.upto filterScopesSpec)) filterScopesUptoCard

/-- THE SECOND FORM's CARD OF 'gazettelaw07.FilterMatches'. -/
def filterMatchesUptoCard : Claim7 := { stood := { row := filterMatchesUptoRow, standIns := [], harness := (true, "9b498c01d33571bc58f55fc99c7ad28072163687976ef592af377a5053bf9244"), looks := true }, kinds := [], alts := [], laidByText := true, laidKinds := [.data, .data, .data, .data, .data, .data, .pinned, .pinned, .pinned, .pinned, .pinned, .pinned, .pinned, .pinned], laidTests := true, laidLooks := .later }
def FilterMatchesUptoCardSaid : Prop := Claim7.holds Tryz.pinned (.plain (OpenSpec.upto filterMatchesSpec)) filterMatchesUptoCard

/-- THE SECOND FORM's CARD OF 'gazettelaw07.FilterChains'. -/
def filterChainsUptoCard : Claim7 := { stood := { row := filterChainsUptoRow, standIns := [], harness := (true, "9b498c01d33571bc58f55fc99c7ad28072163687976ef592af377a5053bf9244"), looks := true }, kinds := [], alts := [], laidByText := true, laidKinds := [.data, .data, .data, .data, .data, .data, .pinned, .pinned, .pinned, .pinned, .pinned, .pinned, .pinned, .pinned], laidTests := true, laidLooks := .later }
def FilterChainsUptoCardSaid : Prop := Claim7.holds Tryz.pinned (.plain (OpenSpec.upto filterChainsSpec)) filterChainsUptoCard

/-- THE SECOND FORM's CARD OF 'gazettelaw07.FilterHides'. -/
def filterHidesUptoCard : Claim7 := { stood := { row := filterHidesUptoRow, standIns := [], harness := (true, "9b498c01d33571bc58f55fc99c7ad28072163687976ef592af377a5053bf9244"), looks := true }, kinds := [], alts := [], laidByText := true, laidKinds := [.data, .data, .data, .data, .data, .data, .pinned, .pinned, .pinned, .pinned, .pinned, .pinned, .pinned, .pinned], laidTests := true, laidLooks := .later }
def FilterHidesUptoCardSaid : Prop := Claim7.holds Tryz.pinned (.plain (OpenSpec.upto filterHidesSpec)) filterHidesUptoCard
end Rows
end Go.Proofs.YtdggofleokjmcaaGreatDoor
