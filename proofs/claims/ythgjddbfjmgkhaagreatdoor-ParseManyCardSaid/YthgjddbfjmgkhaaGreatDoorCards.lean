/-
  DERIVED. GIVEN WITH THE SEED: THE CARDS: each row of YthgjddbfjmgkhaaGreatDoorRows.lean that lists a variable, with what it lists TIED to the program's text (the seventh form; the later family's looks); each row that meets fmt, with fmt's text TOLD by the authors' own Lean function (tested against real Go, not proved from fmt's source: count such statements apart). THE CARD IS WHAT COUNTS. Prove the row's statement (the work); the ties are given (YthgjddbfjmgkhaaGreatDoorTie.lean); close each card by the builder's one call (the guide's Derived/Test/ToyasCard.lean, 'card_holds'). Laid BY PROGRAM, IN A SANDBOX (cutbox-door.mjs). By AI agents, Wed Nov 11 2026. No macro, syntax, notation, axiom, sorry.
-/
import Derived.Test.YthgjddbfjmgkhaaGreatDoorRows
import GoSem.ClaimSeven
namespace Go.Proofs.YthgjddbfjmgkhaaGreatDoor
namespace Rows

/-- THE TIED CARD OF 'gazettelaw08.ParseMany'. -/
def parseManyCard : Claim7 := { stood := { row := parseManyRow, standIns := [], harness := (true, "8b476ff2e4e36c85b88e219719db293d58834cba734e0e1380c2e06e2c39961f"), looks := true }, kinds := [], alts := [], laidByText := true, laidKinds := [.data, .data, .widerDeep, .widerDeep, .data, .data, .data, .data, .data, .data, .sentinel, .sentinel, .data, .pinned, .pinned, .pinned, .pinned, .pinned, .pinned, .pinned, .pinned], laidTests := true, laidLooks := .later }
def ParseManyCardSaid : Prop := Claim7.holds Tryz.pinned (.plain (OpenSpec.ofChange parseManySpec)) parseManyCard

/-- THE TIED CARD OF 'gazettelaw08.ParseScopes'. -/
def parseScopesCard : Claim7 := { stood := { row := parseScopesRow, standIns := [], harness := (true, "8b476ff2e4e36c85b88e219719db293d58834cba734e0e1380c2e06e2c39961f"), looks := true }, kinds := [], alts := [], laidByText := true, laidKinds := [.data, .data, .widerDeep, .widerDeep, .data, .data, .data, .data, .data, .data, .sentinel, .sentinel, .data, .pinned, .pinned, .pinned, .pinned, .pinned, .pinned, .pinned, .pinned], laidTests := true, laidLooks := .later }
def ParseScopesCardSaid : Prop := Claim7.holds Tryz.pinned (.plain (OpenSpec.ofChange parseScopesSpec)) parseScopesCard

/-- THE SECOND FORM's CARD OF 'gazettelaw08.ParseMany'. -/
def parseManyUptoCard : Claim7 := { stood := { row := parseManyUptoRow, standIns := [], harness := (true, "8b476ff2e4e36c85b88e219719db293d58834cba734e0e1380c2e06e2c39961f"), looks := true }, kinds := [], alts := [], laidByText := true, laidKinds := [.data, .data, .widerDeep, .widerDeep, .data, .data, .data, .data, .data, .data, .sentinel, .sentinel, .data, .pinned, .pinned, .pinned, .pinned, .pinned, .pinned, .pinned, .pinned], laidTests := true, laidLooks := .later }
def ParseManyUptoCardSaid : Prop := Claim7.holds Tryz.pinned (.plain (OpenSpec.upto parseManySpec)) parseManyUptoCard

/-- THE SECOND FORM's CARD OF 'gazettelaw08.ParseScopes'. -/
def parseScopesUptoCard : Claim7 := { stood := { row := parseScopesUptoRow, standIns := [], harness := (true, "8b476ff2e4e36c85b88e219719db293d58834cba734e0e1380c2e06e2c39961f"), looks := true }, kinds := [], alts := [], laidByText := true, laidKinds := [.data, .data, .widerDeep, .widerDeep, .data, .data, .data, .data, .data, .data, .sentinel, .sentinel, .data, .pinned, .pinned, .pinned, .pinned, .pinned, .pinned, .pinned, .pinned], laidTests := true, laidLooks := .later }
def ParseScopesUptoCardSaid : Prop := Claim7.holds Tryz.pinned (.plain (OpenSpec.upto parseScopesSpec)) parseScopesUptoCard
end Rows
end Go.Proofs.YthgjddbfjmgkhaaGreatDoor
