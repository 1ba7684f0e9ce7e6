/-
  DERIVED. GIVEN WITH THE SEED: THE CARDS: each row of YtjddkbgnndefaaaDoorRows.lean that lists a variable, with what it lists TIED to the program's text (the seventh form; the later family's looks); each row that meets fmt, with fmt's text TOLD by the authors' own Lean function (tested against real Go, not proved from fmt's source: count such statements apart). THE CARD IS WHAT COUNTS. Prove the row's statement (the work); the ties are given (YtjddkbgnndefaaaDoorTie.lean); close each card by the builder's one call (the guide's Derived/Test/ToyasCard.lean, 'card_holds'). Laid BY PROGRAM, IN A SANDBOX (cutbox-door.mjs). By AI agents, Wed Nov 11 2026. No macro, syntax, notation, axiom, sorry.
-/
import Derived.Test.YtjddkbgnndefaaaDoorRows
import GoSem.ClaimSeven
namespace Go.Proofs.YtjddkbgnndefaaaDoor
namespace Rows

/-- THE TIED CARD OF 'gazettelaw06.CondSides'. -/
def condSidesCard : Claim7 := { stood := { row := condSidesRow, standIns := [], harness := (true, "eb40e3be2bb88f29c9556fc0afb75aae9bcdf530c7602541354f24392949eb95"), looks := false }, kinds := [], alts := [], laidByText := true, laidKinds := [.data, .data, .data, .data, .data, .data, .pinned, .pinned, .pinned, .pinned, .pinned, .pinned, .pinned, .pinned], laidTests := true, laidLooks := .later }
def CondSidesCardSaid : Prop := Claim7.holds Tryd.pinned (.plain (OpenSpec.ofChange condSidesSpec)) condSidesCard

/-- THE SECOND FORM's CARD OF 'gazettelaw06.CondSides'. -/
def condSidesUptoCard : Claim7 := { stood := { row := condSidesUptoRow, standIns := [], harness := (true, "eb40e3be2bb88f29c9556fc0afb75aae9bcdf530c7602541354f24392949eb95"), looks := false }, kinds := [], alts := [], laidByText := true, laidKinds := [.data, .data, .data, .data, .data, .data, .pinned, .pinned, .pinned, .pinned, .pinned, .pinned, .pinned, .pinned], laidTests := true, laidLooks := .later }
def CondSidesUptoCardSaid : Prop := Claim7.holds Tryd.pinned (.plain (OpenSpec.upto condSidesSpec)) condSidesUptoCard
end Rows
end Go.Proofs.YtjddkbgnndefaaaDoor
