/-
  DERIVED. GIVEN WITH THE SEED: THE CARDS: each row of YtpbdgbejcdncgaaGreatDoorRows.lean that lists a variable, with what it lists TIED to the program's text (the seventh form; the later family's looks); each row that meets fmt, with fmt's text TOLD by the authors' own Lean function (tested against real Go, not proved from fmt's source: count such statements apart). THE CARD IS WHAT COUNTS. Prove the row's statement (the work); the ties are given (YtpbdgbejcdncgaaGreatDoorTie.lean); close each card by the builder's one call (the guide's Derived/Test/ToyasCard.lean, 'card_holds'). Laid BY PROGRAM, IN A SANDBOX (cutbox-door.mjs). By AI agents, Wed Nov 11 2026. No macro, syntax, notation, axiom, sorry.
-/
import Derived.Test.YtpbdgbejcdncgaaGreatDoorRows
import GoSem.ClaimSeven
namespace Go.Proofs.YtpbdgbejcdncgaaGreatDoor
namespace Rows

/-- THE TIED CARD OF 'gazettelaw16.WireApart'. -/
def wireApartCard : Claim7 := { stood := { row := wireApartRow, standIns := [], harness := (true, "8b5c490a97ed9689caaf7c2bda6dda4b621cbfb8161176e7bc0b5685a2f92146"), looks := true }, kinds := [], alts := [], laidByText := true, laidKinds := [.data, .data, .data, .data, .data, .data, .pinned, .pinned, .pinned, .pinned, .pinned, .pinned, .pinned, .pinned], laidTests := true, laidLooks := .later }
def WireApartCardSaid : Prop := Claim7.holds Tryz.pinned (.plain (OpenSpec.ofChange wireApartSpec)) wireApartCard

/-- THE SECOND FORM's CARD OF 'gazettelaw16.WireApart'. -/
def wireApartUptoCard : Claim7 := { stood := { row := wireApartUptoRow, standIns := [], harness := (true, "8b5c490a97ed9689caaf7c2bda6dda4b621cbfb8161176e7bc0b5685a2f92146"), looks := true }, kinds := [], alts := [], laidByText := true, laidKinds := [.data, .data, .data, .data, .data, .data, .pinned, .pinned, .pinned, .pinned, .pinned, .pinned, .pinned, .pinned], laidTests := true, laidLooks := .later }
def WireApartUptoCardSaid : Prop := Claim7.holds Tryz.pinned (.plain (OpenSpec.upto wireApartSpec)) wireApartUptoCard
end Rows
end Go.Proofs.YtpbdgbejcdncgaaGreatDoor
