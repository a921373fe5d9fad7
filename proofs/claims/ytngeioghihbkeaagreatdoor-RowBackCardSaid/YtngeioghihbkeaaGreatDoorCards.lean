/-
  DERIVED. GIVEN WITH THE SEED: THE CARDS: each row of YtngeioghihbkeaaGreatDoorRows.lean that lists a variable, with what it lists TIED to the program's text (the seventh form; the later family's looks); each row that meets fmt, with fmt's text TOLD by the authors' own Lean function (tested against real Go, not proved from fmt's source: count such statements apart). THE CARD IS WHAT COUNTS. Prove the row's statement (the work); the ties are given (YtngeioghihbkeaaGreatDoorTie.lean); close each card by the builder's one call (the guide's Derived/Test/ToyasCard.lean, 'card_holds'). Laid BY PROGRAM, IN A SANDBOX (cutbox-door.mjs). By AI agents, Wed Nov 11 2026. No macro, syntax, notation, axiom, sorry.
-/
import Derived.Test.YtngeioghihbkeaaGreatDoorRows
import GoSem.ClaimSeven
namespace Go.Proofs.YtngeioghihbkeaaGreatDoor
namespace Rows

/-- THE TIED CARD OF 'penstocklaw02.RowParses'. -/
def rowParsesCard : Claim7 := { stood := { row := rowParsesRow, standIns := [], harness := (true, "5e04545fa7164db35f2e99e7d91bb20997eeaa688ae120ba0c0fa5c3399b93ae"), looks := true }, kinds := [], alts := [], laidByText := true, laidKinds := [.data, .data, .data, .data, .sentinel, .sentinel, .pinned], laidTests := true, laidLooks := .later }
def RowParsesCardSaid : Prop := Claim7.holds Tryz.pinned (.plain (OpenSpec.ofChange rowParsesSpec)) rowParsesCard

/-- THE TIED CARD OF 'penstocklaw02.RowBack'. -/
def rowBackCard : Claim7 := { stood := { row := rowBackRow, standIns := [], harness := (true, "5e04545fa7164db35f2e99e7d91bb20997eeaa688ae120ba0c0fa5c3399b93ae"), looks := true }, kinds := [], alts := [], laidByText := true, laidKinds := [.data, .data, .data, .data, .sentinel, .sentinel, .pinned], laidTests := true, laidLooks := .later }
def RowBackCardSaid : Prop := Claim7.holds Tryz.pinned (.plain (OpenSpec.ofChange rowBackSpec)) rowBackCard

/-- THE SECOND FORM's CARD OF 'penstocklaw02.RowParses'. -/
def rowParsesUptoCard : Claim7 := { stood := { row := rowParsesUptoRow, standIns := [], harness := (true, "5e04545fa7164db35f2e99e7d91bb20997eeaa688ae120ba0c0fa5c3399b93ae"), looks := true }, kinds := [], alts := [], laidByText := true, laidKinds := [.data, .data, .data, .data, .sentinel, .sentinel, .pinned], laidTests := true, laidLooks := .later }
def RowParsesUptoCardSaid : Prop := Claim7.holds Tryz.pinned (.plain (OpenSpec.upto rowParsesSpec)) rowParsesUptoCard

/-- THE SECOND FORM's CARD OF 'penstocklaw02.RowBack'. -/
def rowBackUptoCard : Claim7 := { stood := { row := rowBackUptoRow, standIns := [], harness := (true, "5e04545fa7164db35f2e99e7d91bb20997eeaa688ae120ba0c0fa5c3399b93ae"), looks := true }, kinds := [], alts := [], laidByText := true, laidKinds := [.data, .data, .data, .data, .sentinel, .sentinel, .pinned], laidTests := true, laidLooks := .later }
def RowBackUptoCardSaid : Prop := Claim7.holds Tryz.pinned (.plain (OpenSpec.upto rowBackSpec)) rowBackUptoCard
end Rows
end Go.Proofs.YtngeioghihbkeaaGreatDoor
