/-
  DERIVED. GIVEN WITH THE SEED: THE CARDS: each row of YtmdakaflmheidaaDoorRows.lean that lists a variable, with what it lists TIED to the program's text (the seventh form; the later family's looks); each row that meets fmt, with fmt's text TOLD by the authors' own Lean function (tested against real Go, not proved from fmt's source: count such statements apart). THE CARD IS WHAT COUNTS. Prove the row's statement (the work); the ties are given (YtmdakaflmheidaaDoorTie.lean); close each card by the builder's one call (the guide's Derived/Test/ToyasCard.lean, 'card_holds'). Laid BY PROGRAM, IN A SANDBOX (cutbox-door.mjs). By AI agents, Wed Nov 11 2026. No macro, syntax, notation, axiom, sorry.
-/
import Derived.Test.YtmdakaflmheidaaDoorRows
import GoSem.ClaimSeven
namespace Go.Proofs.YtmdakaflmheidaaDoor
namespace Rows

/-- THE TIED CARD OF 'penstocklaw05.ChainBeyond'. -/
def chainBeyondCard : Claim7 := { stood := { row := chainBeyondRow, standIns := [], harness := (true, "5ea3800c9a51d6eab10f7ea591edfb95edff71529ea62a99c487deecc4f5c9a2"), looks := false }, kinds := [], alts := [], laidByText := true, laidKinds := [.data, .data, .data], laidTests := true, laidLooks := .later }
def ChainBeyondCardSaid : Prop := Claim7.holds Tryd.pinned (.plain (OpenSpec.ofChange chainBeyondSpec)) chainBeyondCard

/-- THE TIED CARD OF 'penstocklaw05.ChainJoins'. -/
def chainJoinsCard : Claim7 := { stood := { row := chainJoinsRow, standIns := [], harness := (true, "5ea3800c9a51d6eab10f7ea591edfb95edff71529ea62a99c487deecc4f5c9a2"), looks := false }, kinds := [], alts := [], laidByText := true, laidKinds := [.data, .data, .data], laidTests := true, laidLooks := .later }
def ChainJoinsCardSaid : Prop := Claim7.holds Tryd.pinned (.plain (OpenSpec.ofChange chainJoinsSpec)) chainJoinsCard

/-- THE SECOND FORM's CARD OF 'penstocklaw05.ChainBeyond'. -/
def chainBeyondUptoCard : Claim7 := { stood := { row := chainBeyondUptoRow, standIns := [], harness := (true, "5ea3800c9a51d6eab10f7ea591edfb95edff71529ea62a99c487deecc4f5c9a2"), looks := false }, kinds := [], alts := [], laidByText := true, laidKinds := [.data, .data, .data], laidTests := true, laidLooks := .later }
def ChainBeyondUptoCardSaid : Prop := Claim7.holds Tryd.pinned (.plain (OpenSpec.upto chainBeyondSpec)) chainBeyondUptoCard

/-- THE SECOND FORM's CARD OF 'penstocklaw05.ChainJoins'. -/
def chainJoinsUptoCard : Claim7 := { stood := { row := chainJoinsUptoRow, standIns := [], harness := (true, "5ea3800c9a51d6eab10f7ea591edfb95edff71529ea62a99c487deecc4f5c9a2"), looks := false }, kinds := [], alts := [], laidByText := true, laidKinds := [.data, .data, .data], laidTests := true, laidLooks := .later }
def ChainJoinsUptoCardSaid : Prop := Claim7.holds Tryd.pinned (.plain (OpenSpec.upto chainJoinsSpec)) chainJoinsUptoCard
end Rows
end Go.Proofs.YtmdakaflmheidaaDoor
