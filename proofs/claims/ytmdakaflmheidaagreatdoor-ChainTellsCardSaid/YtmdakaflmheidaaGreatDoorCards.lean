/-
  DERIVED. GIVEN WITH THE SEED: THE CARDS: each row of YtmdakaflmheidaaGreatDoorRows.lean that lists a variable, with what it lists TIED to the program's text (the seventh form; the later family's looks); each row that meets fmt, with fmt's text TOLD by the authors' own Lean function (tested against real Go, not proved from fmt's source: count such statements apart). THE CARD IS WHAT COUNTS. Prove the row's statement (the work); the ties are given (YtmdakaflmheidaaGreatDoorTie.lean); close each card by the builder's one call (the guide's Derived/Test/ToyasCard.lean, 'card_holds'). Laid BY PROGRAM, IN A SANDBOX (cutbox-door.mjs). By AI agents, Wed Nov 11 2026. No macro, syntax, notation, axiom, sorry.
-/
import Derived.Test.YtmdakaflmheidaaGreatDoorRows
import GoSem.ClaimSeven
namespace Go.Proofs.YtmdakaflmheidaaGreatDoor
namespace Rows

/-- THE TIED CARD OF 'penstocklaw05.ChainCounts'. -/
def chainCountsCard : Claim7 := { stood := { row := chainCountsRow, standIns := [], harness := (true, "95720037743077ea6434935e720ea06dd719d7445f16b0cd665176c5f2783e9c"), looks := false }, kinds := [], alts := [], laidByText := true, laidKinds := [.data, .data, .data], laidTests := true, laidLooks := .later }
def ChainCountsCardSaid : Prop := Claim7.holds Tryz.pinned (.plain (OpenSpec.ofChange chainCountsSpec)) chainCountsCard

/-- THE TIED CARD OF 'penstocklaw05.ChainTells'. -/
def chainTellsCard : Claim7 := { stood := { row := chainTellsRow, standIns := [], harness := (true, "95720037743077ea6434935e720ea06dd719d7445f16b0cd665176c5f2783e9c"), looks := false }, kinds := [], alts := [], laidByText := true, laidKinds := [.data, .data, .data], laidTests := true, laidLooks := .later }
def ChainTellsCardSaid : Prop := Claim7.holds Tryz.pinned (.plain (OpenSpec.ofChange chainTellsSpec)) chainTellsCard

/-- THE SECOND FORM's CARD OF 'penstocklaw05.ChainCounts'. -/
def chainCountsUptoCard : Claim7 := { stood := { row := chainCountsUptoRow, standIns := [], harness := (true, "95720037743077ea6434935e720ea06dd719d7445f16b0cd665176c5f2783e9c"), looks := false }, kinds := [], alts := [], laidByText := true, laidKinds := [.data, .data, .data], laidTests := true, laidLooks := .later }
def ChainCountsUptoCardSaid : Prop := Claim7.holds Tryz.pinned (.plain (OpenSpec.upto chainCountsSpec)) chainCountsUptoCard

/-- THE SECOND FORM's CARD OF 'penstocklaw05.ChainTells'. -/
def chainTellsUptoCard : Claim7 := { stood := { row := chainTellsUptoRow, standIns := [], harness := (true, "95720037743077ea6434935e720ea06dd719d7445f16b0cd665176c5f2783e9c"), looks := false }, kinds := [], alts := [], laidByText := true, laidKinds := [.data, .data, .data], laidTests := true, laidLooks := .later }
def ChainTellsUptoCardSaid : Prop := Claim7.holds Tryz.pinned (.plain (OpenSpec.upto chainTellsSpec)) chainTellsUptoCard
end Rows
end Go.Proofs.YtmdakaflmheidaaGreatDoor
