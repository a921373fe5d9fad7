/-
  DERIVED. GIVEN WITH THE SEED: THE CARDS: each row of YtilbfmfioopiiaaDoorRows.lean that lists a variable, with what it lists TIED to the program's text (the seventh form; the later family's looks); each row that meets fmt, with fmt's text TOLD by the authors' own Lean function (tested against real Go, not proved from fmt's source: count such statements apart). THE CARD IS WHAT COUNTS. Prove the row's statement (the work); the ties are given (YtilbfmfioopiiaaDoorTie.lean); close each card by the builder's one call (the guide's Derived/Test/ToyasCard.lean, 'card_holds'). Laid BY PROGRAM, IN A SANDBOX (cutbox-door.mjs). By AI agents, Wed Nov 11 2026. No macro, syntax, notation, axiom, sorry.
-/
import Derived.Test.YtilbfmfioopiiaaDoorRows
import GoSem.ClaimSeven
namespace Go.Proofs.YtilbfmfioopiiaaDoor
namespace Rows

/-- THE TIED CARD OF 'penstocklaw04.StampWays'. -/
def stampWaysCard : Claim7 := { stood := { row := stampWaysRow, standIns := [], harness := (true, "1e57a4f720b8fb8680ab9608e0759bfade19ae081df6a0686ea0502c424dfcc1"), looks := false }, kinds := [], alts := [], laidByText := true, laidKinds := [.data, .data, .data], laidTests := true, laidLooks := .later }
def StampWaysCardSaid : Prop := Claim7.holds Tryd.pinned (.plain (OpenSpec.ofChange stampWaysSpec)) stampWaysCard

/-- THE TIED CARD OF 'penstocklaw04.StampTells'. -/
def stampTellsCard : Claim7 := { stood := { row := stampTellsRow, standIns := [], harness := (true, "1e57a4f720b8fb8680ab9608e0759bfade19ae081df6a0686ea0502c424dfcc1"), looks := false }, kinds := [], alts := [], laidByText := true, laidKinds := [.data, .data, .data], laidTests := true, laidLooks := .later }
def StampTellsCardSaid : Prop := Claim7.holds Tryd.pinned (.plain (OpenSpec.ofChange stampTellsSpec)) stampTellsCard

/-- THE SECOND FORM's CARD OF 'penstocklaw04.StampWays'. -/
def stampWaysUptoCard : Claim7 := { stood := { row := stampWaysUptoRow, standIns := [], harness := (true, "1e57a4f720b8fb8680ab9608e0759bfade19ae081df6a0686ea0502c424dfcc1"), looks := false }, kinds := [], alts := [], laidByText := true, laidKinds := [.data, .data, .data], laidTests := true, laidLooks := .later }
def StampWaysUptoCardSaid : Prop := Claim7.holds Tryd.pinned (.plain (OpenSpec.upto stampWaysSpec)) stampWaysUptoCard

/-- THE SECOND FORM's CARD OF 'penstocklaw04.StampTells'. -/
def stampTellsUptoCard : Claim7 := { stood := { row := stampTellsUptoRow, standIns := [], harness := (true, "1e57a4f720b8fb8680ab9608e0759bfade19ae081df6a0686ea0502c424dfcc1"), looks := false }, kinds := [], alts := [], laidByText := true, laidKinds := [.data, .data, .data], laidTests := true, laidLooks := .later }
def StampTellsUptoCardSaid : Prop := Claim7.holds Tryd.pinned (.plain (OpenSpec.upto stampTellsSpec)) stampTellsUptoCard
end Rows
end Go.Proofs.YtilbfmfioopiiaaDoor
