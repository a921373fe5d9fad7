/-
  DERIVED. GIVEN WITH THE SEED: THE CARDS: each row of YtajnlihlannmeaaDoorRows.lean that lists a variable, with what it lists TIED to the program's text (the seventh form; the later family's looks); each row that meets fmt, with fmt's text TOLD by the authors' own Lean function (tested against real Go, not proved from fmt's source: count such statements apart). THE CARD IS WHAT COUNTS. Prove the row's statement (the work); the ties are given (YtajnlihlannmeaaDoorTie.lean); close each card by the builder's one call (the guide's Derived/Test/ToyasCard.lean, 'card_holds'). Laid BY PROGRAM, IN A SANDBOX (cutbox-door.mjs). By AI agents, Wed Nov 11 2026. No macro, syntax, notation, axiom, sorry.
-/
import Derived.Test.YtajnlihlannmeaaDoorRows
import GoSem.ClaimSeven
namespace Go.Proofs.YtajnlihlannmeaaDoor
namespace Rows

/-- THE TIED CARD OF 'penstocklaw04.StampWays'. -/
def stampWaysCard : Claim7 := { stood := { row := stampWaysRow, standIns := [], harness := (true, "834b043a94a8230598ad7afec329408ca3288c0468164bcbebafb91712974612"), looks := false }, kinds := [], alts := [], laidByText := true, laidKinds := [.data, .data, .data], laidTests := true, laidLooks := .later }
def StampWaysCardSaid : Prop := Claim7.holds Tryd.pinned (.plain (OpenSpec.ofChange stampWaysSpec)) stampWaysCard

/-- THE TIED CARD OF 'penstocklaw04.StampPart'. -/
def stampPartCard : Claim7 := { stood := { row := stampPartRow, standIns := [], harness := (true, "834b043a94a8230598ad7afec329408ca3288c0468164bcbebafb91712974612"), looks := false }, kinds := [], alts := [], laidByText := true, laidKinds := [.data, .data, .data], laidTests := true, laidLooks := .later }
def StampPartCardSaid : Prop := Claim7.holds Tryd.pinned (.plain (OpenSpec.ofChange stampPartSpec)) stampPartCard

/-- THE TIED CARD OF 'penstocklaw04.StampGoes'. -/
def stampGoesCard : Claim7 := { stood := { row := stampGoesRow, standIns := [], harness := (true, "834b043a94a8230598ad7afec329408ca3288c0468164bcbebafb91712974612"), looks := false }, kinds := [], alts := [], laidByText := true, laidKinds := [.data, .data, .data], laidTests := true, laidLooks := .later }
def StampGoesCardSaid : Prop := Claim7.holds Tryd.pinned (.plain (OpenSpec.ofChange stampGoesSpec)) stampGoesCard

/-- THE TIED CARD OF 'penstocklaw04.StampOrder'. -/
def stampOrderCard : Claim7 := { stood := { row := stampOrderRow, standIns := [], harness := (true, "834b043a94a8230598ad7afec329408ca3288c0468164bcbebafb91712974612"), looks := false }, kinds := [], alts := [], laidByText := true, laidKinds := [.data, .data, .data], laidTests := true, laidLooks := .later }
def StampOrderCardSaid : Prop := Claim7.holds Tryd.pinned (.plain (OpenSpec.ofChange stampOrderSpec)) stampOrderCard

/-- THE TIED CARD OF 'penstocklaw04.StampTells'. -/
def stampTellsCard : Claim7 := { stood := { row := stampTellsRow, standIns := [], harness := (true, "834b043a94a8230598ad7afec329408ca3288c0468164bcbebafb91712974612"), looks := false }, kinds := [], alts := [], laidByText := true, laidKinds := [.data, .data, .data], laidTests := true, laidLooks := .later }
def StampTellsCardSaid : Prop := Claim7.holds Tryd.pinned (.plain (OpenSpec.ofChange stampTellsSpec)) stampTellsCard

/-- THE TIED CARD OF 'penstocklaw05.ChainBeyond'. -/
def chainBeyondCard : Claim7 := { stood := { row := chainBeyondRow, standIns := [], harness := (true, "834b043a94a8230598ad7afec329408ca3288c0468164bcbebafb91712974612"), looks := false }, kinds := [], alts := [], laidByText := true, laidKinds := [.data, .data, .data], laidTests := true, laidLooks := .later }
def ChainBeyondCardSaid : Prop := Claim7.holds Tryd.pinned (.plain (OpenSpec.ofChange chainBeyondSpec)) chainBeyondCard

/-- THE TIED CARD OF 'penstocklaw05.ChainJoins'. -/
def chainJoinsCard : Claim7 := { stood := { row := chainJoinsRow, standIns := [], harness := (true, "834b043a94a8230598ad7afec329408ca3288c0468164bcbebafb91712974612"), looks := false }, kinds := [], alts := [], laidByText := true, laidKinds := [.data, .data, .data], laidTests := true, laidLooks := .later }
def ChainJoinsCardSaid : Prop := Claim7.holds Tryd.pinned (.plain (OpenSpec.ofChange chainJoinsSpec)) chainJoinsCard

/-- THE SECOND FORM's CARD OF 'penstocklaw04.StampWays'. -/
def stampWaysUptoCard : Claim7 := { stood := { row := stampWaysUptoRow, standIns := [], harness := (true, "834b043a94a8230598ad7afec329408ca3288c0468164bcbebafb91712974612"), looks := false }, kinds := [], alts := [], laidByText := true, laidKinds := [.data, .data, .data], laidTests := true, laidLooks := .later }
def StampWaysUptoCardSaid : Prop := Claim7.holds Tryd.pinned (.plain (OpenSpec.upto stampWaysSpec)) stampWaysUptoCard

/-- THE SECOND FORM's CARD OF 'penstocklaw04.StampPart'. -/
def stampPartUptoCard : Claim7 := { stood := { row := stampPartUptoRow, standIns := [], harness := (true, "834b043a94a8230598ad7afec329408ca3288c0468164bcbebafb91712974612"), looks := false }, kinds := [], alts := [], laidByText := true, laidKinds := [.data, .data, .data], laidTests := true, laidLooks := .later }
def StampPartUptoCardSaid : Prop := Claim7.holds Tryd.pinned (.plain (OpenSpec.upto stampPartSpec)) stampPartUptoCard

/-- THE SECOND FORM's CARD OF 'penstocklaw04.StampGoes'. -/
def stampGoesUptoCard : Claim7 := { stood := { row := stampGoesUptoRow, standIns := [], harness := (true, "834b043a94a8230598ad7afec329408ca3288c0468164bcbebafb91712974612"), looks := false }, kinds := [], alts := [], laidByText := true, laidKinds := [.data, .data, .data], laidTests := true, laidLooks := .later }
def StampGoesUptoCardSaid : Prop := Claim7.holds Tryd.pinned (.plain (OpenSpec.upto stampGoesSpec)) stampGoesUptoCard

/-- THE SECOND FORM's CARD OF 'penstocklaw04.StampOrder'. -/
def stampOrderUptoCard : Claim7 := { stood := { row := stampOrderUptoRow, standIns := [], harness := (true, "834b043a94a8230598ad7afec329408ca3288c0468164bcbebafb91712974612"), looks := false }, kinds := [], alts := [], laidByText := true, laidKinds := [.data, .data, .data], laidTests := true, laidLooks := .later }
def StampOrderUptoCardSaid : Prop := Claim7.holds Tryd.pinned (.plain (OpenSpec.upto stampOrderSpec)) stampOrderUptoCard

/-- THE SECOND FORM's CARD OF 'penstocklaw04.StampTells'. -/
def stampTellsUptoCard : Claim7 := { stood := { row := stampTellsUptoRow, standIns := [], harness := (true, "834b043a94a8230598ad7afec329408ca3288c0468164bcbebafb91712974612"), looks := false }, kinds := [], alts := [], laidByText := true, laidKinds := [.data, .data, .data], laidTests := true, laidLooks := .later }
def StampTellsUptoCardSaid : Prop := Claim7.holds Tryd.pinned (.plain (OpenSpec.upto stampTellsSpec)) stampTellsUptoCard

/-- THE SECOND FORM's CARD OF 'penstocklaw05.ChainBeyond'. -/
def chainBeyondUptoCard : Claim7 := { stood := { row := chainBeyondUptoRow, standIns := [], harness := (true, "834b043a94a8230598ad7afec329408ca3288c0468164bcbebafb91712974612"), looks := false }, kinds := [], alts := [], laidByText := true, laidKinds := [.data, .data, .data], laidTests := true, laidLooks := .later }
def ChainBeyondUptoCardSaid : Prop := Claim7.holds Tryd.pinned (.plain (OpenSpec.upto chainBeyondSpec)) chainBeyondUptoCard

/-- THE SECOND FORM's CARD OF 'penstocklaw05.ChainJoins'. -/
def chainJoinsUptoCard : Claim7 := { stood := { row := chainJoinsUptoRow, standIns := [], harness := (true, "834b043a94a8230598ad7afec329408ca3288c0468164bcbebafb91712974612"), looks := false }, kinds := [], alts := [], laidByText := true, laidKinds := [.data, .data, .data], laidTests := true, laidLooks := .later }
def ChainJoinsUptoCardSaid : Prop := Claim7.holds Tryd.pinned (.plain (OpenSpec.upto chainJoinsSpec)) chainJoinsUptoCard
end Rows
end Go.Proofs.YtajnlihlannmeaaDoor
