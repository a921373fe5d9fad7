/-
  DERIVED. GIVEN WITH THE SEED: THE CARDS: each row of YtdgbkpoickbidaaGreatDoorRows.lean that lists a variable, with what it lists TIED to the program's text (the seventh form; the later family's looks); each row that meets fmt, with fmt's text TOLD by the authors' own Lean function (tested against real Go, not proved from fmt's source: count such statements apart). THE CARD IS WHAT COUNTS. Prove the row's statement (the work); the ties are given (YtdgbkpoickbidaaGreatDoorTie.lean); close each card by the builder's one call (the guide's Derived/Test/ToyasCard.lean, 'card_holds'). Laid BY PROGRAM, IN A SANDBOX (cutbox-door.mjs). By AI agents, Wed Nov 11 2026. No macro, syntax, notation, axiom, sorry.
-/
import Derived.Test.YtdgbkpoickbidaaGreatDoorRows
import GoSem.ClaimSeven
namespace Go.Proofs.YtdgbkpoickbidaaGreatDoor
namespace Rows

/-- THE TIED CARD OF 'penstocklaw10.DeltaTells'. -/
def deltaTellsCard : Claim7 := { stood := { row := deltaTellsRow, standIns := [], harness := (true, "a84a82340519f0d2c5005a6b98f5f00c20fcb0909f94c19b40a9728494e40a5b"), looks := false }, kinds := [], alts := [], laidByText := true, laidKinds := [.data, .pinned], laidTests := true, laidLooks := .later }
def DeltaTellsCardSaid : Prop := Claim7.holds Tryz.pinned (.plain (OpenSpec.ofChange deltaTellsSpec)) deltaTellsCard

/-- THE TIED CARD OF 'penstocklaw05.ChainCounts'. -/
def chainCountsCard : Claim7 := { stood := { row := chainCountsRow, standIns := [], harness := (true, "a84a82340519f0d2c5005a6b98f5f00c20fcb0909f94c19b40a9728494e40a5b"), looks := false }, kinds := [], alts := [], laidByText := true, laidKinds := [.data, .data, .data], laidTests := true, laidLooks := .later }
def ChainCountsCardSaid : Prop := Claim7.holds Tryz.pinned (.plain (OpenSpec.ofChange chainCountsSpec)) chainCountsCard

/-- THE TIED CARD OF 'penstocklaw11.SpineSame'. -/
def spineSameCard : Claim7 := { stood := { row := spineSameRow, standIns := [], harness := (true, "a84a82340519f0d2c5005a6b98f5f00c20fcb0909f94c19b40a9728494e40a5b"), looks := false }, kinds := [], alts := [], laidByText := true, laidKinds := [.data, .pinned], laidTests := true, laidLooks := .later }
def SpineSameCardSaid : Prop := Claim7.holds Tryz.pinned (.plain (OpenSpec.ofChange spineSameSpec)) spineSameCard

/-- THE TIED CARD OF 'penstocklaw11.SpineSplit'. -/
def spineSplitCard : Claim7 := { stood := { row := spineSplitRow, standIns := [], harness := (true, "a84a82340519f0d2c5005a6b98f5f00c20fcb0909f94c19b40a9728494e40a5b"), looks := false }, kinds := [], alts := [], laidByText := true, laidKinds := [.data, .pinned], laidTests := true, laidLooks := .later }
def SpineSplitCardSaid : Prop := Claim7.holds Tryz.pinned (.plain (OpenSpec.ofChange spineSplitSpec)) spineSplitCard

/-- THE TIED CARD OF 'penstocklaw11.SpineDoes'. -/
def spineDoesCard : Claim7 := { stood := { row := spineDoesRow, standIns := [], harness := (true, "a84a82340519f0d2c5005a6b98f5f00c20fcb0909f94c19b40a9728494e40a5b"), looks := false }, kinds := [], alts := [], laidByText := true, laidKinds := [.data, .pinned], laidTests := true, laidLooks := .later }
def SpineDoesCardSaid : Prop := Claim7.holds Tryz.pinned (.plain (OpenSpec.ofChange spineDoesSpec)) spineDoesCard

/-- THE TIED CARD OF 'penstocklaw12.ShareReads'. -/
def shareReadsCard : Claim7 := { stood := { row := shareReadsRow, standIns := [], harness := (true, "a84a82340519f0d2c5005a6b98f5f00c20fcb0909f94c19b40a9728494e40a5b"), looks := false }, kinds := [], alts := [], laidByText := true, laidKinds := [.data, .pinned], laidTests := true, laidLooks := .later }
def ShareReadsCardSaid : Prop := Claim7.holds Tryz.pinned (.plain (OpenSpec.ofChange shareReadsSpec)) shareReadsCard

/-- THE TIED CARD OF 'penstocklaw12.ShareTwo'. -/
def shareTwoCard : Claim7 := { stood := { row := shareTwoRow, standIns := [], harness := (true, "a84a82340519f0d2c5005a6b98f5f00c20fcb0909f94c19b40a9728494e40a5b"), looks := false }, kinds := [], alts := [], laidByText := true, laidKinds := [.data, .pinned], laidTests := true, laidLooks := .later }
def ShareTwoCardSaid : Prop := Claim7.holds Tryz.pinned (.plain (OpenSpec.ofChange shareTwoSpec)) shareTwoCard

/-- THE TIED CARD OF 'penstocklaw12.ShareDoes'. -/
def shareDoesCard : Claim7 := { stood := { row := shareDoesRow, standIns := [], harness := (true, "a84a82340519f0d2c5005a6b98f5f00c20fcb0909f94c19b40a9728494e40a5b"), looks := false }, kinds := [], alts := [], laidByText := true, laidKinds := [.data, .pinned], laidTests := true, laidLooks := .later }
def ShareDoesCardSaid : Prop := Claim7.holds Tryz.pinned (.plain (OpenSpec.ofChange shareDoesSpec)) shareDoesCard

/-- THE TIED CARD OF 'penstocklaw12.ShareHolds'. -/
def shareHoldsCard : Claim7 := { stood := { row := shareHoldsRow, standIns := [], harness := (true, "a84a82340519f0d2c5005a6b98f5f00c20fcb0909f94c19b40a9728494e40a5b"), looks := false }, kinds := [], alts := [], laidByText := true, laidKinds := [.data, .pinned], laidTests := true, laidLooks := .later }
def ShareHoldsCardSaid : Prop := Claim7.holds Tryz.pinned (.plain (OpenSpec.ofChange shareHoldsSpec)) shareHoldsCard

/-- THE TIED CARD OF 'penstocklaw10.DeltaSame'. -/
def deltaSameCard : Claim7 := { stood := { row := deltaSameRow, standIns := [], harness := (true, "a84a82340519f0d2c5005a6b98f5f00c20fcb0909f94c19b40a9728494e40a5b"), looks := false }, kinds := [], alts := [], laidByText := true, laidKinds := [.data, .data, .data, .data, .pinned], laidTests := true, laidLooks := .later }
def DeltaSameCardSaid : Prop := Claim7.holds Tryz.pinned (.plain (OpenSpec.ofChange deltaSameSpec)) deltaSameCard

/-- THE SECOND FORM's CARD OF 'penstocklaw10.DeltaTells'. -/
def deltaTellsUptoCard : Claim7 := { stood := { row := deltaTellsUptoRow, standIns := [], harness := (true, "a84a82340519f0d2c5005a6b98f5f00c20fcb0909f94c19b40a9728494e40a5b"), looks := false }, kinds := [], alts := [], laidByText := true, laidKinds := [.data, .pinned], laidTests := true, laidLooks := .later }
def DeltaTellsUptoCardSaid : Prop := Claim7.holds Tryz.pinned (.plain (OpenSpec.upto deltaTellsSpec)) deltaTellsUptoCard

/-- THE SECOND FORM's CARD OF 'penstocklaw05.ChainCounts'. -/
def chainCountsUptoCard : Claim7 := { stood := { row := chainCountsUptoRow, standIns := [], harness := (true, "a84a82340519f0d2c5005a6b98f5f00c20fcb0909f94c19b40a9728494e40a5b"), looks := false }, kinds := [], alts := [], laidByText := true, laidKinds := [.data, .data, .data], laidTests := true, laidLooks := .later }
def ChainCountsUptoCardSaid : Prop := Claim7.holds Tryz.pinned (.plain (OpenSpec.upto chainCountsSpec)) chainCountsUptoCard

/-- THE SECOND FORM's CARD OF 'penstocklaw11.SpineSame'. -/
def spineSameUptoCard : Claim7 := { stood := { row := spineSameUptoRow, standIns := [], harness := (true, "a84a82340519f0d2c5005a6b98f5f00c20fcb0909f94c19b40a9728494e40a5b"), looks := false }, kinds := [], alts := [], laidByText := true, laidKinds := [.data, .pinned], laidTests := true, laidLooks := .later }
def SpineSameUptoCardSaid : Prop := Claim7.holds Tryz.pinned (.plain (OpenSpec.upto spineSameSpec)) spineSameUptoCard

/-- THE SECOND FORM's CARD OF 'penstocklaw11.SpineSplit'. -/
def spineSplitUptoCard : Claim7 := { stood := { row := spineSplitUptoRow, standIns := [], harness := (true, "a84a82340519f0d2c5005a6b98f5f00c20fcb0909f94c19b40a9728494e40a5b"), looks := false }, kinds := [], alts := [], laidByText := true, laidKinds := [.data, .pinned], laidTests := true, laidLooks := .later }
def SpineSplitUptoCardSaid : Prop := Claim7.holds Tryz.pinned (.plain (OpenSpec.upto spineSplitSpec)) spineSplitUptoCard

/-- THE SECOND FORM's CARD OF 'penstocklaw11.SpineDoes'. -/
def spineDoesUptoCard : Claim7 := { stood := { row := spineDoesUptoRow, standIns := [], harness := (true, "a84a82340519f0d2c5005a6b98f5f00c20fcb0909f94c19b40a9728494e40a5b"), looks := false }, kinds := [], alts := [], laidByText := true, laidKinds := [.data, .pinned], laidTests := true, laidLooks := .later }
def SpineDoesUptoCardSaid : Prop := Claim7.holds Tryz.pinned (.plain (OpenSpec.upto spineDoesSpec)) spineDoesUptoCard

/-- THE SECOND FORM's CARD OF 'penstocklaw12.ShareReads'. -/
def shareReadsUptoCard : Claim7 := { stood := { row := shareReadsUptoRow, standIns := [], harness := (true, "a84a82340519f0d2c5005a6b98f5f00c20fcb0909f94c19b40a9728494e40a5b"), looks := false }, kinds := [], alts := [], laidByText := true, laidKinds := [.data, .pinned], laidTests := true, laidLooks := .later }
def ShareReadsUptoCardSaid : Prop := Claim7.holds Tryz.pinned (.plain (OpenSpec.upto shareReadsSpec)) shareReadsUptoCard

/-- THE SECOND FORM's CARD OF 'penstocklaw12.ShareTwo'. -/
def shareTwoUptoCard : Claim7 := { stood := { row := shareTwoUptoRow, standIns := [], harness := (true, "a84a82340519f0d2c5005a6b98f5f00c20fcb0909f94c19b40a9728494e40a5b"), looks := false }, kinds := [], alts := [], laidByText := true, laidKinds := [.data, .pinned], laidTests := true, laidLooks := .later }
def ShareTwoUptoCardSaid : Prop := Claim7.holds Tryz.pinned (.plain (OpenSpec.upto shareTwoSpec)) shareTwoUptoCard

/-- THE SECOND FORM's CARD OF 'penstocklaw12.ShareDoes'. -/
def shareDoesUptoCard : Claim7 := { stood := { row := shareDoesUptoRow, standIns := [], harness := (true, "a84a82340519f0d2c5005a6b98f5f00c20fcb0909f94c19b40a9728494e40a5b"), looks := false }, kinds := [], alts := [], laidByText := true, laidKinds := [.data, .pinned], laidTests := true, laidLooks := .later }
def ShareDoesUptoCardSaid : Prop := Claim7.holds Tryz.pinned (.plain (OpenSpec.upto shareDoesSpec)) shareDoesUptoCard

/-- THE SECOND FORM's CARD OF 'penstocklaw12.ShareHolds'. -/
def shareHoldsUptoCard : Claim7 := { stood := { row := shareHoldsUptoRow, standIns := [], harness := (true, "a84a82340519f0d2c5005a6b98f5f00c20fcb0909f94c19b40a9728494e40a5b"), looks := false }, kinds := [], alts := [], laidByText := true, laidKinds := [.data, .pinned], laidTests := true, laidLooks := .later }
def ShareHoldsUptoCardSaid : Prop := Claim7.holds Tryz.pinned (.plain (OpenSpec.upto shareHoldsSpec)) shareHoldsUptoCard

/-- THE SECOND FORM's CARD OF 'penstocklaw10.DeltaSame'. -/
def deltaSameUptoCard : Claim7 := { stood := { row := deltaSameUptoRow, standIns := [], harness := (true, "a84a82340519f0d2c5005a6b98f5f00c20fcb0909f94c19b40a9728494e40a5b"), looks := false }, kinds := [], alts := [], laidByText := true, laidKinds := [.data, .data, .data, .data, .pinned], laidTests := true, laidLooks := .later }
def DeltaSameUptoCardSaid : Prop := Claim7.holds Tryz.pinned (.plain (OpenSpec.upto deltaSameSpec)) deltaSameUptoCard
end Rows
end Go.Proofs.YtdgbkpoickbidaaGreatDoor
