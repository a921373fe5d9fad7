/-
  DERIVED. GIVEN WITH THE SEED: THE CARDS: each row of YtobgfegdfcpgfaaDoorRows.lean that lists a variable, with what it lists TIED to the program's text (the seventh form; the later family's looks); each row that meets fmt, with fmt's text TOLD by the authors' own Lean function (tested against real Go, not proved from fmt's source: count such statements apart). THE CARD IS WHAT COUNTS. Prove the row's statement (the work); the ties are given (YtobgfegdfcpgfaaDoorTie.lean); close each card by the builder's one call (the guide's Derived/Test/ToyasCard.lean, 'card_holds'). Laid BY PROGRAM, IN A SANDBOX (cutbox-door.mjs). By AI agents, Wed Nov 11 2026. No macro, syntax, notation, axiom, sorry.
-/
import Derived.Test.YtobgfegdfcpgfaaDoorRows
import GoSem.ClaimSeven
namespace Go.Proofs.YtobgfegdfcpgfaaDoor
namespace Rows

/-- THE TIED CARD OF 'penstocklaw01.DatumWritten'. -/
def datumWrittenCard : Claim7 := { stood := { row := datumWrittenRow, standIns := [], harness := (true, "e76812ac6481776f2bbddce47a9c0749b78f49557e480f2094912015a674fe33"), looks := true }, kinds := [], alts := [], laidByText := true, laidKinds := [.data, .data, .data, .data, .pinned], laidTests := true, laidLooks := .later }
def DatumWrittenCardSaid : Prop := Claim7.holds Tryd.pinned (.plain (OpenSpec.ofChange datumWrittenSpec)) datumWrittenCard

/-- THE TIED CARD OF 'penstocklaw01.DatumLogic'. -/
def datumLogicCard : Claim7 := { stood := { row := datumLogicRow, standIns := [], harness := (true, "e76812ac6481776f2bbddce47a9c0749b78f49557e480f2094912015a674fe33"), looks := true }, kinds := [], alts := [], laidByText := true, laidKinds := [.data, .data, .data, .data, .pinned], laidTests := true, laidLooks := .later }
def DatumLogicCardSaid : Prop := Claim7.holds Tryd.pinned (.plain (OpenSpec.ofChange datumLogicSpec)) datumLogicCard

/-- THE TIED CARD OF 'penstocklaw01.DatumThree'. -/
def datumThreeCard : Claim7 := { stood := { row := datumThreeRow, standIns := [], harness := (true, "e76812ac6481776f2bbddce47a9c0749b78f49557e480f2094912015a674fe33"), looks := true }, kinds := [], alts := [], laidByText := true, laidKinds := [.data, .data, .data, .data, .pinned], laidTests := true, laidLooks := .later }
def DatumThreeCardSaid : Prop := Claim7.holds Tryd.pinned (.plain (OpenSpec.ofChange datumThreeSpec)) datumThreeCard

/-- THE TIED CARD OF 'penstocklaw01.DatumRing'. -/
def datumRingCard : Claim7 := { stood := { row := datumRingRow, standIns := [], harness := (true, "e76812ac6481776f2bbddce47a9c0749b78f49557e480f2094912015a674fe33"), looks := true }, kinds := [], alts := [], laidByText := true, laidKinds := [.data, .data, .data, .data, .pinned], laidTests := true, laidLooks := .later }
def DatumRingCardSaid : Prop := Claim7.holds Tryd.pinned (.plain (OpenSpec.ofChange datumRingSpec)) datumRingCard

/-- THE TIED CARD OF 'penstocklaw01.DatumNumbers'. -/
def datumNumbersCard : Claim7 := { stood := { row := datumNumbersRow, standIns := [], harness := (true, "e76812ac6481776f2bbddce47a9c0749b78f49557e480f2094912015a674fe33"), looks := true }, kinds := [], alts := [], laidByText := true, laidKinds := [.data, .data, .data, .data, .pinned], laidTests := true, laidLooks := .later }
def DatumNumbersCardSaid : Prop := Claim7.holds Tryd.pinned (.plain (OpenSpec.ofChange datumNumbersSpec)) datumNumbersCard

/-- THE TIED CARD OF 'penstocklaw01.DatumChecks'. -/
def datumChecksCard : Claim7 := { stood := { row := datumChecksRow, standIns := [], harness := (true, "e76812ac6481776f2bbddce47a9c0749b78f49557e480f2094912015a674fe33"), looks := true }, kinds := [], alts := [], laidByText := true, laidKinds := [.data, .data, .data, .data, .pinned], laidTests := true, laidLooks := .later }
def DatumChecksCardSaid : Prop := Claim7.holds Tryd.pinned (.plain (OpenSpec.ofChange datumChecksSpec)) datumChecksCard

/-- THE TIED CARD OF 'penstocklaw01.DatumOrder'. -/
def datumOrderCard : Claim7 := { stood := { row := datumOrderRow, standIns := [], harness := (true, "e76812ac6481776f2bbddce47a9c0749b78f49557e480f2094912015a674fe33"), looks := true }, kinds := [], alts := [], laidByText := true, laidKinds := [.data, .data, .data, .data, .pinned], laidTests := true, laidLooks := .later }
def DatumOrderCardSaid : Prop := Claim7.holds Tryd.pinned (.plain (OpenSpec.ofChange datumOrderSpec)) datumOrderCard

/-- THE TIED CARD OF 'penstocklaw01.DatumJoins'. -/
def datumJoinsCard : Claim7 := { stood := { row := datumJoinsRow, standIns := [], harness := (true, "e76812ac6481776f2bbddce47a9c0749b78f49557e480f2094912015a674fe33"), looks := true }, kinds := [], alts := [], laidByText := true, laidKinds := [.data, .data, .data, .data, .pinned], laidTests := true, laidLooks := .later }
def DatumJoinsCardSaid : Prop := Claim7.holds Tryd.pinned (.plain (OpenSpec.ofChange datumJoinsSpec)) datumJoinsCard

/-- THE TIED CARD OF 'penstocklaw01.DatumSides'. -/
def datumSidesCard : Claim7 := { stood := { row := datumSidesRow, standIns := [], harness := (true, "e76812ac6481776f2bbddce47a9c0749b78f49557e480f2094912015a674fe33"), looks := true }, kinds := [], alts := [], laidByText := true, laidKinds := [.data, .data, .data, .data, .pinned], laidTests := true, laidLooks := .later }
def DatumSidesCardSaid : Prop := Claim7.holds Tryd.pinned (.plain (OpenSpec.ofChange datumSidesSpec)) datumSidesCard

/-- THE TIED CARD OF 'penstocklaw01.DatumTexts'. -/
def datumTextsCard : Claim7 := { stood := { row := datumTextsRow, standIns := [], harness := (true, "e76812ac6481776f2bbddce47a9c0749b78f49557e480f2094912015a674fe33"), looks := true }, kinds := [], alts := [], laidByText := true, laidKinds := [.data, .data, .data, .data, .pinned], laidTests := true, laidLooks := .later }
def DatumTextsCardSaid : Prop := Claim7.holds Tryd.pinned (.plain (OpenSpec.ofChange datumTextsSpec)) datumTextsCard

/-- THE TIED CARD OF 'penstocklaw01.DatumParses'. -/
def datumParsesCard : Claim7 := { stood := { row := datumParsesRow, standIns := [], harness := (true, "e76812ac6481776f2bbddce47a9c0749b78f49557e480f2094912015a674fe33"), looks := true }, kinds := [], alts := [], laidByText := true, laidKinds := [.data, .data, .data, .data, .sentinel, .sentinel, .pinned], laidTests := true, laidLooks := .later }
def DatumParsesCardSaid : Prop := Claim7.holds Tryd.pinned (.plain (OpenSpec.ofChange datumParsesSpec)) datumParsesCard

/-- THE TIED CARD OF 'penstocklaw01.DatumBack'. -/
def datumBackCard : Claim7 := { stood := { row := datumBackRow, standIns := [], harness := (true, "e76812ac6481776f2bbddce47a9c0749b78f49557e480f2094912015a674fe33"), looks := true }, kinds := [], alts := [], laidByText := true, laidKinds := [.data, .data, .data, .data, .sentinel, .sentinel, .pinned], laidTests := true, laidLooks := .later }
def DatumBackCardSaid : Prop := Claim7.holds Tryd.pinned (.plain (OpenSpec.ofChange datumBackSpec)) datumBackCard

/-- THE SECOND FORM's CARD OF 'penstocklaw01.DatumWritten'. -/
def datumWrittenUptoCard : Claim7 := { stood := { row := datumWrittenUptoRow, standIns := [], harness := (true, "e76812ac6481776f2bbddce47a9c0749b78f49557e480f2094912015a674fe33"), looks := true }, kinds := [], alts := [], laidByText := true, laidKinds := [.data, .data, .data, .data, .pinned], laidTests := true, laidLooks := .later }
def DatumWrittenUptoCardSaid : Prop := Claim7.holds Tryd.pinned (.plain (OpenSpec.upto datumWrittenSpec)) datumWrittenUptoCard

/-- THE SECOND FORM's CARD OF 'penstocklaw01.DatumLogic'. -/
def datumLogicUptoCard : Claim7 := { stood := { row := datumLogicUptoRow, standIns := [], harness := (true, "e76812ac6481776f2bbddce47a9c0749b78f49557e480f2094912015a674fe33"), looks := true }, kinds := [], alts := [], laidByText := true, laidKinds := [.data, .data, .data, .data, .pinned], laidTests := true, laidLooks := .later }
def DatumLogicUptoCardSaid : Prop := Claim7.holds Tryd.pinned (.plain (OpenSpec.upto datumLogicSpec)) datumLogicUptoCard

/-- THE SECOND FORM's CARD OF 'penstocklaw01.DatumThree'. -/
def datumThreeUptoCard : Claim7 := { stood := { row := datumThreeUptoRow, standIns := [], harness := (true, "e76812ac6481776f2bbddce47a9c0749b78f49557e480f2094912015a674fe33"), looks := true }, kinds := [], alts := [], laidByText := true, laidKinds := [.data, .data, .data, .data, .pinned], laidTests := true, laidLooks := .later }
def DatumThreeUptoCardSaid : Prop := Claim7.holds Tryd.pinned (.plain (OpenSpec.upto datumThreeSpec)) datumThreeUptoCard

/-- THE SECOND FORM's CARD OF 'penstocklaw01.DatumRing'. -/
def datumRingUptoCard : Claim7 := { stood := { row := datumRingUptoRow, standIns := [], harness := (true, "e76812ac6481776f2bbddce47a9c0749b78f49557e480f2094912015a674fe33"), looks := true }, kinds := [], alts := [], laidByText := true, laidKinds := [.data, .data, .data, .data, .pinned], laidTests := true, laidLooks := .later }
def DatumRingUptoCardSaid : Prop := Claim7.holds Tryd.pinned (.plain (OpenSpec.upto datumRingSpec)) datumRingUptoCard

/-- THE SECOND FORM's CARD OF 'penstocklaw01.DatumNumbers'. -/
def datumNumbersUptoCard : Claim7 := { stood := { row := datumNumbersUptoRow, standIns := [], harness := (true, "e76812ac6481776f2bbddce47a9c0749b78f49557e480f2094912015a674fe33"), looks := true }, kinds := [], alts := [], laidByText := true, laidKinds := [.data, .data, .data, .data, .pinned], laidTests := true, laidLooks := .later }
def DatumNumbersUptoCardSaid : Prop := Claim7.holds Tryd.pinned (.plain (OpenSpec.upto datumNumbersSpec)) datumNumbersUptoCard

/-- THE SECOND FORM's CARD OF 'penstocklaw01.DatumChecks'. -/
def datumChecksUptoCard : Claim7 := { stood := { row := datumChecksUptoRow, standIns := [], harness := (true, "e76812ac6481776f2bbddce47a9c0749b78f49557e480f2094912015a674fe33"), looks := true }, kinds := [], alts := [], laidByText := true, laidKinds := [.data, .data, .data, .data, .pinned], laidTests := true, laidLooks := .later }
def DatumChecksUptoCardSaid : Prop := Claim7.holds Tryd.pinned (.plain (OpenSpec.upto datumChecksSpec)) datumChecksUptoCard

/-- THE SECOND FORM's CARD OF 'penstocklaw01.DatumOrder'. -/
def datumOrderUptoCard : Claim7 := { stood := { row := datumOrderUptoRow, standIns := [], harness := (true, "e76812ac6481776f2bbddce47a9c0749b78f49557e480f2094912015a674fe33"), looks := true }, kinds := [], alts := [], laidByText := true, laidKinds := [.data, .data, .data, .data, .pinned], laidTests := true, laidLooks := .later }
def DatumOrderUptoCardSaid : Prop := Claim7.holds Tryd.pinned (.plain (OpenSpec.upto datumOrderSpec)) datumOrderUptoCard

/-- THE SECOND FORM's CARD OF 'penstocklaw01.DatumJoins'. -/
def datumJoinsUptoCard : Claim7 := { stood := { row := datumJoinsUptoRow, standIns := [], harness := (true, "e76812ac6481776f2bbddce47a9c0749b78f49557e480f2094912015a674fe33"), looks := true }, kinds := [], alts := [], laidByText := true, laidKinds := [.data, .data, .data, .data, .pinned], laidTests := true, laidLooks := .later }
def DatumJoinsUptoCardSaid : Prop := Claim7.holds Tryd.pinned (.plain (OpenSpec.upto datumJoinsSpec)) datumJoinsUptoCard

/-- THE SECOND FORM's CARD OF 'penstocklaw01.DatumSides'. -/
def datumSidesUptoCard : Claim7 := { stood := { row := datumSidesUptoRow, standIns := [], harness := (true, "e76812ac6481776f2bbddce47a9c0749b78f49557e480f2094912015a674fe33"), looks := true }, kinds := [], alts := [], laidByText := true, laidKinds := [.data, .data, .data, .data, .pinned], laidTests := true, laidLooks := .later }
def DatumSidesUptoCardSaid : Prop := Claim7.holds Tryd.pinned (.plain (OpenSpec.upto datumSidesSpec)) datumSidesUptoCard

/-- THE SECOND FORM's CARD OF 'penstocklaw01.DatumTexts'. -/
def datumTextsUptoCard : Claim7 := { stood := { row := datumTextsUptoRow, standIns := [], harness := (true, "e76812ac6481776f2bbddce47a9c0749b78f49557e480f2094912015a674fe33"), looks := true }, kinds := [], alts := [], laidByText := true, laidKinds := [.data, .data, .data, .data, .pinned], laidTests := true, laidLooks := .later }
def DatumTextsUptoCardSaid : Prop := Claim7.holds Tryd.pinned (.plain (OpenSpec.upto datumTextsSpec)) datumTextsUptoCard

/-- THE SECOND FORM's CARD OF 'penstocklaw01.DatumParses'. -/
def datumParsesUptoCard : Claim7 := { stood := { row := datumParsesUptoRow, standIns := [], harness := (true, "e76812ac6481776f2bbddce47a9c0749b78f49557e480f2094912015a674fe33"), looks := true }, kinds := [], alts := [], laidByText := true, laidKinds := [.data, .data, .data, .data, .sentinel, .sentinel, .pinned], laidTests := true, laidLooks := .later }
def DatumParsesUptoCardSaid : Prop := Claim7.holds Tryd.pinned (.plain (OpenSpec.upto datumParsesSpec)) datumParsesUptoCard

/-- THE SECOND FORM's CARD OF 'penstocklaw01.DatumBack'. -/
def datumBackUptoCard : Claim7 := { stood := { row := datumBackUptoRow, standIns := [], harness := (true, "e76812ac6481776f2bbddce47a9c0749b78f49557e480f2094912015a674fe33"), looks := true }, kinds := [], alts := [], laidByText := true, laidKinds := [.data, .data, .data, .data, .sentinel, .sentinel, .pinned], laidTests := true, laidLooks := .later }
def DatumBackUptoCardSaid : Prop := Claim7.holds Tryd.pinned (.plain (OpenSpec.upto datumBackSpec)) datumBackUptoCard
end Rows
end Go.Proofs.YtobgfegdfcpgfaaDoor
