/-
  DERIVED. GIVEN WITH THE SEED: THE CARDS: each row of YtngeioghihbkeaaDoorRows.lean that lists a variable, with what it lists TIED to the program's text (the seventh form; the later family's looks); each row that meets fmt, with fmt's text TOLD by the authors' own Lean function (tested against real Go, not proved from fmt's source: count such statements apart). THE CARD IS WHAT COUNTS. Prove the row's statement (the work); the ties are given (YtngeioghihbkeaaDoorTie.lean); close each card by the builder's one call (the guide's Derived/Test/ToyasCard.lean, 'card_holds'). Laid BY PROGRAM, IN A SANDBOX (cutbox-door.mjs). By AI agents, Wed Nov 11 2026. No macro, syntax, notation, axiom, sorry.
-/
import Derived.Test.YtngeioghihbkeaaDoorRows
import GoSem.ClaimSeven
namespace Go.Proofs.YtngeioghihbkeaaDoor
namespace Rows

/-- THE TIED CARD OF 'penstocklaw02.RowCmps'. -/
def rowCmpsCard : Claim7 := { stood := { row := rowCmpsRow, standIns := [], harness := (true, "2420c4b9017ab7a2aa0506516bbdc869b2ec3fea60dce07c915845178679f8a2"), looks := true }, kinds := [], alts := [], laidByText := true, laidKinds := [.data, .pinned], laidTests := true, laidLooks := .later }
def RowCmpsCardSaid : Prop := Claim7.holds Tryd.pinned (.plain (OpenSpec.ofChange rowCmpsSpec)) rowCmpsCard

/-- THE TIED CARD OF 'penstocklaw02.RowSums'. -/
def rowSumsCard : Claim7 := { stood := { row := rowSumsRow, standIns := [], harness := (true, "2420c4b9017ab7a2aa0506516bbdc869b2ec3fea60dce07c915845178679f8a2"), looks := true }, kinds := [], alts := [], laidByText := true, laidKinds := [.data, .pinned], laidTests := true, laidLooks := .later }
def RowSumsCardSaid : Prop := Claim7.holds Tryd.pinned (.plain (OpenSpec.ofChange rowSumsSpec)) rowSumsCard

/-- THE TIED CARD OF 'penstocklaw02.RowOnce'. -/
def rowOnceCard : Claim7 := { stood := { row := rowOnceRow, standIns := [], harness := (true, "2420c4b9017ab7a2aa0506516bbdc869b2ec3fea60dce07c915845178679f8a2"), looks := true }, kinds := [], alts := [], laidByText := true, laidKinds := [.data, .pinned], laidTests := true, laidLooks := .later }
def RowOnceCardSaid : Prop := Claim7.holds Tryd.pinned (.plain (OpenSpec.ofChange rowOnceSpec)) rowOnceCard

/-- THE TIED CARD OF 'penstocklaw02.RowOrder'. -/
def rowOrderCard : Claim7 := { stood := { row := rowOrderRow, standIns := [], harness := (true, "2420c4b9017ab7a2aa0506516bbdc869b2ec3fea60dce07c915845178679f8a2"), looks := true }, kinds := [], alts := [], laidByText := true, laidKinds := [.data, .pinned], laidTests := true, laidLooks := .later }
def RowOrderCardSaid : Prop := Claim7.holds Tryd.pinned (.plain (OpenSpec.ofChange rowOrderSpec)) rowOrderCard

/-- THE TIED CARD OF 'penstocklaw02.RowBeginnings'. -/
def rowBeginningsCard : Claim7 := { stood := { row := rowBeginningsRow, standIns := [], harness := (true, "2420c4b9017ab7a2aa0506516bbdc869b2ec3fea60dce07c915845178679f8a2"), looks := true }, kinds := [], alts := [], laidByText := true, laidKinds := [.data, .pinned], laidTests := true, laidLooks := .later }
def RowBeginningsCardSaid : Prop := Claim7.holds Tryd.pinned (.plain (OpenSpec.ofChange rowBeginningsSpec)) rowBeginningsCard

/-- THE TIED CARD OF 'penstocklaw02.RowHashes'. -/
def rowHashesCard : Claim7 := { stood := { row := rowHashesRow, standIns := [], harness := (true, "2420c4b9017ab7a2aa0506516bbdc869b2ec3fea60dce07c915845178679f8a2"), looks := true }, kinds := [], alts := [], laidByText := true, laidKinds := [.data, .pinned], laidTests := true, laidLooks := .later }
def RowHashesCardSaid : Prop := Claim7.holds Tryd.pinned (.plain (OpenSpec.ofChange rowHashesSpec)) rowHashesCard

/-- THE TIED CARD OF 'penstocklaw02.RowDecodes'. -/
def rowDecodesCard : Claim7 := { stood := { row := rowDecodesRow, standIns := [], harness := (true, "2420c4b9017ab7a2aa0506516bbdc869b2ec3fea60dce07c915845178679f8a2"), looks := true }, kinds := [], alts := [], laidByText := true, laidKinds := [.data, .pinned], laidTests := true, laidLooks := .later }
def RowDecodesCardSaid : Prop := Claim7.holds Tryd.pinned (.plain (OpenSpec.ofChange rowDecodesSpec)) rowDecodesCard

/-- THE TIED CARD OF 'penstocklaw02.RowKeeps'. -/
def rowKeepsCard : Claim7 := { stood := { row := rowKeepsRow, standIns := [], harness := (true, "2420c4b9017ab7a2aa0506516bbdc869b2ec3fea60dce07c915845178679f8a2"), looks := true }, kinds := [], alts := [], laidByText := true, laidKinds := [.data, .pinned], laidTests := true, laidLooks := .later }
def RowKeepsCardSaid : Prop := Claim7.holds Tryd.pinned (.plain (OpenSpec.ofChange rowKeepsSpec)) rowKeepsCard

/-- THE TIED CARD OF 'penstocklaw02.RowChecks'. -/
def rowChecksCard : Claim7 := { stood := { row := rowChecksRow, standIns := [], harness := (true, "2420c4b9017ab7a2aa0506516bbdc869b2ec3fea60dce07c915845178679f8a2"), looks := true }, kinds := [], alts := [], laidByText := true, laidKinds := [.data, .data, .data, .data, .pinned], laidTests := true, laidLooks := .later }
def RowChecksCardSaid : Prop := Claim7.holds Tryd.pinned (.plain (OpenSpec.ofChange rowChecksSpec)) rowChecksCard

/-- THE TIED CARD OF 'penstocklaw02.RowWritten'. -/
def rowWrittenCard : Claim7 := { stood := { row := rowWrittenRow, standIns := [], harness := (true, "2420c4b9017ab7a2aa0506516bbdc869b2ec3fea60dce07c915845178679f8a2"), looks := true }, kinds := [], alts := [], laidByText := true, laidKinds := [.data, .data, .data, .data, .sentinel, .sentinel, .pinned], laidTests := true, laidLooks := .later }
def RowWrittenCardSaid : Prop := Claim7.holds Tryd.pinned (.plain (OpenSpec.ofChange rowWrittenSpec)) rowWrittenCard

/-- THE SECOND FORM's CARD OF 'penstocklaw02.RowCmps'. -/
def rowCmpsUptoCard : Claim7 := { stood := { row := rowCmpsUptoRow, standIns := [], harness := (true, "2420c4b9017ab7a2aa0506516bbdc869b2ec3fea60dce07c915845178679f8a2"), looks := true }, kinds := [], alts := [], laidByText := true, laidKinds := [.data, .pinned], laidTests := true, laidLooks := .later }
def RowCmpsUptoCardSaid : Prop := Claim7.holds Tryd.pinned (.plain (OpenSpec.upto rowCmpsSpec)) rowCmpsUptoCard

/-- THE SECOND FORM's CARD OF 'penstocklaw02.RowSums'. -/
def rowSumsUptoCard : Claim7 := { stood := { row := rowSumsUptoRow, standIns := [], harness := (true, "2420c4b9017ab7a2aa0506516bbdc869b2ec3fea60dce07c915845178679f8a2"), looks := true }, kinds := [], alts := [], laidByText := true, laidKinds := [.data, .pinned], laidTests := true, laidLooks := .later }
def RowSumsUptoCardSaid : Prop := Claim7.holds Tryd.pinned (.plain (OpenSpec.upto rowSumsSpec)) rowSumsUptoCard

/-- THE SECOND FORM's CARD OF 'penstocklaw02.RowOnce'. -/
def rowOnceUptoCard : Claim7 := { stood := { row := rowOnceUptoRow, standIns := [], harness := (true, "2420c4b9017ab7a2aa0506516bbdc869b2ec3fea60dce07c915845178679f8a2"), looks := true }, kinds := [], alts := [], laidByText := true, laidKinds := [.data, .pinned], laidTests := true, laidLooks := .later }
def RowOnceUptoCardSaid : Prop := Claim7.holds Tryd.pinned (.plain (OpenSpec.upto rowOnceSpec)) rowOnceUptoCard

/-- THE SECOND FORM's CARD OF 'penstocklaw02.RowOrder'. -/
def rowOrderUptoCard : Claim7 := { stood := { row := rowOrderUptoRow, standIns := [], harness := (true, "2420c4b9017ab7a2aa0506516bbdc869b2ec3fea60dce07c915845178679f8a2"), looks := true }, kinds := [], alts := [], laidByText := true, laidKinds := [.data, .pinned], laidTests := true, laidLooks := .later }
def RowOrderUptoCardSaid : Prop := Claim7.holds Tryd.pinned (.plain (OpenSpec.upto rowOrderSpec)) rowOrderUptoCard

/-- THE SECOND FORM's CARD OF 'penstocklaw02.RowBeginnings'. -/
def rowBeginningsUptoCard : Claim7 := { stood := { row := rowBeginningsUptoRow, standIns := [], harness := (true, "2420c4b9017ab7a2aa0506516bbdc869b2ec3fea60dce07c915845178679f8a2"), looks := true }, kinds := [], alts := [], laidByText := true, laidKinds := [.data, .pinned], laidTests := true, laidLooks := .later }
def RowBeginningsUptoCardSaid : Prop := Claim7.holds Tryd.pinned (.plain (OpenSpec.upto rowBeginningsSpec)) rowBeginningsUptoCard

/-- THE SECOND FORM's CARD OF 'penstocklaw02.RowHashes'. -/
def rowHashesUptoCard : Claim7 := { stood := { row := rowHashesUptoRow, standIns := [], harness := (true, "2420c4b9017ab7a2aa0506516bbdc869b2ec3fea60dce07c915845178679f8a2"), looks := true }, kinds := [], alts := [], laidByText := true, laidKinds := [.data, .pinned], laidTests := true, laidLooks := .later }
def RowHashesUptoCardSaid : Prop := Claim7.holds Tryd.pinned (.plain (OpenSpec.upto rowHashesSpec)) rowHashesUptoCard

/-- THE SECOND FORM's CARD OF 'penstocklaw02.RowDecodes'. -/
def rowDecodesUptoCard : Claim7 := { stood := { row := rowDecodesUptoRow, standIns := [], harness := (true, "2420c4b9017ab7a2aa0506516bbdc869b2ec3fea60dce07c915845178679f8a2"), looks := true }, kinds := [], alts := [], laidByText := true, laidKinds := [.data, .pinned], laidTests := true, laidLooks := .later }
def RowDecodesUptoCardSaid : Prop := Claim7.holds Tryd.pinned (.plain (OpenSpec.upto rowDecodesSpec)) rowDecodesUptoCard

/-- THE SECOND FORM's CARD OF 'penstocklaw02.RowKeeps'. -/
def rowKeepsUptoCard : Claim7 := { stood := { row := rowKeepsUptoRow, standIns := [], harness := (true, "2420c4b9017ab7a2aa0506516bbdc869b2ec3fea60dce07c915845178679f8a2"), looks := true }, kinds := [], alts := [], laidByText := true, laidKinds := [.data, .pinned], laidTests := true, laidLooks := .later }
def RowKeepsUptoCardSaid : Prop := Claim7.holds Tryd.pinned (.plain (OpenSpec.upto rowKeepsSpec)) rowKeepsUptoCard

/-- THE SECOND FORM's CARD OF 'penstocklaw02.RowChecks'. -/
def rowChecksUptoCard : Claim7 := { stood := { row := rowChecksUptoRow, standIns := [], harness := (true, "2420c4b9017ab7a2aa0506516bbdc869b2ec3fea60dce07c915845178679f8a2"), looks := true }, kinds := [], alts := [], laidByText := true, laidKinds := [.data, .data, .data, .data, .pinned], laidTests := true, laidLooks := .later }
def RowChecksUptoCardSaid : Prop := Claim7.holds Tryd.pinned (.plain (OpenSpec.upto rowChecksSpec)) rowChecksUptoCard

/-- THE SECOND FORM's CARD OF 'penstocklaw02.RowWritten'. -/
def rowWrittenUptoCard : Claim7 := { stood := { row := rowWrittenUptoRow, standIns := [], harness := (true, "2420c4b9017ab7a2aa0506516bbdc869b2ec3fea60dce07c915845178679f8a2"), looks := true }, kinds := [], alts := [], laidByText := true, laidKinds := [.data, .data, .data, .data, .sentinel, .sentinel, .pinned], laidTests := true, laidLooks := .later }
def RowWrittenUptoCardSaid : Prop := Claim7.holds Tryd.pinned (.plain (OpenSpec.upto rowWrittenSpec)) rowWrittenUptoCard
end Rows
end Go.Proofs.YtngeioghihbkeaaDoor
