/-
  DERIVED. GIVEN WITH THE SEED: THE CARDS: each row of YtdbbpibfejchfaaDoorRows.lean that lists a variable, with what it lists TIED to the program's text (the seventh form; the later family's looks); each row that meets fmt, with fmt's text TOLD by the authors' own Lean function (tested against real Go, not proved from fmt's source: count such statements apart). THE CARD IS WHAT COUNTS. Prove the row's statement (the work); the ties are given (YtdbbpibfejchfaaDoorTie.lean); close each card by the builder's one call (the guide's Derived/Test/ToyasCard.lean, 'card_holds'). Laid BY PROGRAM, IN A SANDBOX (cutbox-door.mjs). By AI agents, Wed Nov 11 2026. No macro, syntax, notation, axiom, sorry.
-/
import Derived.Test.YtdbbpibfejchfaaDoorRows
import GoSem.ClaimSeven
namespace Go.Proofs.YtdbbpibfejchfaaDoor
namespace Rows

/-- THE TIED CARD OF 'filespacelaw20.WindowRight'. -/
def windowRightCard : Claim7 := { stood := { row := windowRightRow, standIns := [], harness := (true, "92df207f3c81712f83d2bc95d3cf3c2cfb9dd9c4a59538cd1dd0f3faefd89202"), looks := false }, kinds := [], alts := [], laidByText := true, laidKinds := [.data, .data, .data], laidTests := true, laidLooks := .later }
def WindowRightCardSaid : Prop := Claim7.holds Tryd.pinned (.plain (OpenSpec.ofChange windowRightSpec)) windowRightCard

/-- THE TIED CARD OF 'filespacelaw20.WindowTyped'. -/
def windowTypedCard : Claim7 := { stood := { row := windowTypedRow, standIns := [], harness := (true, "92df207f3c81712f83d2bc95d3cf3c2cfb9dd9c4a59538cd1dd0f3faefd89202"), looks := false }, kinds := [], alts := [], laidByText := true, laidKinds := [.data, .data, .data], laidTests := true, laidLooks := .later }
def WindowTypedCardSaid : Prop := Claim7.holds Tryd.pinned (.plain (OpenSpec.ofChange windowTypedSpec)) windowTypedCard

/-- THE TIED CARD OF 'filespacelaw20.WindowApart'. -/
def windowApartCard : Claim7 := { stood := { row := windowApartRow, standIns := [], harness := (true, "92df207f3c81712f83d2bc95d3cf3c2cfb9dd9c4a59538cd1dd0f3faefd89202"), looks := false }, kinds := [], alts := [], laidByText := true, laidKinds := [.data, .data, .data], laidTests := true, laidLooks := .later }
def WindowApartCardSaid : Prop := Claim7.holds Tryd.pinned (.plain (OpenSpec.ofChange windowApartSpec)) windowApartCard

/-- THE TIED CARD OF 'filespacelaw20.WindowBlocks'. -/
def windowBlocksCard : Claim7 := { stood := { row := windowBlocksRow, standIns := [], harness := (true, "92df207f3c81712f83d2bc95d3cf3c2cfb9dd9c4a59538cd1dd0f3faefd89202"), looks := false }, kinds := [], alts := [], laidByText := true, laidKinds := [.data, .data, .data], laidTests := true, laidLooks := .later }
def WindowBlocksCardSaid : Prop := Claim7.holds Tryd.pinned (.plain (OpenSpec.ofChange windowBlocksSpec)) windowBlocksCard

/-- THE TIED CARD OF 'filespacelaw20.WindowReads'. -/
def windowReadsCard : Claim7 := { stood := { row := windowReadsRow, standIns := [], harness := (true, "92df207f3c81712f83d2bc95d3cf3c2cfb9dd9c4a59538cd1dd0f3faefd89202"), looks := false }, kinds := [], alts := [], laidByText := true, laidKinds := [.data, .data, .data], laidTests := true, laidLooks := .later }
def WindowReadsCardSaid : Prop := Claim7.holds Tryd.pinned (.plain (OpenSpec.ofChange windowReadsSpec)) windowReadsCard

/-- THE SECOND FORM's CARD OF 'filespacelaw20.WindowRight'. -/
def windowRightUptoCard : Claim7 := { stood := { row := windowRightUptoRow, standIns := [], harness := (true, "92df207f3c81712f83d2bc95d3cf3c2cfb9dd9c4a59538cd1dd0f3faefd89202"), looks := false }, kinds := [], alts := [], laidByText := true, laidKinds := [.data, .data, .data], laidTests := true, laidLooks := .later }
def WindowRightUptoCardSaid : Prop := Claim7.holds Tryd.pinned (.plain (OpenSpec.upto windowRightSpec)) windowRightUptoCard

/-- THE SECOND FORM's CARD OF 'filespacelaw20.WindowTyped'. -/
def windowTypedUptoCard : Claim7 := { stood := { row := windowTypedUptoRow, standIns := [], harness := (true, "92df207f3c81712f83d2bc95d3cf3c2cfb9dd9c4a59538cd1dd0f3faefd89202"), looks := false }, kinds := [], alts := [], laidByText := true, laidKinds := [.data, .data, .data], laidTests := true, laidLooks := .later }
def WindowTypedUptoCardSaid : Prop := Claim7.holds Tryd.pinned (.plain (OpenSpec.upto windowTypedSpec)) windowTypedUptoCard

/-- THE SECOND FORM's CARD OF 'filespacelaw20.WindowApart'. -/
def windowApartUptoCard : Claim7 := { stood := { row := windowApartUptoRow, standIns := [], harness := (true, "92df207f3c81712f83d2bc95d3cf3c2cfb9dd9c4a59538cd1dd0f3faefd89202"), looks := false }, kinds := [], alts := [], laidByText := true, laidKinds := [.data, .data, .data], laidTests := true, laidLooks := .later }
def WindowApartUptoCardSaid : Prop := Claim7.holds Tryd.pinned (.plain (OpenSpec.upto windowApartSpec)) windowApartUptoCard

/-- THE SECOND FORM's CARD OF 'filespacelaw20.WindowBlocks'. -/
def windowBlocksUptoCard : Claim7 := { stood := { row := windowBlocksUptoRow, standIns := [], harness := (true, "92df207f3c81712f83d2bc95d3cf3c2cfb9dd9c4a59538cd1dd0f3faefd89202"), looks := false }, kinds := [], alts := [], laidByText := true, laidKinds := [.data, .data, .data], laidTests := true, laidLooks := .later }
def WindowBlocksUptoCardSaid : Prop := Claim7.holds Tryd.pinned (.plain (OpenSpec.upto windowBlocksSpec)) windowBlocksUptoCard

/-- THE SECOND FORM's CARD OF 'filespacelaw20.WindowReads'. -/
def windowReadsUptoCard : Claim7 := { stood := { row := windowReadsUptoRow, standIns := [], harness := (true, "92df207f3c81712f83d2bc95d3cf3c2cfb9dd9c4a59538cd1dd0f3faefd89202"), looks := false }, kinds := [], alts := [], laidByText := true, laidKinds := [.data, .data, .data], laidTests := true, laidLooks := .later }
def WindowReadsUptoCardSaid : Prop := Claim7.holds Tryd.pinned (.plain (OpenSpec.upto windowReadsSpec)) windowReadsUptoCard
end Rows
end Go.Proofs.YtdbbpibfejchfaaDoor
