/-
  DERIVED. GIVEN WITH THE SEED: THE CARDS: each row of YtfeoeiphlgakcaaDoorRows.lean that lists a variable, with what it lists TIED to the program's text (the seventh form; the later family's looks); each row that meets fmt, with fmt's text TOLD by the authors' own Lean function (tested against real Go, not proved from fmt's source: count such statements apart). THE CARD IS WHAT COUNTS. Prove the row's statement (the work); the ties are given (YtfeoeiphlgakcaaDoorTie.lean); close each card by the builder's one call (the guide's Derived/Test/ToyasCard.lean, 'card_holds'). Laid BY PROGRAM, IN A SANDBOX (cutbox-door.mjs). By AI agents, Wed Nov 11 2026. No macro, syntax, notation, axiom, sorry.
-/
import Derived.Test.YtfeoeiphlgakcaaDoorRows
import GoSem.ClaimSeven
namespace Go.Proofs.YtfeoeiphlgakcaaDoor
namespace Rows

/-- THE TIED CARD OF 'filespacelaw01.NumTexts'. -/
def numTextsCard : Claim7 := { stood := { row := numTextsRow, standIns := [], harness := (true, "556a75d914a9b72b28426c8cce49bc92f9595ddbf1a276d4f9cbd5016c852b60"), looks := false }, kinds := [], alts := [], laidByText := true, laidKinds := [.data, .data, .data], laidTests := true, laidLooks := .later }
def NumTextsCardSaid : Prop := Claim7.holds Tryd.pinned (.plain (OpenSpec.ofChange numTextsSpec)) numTextsCard

/-- THE TIED CARD OF 'filespacelaw01.NumParses'. -/
def numParsesCard : Claim7 := { stood := { row := numParsesRow, standIns := [], harness := (true, "556a75d914a9b72b28426c8cce49bc92f9595ddbf1a276d4f9cbd5016c852b60"), looks := false }, kinds := [], alts := [], laidByText := true, laidKinds := [.data, .data, .data], laidTests := true, laidLooks := .later }
def NumParsesCardSaid : Prop := Claim7.holds Tryd.pinned (.plain (OpenSpec.ofChange numParsesSpec)) numParsesCard

/-- THE TIED CARD OF 'filespacelaw01.NumInverse'. -/
def numInverseCard : Claim7 := { stood := { row := numInverseRow, standIns := [], harness := (true, "556a75d914a9b72b28426c8cce49bc92f9595ddbf1a276d4f9cbd5016c852b60"), looks := false }, kinds := [], alts := [], laidByText := true, laidKinds := [.data, .data, .data], laidTests := true, laidLooks := .later }
def NumInverseCardSaid : Prop := Claim7.holds Tryd.pinned (.plain (OpenSpec.ofChange numInverseSpec)) numInverseCard

/-- THE TIED CARD OF 'filespacelaw01.NumCanonical'. -/
def numCanonicalCard : Claim7 := { stood := { row := numCanonicalRow, standIns := [], harness := (true, "556a75d914a9b72b28426c8cce49bc92f9595ddbf1a276d4f9cbd5016c852b60"), looks := false }, kinds := [], alts := [], laidByText := true, laidKinds := [.data, .data, .data], laidTests := true, laidLooks := .later }
def NumCanonicalCardSaid : Prop := Claim7.holds Tryd.pinned (.plain (OpenSpec.ofChange numCanonicalSpec)) numCanonicalCard

/-- THE TIED CARD OF 'filespacelaw01.NumFields'. -/
def numFieldsCard : Claim7 := { stood := { row := numFieldsRow, standIns := [], harness := (true, "556a75d914a9b72b28426c8cce49bc92f9595ddbf1a276d4f9cbd5016c852b60"), looks := false }, kinds := [], alts := [], laidByText := true, laidKinds := [.data, .data, .data], laidTests := true, laidLooks := .later }
def NumFieldsCardSaid : Prop := Claim7.holds Tryd.pinned (.plain (OpenSpec.ofChange numFieldsSpec)) numFieldsCard

/-- THE TIED CARD OF 'filespacelaw01.NumAdds'. -/
def numAddsCard : Claim7 := { stood := { row := numAddsRow, standIns := [], harness := (true, "556a75d914a9b72b28426c8cce49bc92f9595ddbf1a276d4f9cbd5016c852b60"), looks := false }, kinds := [], alts := [], laidByText := true, laidKinds := [.data, .data, .data], laidTests := true, laidLooks := .later }
def NumAddsCardSaid : Prop := Claim7.holds Tryd.pinned (.plain (OpenSpec.ofChange numAddsSpec)) numAddsCard

/-- THE SECOND FORM's CARD OF 'filespacelaw01.NumTexts'. -/
def numTextsUptoCard : Claim7 := { stood := { row := numTextsUptoRow, standIns := [], harness := (true, "556a75d914a9b72b28426c8cce49bc92f9595ddbf1a276d4f9cbd5016c852b60"), looks := false }, kinds := [], alts := [], laidByText := true, laidKinds := [.data, .data, .data], laidTests := true, laidLooks := .later }
def NumTextsUptoCardSaid : Prop := Claim7.holds Tryd.pinned (.plain (OpenSpec.upto numTextsSpec)) numTextsUptoCard

/-- THE SECOND FORM's CARD OF 'filespacelaw01.NumParses'. -/
def numParsesUptoCard : Claim7 := { stood := { row := numParsesUptoRow, standIns := [], harness := (true, "556a75d914a9b72b28426c8cce49bc92f9595ddbf1a276d4f9cbd5016c852b60"), looks := false }, kinds := [], alts := [], laidByText := true, laidKinds := [.data, .data, .data], laidTests := true, laidLooks := .later }
def NumParsesUptoCardSaid : Prop := Claim7.holds Tryd.pinned (.plain (OpenSpec.upto numParsesSpec)) numParsesUptoCard

/-- THE SECOND FORM's CARD OF 'filespacelaw01.NumInverse'. -/
def numInverseUptoCard : Claim7 := { stood := { row := numInverseUptoRow, standIns := [], harness := (true, "556a75d914a9b72b28426c8cce49bc92f9595ddbf1a276d4f9cbd5016c852b60"), looks := false }, kinds := [], alts := [], laidByText := true, laidKinds := [.data, .data, .data], laidTests := true, laidLooks := .later }
def NumInverseUptoCardSaid : Prop := Claim7.holds Tryd.pinned (.plain (OpenSpec.upto numInverseSpec)) numInverseUptoCard

/-- THE SECOND FORM's CARD OF 'filespacelaw01.NumCanonical'. -/
def numCanonicalUptoCard : Claim7 := { stood := { row := numCanonicalUptoRow, standIns := [], harness := (true, "556a75d914a9b72b28426c8cce49bc92f9595ddbf1a276d4f9cbd5016c852b60"), looks := false }, kinds := [], alts := [], laidByText := true, laidKinds := [.data, .data, .data], laidTests := true, laidLooks := .later }
def NumCanonicalUptoCardSaid : Prop := Claim7.holds Tryd.pinned (.plain (OpenSpec.upto numCanonicalSpec)) numCanonicalUptoCard

/-- THE SECOND FORM's CARD OF 'filespacelaw01.NumFields'. -/
def numFieldsUptoCard : Claim7 := { stood := { row := numFieldsUptoRow, standIns := [], harness := (true, "556a75d914a9b72b28426c8cce49bc92f9595ddbf1a276d4f9cbd5016c852b60"), looks := false }, kinds := [], alts := [], laidByText := true, laidKinds := [.data, .data, .data], laidTests := true, laidLooks := .later }
def NumFieldsUptoCardSaid : Prop := Claim7.holds Tryd.pinned (.plain (OpenSpec.upto numFieldsSpec)) numFieldsUptoCard

/-- THE SECOND FORM's CARD OF 'filespacelaw01.NumAdds'. -/
def numAddsUptoCard : Claim7 := { stood := { row := numAddsUptoRow, standIns := [], harness := (true, "556a75d914a9b72b28426c8cce49bc92f9595ddbf1a276d4f9cbd5016c852b60"), looks := false }, kinds := [], alts := [], laidByText := true, laidKinds := [.data, .data, .data], laidTests := true, laidLooks := .later }
def NumAddsUptoCardSaid : Prop := Claim7.holds Tryd.pinned (.plain (OpenSpec.upto numAddsSpec)) numAddsUptoCard
end Rows
end Go.Proofs.YtfeoeiphlgakcaaDoor
