/-
  DERIVED. GIVEN WITH THE SEED: THE CARDS: each row of YtdbbpibfejchfaaGreatDoorRows.lean that lists a variable, with what it lists TIED to the program's text (the seventh form; the later family's looks); each row that meets fmt, with fmt's text TOLD by the authors' own Lean function (tested against real Go, not proved from fmt's source: count such statements apart). THE CARD IS WHAT COUNTS. Prove the row's statement (the work); the ties are given (YtdbbpibfejchfaaGreatDoorTie.lean); close each card by the builder's one call (the guide's Derived/Test/ToyasCard.lean, 'card_holds'). Laid BY PROGRAM, IN A SANDBOX (cutbox-door.mjs). By AI agents, Wed Nov 11 2026. No macro, syntax, notation, axiom, sorry.
-/
import Derived.Test.YtdbbpibfejchfaaGreatDoorRows
import GoSem.ClaimSeven
namespace Go.Proofs.YtdbbpibfejchfaaGreatDoor
namespace Rows

/-- THE TIED CARD OF 'filespacelaw20.WindowCalls'. -/
def windowCallsCard : Claim7 := { stood := { row := windowCallsRow, standIns := [], harness := (true, "a9ac7cd3208657b518f8d424affa055a1f249127107ec0bae80c93f7c96d4e61"), looks := false }, kinds := [], alts := [], laidByText := true, laidKinds := [.data, .data, .data], laidTests := true, laidLooks := .later }
def WindowCallsCardSaid : Prop := Claim7.holds Tryz.pinned (.plain (OpenSpec.ofChange windowCallsSpec)) windowCallsCard

/-- THE TIED CARD OF 'filespacelaw20.WindowPlays'. -/
def windowPlaysCard : Claim7 := { stood := { row := windowPlaysRow, standIns := [], harness := (true, "a9ac7cd3208657b518f8d424affa055a1f249127107ec0bae80c93f7c96d4e61"), looks := false }, kinds := [], alts := [], laidByText := true, laidKinds := [.data, .data, .data], laidTests := true, laidLooks := .later }
def WindowPlaysCardSaid : Prop := Claim7.holds Tryz.pinned (.plain (OpenSpec.ofChange windowPlaysSpec)) windowPlaysCard

/-- THE SECOND FORM's CARD OF 'filespacelaw20.WindowCalls'. -/
def windowCallsUptoCard : Claim7 := { stood := { row := windowCallsUptoRow, standIns := [], harness := (true, "a9ac7cd3208657b518f8d424affa055a1f249127107ec0bae80c93f7c96d4e61"), looks := false }, kinds := [], alts := [], laidByText := true, laidKinds := [.data, .data, .data], laidTests := true, laidLooks := .later }
def WindowCallsUptoCardSaid : Prop := Claim7.holds Tryz.pinned (.plain (OpenSpec.upto windowCallsSpec)) windowCallsUptoCard

/-- THE SECOND FORM's CARD OF 'filespacelaw20.WindowPlays'. -/
def windowPlaysUptoCard : Claim7 := { stood := { row := windowPlaysUptoRow, standIns := [], harness := (true, "a9ac7cd3208657b518f8d424affa055a1f249127107ec0bae80c93f7c96d4e61"), looks := false }, kinds := [], alts := [], laidByText := true, laidKinds := [.data, .data, .data], laidTests := true, laidLooks := .later }
def WindowPlaysUptoCardSaid : Prop := Claim7.holds Tryz.pinned (.plain (OpenSpec.upto windowPlaysSpec)) windowPlaysUptoCard
end Rows
end Go.Proofs.YtdbbpibfejchfaaGreatDoor
