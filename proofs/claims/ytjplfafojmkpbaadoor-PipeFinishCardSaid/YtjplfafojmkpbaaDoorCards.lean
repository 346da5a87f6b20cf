/-
  DERIVED. GIVEN WITH THE SEED: THE CARDS: each row of YtjplfafojmkpbaaDoorRows.lean that lists a variable, with what it lists TIED to the program's text (the seventh form; the later family's looks); each row that meets fmt, with fmt's text TOLD by the authors' own Lean function (tested against real Go, not proved from fmt's source: count such statements apart). THE CARD IS WHAT COUNTS. Prove the row's statement (the work); the ties are given (YtjplfafojmkpbaaDoorTie.lean); close each card by the builder's one call (the guide's Derived/Test/ToyasCard.lean, 'card_holds'). Laid BY PROGRAM, IN A SANDBOX (cutbox-door.mjs). By AI agents, Wed Nov 11 2026. No macro, syntax, notation, axiom, sorry.
-/
import Derived.Test.YtjplfafojmkpbaaDoorRows
import GoSem.ClaimSeven
namespace Go.Proofs.YtjplfafojmkpbaaDoor
namespace Rows

/-- THE TIED CARD OF 'filespacelaw18.PipeCalls'. -/
def pipeCallsCard : Claim7 := { stood := { row := pipeCallsRow, standIns := [], harness := (true, "da974b99362ec4196962fea14885b8a3d5a139a0fa13693b5b36f9fea0a18e4e"), looks := false }, kinds := [], alts := [], laidByText := true, laidKinds := [.data, .data, .data], laidTests := true, laidLooks := .later }
def PipeCallsCardSaid : Prop := Claim7.holds Tryd.pinned (.plain (OpenSpec.ofChange pipeCallsSpec)) pipeCallsCard

/-- THE TIED CARD OF 'filespacelaw18.PipeKeeps'. -/
def pipeKeepsCard : Claim7 := { stood := { row := pipeKeepsRow, standIns := [], harness := (true, "da974b99362ec4196962fea14885b8a3d5a139a0fa13693b5b36f9fea0a18e4e"), looks := false }, kinds := [], alts := [], laidByText := true, laidKinds := [.data, .data, .data], laidTests := true, laidLooks := .later }
def PipeKeepsCardSaid : Prop := Claim7.holds Tryd.pinned (.plain (OpenSpec.ofChange pipeKeepsSpec)) pipeKeepsCard

/-- THE TIED CARD OF 'filespacelaw18.PipeOrder'. -/
def pipeOrderCard : Claim7 := { stood := { row := pipeOrderRow, standIns := [], harness := (true, "da974b99362ec4196962fea14885b8a3d5a139a0fa13693b5b36f9fea0a18e4e"), looks := false }, kinds := [], alts := [], laidByText := true, laidKinds := [.data, .data, .data], laidTests := true, laidLooks := .later }
def PipeOrderCardSaid : Prop := Claim7.holds Tryd.pinned (.plain (OpenSpec.ofChange pipeOrderSpec)) pipeOrderCard

/-- THE TIED CARD OF 'filespacelaw18.PipeFinish'. -/
def pipeFinishCard : Claim7 := { stood := { row := pipeFinishRow, standIns := [], harness := (true, "da974b99362ec4196962fea14885b8a3d5a139a0fa13693b5b36f9fea0a18e4e"), looks := false }, kinds := [], alts := [], laidByText := true, laidKinds := [.data, .data, .data], laidTests := true, laidLooks := .later }
def PipeFinishCardSaid : Prop := Claim7.holds Tryd.pinned (.plain (OpenSpec.ofChange pipeFinishSpec)) pipeFinishCard

/-- THE TIED CARD OF 'filespacelaw18.PipeFiles'. -/
def pipeFilesCard : Claim7 := { stood := { row := pipeFilesRow, standIns := [], harness := (true, "da974b99362ec4196962fea14885b8a3d5a139a0fa13693b5b36f9fea0a18e4e"), looks := false }, kinds := [], alts := [], laidByText := true, laidKinds := [.data, .data, .data], laidTests := true, laidLooks := .later }
def PipeFilesCardSaid : Prop := Claim7.holds Tryd.pinned (.plain (OpenSpec.ofChange pipeFilesSpec)) pipeFilesCard

/-- THE SECOND FORM's CARD OF 'filespacelaw18.PipeCalls'. -/
def pipeCallsUptoCard : Claim7 := { stood := { row := pipeCallsUptoRow, standIns := [], harness := (true, "da974b99362ec4196962fea14885b8a3d5a139a0fa13693b5b36f9fea0a18e4e"), looks := false }, kinds := [], alts := [], laidByText := true, laidKinds := [.data, .data, .data], laidTests := true, laidLooks := .later }
def PipeCallsUptoCardSaid : Prop := Claim7.holds Tryd.pinned (.plain (OpenSpec.upto pipeCallsSpec)) pipeCallsUptoCard

/-- THE SECOND FORM's CARD OF 'filespacelaw18.PipeKeeps'. -/
def pipeKeepsUptoCard : Claim7 := { stood := { row := pipeKeepsUptoRow, standIns := [], harness := (true, "da974b99362ec4196962fea14885b8a3d5a139a0fa13693b5b36f9fea0a18e4e"), looks := false }, kinds := [], alts := [], laidByText := true, laidKinds := [.data, .data, .data], laidTests := true, laidLooks := .later }
def PipeKeepsUptoCardSaid : Prop := Claim7.holds Tryd.pinned (.plain (OpenSpec.upto pipeKeepsSpec)) pipeKeepsUptoCard

/-- THE SECOND FORM's CARD OF 'filespacelaw18.PipeOrder'. -/
def pipeOrderUptoCard : Claim7 := { stood := { row := pipeOrderUptoRow, standIns := [], harness := (true, "da974b99362ec4196962fea14885b8a3d5a139a0fa13693b5b36f9fea0a18e4e"), looks := false }, kinds := [], alts := [], laidByText := true, laidKinds := [.data, .data, .data], laidTests := true, laidLooks := .later }
def PipeOrderUptoCardSaid : Prop := Claim7.holds Tryd.pinned (.plain (OpenSpec.upto pipeOrderSpec)) pipeOrderUptoCard

/-- THE SECOND FORM's CARD OF 'filespacelaw18.PipeFinish'. -/
def pipeFinishUptoCard : Claim7 := { stood := { row := pipeFinishUptoRow, standIns := [], harness := (true, "da974b99362ec4196962fea14885b8a3d5a139a0fa13693b5b36f9fea0a18e4e"), looks := false }, kinds := [], alts := [], laidByText := true, laidKinds := [.data, .data, .data], laidTests := true, laidLooks := .later }
def PipeFinishUptoCardSaid : Prop := Claim7.holds Tryd.pinned (.plain (OpenSpec.upto pipeFinishSpec)) pipeFinishUptoCard

/-- THE SECOND FORM's CARD OF 'filespacelaw18.PipeFiles'. -/
def pipeFilesUptoCard : Claim7 := { stood := { row := pipeFilesUptoRow, standIns := [], harness := (true, "da974b99362ec4196962fea14885b8a3d5a139a0fa13693b5b36f9fea0a18e4e"), looks := false }, kinds := [], alts := [], laidByText := true, laidKinds := [.data, .data, .data], laidTests := true, laidLooks := .later }
def PipeFilesUptoCardSaid : Prop := Claim7.holds Tryd.pinned (.plain (OpenSpec.upto pipeFilesSpec)) pipeFilesUptoCard
end Rows
end Go.Proofs.YtjplfafojmkpbaaDoor
