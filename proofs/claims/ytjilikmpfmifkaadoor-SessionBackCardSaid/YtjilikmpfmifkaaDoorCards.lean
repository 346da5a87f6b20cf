/-
  DERIVED. GIVEN WITH THE SEED: THE CARDS: each row of YtjilikmpfmifkaaDoorRows.lean that lists a variable, with what it lists TIED to the program's text (the seventh form; the later family's looks); each row that meets fmt, with fmt's text TOLD by the authors' own Lean function (tested against real Go, not proved from fmt's source: count such statements apart). THE CARD IS WHAT COUNTS. Prove the row's statement (the work); the ties are given (YtjilikmpfmifkaaDoorTie.lean); close each card by the builder's one call (the guide's Derived/Test/ToyasCard.lean, 'card_holds'). Laid BY PROGRAM, IN A SANDBOX (cutbox-door.mjs). By AI agents, Wed Nov 11 2026. No macro, syntax, notation, axiom, sorry.
-/
import Derived.Test.YtjilikmpfmifkaaDoorRows
import GoSem.ClaimSeven
namespace Go.Proofs.YtjilikmpfmifkaaDoor
namespace Rows

/-- THE TIED CARD OF 'filespacelaw35.SessionRight'. -/
def sessionRightCard : Claim7 := { stood := { row := sessionRightRow, standIns := [], harness := (true, "90c009121d436006e89f784dc12cc95d188c1b802582102c1ea72ed9795b530b"), looks := false }, kinds := [], alts := [], laidByText := true, laidKinds := [.data, .data, .data], laidTests := true, laidLooks := .later }
def SessionRightCardSaid : Prop := Claim7.holds Tryd.pinned (.plain (OpenSpec.ofChange sessionRightSpec)) sessionRightCard

/-- THE TIED CARD OF 'filespacelaw35.SessionNames'. -/
def sessionNamesCard : Claim7 := { stood := { row := sessionNamesRow, standIns := [], harness := (true, "90c009121d436006e89f784dc12cc95d188c1b802582102c1ea72ed9795b530b"), looks := false }, kinds := [], alts := [], laidByText := true, laidKinds := [.data, .data, .data], laidTests := true, laidLooks := .later }
def SessionNamesCardSaid : Prop := Claim7.holds Tryd.pinned (.plain (OpenSpec.ofChange sessionNamesSpec)) sessionNamesCard

/-- THE TIED CARD OF 'filespacelaw35.SessionKeeps'. -/
def sessionKeepsCard : Claim7 := { stood := { row := sessionKeepsRow, standIns := [], harness := (true, "90c009121d436006e89f784dc12cc95d188c1b802582102c1ea72ed9795b530b"), looks := false }, kinds := [], alts := [], laidByText := true, laidKinds := [.data, .data, .data], laidTests := true, laidLooks := .later }
def SessionKeepsCardSaid : Prop := Claim7.holds Tryd.pinned (.plain (OpenSpec.ofChange sessionKeepsSpec)) sessionKeepsCard

/-- THE TIED CARD OF 'filespacelaw35.SessionEnds'. -/
def sessionEndsCard : Claim7 := { stood := { row := sessionEndsRow, standIns := [], harness := (true, "90c009121d436006e89f784dc12cc95d188c1b802582102c1ea72ed9795b530b"), looks := false }, kinds := [], alts := [], laidByText := true, laidKinds := [.data, .data, .data], laidTests := true, laidLooks := .later }
def SessionEndsCardSaid : Prop := Claim7.holds Tryd.pinned (.plain (OpenSpec.ofChange sessionEndsSpec)) sessionEndsCard

/-- THE TIED CARD OF 'filespacelaw35.SessionBack'. -/
def sessionBackCard : Claim7 := { stood := { row := sessionBackRow, standIns := [], harness := (true, "90c009121d436006e89f784dc12cc95d188c1b802582102c1ea72ed9795b530b"), looks := false }, kinds := [], alts := [], laidByText := true, laidKinds := [.data, .data, .data], laidTests := true, laidLooks := .later }
def SessionBackCardSaid : Prop := Claim7.holds Tryd.pinned (.plain (OpenSpec.ofChange sessionBackSpec)) sessionBackCard

/-- THE TIED CARD OF 'filespacelaw35.SessionVersions'. -/
def sessionVersionsCard : Claim7 := { stood := { row := sessionVersionsRow, standIns := [], harness := (true, "90c009121d436006e89f784dc12cc95d188c1b802582102c1ea72ed9795b530b"), looks := false }, kinds := [], alts := [], laidByText := true, laidKinds := [.data, .data, .data], laidTests := true, laidLooks := .later }
def SessionVersionsCardSaid : Prop := Claim7.holds Tryd.pinned (.plain (OpenSpec.ofChange sessionVersionsSpec)) sessionVersionsCard

/-- THE SECOND FORM's CARD OF 'filespacelaw35.SessionRight'. -/
def sessionRightUptoCard : Claim7 := { stood := { row := sessionRightUptoRow, standIns := [], harness := (true, "90c009121d436006e89f784dc12cc95d188c1b802582102c1ea72ed9795b530b"), looks := false }, kinds := [], alts := [], laidByText := true, laidKinds := [.data, .data, .data], laidTests := true, laidLooks := .later }
def SessionRightUptoCardSaid : Prop := Claim7.holds Tryd.pinned (.plain (OpenSpec.upto sessionRightSpec)) sessionRightUptoCard

/-- THE SECOND FORM's CARD OF 'filespacelaw35.SessionNames'. -/
def sessionNamesUptoCard : Claim7 := { stood := { row := sessionNamesUptoRow, standIns := [], harness := (true, "90c009121d436006e89f784dc12cc95d188c1b802582102c1ea72ed9795b530b"), looks := false }, kinds := [], alts := [], laidByText := true, laidKinds := [.data, .data, .data], laidTests := true, laidLooks := .later }
def SessionNamesUptoCardSaid : Prop := Claim7.holds Tryd.pinned (.plain (OpenSpec.upto sessionNamesSpec)) sessionNamesUptoCard

/-- THE SECOND FORM's CARD OF 'filespacelaw35.SessionKeeps'. -/
def sessionKeepsUptoCard : Claim7 := { stood := { row := sessionKeepsUptoRow, standIns := [], harness := (true, "90c009121d436006e89f784dc12cc95d188c1b802582102c1ea72ed9795b530b"), looks := false }, kinds := [], alts := [], laidByText := true, laidKinds := [.data, .data, .data], laidTests := true, laidLooks := .later }
def SessionKeepsUptoCardSaid : Prop := Claim7.holds Tryd.pinned (.plain (OpenSpec.upto sessionKeepsSpec)) sessionKeepsUptoCard

/-- THE SECOND FORM's CARD OF 'filespacelaw35.SessionEnds'. -/
def sessionEndsUptoCard : Claim7 := { stood := { row := sessionEndsUptoRow, standIns := [], harness := (true, "90c009121d436006e89f784dc12cc95d188c1b802582102c1ea72ed9795b530b"), looks := false }, kinds := [], alts := [], laidByText := true, laidKinds := [.data, .data, .data], laidTests := true, laidLooks := .later }
def SessionEndsUptoCardSaid : Prop := Claim7.holds Tryd.pinned (.plain (OpenSpec.upto sessionEndsSpec)) sessionEndsUptoCard

/-- THE SECOND FORM's CARD OF 'filespacelaw35.SessionBack'. -/
def sessionBackUptoCard : Claim7 := { stood := { row := sessionBackUptoRow, standIns := [], harness := (true, "90c009121d436006e89f784dc12cc95d188c1b802582102c1ea72ed9795b530b"), looks := false }, kinds := [], alts := [], laidByText := true, laidKinds := [.data, .data, .data], laidTests := true, laidLooks := .later }
def SessionBackUptoCardSaid : Prop := Claim7.holds Tryd.pinned (.plain (OpenSpec.upto sessionBackSpec)) sessionBackUptoCard

/-- THE SECOND FORM's CARD OF 'filespacelaw35.SessionVersions'. -/
def sessionVersionsUptoCard : Claim7 := { stood := { row := sessionVersionsUptoRow, standIns := [], harness := (true, "90c009121d436006e89f784dc12cc95d188c1b802582102c1ea72ed9795b530b"), looks := false }, kinds := [], alts := [], laidByText := true, laidKinds := [.data, .data, .data], laidTests := true, laidLooks := .later }
def SessionVersionsUptoCardSaid : Prop := Claim7.holds Tryd.pinned (.plain (OpenSpec.upto sessionVersionsSpec)) sessionVersionsUptoCard
end Rows
end Go.Proofs.YtjilikmpfmifkaaDoor
