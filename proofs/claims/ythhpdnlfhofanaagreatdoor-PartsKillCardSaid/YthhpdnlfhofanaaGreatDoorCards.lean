/-
  DERIVED. GIVEN WITH THE SEED: THE CARDS: each row of YthhpdnlfhofanaaGreatDoorRows.lean that lists a variable, with what it lists TIED to the program's text (the seventh form; the later family's looks); each row that meets fmt, with fmt's text TOLD by the authors' own Lean function (tested against real Go, not proved from fmt's source: count such statements apart). THE CARD IS WHAT COUNTS. Prove the row's statement (the work); the ties are given (YthhpdnlfhofanaaGreatDoorTie.lean); close each card by the builder's one call (the guide's Derived/Test/ToyasCard.lean, 'card_holds'). Laid BY PROGRAM, IN A SANDBOX (cutbox-door.mjs). By AI agents, Wed Nov 11 2026. No macro, syntax, notation, axiom, sorry.
-/
import Derived.Test.YthhpdnlfhofanaaGreatDoorRows
import GoSem.ClaimSeven
namespace Go.Proofs.YthhpdnlfhofanaaGreatDoor
namespace Rows

/-- THE TIED CARD OF 'filespacetop.PartsTyped'. -/
def partsTypedCard : Claim7 := { stood := { row := partsTypedRow, standIns := [], harness := (true, "a5fdb6016f85607db237f470be4ec219fbeb2ef1a2c738e210011ef9fc6e86a6"), looks := true }, kinds := [], alts := [], laidByText := true, laidKinds := [.data, .data, .data, .data, .sentinel, .sentinel, .pinned], laidTests := true, laidLooks := .later }
def PartsTypedCardSaid : Prop := Claim7.holds Tryz.pinned (.plain (OpenSpec.ofChange partsTypedSpec)) partsTypedCard

/-- THE TIED CARD OF 'filespacetop.PartsKill'. -/
def partsKillCard : Claim7 := { stood := { row := partsKillRow, standIns := [], harness := (true, "a5fdb6016f85607db237f470be4ec219fbeb2ef1a2c738e210011ef9fc6e86a6"), looks := true }, kinds := [], alts := [], laidByText := true, laidKinds := [.data, .data, .data, .data, .sentinel, .sentinel, .pinned], laidTests := true, laidLooks := .later }
def PartsKillCardSaid : Prop := Claim7.holds Tryz.pinned (.plain (OpenSpec.ofChange partsKillSpec)) partsKillCard

/-- THE TIED CARD OF 'filespacetop.PartsValues'. -/
def partsValuesCard : Claim7 := { stood := { row := partsValuesRow, standIns := [], harness := (true, "a5fdb6016f85607db237f470be4ec219fbeb2ef1a2c738e210011ef9fc6e86a6"), looks := true }, kinds := [], alts := [], laidByText := true, laidKinds := [.data, .data, .data, .data, .sentinel, .sentinel, .pinned], laidTests := true, laidLooks := .later }
def PartsValuesCardSaid : Prop := Claim7.holds Tryz.pinned (.plain (OpenSpec.ofChange partsValuesSpec)) partsValuesCard

/-- THE TIED CARD OF 'filespacetop.PartsLeases'. -/
def partsLeasesCard : Claim7 := { stood := { row := partsLeasesRow, standIns := [], harness := (true, "a5fdb6016f85607db237f470be4ec219fbeb2ef1a2c738e210011ef9fc6e86a6"), looks := true }, kinds := [], alts := [], laidByText := true, laidKinds := [.data, .data, .data, .data, .sentinel, .sentinel, .pinned], laidTests := true, laidLooks := .later }
def PartsLeasesCardSaid : Prop := Claim7.holds Tryz.pinned (.plain (OpenSpec.ofChange partsLeasesSpec)) partsLeasesCard

/-- THE SECOND FORM's CARD OF 'filespacetop.PartsTyped'. -/
def partsTypedUptoCard : Claim7 := { stood := { row := partsTypedUptoRow, standIns := [], harness := (true, "a5fdb6016f85607db237f470be4ec219fbeb2ef1a2c738e210011ef9fc6e86a6"), looks := true }, kinds := [], alts := [], laidByText := true, laidKinds := [.data, .data, .data, .data, .sentinel, .sentinel, .pinned], laidTests := true, laidLooks := .later }
def PartsTypedUptoCardSaid : Prop := Claim7.holds Tryz.pinned (.plain (OpenSpec.upto partsTypedSpec)) partsTypedUptoCard

/-- THE SECOND FORM's CARD OF 'filespacetop.PartsKill'. -/
def partsKillUptoCard : Claim7 := { stood := { row := partsKillUptoRow, standIns := [], harness := (true, "a5fdb6016f85607db237f470be4ec219fbeb2ef1a2c738e210011ef9fc6e86a6"), looks := true }, kinds := [], alts := [], laidByText := true, laidKinds := [.data, .data, .data, .data, .sentinel, .sentinel, .pinned], laidTests := true, laidLooks := .later }
def PartsKillUptoCardSaid : Prop := Claim7.holds Tryz.pinned (.plain (OpenSpec.upto partsKillSpec)) partsKillUptoCard

/-- THE SECOND FORM's CARD OF 'filespacetop.PartsValues'. -/
def partsValuesUptoCard : Claim7 := { stood := { row := partsValuesUptoRow, standIns := [], harness := (true, "a5fdb6016f85607db237f470be4ec219fbeb2ef1a2c738e210011ef9fc6e86a6"), looks := true }, kinds := [], alts := [], laidByText := true, laidKinds := [.data, .data, .data, .data, .sentinel, .sentinel, .pinned], laidTests := true, laidLooks := .later }
def PartsValuesUptoCardSaid : Prop := Claim7.holds Tryz.pinned (.plain (OpenSpec.upto partsValuesSpec)) partsValuesUptoCard

/-- THE SECOND FORM's CARD OF 'filespacetop.PartsLeases'. -/
def partsLeasesUptoCard : Claim7 := { stood := { row := partsLeasesUptoRow, standIns := [], harness := (true, "a5fdb6016f85607db237f470be4ec219fbeb2ef1a2c738e210011ef9fc6e86a6"), looks := true }, kinds := [], alts := [], laidByText := true, laidKinds := [.data, .data, .data, .data, .sentinel, .sentinel, .pinned], laidTests := true, laidLooks := .later }
def PartsLeasesUptoCardSaid : Prop := Claim7.holds Tryz.pinned (.plain (OpenSpec.upto partsLeasesSpec)) partsLeasesUptoCard
end Rows
end Go.Proofs.YthhpdnlfhofanaaGreatDoor
