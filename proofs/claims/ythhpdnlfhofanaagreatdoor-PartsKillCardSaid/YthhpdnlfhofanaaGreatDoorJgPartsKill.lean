/- PartsKill: what its function comes to. -/
import Derived.Test.YthhpdnlfhofanaaGreatDoorCards
import Derived.ProofKit
namespace Go.Proofs.YthhpdnlfhofanaaGreatDoor
open Go.ChangeShapes Go.WideShapes Go.ChangeAt Go.RowKit
set_option maxRecDepth 100000
theorem partsKill_goes : false = Rows.partsKillRow.goesBy Tryz.pinned.checked.prog := by kernel_rfl
end Go.Proofs.YthhpdnlfhofanaaGreatDoor
