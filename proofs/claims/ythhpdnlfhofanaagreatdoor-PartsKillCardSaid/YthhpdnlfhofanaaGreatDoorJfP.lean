/- What the frame of a row asks of the whole program: closed facts, each by itself. -/
import Derived.Test.YthhpdnlfhofanaaGreatDoorCards
import Derived.Test.YthhpdnlfhofanaaGreatDoorTie
import Derived.JoinedOf
import Derived.ProofKit
namespace Go.Proofs.YthhpdnlfhofanaaGreatDoor
open Go.ChangeShapes Go.WideShapes Go.ChangeAt Go.RowKit
set_option maxRecDepth 100000
theorem and_t {a b : Bool} (ha : a = true) (hb : b = true) : (a && b) = true := by rw [ha, hb]; rfl
theorem jf_laidOut : laidOutB Tryz.prog = true := by kernel_rfl
theorem jf_mapsRowed : mapsRowed Tryz.prog = true := by kernel_rfl
theorem jf_stops : (Tryz.prog.stops == []) = true := by kernel_rfl
theorem jf_stopKnobs : (Tryz.prog.stopKnobs == []) = true := by kernel_rfl
theorem jf_plainKeys : Tryz.prog.plainKeys = Rows.partsTypedRow.plainKeys := by kernel_rfl
theorem jf_stopsHeard : Tryz.prog.stopsHeard = true := by kernel_rfl
theorem jf_mayEnter : Tryz.prog.mayEnter = true := by kernel_rfl
theorem jf_lifts : Tryz.prog.liftsFinal = Rows.partsTypedRow.lifted := by kernel_rfl
theorem jf_make : Tryz.prog.make = some Rows.partsTypedRow.make := by kernel_rfl
theorem jf_mainIs : Tryz.pinned.checked.prog.mainIs = some (true, Rows.partsTypedCard.stood.harness.2.toList) := by kernel_rfl
theorem jf_looks : true = Tryz.pinned.checked.prog.looks [] := by kernel_rfl
end Go.Proofs.YthhpdnlfhofanaaGreatDoor
