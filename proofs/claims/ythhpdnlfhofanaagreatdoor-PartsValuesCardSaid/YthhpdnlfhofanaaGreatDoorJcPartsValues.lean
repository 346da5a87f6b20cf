/- PartsValues: closed facts of its row. -/
import Derived.Test.YthhpdnlfhofanaaGreatDoorJfP
namespace Go.Proofs.YthhpdnlfhofanaaGreatDoor
open Go.ChangeShapes Go.WideShapes Go.ChangeAt Go.RowKit
set_option maxRecDepth 100000
theorem partsValues_inPlace : (Rows.partsValuesRow.inPlace == Tryz.prog.inPlace 5) = true := by kernel_rfl
theorem partsValues_unfollowed : (Rows.partsValuesRow.unfollowed == Tryz.prog.unfollowed 5) = true := by kernel_rfl
theorem partsValues_recurses : (Rows.partsValuesRow.recurses == Tryz.prog.recurses 5) = true := by kernel_rfl
theorem partsValues_named : (Rows.partsValuesRow.named == Tryz.prog.varsNamed 5) = true := by kernel_rfl
theorem partsValues_closed : joinedFacts Tryz.prog 5 Tryz.f5 Rows.partsValuesSpec Rows.partsValuesRow = true := by
  unfold joinedFacts
  refine and_t (and_t (and_t (and_t (and_t (and_t (and_t (and_t (and_t (and_t (and_t (and_t (and_t (and_t (and_t (and_t (and_t (and_t (and_t (and_t (and_t (and_t (and_t (and_t (and_t (and_t (and_t (and_t (and_t (and_t (and_t ?_ ?_) ?_) ?_) ?_) ?_) ?_) ?_) ?_) ?_) ?_) ?_) ?_) ?_) ?_) ?_) ?_) ?_) ?_) ?_) ?_) ?_) ?_) ?_) ?_) ?_) ?_) ?_) ?_) ?_) ?_) ?_
  · as_aux_lemma => kernel_rfl
  · exact jf_laidOut
  · exact jf_mapsRowed
  · as_aux_lemma => kernel_rfl
  · as_aux_lemma => kernel_rfl
  · as_aux_lemma => kernel_rfl
  · exact jf_stops
  · as_aux_lemma => kernel_rfl
  · exact jf_stopKnobs
  · exact partsValues_inPlace
  · exact partsValues_unfollowed
  · exact partsValues_recurses
  · exact partsValues_named
  · as_aux_lemma => kernel_rfl
  · as_aux_lemma => kernel_rfl
  · as_aux_lemma => kernel_rfl
  · as_aux_lemma => kernel_rfl
  · as_aux_lemma => kernel_rfl
  · as_aux_lemma => kernel_rfl
  · as_aux_lemma => kernel_rfl
  · as_aux_lemma => kernel_rfl
  · as_aux_lemma => kernel_rfl
  · rw [jf_plainKeys]; kernel_rfl
  · as_aux_lemma => kernel_rfl
  · exact jf_stopsHeard
  · exact jf_mayEnter
  · rw [jf_lifts]; kernel_rfl
  · rw [jf_make]; kernel_rfl
  · as_aux_lemma => kernel_rfl
  · as_aux_lemma => kernel_rfl
  · as_aux_lemma => kernel_rfl
  · as_aux_lemma => kernel_rfl
theorem partsValues_wf : Rows.partsValuesRow.wfByText (OpenSpec.ofChange Rows.partsValuesSpec) = true := by kernel_rfl
theorem partsValues_fn : Tryz.prog.funcNamed Rows.partsValuesRow.func = some 5 := by kernel_rfl
end Go.Proofs.YthhpdnlfhofanaaGreatDoor
