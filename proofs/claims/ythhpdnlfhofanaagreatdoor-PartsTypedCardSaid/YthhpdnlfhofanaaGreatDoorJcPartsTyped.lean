/- PartsTyped: closed facts of its row. -/
import Derived.Test.YthhpdnlfhofanaaGreatDoorJfP
namespace Go.Proofs.YthhpdnlfhofanaaGreatDoor
open Go.ChangeShapes Go.WideShapes Go.ChangeAt Go.RowKit
set_option maxRecDepth 100000
theorem partsTyped_inPlace : (Rows.partsTypedRow.inPlace == Tryz.prog.inPlace 3) = true := by kernel_rfl
theorem partsTyped_unfollowed : (Rows.partsTypedRow.unfollowed == Tryz.prog.unfollowed 3) = true := by kernel_rfl
theorem partsTyped_recurses : (Rows.partsTypedRow.recurses == Tryz.prog.recurses 3) = true := by kernel_rfl
theorem partsTyped_named : (Rows.partsTypedRow.named == Tryz.prog.varsNamed 3) = true := by kernel_rfl
theorem partsTyped_closed : joinedFacts Tryz.prog 3 Tryz.f3 Rows.partsTypedSpec Rows.partsTypedRow = true := by
  unfold joinedFacts
  refine and_t (and_t (and_t (and_t (and_t (and_t (and_t (and_t (and_t (and_t (and_t (and_t (and_t (and_t (and_t (and_t (and_t (and_t (and_t (and_t (and_t (and_t (and_t (and_t (and_t (and_t (and_t (and_t (and_t (and_t (and_t ?_ ?_) ?_) ?_) ?_) ?_) ?_) ?_) ?_) ?_) ?_) ?_) ?_) ?_) ?_) ?_) ?_) ?_) ?_) ?_) ?_) ?_) ?_) ?_) ?_) ?_) ?_) ?_) ?_) ?_) ?_) ?_
  · as_aux_lemma => kernel_rfl
  · exact jf_laidOut
  · exact jf_mapsRowed
  · as_aux_lemma => kernel_rfl
  · as_aux_lemma => kernel_rfl
  · as_aux_lemma => kernel_rfl
  · exact jf_stops
  · as_aux_lemma => kernel_rfl
  · exact jf_stopKnobs
  · exact partsTyped_inPlace
  · exact partsTyped_unfollowed
  · exact partsTyped_recurses
  · exact partsTyped_named
  · as_aux_lemma => kernel_rfl
  · as_aux_lemma => kernel_rfl
  · as_aux_lemma => kernel_rfl
  · as_aux_lemma => kernel_rfl
  · as_aux_lemma => kernel_rfl
  · as_aux_lemma => kernel_rfl
  · as_aux_lemma => kernel_rfl
  · as_aux_lemma => kernel_rfl
  · as_aux_lemma => kernel_rfl
  · rw [jf_plainKeys]; kernel_rfl
  · as_aux_lemma => kernel_rfl
  · exact jf_stopsHeard
  · exact jf_mayEnter
  · rw [jf_lifts]; kernel_rfl
  · rw [jf_make]; kernel_rfl
  · as_aux_lemma => kernel_rfl
  · as_aux_lemma => kernel_rfl
  · as_aux_lemma => kernel_rfl
  · as_aux_lemma => kernel_rfl
theorem partsTyped_wf : Rows.partsTypedRow.wfByText (OpenSpec.ofChange Rows.partsTypedSpec) = true := by kernel_rfl
theorem partsTyped_fn : Tryz.prog.funcNamed Rows.partsTypedRow.func = some 3 := by kernel_rfl
end Go.Proofs.YthhpdnlfhofanaaGreatDoor
