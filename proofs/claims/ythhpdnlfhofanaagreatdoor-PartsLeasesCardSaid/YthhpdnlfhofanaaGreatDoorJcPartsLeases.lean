/- PartsLeases: closed facts of its row. -/
import Derived.Test.YthhpdnlfhofanaaGreatDoorJfP
namespace Go.Proofs.YthhpdnlfhofanaaGreatDoor
open Go.ChangeShapes Go.WideShapes Go.ChangeAt Go.RowKit
set_option maxRecDepth 100000
theorem partsLeases_inPlace : (Rows.partsLeasesRow.inPlace == Tryz.prog.inPlace 6) = true := by kernel_rfl
theorem partsLeases_unfollowed : (Rows.partsLeasesRow.unfollowed == Tryz.prog.unfollowed 6) = true := by kernel_rfl
theorem partsLeases_recurses : (Rows.partsLeasesRow.recurses == Tryz.prog.recurses 6) = true := by kernel_rfl
theorem partsLeases_named : (Rows.partsLeasesRow.named == Tryz.prog.varsNamed 6) = true := by kernel_rfl
theorem partsLeases_closed : joinedFacts Tryz.prog 6 Tryz.f6 Rows.partsLeasesSpec Rows.partsLeasesRow = true := by
  unfold joinedFacts
  refine and_t (and_t (and_t (and_t (and_t (and_t (and_t (and_t (and_t (and_t (and_t (and_t (and_t (and_t (and_t (and_t (and_t (and_t (and_t (and_t (and_t (and_t (and_t (and_t (and_t (and_t (and_t (and_t (and_t (and_t (and_t ?_ ?_) ?_) ?_) ?_) ?_) ?_) ?_) ?_) ?_) ?_) ?_) ?_) ?_) ?_) ?_) ?_) ?_) ?_) ?_) ?_) ?_) ?_) ?_) ?_) ?_) ?_) ?_) ?_) ?_) ?_) ?_
  · as_aux_lemma => kernel_rfl
  · exact jf_laidOut
  · exact jf_mapsRowed
  · as_aux_lemma => kernel_rfl
  · as_aux_lemma => kernel_rfl
  · as_aux_lemma => kernel_rfl
  · exact jf_stops
  · as_aux_lemma => kernel_rfl
  · exact jf_stopKnobs
  · exact partsLeases_inPlace
  · exact partsLeases_unfollowed
  · exact partsLeases_recurses
  · exact partsLeases_named
  · as_aux_lemma => kernel_rfl
  · as_aux_lemma => kernel_rfl
  · as_aux_lemma => kernel_rfl
  · as_aux_lemma => kernel_rfl
  · as_aux_lemma => kernel_rfl
  · as_aux_lemma => kernel_rfl
  · as_aux_lemma => kernel_rfl
  · as_aux_lemma => kernel_rfl
  · as_aux_lemma => kernel_rfl
  · rw [jf_plainKeys]; kernel_rfl
  · as_aux_lemma => kernel_rfl
  · exact jf_stopsHeard
  · exact jf_mayEnter
  · rw [jf_lifts]; kernel_rfl
  · rw [jf_make]; kernel_rfl
  · as_aux_lemma => kernel_rfl
  · as_aux_lemma => kernel_rfl
  · as_aux_lemma => kernel_rfl
  · as_aux_lemma => kernel_rfl
theorem partsLeases_wf : Rows.partsLeasesRow.wfByText (OpenSpec.ofChange Rows.partsLeasesSpec) = true := by kernel_rfl
theorem partsLeases_fn : Tryz.prog.funcNamed Rows.partsLeasesRow.func = some 6 := by kernel_rfl
end Go.Proofs.YthhpdnlfhofanaaGreatDoor
