/- PartsKill: closed facts of its row. -/
import Derived.Test.YthhpdnlfhofanaaGreatDoorJfP
namespace Go.Proofs.YthhpdnlfhofanaaGreatDoor
open Go.ChangeShapes Go.WideShapes Go.ChangeAt Go.RowKit
set_option maxRecDepth 100000
theorem partsKill_inPlace : (Rows.partsKillRow.inPlace == Tryz.prog.inPlace 4) = true := by kernel_rfl
theorem partsKill_unfollowed : (Rows.partsKillRow.unfollowed == Tryz.prog.unfollowed 4) = true := by kernel_rfl
theorem partsKill_recurses : (Rows.partsKillRow.recurses == Tryz.prog.recurses 4) = true := by kernel_rfl
theorem partsKill_named : (Rows.partsKillRow.named == Tryz.prog.varsNamed 4) = true := by kernel_rfl
theorem partsKill_closed : joinedFacts Tryz.prog 4 Tryz.f4 Rows.partsKillSpec Rows.partsKillRow = true := by
  unfold joinedFacts
  refine and_t (and_t (and_t (and_t (and_t (and_t (and_t (and_t (and_t (and_t (and_t (and_t (and_t (and_t (and_t (and_t (and_t (and_t (and_t (and_t (and_t (and_t (and_t (and_t (and_t (and_t (and_t (and_t (and_t (and_t (and_t ?_ ?_) ?_) ?_) ?_) ?_) ?_) ?_) ?_) ?_) ?_) ?_) ?_) ?_) ?_) ?_) ?_) ?_) ?_) ?_) ?_) ?_) ?_) ?_) ?_) ?_) ?_) ?_) ?_) ?_) ?_) ?_
  · as_aux_lemma => kernel_rfl
  · exact jf_laidOut
  · exact jf_mapsRowed
  · as_aux_lemma => kernel_rfl
  · as_aux_lemma => kernel_rfl
  · as_aux_lemma => kernel_rfl
  · exact jf_stops
  · as_aux_lemma => kernel_rfl
  · exact jf_stopKnobs
  · exact partsKill_inPlace
  · exact partsKill_unfollowed
  · exact partsKill_recurses
  · exact partsKill_named
  · as_aux_lemma => kernel_rfl
  · as_aux_lemma => kernel_rfl
  · as_aux_lemma => kernel_rfl
  · as_aux_lemma => kernel_rfl
  · as_aux_lemma => kernel_rfl
  · as_aux_lemma => kernel_rfl
  · as_aux_lemma => kernel_rfl
  · as_aux_lemma => kernel_rfl
  · as_aux_lemma => kernel_rfl
  · rw [jf_plainKeys]; kernel_rfl
  · as_aux_lemma => kernel_rfl
  · exact jf_stopsHeard
  · exact jf_mayEnter
  · rw [jf_lifts]; kernel_rfl
  · rw [jf_make]; kernel_rfl
  · as_aux_lemma => kernel_rfl
  · as_aux_lemma => kernel_rfl
  · as_aux_lemma => kernel_rfl
  · as_aux_lemma => kernel_rfl
theorem partsKill_wf : Rows.partsKillRow.wfByText (OpenSpec.ofChange Rows.partsKillSpec) = true := by kernel_rfl
theorem partsKill_fn : Tryz.prog.funcNamed Rows.partsKillRow.func = some 4 := by kernel_rfl
end Go.Proofs.YthhpdnlfhofanaaGreatDoor
