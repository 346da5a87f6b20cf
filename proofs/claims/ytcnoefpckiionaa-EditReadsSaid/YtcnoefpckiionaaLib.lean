/- The library's functions that the line editor calls, by contracts. -/
import Derived.Test.YtcnoefpckiionaaRows
import Derived.Test.YtcnoefpckiionaaMem
import Derived.Lib.SliceRun
namespace Go.Proofs.Ytcnoefpckiionaa
open Go.RowKit
theorem slS : SlT Try.prog 22 9 (.string ⟨#[]⟩) 1 16 := SlT.mk' Try.underlying22 (by kernel_rfl) rfl (by omega) (by omega)

set_option maxHeartbeats 400000 in
theorem clone_any (A : Option Addr) (c : Nat) (ss : List ByteArray) (w : World) (hr : Reads w w.heap.size 1 A ss.length (strsV ss)) (hA : A = none → ss.length = 0 ∧ c = 0) (hl : ss.length ≤ 8796093022207) :
    Calls Try.prog 39 #[.slice A ss.length c] w fun e w' => ∃ A' c', e = .returned (.slice A' ss.length c') ∧ Own w' w.heap.size 9 1 A' ss.length c' (strsV ss) ∧ Below w.heap.size w w' := by
  have hq := fun W => Lib.run_eql_slice_nil (P := Try.prog) W 22 9 A ss.length c 0 0 Try.underlying22
  rcases A with _ | ad
  · obtain ⟨h0, rfl⟩ := hA rfl
    have hs : ss = [] := List.eq_nil_of_length_eq_zero h0
    subst hs
    clear hA hr
    simp only [List.length_nil, Option.isNone_none] at hq ⊢
    go_enter Try.func39, Try.ntmps39
    go_wp2_with fail
    go_ret
    exact ⟨none, 0, rfl, Own.none_ _ _ _ _, Below.refl _ _⟩
  · clear hA
    go_enter Try.func39, Try.ntmps39
    go_wp2_with (at_builtin; refine wpList_append_x _ rfl _ _ rfl slS (base := w.heap.size) (A := some ⟨w.heap.size, 0, none⟩) (n := 0) (cc := 0) (xs := []) rfl (Own.lit w #[] 0 (Nat.le_refl _) (by simp) rfl) rfl (hr.alloc (Nat.le_refl _) _) (by simp) one_str (by omega) (by simp) ?_; intro A' c' w1 hown hfr hat)
    go_ret
    refine ⟨A', c', ?_, ?_, ?_⟩
    · simp
    · simpa using hown
    · exact ((Below.refl _ _).alloc (Nat.le_refl _) _).trans (hfr.below (B := w.heap.size) (by simp) (by intro i hi; injection hi with hi; injection hi with hi; omega))
end Go.Proofs.Ytcnoefpckiionaa
