/- The reference's Same, by contract. -/
import Derived.Test.YtcnoefpckiionaaRefFeed
import Derived.Deep.QuietTactic
import Derived.BigQuiet
namespace Go.Proofs.Ytcnoefpckiionaa
open Go.RowKit
set_option linter.unusedSimpArgs false
set_option linter.unusedVariables false
set_option maxRecDepth 100000 in
set_option maxHeartbeats 800000 in
/-- Two line editors that are equal are found equal. -/
theorem same_eq {B B' : Nat} (r : Bool) (t : ByteArray) (A A' : Option Addr) (c c' : Nat) (ss : List ByteArray) (w : World) (hr : Reads w B 1 A ss.length (strsV ss)) (hB : B ≤ w.heap.size) (hr' : Reads w B' 1 A' ss.length (strsV ss)) (hB' : B' ≤ w.heap.size) (hl : ss.length ≤ 100000) :
    Calls Try.prog 16 #[.agg #[.bool r, .string t, .slice A ss.length c], .agg #[.bool r, .string t, .slice A' ss.length c']] w fun e w' => e = .returned (.bool true) ∧ Below w.heap.size w w' := by
  go_enter Try.func16, Try.ntmps16
  go_wp2_with fail
  go_loopw [5] (fun i wr => ∃ k n : Nat, k ≤ ss.length ∧ i = .int .i64 k ∧ wr = ((w.alloc (.cells #[.bool r, .string t, .slice A ss.length c] 24)).alloc (.cells #[.bool r, .string t, .slice A' ss.length c'] 24)).drewN n) (fun i _ => ss.length - (intOf i).toNat)
  case atStart => exact ⟨0, 0, Nat.zero_le _, rfl, rfl⟩
  case round =>
    obtain ⟨k, n, hk, rfl, rfl⟩ := hrel
    by_cases hlt : k < ss.length
    · obtain ⟨b, off, rfl, hb, hc⟩ := hr.str hlt
      obtain ⟨b', off', rfl, hb', hc'⟩ := hr'.str hlt
      have hb3 : b < w.heap.size := by omega
      have hb4 : b' < w.heap.size := by omega
      have hi0 : (0 : Int) ≤ (k : Int) := by omega
      have hi1 : (k : Int) < (ss.length : Int) := by omega
      go_wp2_with fail
      go_quiet (fail)
      go_wp2_with fail
      go_roundw
      case rel => exact ⟨k + 1, _, by omega, by go_num, rfl⟩
      case measure => simp [intOf]; omega
    · go_wp2_with fail
      go_ret
      exact ⟨rfl, below_drewN (((Below.refl _ _).alloc (Nat.le_refl _) _).alloc (by simp) _) _⟩
end Go.Proofs.Ytcnoefpckiionaa
