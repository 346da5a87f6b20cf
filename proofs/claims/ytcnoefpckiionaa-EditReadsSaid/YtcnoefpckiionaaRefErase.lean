/- The reference's erase, by contract. -/
import Derived.Test.YtcnoefpckiionaaTypeFn
namespace Go.Proofs.Ytcnoefpckiionaa
open Go.RowKit
set_option linter.unusedSimpArgs false
set_option linter.unusedVariables false
theorem repeatL_succ' (l : List UInt8) (k : Nat) : Lib.repeatL l (k + 1) = Lib.repeatL l k ++ l := by rw [Lib.repeatL_add, Lib.repeatL_one]
theorem rub_succ (k : Nat) : rub (k + 1) = rub k ++ ⟨#[8, 32, 8]⟩ := by
  unfold rub
  rw [repeatL_succ']
  apply ByteArray.ext
  simp
theorem rub_size (k : Nat) : (rub k).size = 3 * k := by
  induction k with
  | zero => rfl
  | succ k ih => rw [rub_succ, ByteArray.size_append, ih]; show 3 * k + 3 = _; omega
set_option maxRecDepth 100000 in
set_option maxHeartbeats 800000 in
theorem refErase_any (r : Bool) (t : ByteArray) (A : Option Addr) (m c n : Nat) (w : World) (hn : n ≤ t.size) (ht : t.size ≤ 100000) :
    Calls Try.prog 35 #[.agg #[.bool r, .string t, .slice A m c], .int .i64 n] w fun e w' => e = .returned (.tuple #[.agg #[.bool r, .string (t.extract 0 (t.size - n)), .slice A m c], .string (rub n)]) ∧ Below w.heap.size w w' := by
  go_enter Try.func35, Try.ntmps35
  go_wp2_with fail
  go_loop [6, 7] (fun s i => ∃ k : Nat, k ≤ n ∧ i = .int .i64 k ∧ s = .string (rub k)) (fun _ i => n - (intOf i).toNat)
  case atStart => exact ⟨0, Nat.zero_le _, rfl, rfl⟩
  case round =>
    obtain ⟨k, hk, rfl, rfl⟩ := hrel
    have hsz := rub_size k
    by_cases hlt : k < n
    · go_wp2_with fail
      go_round
      case rel => exact ⟨k + 1, by omega, by go_num, by rw [rub_succ]⟩
      case measure => simp [intOf]; omega
    · obtain rfl : k = n := by omega
      go_wp2_with fail
      refine bodyPost_ret (v := .tuple #[.agg #[.bool r, .string (t.extract 0 (t.size - k)), .slice A m c], .string (rub k)]) (by simp [results, Try.results35, go_sem]) rfl ⟨rfl, ?_⟩
      exact ((Below.refl _ _).alloc (Nat.le_refl _) _).alloc (by simp) _
theorem refErase_int (r : Bool) (t : ByteArray) (A : Option Addr) (m c : Nat) (N : Int) (w : World) (h0 : 0 ≤ N) (hn : N ≤ t.size) (ht : t.size ≤ 100000) :
    Calls Try.prog 35 #[.agg #[.bool r, .string t, .slice A m c], .int .i64 N] w fun e w' => e = .returned (.tuple #[.agg #[.bool r, .string (t.extract 0 (t.size - N.toNat)), .slice A m c], .string (rub N.toNat)]) ∧ Below w.heap.size w w' := by
  obtain ⟨n, rfl⟩ := Int.eq_ofNat_of_zero_le h0
  exact refErase_any r t A m c n w (by omega) ht
end Go.Proofs.Ytcnoefpckiionaa
