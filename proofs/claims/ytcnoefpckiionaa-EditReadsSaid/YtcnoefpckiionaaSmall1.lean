/- The small functions of the line editor, by contracts. -/
import Derived.Test.YtcnoefpckiionaaRows
import Derived.Test.YtcnoefpckiionaaLib
namespace Go.Proofs.Ytcnoefpckiionaa
open Go.RowKit
set_option linter.unusedSimpArgs false
set_option linter.unusedVariables false
/-- A byte that can be part of a line. -/
def prB (n : Int) : Bool := n == 9 || (decide (32 ≤ n) && n != 127)
def blB (n : Int) : Bool := n == 9 || n == 32
set_option maxHeartbeats 400000 in
theorem printable_any (n : Int) (w : World) (h : 0 ≤ n ∧ n ≤ 255) : Calls Try.prog 26 #[.int .u8 n] w fun e w' => e = .returned (.bool (prB n)) ∧ w = w' := by
  go_enter Try.func26, Try.ntmps26
  go_wp2
  all_goals (go_ret; exact ⟨ret_bool (by rw [Bool.eq_iff_iff]; simp [prB]; omega), rfl⟩)
set_option maxHeartbeats 400000 in
theorem Printable_any (n : Int) (w : World) (h : 0 ≤ n ∧ n ≤ 255) : Calls Try.prog 29 #[.int .u8 n] w fun e w' => e = .returned (.bool (prB n)) ∧ w = w' := by
  go_enter Try.func29, Try.ntmps29
  go_wp2
  all_goals (go_ret; exact ⟨ret_bool (by rw [Bool.eq_iff_iff]; simp [prB]; omega), rfl⟩)
theorem blank_any (n : Int) (w : World) (h : 0 ≤ n ∧ n ≤ 255) : Calls Try.prog 44 #[.int .u8 n] w fun e w' => e = .returned (.bool (blB n)) ∧ w = w' := by
  go_enter Try.func44, Try.ntmps44
  go_wp2
  all_goals (go_ret; exact ⟨ret_bool (by rw [Bool.eq_iff_iff]; simp [blB] <;> omega), rfl⟩)
theorem long_any (s : ByteArray) (w : World) (hs : s.size ≤ 140737488351232) : Calls Try.prog 28 #[.string s] w fun e w' => e = .returned (.bool (decide (1025 < s.size))) ∧ w = w' := by
  go_enter Try.func28, Try.ntmps28
  go_wp2
  go_ret
  exact ⟨ret_bool (by simp; omega), rfl⟩
set_option maxHeartbeats 400000 in
theorem indexLong_any {B : Nat} (A : Option Addr) (c : Nat) (ss : List ByteArray) (w : World) (hr : Reads w B 1 A ss.length (strsV ss)) (hs : ∀ s ∈ ss, s.size ≤ 140737488351232) (hl : ss.length ≤ 140737488351232) :
    Calls Try.prog 38 #[.slice A ss.length c, .func (.func 28) #[] #[]] w fun e w' => (∃ n : Int, e = .returned (.int .i64 n) ∧ decide (0 ≤ n) = ss.any fun s => decide (1025 < s.size)) ∧ w = w' := by
  go_enter Try.func38, Try.ntmps38
  go_wp2_with fail
  go_loop [5, 8] (fun _ i => ∃ k : Nat, k ≤ ss.length ∧ i = .int .i64 k ∧ (∀ s ∈ ss.take k, s.size ≤ 1025)) (fun _ i => ss.length - (intOf i).toNat)
  case atStart => exact ⟨0, Nat.zero_le _, rfl, by simp⟩
  case round =>
    obtain ⟨k, hk, rfl, h5⟩ := hrel
    have H5 := Lib.hid h5
    have HS := Lib.hid hs
    clear h5 hs
    by_cases hlt : k < ss.length
    · obtain ⟨b, off, rfl, hb, hc⟩ := hr.str hlt
      have hm := HS.out _ (List.getElem_mem hlt)
      by_cases hlong : 1025 < ss[k].size
      · have hd : decide (1025 < ss[k].size) = true := by simpa using hlong
        go_wp2_with (go_at_call 28; refine (long_any _ _ hm).mono ?_; rintro e w' ⟨rfl, rfl⟩)
        go_ret
        refine ⟨⟨k, rfl, ?_⟩, rfl⟩
        have : (ss.any fun s => decide (1025 < s.size)) = true := List.any_eq_true.2 ⟨ss[k], List.getElem_mem hlt, by simpa using hlong⟩
        rw [this]; simp
      · have hd : decide (1025 < ss[k].size) = false := by simpa using hlong
        go_wp2_with (go_at_call 28; refine (long_any _ _ hm).mono ?_; rintro e w' ⟨rfl, rfl⟩)
        go_round
        case rel =>
          refine ⟨k + 1, by omega, by go_num, ?_⟩
          rw [List.take_succ_eq_append_getElem hlt]
          intro s hs
          rcases List.mem_append.1 hs with hs | hs
          · exact H5.out s hs
          · simp at hs; subst hs; omega
        case measure => simp [intOf]; omega
    · go_wp2_with fail
      go_ret
      refine ⟨⟨-1, rfl, ?_⟩, rfl⟩
      have hk' : k = ss.length := by omega
      subst hk'
      have h5 := H5.out
      rw [List.take_length] at h5
      symm
      simp only [List.any_eq, decide_eq_decide]
      simp
      intro s hs
      exact h5 s hs
end Go.Proofs.Ytcnoefpckiionaa
