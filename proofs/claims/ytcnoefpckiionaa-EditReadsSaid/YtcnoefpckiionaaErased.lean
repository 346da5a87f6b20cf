/- How many bytes an erasing byte removes, in the program, by contracts. -/
import Derived.Test.YtcnoefpckiionaaRows
import Derived.Test.YtcnoefpckiionaaWord
namespace Go.Proofs.Ytcnoefpckiionaa
open Go.RowKit
set_option linter.unusedSimpArgs false
set_option linter.unusedVariables false
set_option maxRecDepth 100000 in
set_option maxHeartbeats 800000 in
theorem erased_line (s : ByteArray) (w : World) (hs : s.size ≤ 100000) :
    Calls Try.prog 41 #[.string s, .int .u8 21] w fun e w' => e = .returned (.int .i64 s.size) ∧ w = w' := by
  go_enter Try.func41, Try.ntmps41
  go_wp2_with fail
  go_ret
  exact ⟨rfl, rfl⟩
set_option maxRecDepth 100000 in
set_option maxHeartbeats 800000 in
theorem erased_one (s : ByteArray) (n : Int) (w : World) (hs : s.size ≤ 100000) (h1 : (n == 21) = false) (h2 : (n == 23) = false) :
    Calls Try.prog 41 #[.string s, .int .u8 n] w fun e w' => e = .returned (.int .i64 (min s.size 1 : Nat)) ∧ w = w' := by
  go_enter Try.func41, Try.ntmps41
  go_wp2_with fail
  all_goals (go_ret; exact ⟨ret_i64 (by omega), rfl⟩)
set_option maxRecDepth 100000 in
set_option maxHeartbeats 800000 in
theorem erased_word (s : ByteArray) (w : World) (hs : s.size ≤ 100000) :
    Calls Try.prog 41 #[.string s, .int .u8 23] w fun e w' => e = .returned (.int .i64 (wordN s)) ∧ w = w' := by
  go_enter Try.func41, Try.ntmps41
  go_wp2_with fail
  go_loop [5] (fun i => ∃ k : Nat, k ≤ s.size ∧ i = .int .i64 k ∧ Hid (scanBack blB s s.size = scanBack blB s k)) (fun i => (intOf i).toNat)
  case atStart => exact ⟨s.size, Nat.le_refl _, rfl, rfl⟩
  case round =>
    obtain ⟨k, hk, rfl, h1⟩ := hrel
    have hcase : (∃ hlt : 0 < k, blB (s[k - 1].toNat : Int) = true) ∨ (∃ hlt : 0 < k, blB (s[k - 1].toNat : Int) = false) ∨ ¬ 0 < k := by
      by_cases hlt : 0 < k
      · rcases hb : blB (s[k - 1].toNat : Int) with _ | _
        · exact .inr (.inl ⟨hlt, hb⟩)
        · exact .inl ⟨hlt, hb⟩
      · exact .inr (.inr hlt)
    rcases hcase with ⟨hlt, hb⟩ | ⟨hlt, hb⟩ | hlt
    case' inl =>
      have HB := Lib.hid hb
      go_wp2_with (go_at_call 44; refine (blank_any _ _ (byte_le _)).mono ?_; rintro e w' ⟨rfl, rfl⟩)
      go_round
      case rel =>
        refine ⟨k - 1, by omega, by go_num, ?_⟩
        have := scanBack_yes (p := blB) (s := s) (n := k - 1) (by omega) HB.out
        show _ = _
        rw [h1.out, ← this, show k - 1 + 1 = k by omega]
      case measure => simp [intOf]; omega
    case' inr.inl =>
      have H1 : Hid (scanBack blB s s.size = k) := by
        show _ = _
        have := scanBack_no (p := blB) (s := s) (n := k - 1) (by omega) hb
        rw [h1.out]
        rwa [show k - 1 + 1 = k by omega] at this
    case' inr.inr =>
      have H1 : Hid (scanBack blB s s.size = k) := by
        show _ = _
        rw [h1.out, show k = 0 by omega]; rfl
    all_goals
      clear h1
      go_wp2_with (go_at_call 44; refine (blank_any _ _ (byte_le _)).mono ?_; rintro e w' ⟨rfl, rfl⟩)
      go_loop [5] (fun i => ∃ m : Nat, m ≤ k ∧ i = .int .i64 m ∧ Hid (scanBack nbl s k = scanBack nbl s m)) (fun i => (intOf i).toNat)
      case atStart => exact ⟨k, Nat.le_refl _, rfl, rfl⟩
      case round =>
        obtain ⟨m, hm, rfl, h2⟩ := hrel
        have hcase : (∃ hlt : 0 < m, blB (s[m - 1].toNat : Int) = false) ∨ (∃ hlt : 0 < m, blB (s[m - 1].toNat : Int) = true) ∨ ¬ 0 < m := by
          by_cases hlt : 0 < m
          · rcases hb : blB (s[m - 1].toNat : Int) with _ | _
            · exact .inl ⟨hlt, hb⟩
            · exact .inr (.inl ⟨hlt, hb⟩)
          · exact .inr (.inr hlt)
        rcases hcase with ⟨hlt2, gb⟩ | ⟨hlt2, gb⟩ | hlt2
        case' inl =>
          have HB : Hid (nbl (s[m - 1].toNat : Int) = true) := by show _ = _; unfold nbl; rw [gb]; rfl
          go_wp2_with (go_at_call 44; refine (blank_any _ _ (byte_le _)).mono ?_; rintro e w' ⟨rfl, rfl⟩)
          all_goals
            go_round
            case rel =>
              refine ⟨m - 1, by omega, by go_num, ?_⟩
              have := scanBack_yes (p := nbl) (s := s) (n := m - 1) (by omega) HB.out
              show _ = _
              rw [h2.out, ← this, show m - 1 + 1 = m by omega]
            case measure => simp [intOf]; omega
        case' inr.inl =>
          have H2 : Hid (scanBack nbl s k = m) := by
            show _ = _
            have := scanBack_no (p := nbl) (s := s) (n := m - 1) (by omega) (by unfold nbl; rw [gb]; rfl)
            rw [h2.out]
            rwa [show m - 1 + 1 = m by omega] at this
        case' inr.inr =>
          have H2 : Hid (scanBack nbl s k = m) := by
            show _ = _
            rw [h2.out, show m = 0 by omega]; rfl
        all_goals
          clear h2
          go_wp2_with (go_at_call 44; refine (blank_any _ _ (byte_le _)).mono ?_; rintro e w' ⟨rfl, rfl⟩)
          all_goals
            go_ret
            refine ⟨ret_i64 ?_, rfl⟩
            unfold wordN
            rw [H1.out, H2.out]
            omega
end Go.Proofs.Ytcnoefpckiionaa
