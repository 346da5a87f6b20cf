/- How many bytes an erasing byte removes: both texts' functions, by contracts. -/
import Derived.Test.YtcnoefpckiionaaRows
import Derived.Test.YtcnoefpckiionaaRights
namespace Go.Proofs.Ytcnoefpckiionaa
open Go.RowKit
set_option linter.unusedSimpArgs false
set_option linter.unusedVariables false
/-- From n down while p holds of the byte before. -/
def scanBack (p : Int → Bool) (s : ByteArray) : Nat → Nat
  | 0 => 0
  | n + 1 => if p ((s.data.toList.getD n 0).toNat : Int) then scanBack p s n else n + 1
def nbl (n : Int) : Bool := !blB n
def wordN (s : ByteArray) : Nat := s.size - scanBack nbl s (scanBack blB s s.size)
theorem getD_byte (s : ByteArray) (k : Nat) (hk : k < s.size) : s.data.toList.getD k 0 = s[k] := by
  have h : k < s.data.toList.length := by simpa using hk
  rw [List.getD_eq_getElem?_getD, List.getElem?_eq_getElem h]; simp; rfl
theorem scanBack_yes {p : Int → Bool} {s : ByteArray} {n : Nat} (hn : n < s.size) (h : p (s[n].toNat : Int) = true) : scanBack p s (n + 1) = scanBack p s n := by
  rw [scanBack, getD_byte s n hn, if_pos h]
theorem scanBack_no {p : Int → Bool} {s : ByteArray} {n : Nat} (hn : n < s.size) (h : p (s[n].toNat : Int) = false) : scanBack p s (n + 1) = n + 1 := by
  rw [scanBack, getD_byte s n hn, h]; rfl
theorem scanBack_le (p : Int → Bool) (s : ByteArray) : ∀ n, scanBack p s n ≤ n
  | 0 => Nat.le_refl _
  | n + 1 => by
    unfold scanBack
    split
    · exact Nat.le_succ_of_le (scanBack_le p s n)
    · exact Nat.le_refl _
theorem ret_i64 {a b : Int} (h : a = b) : Ending.returned (.int .i64 a) = .returned (.int .i64 b) := by rw [h]
theorem wordN_eq {s : ByteArray} {k m : Nat} (h1 : scanBack blB s s.size = s.size - k) (h2 : scanBack nbl s (s.size - k) = s.size - m) (hm : m ≤ s.size) : ((m : Nat) : Int) = (wordN s : Nat) := by
  unfold wordN; rw [h1, h2]; omega
set_option maxRecDepth 100000 in
set_option maxHeartbeats 800000 in
theorem word_any (s : ByteArray) (w : World) (hs : s.size ≤ 100000) :
    Calls Try.prog 36 #[.string s] w fun e w' => e = .returned (.int .i64 (wordN s)) ∧ w = w' := by
  go_enter Try.func36, Try.ntmps36
  go_wp2_with fail
  go_loop [3] (fun i => ∃ k : Nat, k ≤ s.size ∧ i = .int .i64 k ∧ Hid (scanBack blB s (s.size - k) = scanBack blB s s.size)) (fun i => s.size - (intOf i).toNat)
  case atStart => exact ⟨0, Nat.zero_le _, rfl, rfl⟩
  case round =>
    obtain ⟨k, hk, rfl, h1⟩ := hrel
    have hcase : (∃ hlt : k < s.size, ((s[s.size - 1 - k].toNat : Int) == 32) = true ∧ blB (s[s.size - 1 - k].toNat : Int) = true) ∨ (∃ hlt : k < s.size, ((s[s.size - 1 - k].toNat : Int) == 32) = false ∧ ((s[s.size - 1 - k].toNat : Int) == 9) = true ∧ blB (s[s.size - 1 - k].toNat : Int) = true) ∨
        (∃ hlt : k < s.size, ((s[s.size - 1 - k].toNat : Int) == 32) = false ∧ ((s[s.size - 1 - k].toNat : Int) == 9) = false ∧ blB (s[s.size - 1 - k].toNat : Int) = false) ∨ ¬ k < s.size := by
      by_cases hlt : k < s.size
      · by_cases h32 : ((s[s.size - 1 - k].toNat : Int) == 32) = true
        · exact .inl ⟨hlt, h32, by unfold blB; rw [h32]; simp⟩
        · by_cases h9 : ((s[s.size - 1 - k].toNat : Int) == 9) = true
          · exact .inr (.inl ⟨hlt, by simpa using h32, h9, by unfold blB; rw [h9]; simp⟩)
          · exact .inr (.inr (.inl ⟨hlt, by simpa using h32, by simpa using h9, by unfold blB; simp at h32 h9; simp [h32, h9]⟩))
      · exact .inr (.inr (.inr hlt))
    rcases hcase with ⟨hlt, h32, hb⟩ | ⟨hlt, h32, h9, hb⟩ | ⟨hlt, h32, h9, hb⟩ | hlt
    case' inl | inr.inl =>
      have HB := Lib.hid hb
      clear hb
      go_wp2_with fail
      go_round
      case rel =>
        refine ⟨k + 1, by omega, by go_num, ?_⟩
        have := scanBack_yes (p := blB) (s := s) (n := s.size - 1 - k) (by omega) HB.out
        have h1' := h1.out
        show _ = _
        rw [show s.size - k = s.size - 1 - k + 1 by omega] at h1'
        rw [show s.size - (k + 1) = s.size - 1 - k by omega, ← this, h1']
      case measure => simp [intOf]; omega
    case' inr.inr.inl =>
      have H1 : Hid (scanBack blB s s.size = s.size - k) := by
        have h1' := h1.out
        show _ = _
        rw [← h1', show s.size - k = s.size - 1 - k + 1 by omega, scanBack_no (by omega) hb]
    case' inr.inr.inr =>
      have H1 : Hid (scanBack blB s s.size = s.size - k) := by
        have h1' := h1.out
        show _ = _
        rw [← h1', show s.size - k = 0 by omega]; rfl
    case' inr.inr.inl => clear hb
    all_goals
      clear h1
      go_wp2_with fail
      go_loop [3] (fun i => ∃ m : Nat, m ≤ s.size ∧ i = .int .i64 m ∧ Hid (scanBack nbl s (s.size - k) = scanBack nbl s (s.size - m))) (fun i => s.size - (intOf i).toNat)
      case atStart => exact ⟨k, by omega, rfl, rfl⟩
      case round =>
        obtain ⟨m, hm, rfl, h2⟩ := hrel
        have hcase : (∃ hlt : m < s.size, ((s[s.size - 1 - m].toNat : Int) != 32) = false ∧ nbl (s[s.size - 1 - m].toNat : Int) = false) ∨ (∃ hlt : m < s.size, ((s[s.size - 1 - m].toNat : Int) != 32) = true ∧ ((s[s.size - 1 - m].toNat : Int) != 9) = false ∧ nbl (s[s.size - 1 - m].toNat : Int) = false) ∨
            (∃ hlt : m < s.size, ((s[s.size - 1 - m].toNat : Int) != 32) = true ∧ ((s[s.size - 1 - m].toNat : Int) != 9) = true ∧ nbl (s[s.size - 1 - m].toNat : Int) = true) ∨ ¬ m < s.size := by
          by_cases hlt : m < s.size
          · by_cases h32 : ((s[s.size - 1 - m].toNat : Int) == 32) = true
            · exact .inl ⟨hlt, by simpa using h32, by unfold nbl blB; rw [h32]; simp⟩
            · by_cases h9 : ((s[s.size - 1 - m].toNat : Int) == 9) = true
              · exact .inr (.inl ⟨hlt, by simpa using h32, by simpa using h9, by unfold nbl blB; rw [h9]; simp⟩)
              · exact .inr (.inr (.inl ⟨hlt, by simpa using h32, by simpa using h9, by unfold nbl blB; simp at h32 h9; simp [h32, h9]⟩))
          · exact .inr (.inr (.inr hlt))
        rcases hcase with ⟨hlt2, g32, gb⟩ | ⟨hlt2, g32, g9, gb⟩ | ⟨hlt2, g32, g9, gb⟩ | hlt2
        case' inr.inr.inl =>
          have HB := Lib.hid gb
          clear gb
          go_wp2_with fail
          go_round
          case rel =>
            refine ⟨m + 1, by omega, by go_num, ?_⟩
            have := scanBack_yes (p := nbl) (s := s) (n := s.size - 1 - m) (by omega) HB.out
            have h2' := h2.out
            show _ = _
            rw [show s.size - m = s.size - 1 - m + 1 by omega] at h2'
            rw [show s.size - (m + 1) = s.size - 1 - m by omega, ← this, h2']
          case measure => simp [intOf]; omega
        case' inr.inr.inr =>
          have H2 : Hid (scanBack nbl s (s.size - k) = s.size - m) := by
            show _ = _
            rw [h2.out, show s.size - m = 0 by omega]; rfl
        case' inl | inr.inl =>
          have H2 : Hid (scanBack nbl s (s.size - k) = s.size - m) := by
            show _ = _
            rw [h2.out, show s.size - m = s.size - 1 - m + 1 by omega, scanBack_no (by omega) gb]
          clear gb
        all_goals
          clear h2
          go_wp2_with fail
          go_ret
          exact ⟨ret_i64 (wordN_eq H1.out H2.out hm), rfl⟩
end Go.Proofs.Ytcnoefpckiionaa
