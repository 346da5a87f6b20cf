/- The reference's Right, by contract. -/
import Derived.Test.YtcnoefpckiionaaRows
import Derived.Test.YtcnoefpckiionaaRights
namespace Go.Proofs.Ytcnoefpckiionaa
open Go.RowKit
set_option linter.unusedSimpArgs false
set_option linter.unusedVariables false
theorem anyLong_false {ss : List ByteArray} (h : ∀ j, (hj : j < ss.length) → ss[j].size ≤ 1025) : anyLong ss = false := by
  unfold anyLong
  rw [List.any_eq_false]
  intro s hs
  obtain ⟨k, hk, rfl⟩ := List.getElem_of_mem hs
  have := h k hk
  simp; omega
theorem anyLong_true {ss : List ByteArray} {k : Nat} (hk : k < ss.length) (h : 1025 < ss[k].size) : anyLong ss = true := by
  unfold anyLong
  rw [List.any_eq_true]
  exact ⟨ss[k], List.getElem_mem hk, by simpa using h⟩
set_option maxHeartbeats 400000 in
theorem refRight_any {B : Nat} (r : Bool) (t : ByteArray) (A : Option Addr) (c : Nat) (ss : List ByteArray) (w : World) (hr : Reads w B 1 A ss.length (strsV ss)) (hB : B ≤ w.heap.size) (ht : t.size ≤ 100000) (hs : ∀ s ∈ ss, s.size ≤ 100000) (hl : ss.length ≤ 100000) :
    Calls Try.prog 13 #[.agg #[.bool r, .string t, .slice A ss.length c]] w fun e w' => e = .returned (.bool (rightB r t ss)) ∧ Below w.heap.size w w' := by
  by_cases h1 : t.size ≤ 1024
  · by_cases h2 : (r && decide (t.size ≠ 0)) = true
    · have hz : rightB r t ss = false := by unfold rightB; rw [h2]; simp
      have HZ := Lib.hid hz
      simp only [Bool.and_eq_true, decide_eq_true_eq] at h2
      obtain ⟨rfl, h2⟩ := h2
      have h3 : t.toList.isEmpty = false := by rw [size_zero_b]; simpa using h2
      have h4 : ¬ t.toList = [] := by rw [size_zero_iff]; exact h2
      clear hz hr hs h2
      go_enter Try.func13, Try.ntmps13
      go_wp2
      go_ret
      exact ⟨ret_bool HZ.out.symm, (Below.refl _ _).alloc (Nat.le_refl _) _⟩
    · have h2' : (r && decide (t.size ≠ 0)) = false := by simpa using h2
      have h3 : (r && !t.toList.isEmpty) = false := by rw [size_zero_b]; simpa using h2'
      by_cases h4 : ss.length ≤ 1024
      · have H2 := Lib.hid h2'
        have h5 : r = true → t.toList = [] := by intro hr; rw [size_zero_iff]; subst hr; simpa using h2'
        have HS := Lib.hid hs
        have hz : rightB r t ss = (textOk t && !anyLong ss) := by unfold rightB; rw [h2']; simp [h1, h4]
        have HZ := Lib.hid hz
        clear h2 h2' hs hz
        rcases r with _ | _
        case' true => have h6 := h5 rfl
        all_goals
          clear h5
          go_enter Try.func13, Try.ntmps13
          go_wp2_with fail
          go_loop [3] (fun i => ∃ k : Nat, k ≤ t.size ∧ i = .int .i64 k ∧ Hid (∀ j, (hj : j < t.size) → j < k → prB t[j].toNat = true)) (fun i => t.size - (intOf i).toNat)
          case atStart => exact ⟨0, Nat.zero_le _, rfl, fun j _ h => absurd h (by omega)⟩
          case round =>
            obtain ⟨k, hk, rfl, h7⟩ := hrel
            by_cases hlt : k < t.size
            · rcases hp : prB t[k].toNat with _ | _
              · have HP := Lib.hid hp
                go_wp2_with (go_at_call 29; refine (Printable_any _ _ (byte_le _)).mono ?_; rintro e w' ⟨rfl, rfl⟩)
                go_ret
                exact ⟨ret_bool (by rw [HZ.out, textOk_false hlt HP.out]; rfl), (Below.refl _ _).alloc (Nat.le_refl _) _⟩
              · have HP := Lib.hid hp
                go_wp2_with (go_at_call 29; refine (Printable_any _ _ (byte_le _)).mono ?_; rintro e w' ⟨rfl, rfl⟩)
                go_round
                case rel =>
                  refine ⟨k + 1, by omega, by go_num, fun j hj hjk => ?_⟩
                  by_cases hjk' : j = k
                  · subst hjk'; exact HP.out
                  · exact h7.out j hj (by omega)
                case measure => simp [intOf]; omega
            · have hk' : Hid (textOk t = true) := textOk_true fun j hj => h7.out j hj (by omega)
              go_wp2_with fail
              go_loop [4] (fun i => ∃ k : Nat, k ≤ ss.length ∧ i = .int .i64 k ∧ Hid (∀ j, (hj : j < ss.length) → j < k → ss[j].size ≤ 1025)) (fun i => ss.length - (intOf i).toNat)
              case atStart => exact ⟨0, Nat.zero_le _, rfl, fun j _ h => absurd h (by omega)⟩
              case round =>
                obtain ⟨m, hm, rfl, h8⟩ := hrel
                by_cases hlt2 : m < ss.length
                · obtain ⟨b, off, rfl, hb, hc⟩ := hr.str hlt2
                  have hsz := HS.out _ (List.getElem_mem hlt2)
                  have hb2 : b < w.heap.size := by omega
                  by_cases hlong : 1025 < ss[m].size
                  · have HL := Lib.hid (anyLong_true hlt2 hlong)
                    go_wp2_with fail
                    go_ret
                    exact ⟨ret_bool (by rw [HZ.out, HL.out]; simp), (Below.refl _ _).alloc (Nat.le_refl _) _⟩
                  · go_wp2_with fail
                    go_round
                    case rel =>
                      refine ⟨m + 1, by omega, by go_num, fun j hj hjk => ?_⟩
                      by_cases hjk' : j = m
                      · subst hjk'; omega
                      · exact h8.out j hj (by omega)
                    case measure => simp [intOf]; omega
                · have HL := Lib.hid (anyLong_false (ss := ss) fun j hj => h8.out j hj (by omega))
                  go_wp2_with fail
                  go_ret
                  exact ⟨ret_bool (by rw [HZ.out, hk'.out, HL.out]; rfl), (Below.refl _ _).alloc (Nat.le_refl _) _⟩
      · have hz : rightB r t ss = false := by unfold rightB; simp [h4]
        have HZ := Lib.hid hz
        have h5 : r = true → t.toList = [] := by intro hr; rw [size_zero_iff]; subst hr; simpa using h2'
        clear hz hr hs h2 h2'
        rcases r with _ | _
        case' true => have h6 := h5 rfl
        all_goals
          clear h5
          go_enter Try.func13, Try.ntmps13
          go_wp2
          go_ret
          exact ⟨ret_bool HZ.out.symm, (Below.refl _ _).alloc (Nat.le_refl _) _⟩
  · have hz : rightB r t ss = false := by unfold rightB; simp [h1]
    have HZ := Lib.hid hz
    clear hz hr hs
    go_enter Try.func13, Try.ntmps13
    go_wp2
    go_ret
    exact ⟨ret_bool HZ.out.symm, (Below.refl _ _).alloc (Nat.le_refl _) _⟩
end Go.Proofs.Ytcnoefpckiionaa
