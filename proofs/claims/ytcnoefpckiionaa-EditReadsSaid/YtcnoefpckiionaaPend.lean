/- Pending and printable, by contracts. -/
import Derived.Test.YtcnoefpckiionaaRefFeed
namespace Go.Proofs.Ytcnoefpckiionaa
open Go.RowKit
set_option linter.unusedSimpArgs false
set_option linter.unusedVariables false
theorem szs_bd {ss : List ByteArray} (h : ∀ s ∈ ss, s.size ≤ 100000) : szs ss ≤ 100000 * ss.length := by
  induction ss with
  | nil => simp [szs]
  | cons a t ih =>
    have h1 := ih (fun s hs => h s (List.mem_cons_of_mem _ hs))
    have h2 := h a (List.mem_cons_self ..)
    simp only [szs, List.map_cons, List.sum_cons, List.length_cons] at *
    omega
set_option maxRecDepth 100000 in
set_option maxHeartbeats 800000 in
theorem pending_any {B : Nat} (r : Bool) (t : ByteArray) (A : Option Addr) (c : Nat) (ss : List ByteArray) (w : World) (hr : Reads w B 1 A ss.length (strsV ss)) (hB : B ≤ w.heap.size) (hs : ∀ s ∈ ss, s.size ≤ 100000) (hl : ss.length ≤ 100000) :
    Calls Try.prog 19 #[.agg #[.bool r, .string t, .slice A ss.length c]] w fun e w' => e = .returned (.int .i64 (szs ss)) ∧ Below w.heap.size w w' := by
  have HS := Lib.hid hs
  clear hs
  go_enter Try.func19, Try.ntmps19
  go_wp2_with fail
  go_loop [3, 9] (fun n i => ∃ k : Nat, k ≤ ss.length ∧ i = .int .i64 k ∧ n = .int .i64 (szs (ss.take k))) (fun _ i => ss.length - (intOf i).toNat)
  case atStart => exact ⟨0, Nat.zero_le _, rfl, by simp [szs]⟩
  case round =>
    obtain ⟨k, hk, rfl, rfl⟩ := hrel
    have hb1 := szs_bd (ss := ss.take k) (fun s h => HS.out s (List.mem_of_mem_take h))
    have hb2 : (ss.take k).length ≤ k := List.length_take_le _ _
    by_cases hlt : k < ss.length
    · obtain ⟨b, off, rfl, hb, hc⟩ := hr.str hlt
      have hm := HS.out _ (List.getElem_mem hlt)
      have hb3 : b < w.heap.size := by omega
      have HT := Lib.hid (szs_take ss k hlt)
      go_wp2_with fail
      go_round
      case rel => exact ⟨k + 1, by omega, by go_num, by rw [HT.out]; go_num⟩
      case measure => simp [intOf]; omega
    · have hk' : k = ss.length := by omega
      have HK := Lib.hid hk'
      go_wp2_with fail
      go_ret
      exact ⟨ret_i64 (by first | rfl | rw [HK.out, List.take_length]), (Below.refl _ _).alloc (Nat.le_refl _) _⟩
set_option maxRecDepth 100000 in
set_option maxHeartbeats 800000 in
theorem refPending_any {B : Nat} (r : Bool) (t : ByteArray) (A : Option Addr) (c : Nat) (ss : List ByteArray) (w : World) (hr : Reads w B 1 A ss.length (strsV ss)) (hB : B ≤ w.heap.size) (hs : ∀ s ∈ ss, s.size ≤ 100000) (hl : ss.length ≤ 100000) :
    Calls Try.prog 20 #[.agg #[.bool r, .string t, .slice A ss.length c]] w fun e w' => e = .returned (.int .i64 (szs ss)) ∧ Below w.heap.size w w' := by
  have HS := Lib.hid hs
  clear hs
  go_enter Try.func20, Try.ntmps20
  go_wp2_with fail
  go_loop [3, 4] (fun n i => ∃ k : Nat, k ≤ ss.length ∧ i = .int .i64 k ∧ n = .int .i64 (szs (ss.take k))) (fun _ i => ss.length - (intOf i).toNat)
  case atStart => exact ⟨0, Nat.zero_le _, rfl, by simp [szs]⟩
  case round =>
    obtain ⟨k, hk, rfl, rfl⟩ := hrel
    have hb1 := szs_bd (ss := ss.take k) (fun s h => HS.out s (List.mem_of_mem_take h))
    have hb2 : (ss.take k).length ≤ k := List.length_take_le _ _
    by_cases hlt : k < ss.length
    · obtain ⟨b, off, rfl, hb, hc⟩ := hr.str hlt
      have hm := HS.out _ (List.getElem_mem hlt)
      have hb3 : b < w.heap.size := by omega
      have HT := Lib.hid (szs_take ss k hlt)
      go_wp2_with fail
      go_round
      case rel => exact ⟨k + 1, by omega, by go_num, by rw [HT.out]; go_num⟩
      case measure => simp [intOf]; omega
    · have hk' : k = ss.length := by omega
      have HK := Lib.hid hk'
      go_wp2_with fail
      go_ret
      exact ⟨ret_i64 (by first | rfl | rw [HK.out, List.take_length]), (Below.refl _ _).alloc (Nat.le_refl _) _⟩
set_option maxRecDepth 100000 in
set_option maxHeartbeats 800000 in
theorem lawPrintable_any (t : ByteArray) (w : World) (ht : t.size ≤ 140737488351232) :
    Calls Try.prog 21 #[.string t] w fun e w' => e = .returned (.bool (textOk t)) ∧ w = w' := by
  go_enter Try.func21, Try.ntmps21
  go_wp2_with fail
  go_loop [3] (fun i => ∃ k : Nat, k ≤ t.size ∧ i = .int .i64 k ∧ Hid (∀ j, (hj : j < t.size) → j < k → prB t[j].toNat = true)) (fun i => t.size - (intOf i).toNat)
  case atStart => exact ⟨0, Nat.zero_le _, rfl, fun j _ h => absurd h (by omega)⟩
  case round =>
    obtain ⟨k, hk, rfl, h7⟩ := hrel
    by_cases hlt : k < t.size
    · rcases hp : prB t[k].toNat with _ | _
      · have HP := Lib.hid hp
        go_wp2_with (go_at_call 29; refine (Printable_any _ _ (byte_le _)).mono ?_; rintro e w' ⟨rfl, rfl⟩)
        go_ret
        exact ⟨ret_bool (by rw [textOk_false hlt HP.out]), rfl⟩
      · have HP := Lib.hid hp
        go_wp2_with (go_at_call 29; refine (Printable_any _ _ (byte_le _)).mono ?_; rintro e w' ⟨rfl, rfl⟩)
        go_round
        case rel =>
          refine ⟨k + 1, by omega, by go_num, fun j hj hjk => ?_⟩
          by_cases hjk' : j = k
          · subst hjk'; exact HP.out
          · exact h7.out j hj (by omega)
        case measure => simp [intOf]; omega
    · have hk' : Hid (textOk t = true) := textOk_true fun j hj => h7.out j hj (by omega)
      go_wp2_with fail
      go_ret
      exact ⟨ret_bool (by rw [hk'.out]), rfl⟩
end Go.Proofs.Ytcnoefpckiionaa
