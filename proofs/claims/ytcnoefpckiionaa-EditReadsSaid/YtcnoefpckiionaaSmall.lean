import Derived.Test.YtcnoefpckiionaaRows
import Derived.Test.YtcnoefpckiionaaBase
namespace Go.Proofs.Ytcnoefpckiionaa
open Go.RowKit
def smallB (t : ByteArray) (ss : List ByteArray) : Bool := decide (t.size ≤ 2000 ∧ ss.length ≤ 1100 ∧ szs ss ≤ 50000)
set_option maxHeartbeats 400000 in
theorem small_any (r : Bool) (t : ByteArray) (A : Option Addr) (c : Nat) (ss : List ByteArray) (w : World) (hr : Reads w w.heap.size 1 A ss.length (strsV ss)) (ht : t.size ≤ 140737488351232) (hl : ss.length ≤ 140737488351232) (hs : ∀ s ∈ ss, s.size ≤ 140737488351232) :
    Calls Try.prog 10 #[.agg #[.bool r, .string t, .slice A ss.length c]] w fun e w' => e = .returned (.bool (smallB t ss)) ∧ Below w.heap.size w w' := by
  by_cases h1 : t.size ≤ 2000
  · by_cases h2 : ss.length ≤ 1100
    · go_enter Try.func10, Try.ntmps10
      go_wp2_with fail
      go_loop [3, 4, 18] (fun n _ i => ∃ k : Nat, k ≤ ss.length ∧ i = .int .i64 k ∧ n = .int .i64 (szs (ss.take k)) ∧ szs (ss.take k) ≤ 50000) (fun _ _ i => ss.length - (intOf i).toNat)
      case atStart => exact ⟨0, Nat.zero_le _, rfl, rfl, by simp [szs]⟩
      case round =>
        obtain ⟨k, hk, rfl, rfl, h5⟩ := hrel
        by_cases hlt : k < ss.length
        · obtain ⟨b, off, rfl, hb, hc⟩ := hr.str hlt
          have hm := hs _ (List.getElem_mem hlt)
          have HT := Lib.hid (szs_take ss k hlt)
          clear hs
          go_wp2_with fail
          · have HF : smallB t ss = false := by
              have := szs_take_le ss (k + 1)
              have := HT.out
              simp [smallB]; omega
            go_ret
            exact ⟨ret_bool HF.symm, (Below.refl _ _).alloc (Nat.le_refl _) _⟩
          · go_round
            case rel => exact ⟨k + 1, by omega, by go_num, by rw [HT.out]; go_num, by rw [HT.out]; omega⟩
            case measure => simp [intOf]; omega
        · have HF : Hid (smallB t ss = true) := by
            have : k = ss.length := by omega
            subst this
            rw [List.take_length] at h5
            show _ = _
            simp [smallB]; omega
          go_wp2_with fail
          go_ret
          exact ⟨ret_bool HF.out.symm, (Below.refl _ _).alloc (Nat.le_refl _) _⟩
    · have hz : smallB t ss = false := by simp [smallB]; omega
      have HZ := Lib.hid hz
      clear hz hr hs
      go_enter Try.func10, Try.ntmps10
      go_wp2
      go_ret
      exact ⟨ret_bool HZ.out.symm, (Below.refl _ _).alloc (Nat.le_refl _) _⟩
  · have hz : smallB t ss = false := by simp [smallB]; omega
    have HZ := Lib.hid hz
    clear hz hr hs
    go_enter Try.func10, Try.ntmps10
    go_wp2
    go_ret
    exact ⟨ret_bool HZ.out.symm, (Below.refl _ _).alloc (Nat.le_refl _) _⟩
end Go.Proofs.Ytcnoefpckiionaa
