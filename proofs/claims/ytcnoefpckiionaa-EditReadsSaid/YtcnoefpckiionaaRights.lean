/- Which line editors are valid: both texts' functions, by contracts. -/
import Derived.Test.YtcnoefpckiionaaRows
import Derived.Test.YtcnoefpckiionaaSmall1
namespace Go.Proofs.Ytcnoefpckiionaa
open Go.RowKit
set_option linter.unusedSimpArgs false
set_option linter.unusedVariables false
structure LineD where
  raw : Bool
  text : ByteArray
  ready : List ByteArray
def LineV (w : World) (l : LineD) (v : Value) : Prop := ∃ A c, v = .agg #[.bool l.raw, .string l.text, .slice A l.ready.length c] ∧ Reads w w.heap.size 1 A l.ready.length (strsV l.ready) ∧
  (A = none → l.ready.length = 0 ∧ c = 0) ∧ l.ready.length ≤ c ∧ c ≤ maxLen
def Fit (l : LineD) : Prop := l.text.size ≤ 100000 ∧ l.ready.length ≤ 100000 ∧ ∀ s ∈ l.ready, s.size ≤ 100000
def anyLong (ss : List ByteArray) : Bool := ss.any fun s => decide (1025 < s.size)
def textOk (t : ByteArray) : Bool := t.data.toList.all fun c => prB c.toNat
def rightB (r : Bool) (t : ByteArray) (ss : List ByteArray) : Bool := decide (t.size ≤ 1024) && !(r && decide (t.size ≠ 0)) && decide (ss.length ≤ 1024) && textOk t && !anyLong ss
theorem byte_mem (s : ByteArray) (k : Nat) (hk : k < s.size) : s[k] ∈ s.data.toList := by
  have h : k < s.data.toList.length := by simpa using hk
  exact List.mem_of_getElem (h := h) (by simp; rfl)
theorem mem_byte {s : ByteArray} {c : UInt8} (h : c ∈ s.data.toList) : ∃ k, ∃ hk : k < s.size, c = s[k] := by
  obtain ⟨k, hk, rfl⟩ := List.getElem_of_mem h
  exact ⟨k, by simpa using hk, by simp; rfl⟩
theorem textOk_false {t : ByteArray} {k : Nat} (hk : k < t.size) (h : prB t[k].toNat = false) : textOk t = false := by
  unfold textOk
  rw [List.all_eq_false]
  exact ⟨t[k], byte_mem t k hk, by rw [h]; simp⟩
theorem textOk_true {t : ByteArray} (h : ∀ j, (hj : j < t.size) → prB t[j].toNat = true) : textOk t = true := by
  unfold textOk
  rw [List.all_eq_true]
  intro c hc
  obtain ⟨k, hk, rfl⟩ := mem_byte hc
  exact h k hk
theorem byte_le (c : UInt8) : 0 ≤ (c.toNat : Int) ∧ (c.toNat : Int) ≤ 255 := by have := c.toNat_lt; omega
theorem size_zero_iff (t : ByteArray) : t.toList = [] ↔ t.size = 0 := by
  rw [ByteArray.toList_eq]
  constructor
  · intro h; have := congrArg List.length h; simpa using this
  · intro h; apply List.eq_nil_of_length_eq_zero; simpa using h
theorem size_zero_b (t : ByteArray) : t.toList.isEmpty = decide (t.size = 0) := by
  rw [Bool.eq_iff_iff, List.isEmpty_iff, size_zero_iff]; simp
set_option maxHeartbeats 400000 in
theorem containsLong_any {B : Nat} (A : Option Addr) (c : Nat) (ss : List ByteArray) (w : World) (hr : Reads w B 1 A ss.length (strsV ss)) (hs : ∀ s ∈ ss, s.size ≤ 140737488351232) (hl : ss.length ≤ 140737488351232) :
    Calls Try.prog 27 #[.slice A ss.length c, .func (.func 28) #[] #[]] w fun e w' => e = .returned (.bool (anyLong ss)) ∧ w = w' := by
  have K := Lib.hid (indexLong_any A c ss w hr hs hl)
  clear hr hs
  go_enter Try.func27, Try.ntmps27
  go_wp2_with fail
  refine K.out.mono ?_
  rintro e w' ⟨⟨n, rfl, hn⟩, rfl⟩
  have HN := Lib.hid hn
  clear hn
  go_wp2_with fail
  go_ret
  exact ⟨ret_bool (by rw [← show decide (0 ≤ n) = anyLong ss from HN.out]), rfl⟩
set_option maxHeartbeats 400000 in
theorem editRight_any {B : Nat} (r : Bool) (t : ByteArray) (A : Option Addr) (c : Nat) (ss : List ByteArray) (w : World) (hr : Reads w B 1 A ss.length (strsV ss)) (hB : B ≤ w.heap.size) (ht : t.size ≤ 100000) (hs : ∀ s ∈ ss, s.size ≤ 100000) (hl : ss.length ≤ 100000) :
    Calls Try.prog 12 #[.agg #[.bool r, .string t, .slice A ss.length c]] w fun e w' => e = .returned (.bool (rightB r t ss)) ∧ Below w.heap.size w w' := by
  by_cases h1 : t.size ≤ 1024
  · by_cases h2 : (r && decide (t.size ≠ 0)) = true
    · have hz : rightB r t ss = false := by unfold rightB; rw [h2]; simp
      have HZ := Lib.hid hz
      simp only [Bool.and_eq_true, decide_eq_true_eq] at h2
      obtain ⟨rfl, h2⟩ := h2
      have h3 : t.toList.isEmpty = false := by rw [size_zero_b]; simpa using h2
      have h4 : ¬ t.toList = [] := by rw [size_zero_iff]; exact h2
      clear hz hr hs h2
      go_enter Try.func12, Try.ntmps12
      go_wp2
      go_ret
      exact ⟨ret_bool HZ.out.symm, (Below.refl _ _).alloc (Nat.le_refl _) _⟩
    · have h2' : (r && decide (t.size ≠ 0)) = false := by simpa using h2
      have h3 : (r && !t.toList.isEmpty) = false := by rw [size_zero_b]; simpa using h2'
      by_cases h4 : ss.length ≤ 1024
      · have H2 := Lib.hid h2'
        have h5 : r = true → t.toList = [] := by intro hr; rw [size_zero_iff]; subst hr; simpa using h2'
        have HC := Lib.hid (fun (w' : World) (hw : Reads w' B 1 A ss.length (strsV ss)) => containsLong_any A c ss w' hw (fun s h => by have := hs s h; omega) (by omega))
        have HR := Lib.hid hr
        have hz : rightB r t ss = (textOk t && !anyLong ss) := by unfold rightB; rw [h2']; simp [h1, h4]
        have HZ := Lib.hid hz
        clear h2 h2' hs hr hz
        rcases r with _ | _
        case' true => have h6 := h5 rfl
        all_goals
          clear h5
          go_enter Try.func12, Try.ntmps12
          go_wp2_with fail
          go_loop [3, 26] (fun _ i => ∃ k : Nat, k ≤ t.size ∧ i = .int .i64 k ∧ Hid (∀ j, (hj : j < t.size) → j < k → prB t[j].toNat = true)) (fun _ i => t.size - (intOf i).toNat)
          case atStart => exact ⟨0, Nat.zero_le _, rfl, fun j _ h => absurd h (by omega)⟩
          case round =>
            obtain ⟨k, hk, rfl, h7⟩ := hrel
            by_cases hlt : k < t.size
            · rcases hp : prB t[k].toNat with _ | _
              · have HP := Lib.hid hp
                go_wp2_with (go_at_call 26; refine (printable_any _ _ (byte_le _)).mono ?_; rintro e w' ⟨rfl, rfl⟩)
                go_ret
                exact ⟨ret_bool (by rw [HZ.out, textOk_false hlt HP.out]; rfl), (Below.refl _ _).alloc (Nat.le_refl _) _⟩
              · have HP := Lib.hid hp
                go_wp2_with (go_at_call 26; refine (printable_any _ _ (byte_le _)).mono ?_; rintro e w' ⟨rfl, rfl⟩)
                go_round
                case rel =>
                  refine ⟨k + 1, by omega, by go_num, fun j hj hjk => ?_⟩
                  by_cases hjk' : j = k
                  · subst hjk'; exact HP.out
                  · exact h7.out j hj (by omega)
                case measure => simp [intOf]; omega
            · have hk' : Hid (textOk t = true) := textOk_true fun j hj => h7.out j hj (by omega)
              go_wp2_with (go_at_call 27; refine (HC.out _ (HR.out.alloc hB _)).mono ?_; rintro e w' ⟨rfl, rfl⟩)
              go_ret
              exact ⟨ret_bool (by rw [HZ.out, hk'.out]; simp), (Below.refl _ _).alloc (Nat.le_refl _) _⟩
      · have hz : rightB r t ss = false := by unfold rightB; simp [h4]
        have HZ := Lib.hid hz
        have h5 : r = true → t.toList = [] := by intro hr; rw [size_zero_iff]; subst hr; simpa using h2'
        clear hz hr hs h2 h2'
        rcases r with _ | _
        case' true => have h6 := h5 rfl
        all_goals
          clear h5
          go_enter Try.func12, Try.ntmps12
          go_wp2
          go_ret
          exact ⟨ret_bool HZ.out.symm, (Below.refl _ _).alloc (Nat.le_refl _) _⟩
  · have hz : rightB r t ss = false := by unfold rightB; simp [h1]
    have HZ := Lib.hid hz
    clear hz hr hs
    go_enter Try.func12, Try.ntmps12
    go_wp2
    go_ret
    exact ⟨ret_bool HZ.out.symm, (Below.refl _ _).alloc (Nat.le_refl _) _⟩
end Go.Proofs.Ytcnoefpckiionaa
