/- Delivering a text, by contracts. -/
import Derived.Test.YtcnoefpckiionaaRows
import Derived.Test.YtcnoefpckiionaaRights
namespace Go.Proofs.Ytcnoefpckiionaa
open Go.RowKit
set_option linter.unusedSimpArgs false
set_option linter.unusedVariables false
theorem strsV_len (ss : List ByteArray) : (strsV ss).length = ss.length := by simp [strsV]
theorem strsV_app (a b : List ByteArray) : strsV (a ++ b) = strsV a ++ strsV b := by simp [strsV]
set_option maxRecDepth 100000 in
set_option maxHeartbeats 400000 in
theorem deliver_full (lb : Nat) (r : Bool) (t s : ByteArray) (A : Option Addr) (n c : Nat) (w : World) (hb : Blk w lb 24 #[.bool r, .string t, .slice A n c]) (hn : 1024 ≤ n) (hl : n ≤ 100000) :
    Calls Try.prog 37 #[.pointer (some ⟨lb, 0, none⟩), .string s] w fun e w' => e = .returned (.bool false) ∧ w = w' := by
  obtain ⟨c0, c1, c2, f0⟩ := hb.c3
  clear hb
  go_enter Try.func37, Try.ntmps37
  go_wp2_with fail
  go_ret
  exact ⟨rfl, rfl⟩
set_option maxRecDepth 100000 in
set_option maxHeartbeats 400000 in
theorem deliver_room (lb : Nat) (r : Bool) (t s : ByteArray) (A : Option Addr) (c base : Nat) (ss : List ByteArray) (w : World) (hb : Blk w lb 24 #[.bool r, .string t, .slice A ss.length c])
    (ho : Own w base 9 1 A ss.length c (strsV ss)) (hbase : base ≤ w.heap.size) (hn : ss.length < 1024) :
    Calls Try.prog 37 #[.pointer (some ⟨lb, 0, none⟩), .string s] w fun e w' => ∃ A' c', e = .returned (.bool true) ∧ Blk w' lb 24 #[.bool r, .string t, .slice A' (ss.length + 1) c'] ∧
      Own w' base 9 1 A' (ss.length + 1) c' (strsV (ss ++ [s])) ∧ Fr (fun i => i = lb ∨ A = some ⟨i, 0, none⟩) w w' := by
  obtain ⟨c0, c1, c2, f0⟩ := hb.c3
  have hlt := hb.lt
  have HB := Lib.hid hb
  clear hb
  go_enter Try.func37, Try.ntmps37
  go_wp2_with (
    at_builtin
    refine wpList_append_x _ rfl (.tmp 15) (.tmp 17) rfl slS rfl (ho.alloc (.cells #[.string s] 9)) rfl (reads_one w 9 (.string s)) (by simp) (by simp [Value.oneCell']) (by omega) (by simp; omega) ?_
    intro A' c' w1 hown hfr hat
    have b1 : Blk w1 lb 24 #[.bool r, .string t, .slice A ss.length c] := (HB.out.alloc _).fr hfr (fun e => ho.ne_blk HB.out (by decide) lb 0 e rfl)
    obtain ⟨d0, d1, d2, g0⟩ := b1.c3
    have HO := Lib.hid hown
    have HB1 := Lib.hid b1
    have HF := Lib.hid hfr
    clear hown hfr b1 hat)
  go_ret
  refine ⟨A', c', rfl, HB1.out.set_ 2 _, ?_, ?_⟩
  · rw [strsV_app]
    exact HO.out.setCell (fun g off hA => HO.out.ne_blk HB1.out (by decide) g off hA) _
  · refine Fr.setCell (p := ⟨lb, 2, none⟩) ?_ (.inr (.inl rfl)) _
    exact ((Fr.refl _ w).alloc _).trans HF.out fun i _ h => .inr h
end Go.Proofs.Ytcnoefpckiionaa
