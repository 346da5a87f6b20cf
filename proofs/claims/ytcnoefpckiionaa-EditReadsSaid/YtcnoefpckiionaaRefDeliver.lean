/- The reference's deliver, by contract. -/
import Derived.Test.YtcnoefpckiionaaRows
import Derived.Test.YtcnoefpckiionaaDeliver
import Derived.Deep.RegionHeld3
namespace Go.Proofs.Ytcnoefpckiionaa
open Go.RowKit
set_option linter.unusedSimpArgs false
set_option linter.unusedVariables false
set_option maxRecDepth 100000 in
set_option maxHeartbeats 400000 in
theorem refDeliver_full (r : Bool) (t s : ByteArray) (A : Option Addr) (n c : Nat) (w : World) (hn : 1024 ≤ n) (hl : n ≤ 100000) :
    Calls Try.prog 34 #[.agg #[.bool r, .string t, .slice A n c], .string s] w fun e w' => e = .returned (.tuple #[.agg #[.bool r, .string t, .slice A n c], .bool false]) ∧ Below w.heap.size w w' := by
  go_enter Try.func34, Try.ntmps34
  go_wp2_with fail
  refine bodyPost_ret (v := .tuple #[.agg #[.bool r, .string t, .slice A n c], .bool false]) (by simp [results, Try.results34, go_sem]) rfl ⟨rfl, ?_⟩
  exact ((Below.refl _ _).alloc (Nat.le_refl _) _).alloc (by simp) _
set_option maxRecDepth 100000 in
set_option maxHeartbeats 400000 in
theorem refDeliver_room {B : Nat} (r : Bool) (t s : ByteArray) (A : Option Addr) (c : Nat) (ss : List ByteArray) (w : World) (hr : Reads w B 1 A ss.length (strsV ss)) (hB : B ≤ w.heap.size) (hA : A = none → ss.length = 0 ∧ c = 0) (hn : ss.length < 1024) :
    Calls Try.prog 34 #[.agg #[.bool r, .string t, .slice A ss.length c], .string s] w fun e w' => ∃ A' c', e = .returned (.tuple #[.agg #[.bool r, .string ⟨#[]⟩, .slice A' (ss.length + 1) c'], .bool true]) ∧
      Own w' w.heap.size 9 1 A' (ss.length + 1) c' (strsV (ss ++ [s])) ∧ Below w.heap.size w w' := by
  have HA := Lib.hid hA
  clear hA
  go_enter Try.func34, Try.ntmps34
  go_wp2_with (
    at_builtin
    refine wpList_append_x _ rfl (.tmp 12) (.tmp 14) rfl slS (base := w.heap.size + 2) (A := none) (n := 0) (cc := 0) (xs := []) rfl (Own.none_ _ _ _ _) rfl ((hr.alloc hB _).alloc (by simp; omega) _) (fun h => (HA.out h).1) one_str (by omega) (by simp) ?_
    intro A1 c1 w1 hown hfr hat
    simp only [Nat.zero_add, List.nil_append] at hown
    have b0 : Blk w1 w.heap.size 24 #[.bool r, .string t, .slice A ss.length c] := ((Blk.new w _ _).alloc _).fr hfr (by simp)
    have b1 : Blk w1 (w.heap.size + 1) 24 #[.bool false, .string ⟨#[]⟩, .slice none 0 0] := (Blk.new' (w.alloc _) _ _ (by simp)).fr hfr (by simp)
    have hz : w.heap.size + 1 < w1.heap.size := b1.lt
    obtain ⟨d0, d1, d2, g0⟩ := b0.c3
    obtain ⟨e0, e1, e2, g1⟩ := b1.c3
    have HO := Lib.hid hown
    have HB1 := Lib.hid b1
    have HB0 := Lib.hid b0
    have HF := Lib.hid hfr
    clear hown hfr b1 b0 hat)
  go_region_held3 (fun w' => w'.cell? ⟨w.heap.size, 0, none⟩ = some (.bool r)) (go_keep)
    ((refine step_append_x _ (by rfl) (.tmp 18) (.tmp 20) (by rfl) slS (by rfl) ((HO.out.alloc (.cells #[.string s] 9)).drew) (by rfl) ((reads_one w1 9 (.string s)).drew) (by simp) (by simp [Value.oneCell']) (by omega) (by simp; omega) ?_
      intro A2 c2 w2 hown2 hfr2 hat2
      have b2 : Blk w2 (w.heap.size + 1) 24 #[.bool false, .string ⟨#[]⟩, .slice none 0 0] := ((HB1.out.alloc _).drew).fr hfr2 (fun e => by have := (HO.out.lt e).1; omega)
      obtain ⟨k0, k1, k2, g2⟩ := b2.c3
      have k3 : w2.cell? ⟨w.heap.size, 0, none⟩ = some (.bool r) := (((HB0.out.alloc _).drew).fr hfr2 (fun e => by have := (HO.out.lt e).1; omega)).cell 0
      have HO2 := Lib.hid hown2
      have HF2 := Lib.hid hfr2
      clear hown2 b2 hat2))
  go_wp2_with fail
  refine bodyPost_ret (v := .tuple #[.agg #[.bool r, .string ⟨#[]⟩, .slice A2 (ss.length + 1) c2], .bool true]) (by simp [results, Try.results34, go_sem, k0, k1, k2]) rfl ⟨A2, c2, rfl, ?_, ?_⟩
  · rw [strsV_app]
    exact (((HO2.out.setLow (by simp) _).setLow (by simp) _).setLow (by simp) _).low (by omega)
  · have h1 : Below w.heap.size w w1 := below_app (((Below.refl _ _).alloc (Nat.le_refl _) _).alloc (by simp) _) (Own.none_ _ w.heap.size 9 1) HF.out (Nat.le_refl _) (by simp; omega)
    have h2 : Below w.heap.size w w2 := below_app ((h1.alloc (by omega) _).drew) ((HO.out.alloc _).drew) HF2.out (by omega) (by simp; omega)
    exact ((h2.setCell (by simp) _).setCell (by simp) _).setCell (by simp) _
end Go.Proofs.Ytcnoefpckiionaa
