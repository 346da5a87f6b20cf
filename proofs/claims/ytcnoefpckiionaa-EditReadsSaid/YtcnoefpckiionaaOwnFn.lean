/- A line editor whose memory belongs to nobody else, and the delivery of a text, by contracts. -/
import Derived.Test.YtcnoefpckiionaaRows
import Derived.Test.YtcnoefpckiionaaRights
namespace Go.Proofs.Ytcnoefpckiionaa
open Go.RowKit
set_option linter.unusedSimpArgs false
set_option linter.unusedVariables false
set_option maxHeartbeats 400000 in
theorem own_any {B : Nat} (r : Bool) (t : ByteArray) (A : Option Addr) (c : Nat) (ss : List ByteArray) (w : World) (hr : Reads w B 1 A ss.length (strsV ss)) (hB : B ≤ w.heap.size) (hA : A = none → ss.length = 0 ∧ c = 0) (hl : ss.length ≤ 100000) :
    Calls Try.prog 30 #[.agg #[.bool r, .string t, .slice A ss.length c]] w fun e w' => ∃ A' c', e = .returned (.agg #[.bool r, .string t, .slice A' ss.length c']) ∧ Own w' w.heap.size 9 1 A' ss.length c' (strsV ss) ∧ Below w.heap.size w w' := by
  have K := Lib.hid (fun (W : World) (hw : Reads W W.heap.size 1 A ss.length (strsV ss)) => clone_any A c ss W hw hA (by omega))
  have HR := Lib.hid hr
  clear hr hA
  go_enter Try.func30, Try.ntmps30
  go_wp2_with fail
  refine (K.out _ (((HR.out.alloc hB _).alloc (by simp; omega) _).more (by simp; omega))).mono ?_
  rintro e w1 ⟨A', c', rfl, hown, hb⟩
  simp only [World.size_alloc, Nat.add_assoc, Nat.reduceAdd] at hown hb
  have hb' := hb
  have b0 : Blk w1 w.heap.size 24 #[.bool r, .string t, .slice A ss.length c] := ((Blk.new w _ _).alloc _).below hb' (by omega)
  have b1 : Blk w1 (w.heap.size + 1) 24 #[.bool false, .string ⟨#[]⟩, .slice none 0 0] := (Blk.new' (w.alloc _) _ _ (by simp)).below hb' (by omega)
  have hsz : w.heap.size + 1 < w1.heap.size := b1.lt
  have c00 : w1.cell? ⟨w.heap.size, 0, none⟩ = some (.bool r) := b0.cell 0
  have c01 : w1.cell? ⟨w.heap.size, 1, none⟩ = some (.string t) := b0.cell 1
  have c02 : w1.cell? ⟨w.heap.size, 2, none⟩ = some (.slice A ss.length c) := b0.cell 2
  have c10 : w1.cell? ⟨w.heap.size + 1, 0, none⟩ = some (.bool false) := b1.cell 0
  have c11 : w1.cell? ⟨w.heap.size + 1, 1, none⟩ = some (.string ⟨#[]⟩) := b1.cell 1
  have c12 : w1.cell? ⟨w.heap.size + 1, 2, none⟩ = some (.slice none 0 0) := b1.cell 2
  have f0 := b0.frozen
  have f1 := b1.frozen
  have HO := Lib.hid hown
  have HB := Lib.hid hb'
  clear hb hown b0 b1 hb'
  go_wp2_with fail
  refine bodyPost_ret (v := .agg #[.bool r, .string t, .slice A' ss.length c']) (by simp [results, Try.results30, go_sem, hsz, c10, c11, c12]) rfl ⟨A', c', rfl, ?_, ?_⟩
  · exact ((((HO.out.setLow (by simp) _).setLow (by simp) _).setLow (by simp) _).setLow (by simp) _).low (by omega)
  · exact ((((((((Below.refl _ _).alloc (Nat.le_refl _) _).alloc (by simp) _).trans (HB.out.mono (by omega))).setCell (by simp) _).setCell (by simp) _).setCell (by simp) _).setCell (by simp) _)
end Go.Proofs.Ytcnoefpckiionaa
