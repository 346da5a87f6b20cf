/- edit.Read and the reference's Read, by contracts. -/
import Derived.Test.YtcnoefpckiionaaRefFeed
import Derived.Test.YtcnoefpckiionaaAlls
import Derived.Deep.Cut
namespace Go.Proofs.Ytcnoefpckiionaa
open Go.RowKit
set_option linter.unusedSimpArgs false
set_option linter.unusedVariables false
def ReadPost (w : World) (l : LineD) (out : ByteArray) (b : Bool) (e : Ending) (w' : World) : Prop := ∃ v', e = .returned (.tuple #[v', .string out, .bool b]) ∧ LineV w' l v' ∧ (0 < lineN v' → Fresh w.heap.size (lineSl v')) ∧ Below w.heap.size w w'
theorem Own.tailV {w : World} {base g c : Nat} {r : Bool} {t f : ByteArray} {ss : List ByteArray} (h : Own w base 9 1 (some ⟨g, 0, none⟩) (ss.length + 1) c (strsV (f :: ss))) :
    LineV w ⟨r, t, ss⟩ (.agg #[.bool r, .string t, .slice (some ⟨g, 1, none⟩) ss.length (c - 1)]) := by
  have hc := h.cap
  refine ⟨_, c - 1, rfl, ⟨by simp [strsV], fun hn => ⟨g, 1, rfl, (h.lt rfl).2.1, fun j u hu => ?_⟩⟩, (by intro h; cases h), by show ss.length ≤ c - 1; omega, by omega⟩
  rw [h.cellAt (1 + j) (by have := (List.getElem?_eq_some_iff.1 hu).1; simp [strsV] at this; omega), Nat.add_comm]
  exact hu
section
variable (w : World) (r : Bool) (t : ByteArray) (A : Option Addr) (c : Nat)
set_option maxRecDepth 100000 in
set_option maxHeartbeats 800000 in
theorem read_none (hA : A = none → c = 0) (count : Int) :
    Calls Try.prog 17 #[.agg #[.bool r, .string t, .slice A 0 c], .int .i64 count] w (ReadPost w ⟨r, t, []⟩ emS true) := by
  have KO := Lib.hid (fun (W : World) (hB : w.heap.size ≤ W.heap.size) => own_any r t A c [] W (B := w.heap.size) Reads.none_ hB (fun h => ⟨rfl, hA h⟩) (by simp))
  clear hA
  go_enter Try.func17, Try.ntmps17
  go_wp2_with fail
  refine (KO.out _ (by simp; omega)).mono ?_
  rintro e w1 ⟨A1, c1, rfl, hown, hb⟩
  simp only [World.size_alloc, Nat.add_assoc, Nat.reduceAdd, List.length_nil] at hown hb ⊢
  have b1 : Blk w1 (w.heap.size + 1) 24 #[.bool false, .string ⟨#[]⟩, .slice none 0 0] := (Blk.new' (w.alloc _) _ _ (by simp)).below hb (by omega)
  obtain ⟨d0, d1, d2, g0⟩ := b1.c3
  have hsz := b1.lt
  have hne : w1.heap.size ≠ w.heap.size + 1 := by omega
  have hne2 : w.heap.size + 1 ≠ w1.heap.size := by omega
  have HO := Lib.hid hown
  have HB := Lib.hid hb
  clear hown hb b1
  go_wp2_with fail
  have o1 := HO.out
  have h1 : Below w.heap.size w w1 := ((((Below.refl _ _).alloc (Nat.le_refl _) _).alloc (by simp) _).trans (HB.out.mono (by omega)))
  refine bodyPost_ret (v := .tuple #[.agg #[.bool r, .string t, .slice A1 0 c1], .string ⟨#[]⟩, .bool true]) (by simp [results, Try.results17, go_sem, d0, d1, d2, hne, hne2, hsz]) rfl ⟨_, rfl, ?_, fun _ => HO.out.fresh (by omega), ?_⟩
  · exact Own.lineV' (base := w.heap.size + 2) (by repeat (first | (with_reducible exact o1) | ((with_reducible refine Own.setLow ?_ ?_ _); rotate_left; (simp <;> omega)) | (with_reducible refine Own.alloc ?_ _) | (with_reducible refine Own.drew ?_))) rfl
  · exact (by repeat (first | (with_reducible exact h1) | ((with_reducible refine Below.setCell ?_ ?_ _); rotate_left; (simp <;> omega)) | ((with_reducible refine Below.alloc ?_ ?_ _); rotate_left; (simp <;> omega)) | (with_reducible refine Below.drew ?_)))
set_option maxRecDepth 100000 in
set_option maxHeartbeats 1600000 in
theorem read_all (f : ByteArray) (ss : List ByteArray) (n : Nat) (hr : Reads w w.heap.size 1 A (ss.length + 1) (strsV (f :: ss))) (hl : ss.length ≤ 10000) (hf : f.size ≤ 100000) (count : Int) (hm : min (max count 0) (f.size : Int) = f.size) (hnf : n = f.size) :
    Calls Try.prog 17 #[.agg #[.bool r, .string t, .slice A (ss.length + 1) c], .int .i64 count] w (ReadPost w ⟨r, t, ss⟩ f false) := by
  have HN := Lib.hid hnf
  clear hnf
  have KO := Lib.hid (fun (W : World) (hw : Reads W w.heap.size 1 A (f :: ss).length (strsV (f :: ss))) (hB : w.heap.size ≤ W.heap.size) => own_any r t A c (f :: ss) W hw hB (fun h => by obtain ⟨b, off, e, _⟩ := hr.2 (by omega); rw [h] at e; cases e) (by simp; omega))
  have HR := Lib.hid hr
  clear hr
  go_enter Try.func17, Try.ntmps17
  go_wp2_with fail
  refine (KO.out _ (((HR.out.alloc (Nat.le_refl _) _).alloc (by simp) _)) (by simp; omega)).mono ?_
  rintro e w1 ⟨A1, c1, rfl, hown, hb⟩
  simp only [World.size_alloc, Nat.add_assoc, Nat.reduceAdd, List.length_cons] at hown hb ⊢
  have b1 : Blk w1 (w.heap.size + 1) 24 #[.bool false, .string ⟨#[]⟩, .slice none 0 0] := (Blk.new' (w.alloc _) _ _ (by simp)).below hb (by omega)
  obtain ⟨d0, d1, d2, g0⟩ := b1.c3
  have hsz := b1.lt
  have hne : w1.heap.size ≠ w.heap.size + 1 := by omega
  have hne2 : w.heap.size + 1 ≠ w1.heap.size := by omega
  rcases hown.cases with ⟨_, h0, _⟩ | ⟨g, cur, rfl, hg1, hg2, _⟩
  · omega
  have hc0 : w1.cell? ⟨g, 0, none⟩ = some (.string f) := by rw [hown.cellAt 0 (by omega)]; rfl
  have hf0 : w1.frozen? ⟨g, 0, none⟩ = false := hown.frozenAt 0
  have hcap := hown.cap.1
  have hcap2 := hown.cap.2
  have hgn : g ≠ w1.heap.size := by omega
  have hgn2 : w1.heap.size ≠ g := by omega
  have hgn3 : g ≠ w.heap.size + 1 := by omega
  have h1 : Below w.heap.size w w1 := ((((Below.refl _ _).alloc (Nat.le_refl _) _).alloc (by simp) _).trans (hb.mono (by omega)))
  have HO := Lib.hid hown
  have H1 := Lib.hid h1
  have hi0 : (0 : Int) ≤ (n : Int) := by omega
  clear hown hb b1 h1
  by_cases hc1 : c1 = 1
  · subst hc1
    have hss : ss = [] := List.eq_nil_of_length_eq_zero (by omega)
    subst hss
    simp only [List.length_nil, Nat.zero_add] at *
    go_wp2_with fail
    go_region
    go_wp2_with fail
    have h1 := H1.out
    refine bodyPost_ret (v := .tuple #[.agg #[.bool r, .string t, .slice (some ⟨g, 0, none⟩) 0 0], .string f, .bool false]) (by simp [results, Try.results17, go_sem, d0, d1, d2, hne, hne2, hsz]) rfl ⟨_, rfl, ?_, fun h => absurd h (Nat.lt_irrefl 0), ?_⟩
    · exact ⟨_, 0, rfl, Reads.none_, (by intro h; cases h), Nat.le_refl _, Nat.zero_le _⟩
    · exact (by repeat (first | (with_reducible exact h1) | ((with_reducible refine Below.setCell ?_ ?_ _); rotate_left; (simp <;> omega)) | ((with_reducible refine Below.alloc ?_ ?_ _); rotate_left; (simp <;> omega)) | (with_reducible refine Below.drew ?_)))
  · go_wp2_with fail
    go_region
    go_wp2_with fail
    have h1 := H1.out
    refine bodyPost_ret (v := .tuple #[.agg #[.bool r, .string t, .slice (some ⟨g, 1, none⟩) ss.length (c1 - 1)], .string f, .bool false]) (by simp [results, Try.results17, go_sem, d0, d1, d2, hne, hne2, hsz]) rfl ⟨_, rfl, ?_, fun _ b off e => (by have e' : some (⟨g, 1, none⟩ : Addr) = some ⟨b, off, none⟩ := e; injection e' with e'; injection e' with e1; omega), ?_⟩
    · have o1 := HO.out
      exact Own.tailV (base := w.heap.size + 2) (f := f) (c := c1) (by repeat (first | (with_reducible exact o1) | ((with_reducible refine Own.setLow ?_ ?_ _); rotate_left; (simp <;> omega)) | (with_reducible refine Own.alloc ?_ _) | (with_reducible refine Own.drew ?_)))
    · exact (by repeat (first | (with_reducible exact h1) | ((with_reducible refine Below.setCell ?_ ?_ _); rotate_left; (simp <;> omega)) | ((with_reducible refine Below.alloc ?_ ?_ _); rotate_left; (simp <;> omega)) | (with_reducible refine Below.drew ?_)))
set_option maxRecDepth 100000 in
set_option maxHeartbeats 1600000 in
theorem read_part (f : ByteArray) (ss : List ByteArray) (n : Nat) (hr : Reads w w.heap.size 1 A (ss.length + 1) (strsV (f :: ss))) (hl : ss.length ≤ 10000) (hf : f.size ≤ 100000) (count : Int) (hm : min (max count 0) (f.size : Int) = n) (hnf : n < f.size) :
    Calls Try.prog 17 #[.agg #[.bool r, .string t, .slice A (ss.length + 1) c], .int .i64 count] w (ReadPost w ⟨r, t, f.extract n f.size :: ss⟩ (f.extract 0 n) false) := by
  have KO := Lib.hid (fun (W : World) (hw : Reads W w.heap.size 1 A (f :: ss).length (strsV (f :: ss))) (hB : w.heap.size ≤ W.heap.size) => own_any r t A c (f :: ss) W hw hB (fun h => by obtain ⟨b, off, e, _⟩ := hr.2 (by omega); rw [h] at e; cases e) (by simp; omega))
  have HR := Lib.hid hr
  clear hr
  go_enter Try.func17, Try.ntmps17
  go_wp2_with fail
  refine (KO.out _ (((HR.out.alloc (Nat.le_refl _) _).alloc (by simp) _)) (by simp; omega)).mono ?_
  rintro e w1 ⟨A1, c1, rfl, hown, hb⟩
  simp only [World.size_alloc, Nat.add_assoc, Nat.reduceAdd, List.length_cons] at hown hb ⊢
  have b1 : Blk w1 (w.heap.size + 1) 24 #[.bool false, .string ⟨#[]⟩, .slice none 0 0] := (Blk.new' (w.alloc _) _ _ (by simp)).below hb (by omega)
  obtain ⟨d0, d1, d2, g0⟩ := b1.c3
  have hsz := b1.lt
  have hne : w1.heap.size ≠ w.heap.size + 1 := by omega
  have hne2 : w.heap.size + 1 ≠ w1.heap.size := by omega
  rcases hown.cases with ⟨_, h0, _⟩ | ⟨g, cur, rfl, hg1, hg2, _⟩
  · omega
  have hc0 : w1.cell? ⟨g, 0, none⟩ = some (.string f) := by rw [hown.cellAt 0 (by omega)]; rfl
  have hf0 : w1.frozen? ⟨g, 0, none⟩ = false := hown.frozenAt 0
  have hcap := hown.cap.1
  have hcap2 := hown.cap.2
  have hgn : g ≠ w1.heap.size := by omega
  have hgn2 : w1.heap.size ≠ g := by omega
  have hgn3 : g ≠ w.heap.size + 1 := by omega
  have h1 : Below w.heap.size w w1 := ((((Below.refl _ _).alloc (Nat.le_refl _) _).alloc (by simp) _).trans (hb.mono (by omega)))
  have HO := Lib.hid hown
  have H1 := Lib.hid h1
  have hi0 : (0 : Int) ≤ (n : Int) := by omega
  clear hown hb b1 h1
  go_wp2_with fail
  go_region
  go_wp2_with fail
  go_region
  go_wp2_with fail
  have h1 := H1.out
  have o1 := HO.out
  have o2 : Own (w1.setCell ⟨g, 0, none⟩ (.string (f.extract n f.size))) (w.heap.size + 2) 9 1 (some ⟨g, 0, none⟩) (ss.length + 1) c1 (strsV (f.extract n f.size :: ss)) := o1.stored 0 _
  have h2 : Below w.heap.size w (w1.setCell ⟨g, 0, none⟩ (.string (f.extract n f.size))) := h1.setCell (by simp; omega) _
  refine bodyPost_ret (v := .tuple #[.agg #[.bool r, .string t, .slice (some ⟨g, 0, none⟩) (ss.length + 1) c1], .string (f.extract 0 n), .bool false]) (by simp [results, Try.results17, go_sem, d0, d1, d2, hne, hne2, hsz, hgn3]) rfl ⟨_, rfl, ?_, fun _ => HO.out.fresh (by omega), ?_⟩
  · exact Own.lineV' (base := w.heap.size + 2) (by repeat (first | (with_reducible exact o2) | ((with_reducible refine Own.setLow ?_ ?_ _); rotate_left; (simp <;> omega)) | (with_reducible refine Own.alloc ?_ _) | (with_reducible refine Own.drew ?_))) (by simp)
  · exact (by repeat (first | (with_reducible exact h2) | ((with_reducible refine Below.setCell ?_ ?_ _); rotate_left; (simp <;> omega)) | ((with_reducible refine Below.alloc ?_ ?_ _); rotate_left; (simp <;> omega)) | (with_reducible refine Below.drew ?_)))
end
end Go.Proofs.Ytcnoefpckiionaa
