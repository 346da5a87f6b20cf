/- The reference's Read, by contract. -/
import Derived.Test.YtcnoefpckiionaaReadFn
namespace Go.Proofs.Ytcnoefpckiionaa
open Go.RowKit
set_option linter.unusedSimpArgs false
set_option linter.unusedVariables false
section
variable (w : World) (r : Bool) (t : ByteArray) (A : Option Addr) (c : Nat)
set_option maxRecDepth 100000 in
set_option maxHeartbeats 800000 in
theorem refRead_none (count : Int) (hA : A = none → c = 0) (hc2 : c ≤ maxLen) :
    Calls Try.prog 18 #[.agg #[.bool r, .string t, .slice A 0 c], .int .i64 count] w (ReadPost w ⟨r, t, []⟩ emS true) := by
  have KL := Lib.hid (LineV.mk (w := w) (c := c) (t := t) (r := r) (ss := []) (A := A) Reads.none_ (Nat.zero_le _) (fun h => ⟨rfl, hA h⟩) (Nat.zero_le _) hc2)
  clear hA hc2
  go_enter Try.func18, Try.ntmps18
  go_wp2_with fail
  have h1 := Below.refl w.heap.size w
  refine bodyPost_ret (v := .tuple #[.agg #[.bool r, .string t, .slice A 0 c], .string ⟨#[]⟩, .bool true]) (by simp [results, Try.results18, go_sem]) rfl ⟨_, rfl, KL.out.below (by repeat (first | (with_reducible exact h1) | ((with_reducible refine Below.setCell ?_ ?_ _); rotate_left; (simp <;> omega)) | ((with_reducible refine Below.alloc ?_ ?_ _); rotate_left; (simp <;> omega)) | (with_reducible refine Below.drew ?_))), fun h => absurd h (Nat.lt_irrefl 0), (by repeat (first | (with_reducible exact h1) | ((with_reducible refine Below.setCell ?_ ?_ _); rotate_left; (simp <;> omega)) | ((with_reducible refine Below.alloc ?_ ?_ _); rotate_left; (simp <;> omega)) | (with_reducible refine Below.drew ?_)))⟩
theorem reads_one' (w : World) (e : TypeId) (v : Value) {g : Nat} (hg : g = w.heap.size) : Reads (w.alloc (.cells #[v] e)) (w.heap.size + 1) 1 (some ⟨g, 0, none⟩) 1 [v] := by subst hg; exact reads_one w e v
theorem Reads.tail {w : World} {B b off n : Nat} {f : ByteArray} {ss : List ByteArray} (hr : Reads w B 1 (some ⟨b, off, none⟩) (n + 1) (strsV (f :: ss))) : Reads w B 1 (some ⟨b, off + 1, none⟩) n (strsV ss) := by
  refine ⟨by have := hr.1; simp [strsV] at this ⊢; omega, fun hn => ?_⟩
  obtain ⟨b', off', e, hb, hc⟩ := hr.2 (by omega)
  injection e with e
  injection e with e1 e2
  subst e1; subst e2
  refine ⟨b, off + 1, rfl, hb, fun j u hu => ?_⟩
  have := hc (j + 1) u (by simpa [strsV] using hu)
  rwa [show off + 1 + j = off + (j + 1) by omega]
set_option maxRecDepth 100000 in
set_option maxHeartbeats 1600000 in
theorem refRead_all1 (f : ByteArray) (ss : List ByteArray) (n : Nat) (hr : Reads w w.heap.size 1 A (ss.length + 1) (strsV (f :: ss))) (hl : ss.length ≤ 10000) (hf : f.size ≤ 100000) (hcc : ss.length + 1 ≤ c) (hcc2 : c ≤ maxLen) (count : Int) (hm : min (max count 0) (f.size : Int) = f.size) (hnf : n = f.size) (hc1 : c = 1) :
    Calls Try.prog 18 #[.agg #[.bool r, .string t, .slice A (ss.length + 1) c], .int .i64 count] w (ReadPost w ⟨r, t, ss⟩ f false) := by
  obtain ⟨b, off, rfl, hb, hcell⟩ := hr.2 (by omega)
  have hc0 : w.cell? ⟨b, off, none⟩ = some (.string f) := hcell 0 _ rfl
  subst hc1
  have hss : ss = [] := List.eq_nil_of_length_eq_zero (by omega)
  subst hss
  have htl : Reads w w.heap.size 1 (some ⟨b, off, none⟩) 0 (strsV []) := Reads.none_
  simp only [List.length_nil, Nat.zero_add] at *
  have HTL := Lib.hid htl
  have hi0 : (0 : Int) ≤ (n : Int) := by omega
  have HN := Lib.hid hnf
  clear hnf
  clear hr hcell htl
  go_enter Try.func18, Try.ntmps18
  go_wp2_with fail
  go_region
  go_wp2_with fail
  have h2 := Below.refl w.heap.size w
  refine bodyPost_ret (v := .tuple #[.agg #[.bool r, .string t, .slice none 0 0], .string f, .bool false]) (by simp [results, Try.results18, go_sem]) rfl ⟨_, rfl, ⟨none, 0, rfl, Reads.none_, fun _ => ⟨rfl, rfl⟩, Nat.le_refl _, Nat.zero_le _⟩, fun h => absurd h (Nat.lt_irrefl 0), (by repeat (first | (with_reducible exact h2) | ((with_reducible refine Below.setCell ?_ ?_ _); rotate_left; (simp <;> omega)) | ((with_reducible refine Below.alloc ?_ ?_ _); rotate_left; (simp <;> omega)) | (with_reducible refine Below.drew ?_)))⟩
set_option maxRecDepth 100000 in
set_option maxHeartbeats 1600000 in
theorem refRead_all2 (f : ByteArray) (ss : List ByteArray) (n : Nat) (hr : Reads w w.heap.size 1 A (ss.length + 1) (strsV (f :: ss))) (hl : ss.length ≤ 10000) (hf : f.size ≤ 100000) (hcc : ss.length + 1 ≤ c) (hcc2 : c ≤ maxLen) (count : Int) (hm : min (max count 0) (f.size : Int) = f.size) (hnf : n = f.size) (hc1 : ¬ c = 1) :
    Calls Try.prog 18 #[.agg #[.bool r, .string t, .slice A (ss.length + 1) c], .int .i64 count] w (ReadPost w ⟨r, t, ss⟩ f false) := by
  obtain ⟨b, off, rfl, hb, hcell⟩ := hr.2 (by omega)
  have hc0 : w.cell? ⟨b, off, none⟩ = some (.string f) := hcell 0 _ rfl
  have htl := hr.tail
  have HTL := Lib.hid htl
  have hi0 : (0 : Int) ≤ (n : Int) := by omega
  have HN := Lib.hid hnf
  clear hnf
  clear hr hcell htl
  go_enter Try.func18, Try.ntmps18
  go_wp2_with (at_builtin; refine wpList_append_x _ rfl (.tmp 34) (.tmp 37) rfl slS (base := w.heap.size + 2) (A := none) (n := 0) (cc := 0) (xs := []) rfl (Own.none_ _ _ _ _) rfl ((HTL.out.alloc (Nat.le_refl _) _).alloc (by simp) _) (by intro h; cases h) one_str (by omega) (by simp) ?_; intro A2 c2 w2 hown hfr hat; simp only [Nat.zero_add, List.nil_append] at hown; have b0 : Blk w2 w.heap.size 24 #[.bool r, .string t, .slice (some ⟨b, off, none⟩) (ss.length + 1) c] := ((Blk.new w _ _).alloc _).fr hfr (by simp); have b1 : Blk w2 (w.heap.size + 1) 24 #[.bool false, .string ⟨#[]⟩, .slice none 0 0] := (Blk.new' (w.alloc _) _ _ (by simp)).fr hfr (by simp); obtain ⟨d0, d1, d2, g0⟩ := b1.c3; obtain ⟨e0, e1, e2, g1⟩ := b0.c3; have hz1 := b1.lt; have hz0 := b0.lt; have HB1 := Lib.hid b1; have h2 : Below w.heap.size w w2 := below_app (((Below.refl _ _).alloc (Nat.le_refl _) _).alloc (by simp) _) (Own.none_ _ w.heap.size 9 1) hfr (Nat.le_refl _) (by simp <;> omega); have HO := Lib.hid hown; have H2 := Lib.hid h2; clear hown hfr b1 b0 h2 hat)
  go_region
  go_wp2_with fail
  have h2 := H2.out
  have o2 : Own w2 (w.heap.size + 2) 9 1 A2 ss.length c2 (strsV (ss)) := HO.out
  refine bodyPost_ret (v := .tuple #[.agg #[.bool r, .string t, .slice A2 ss.length c2], .string (f), .bool false]) (by simp [results, Try.results18, go_sem, d0, d1, d2, hz0, hz1]) rfl ⟨_, rfl, ?_, fun _ => HO.out.fresh (by omega), ?_⟩
  · exact Own.lineV' (base := w.heap.size + 2) (by repeat (first | (with_reducible exact o2) | ((with_reducible refine Own.setLow ?_ ?_ _); rotate_left; (simp <;> omega)) | (with_reducible refine Own.alloc ?_ _) | (with_reducible refine Own.drew ?_))) (by simp)
  · exact (by repeat (first | (with_reducible exact h2) | ((with_reducible refine Below.setCell ?_ ?_ _); rotate_left; (simp <;> omega)) | ((with_reducible refine Below.alloc ?_ ?_ _); rotate_left; (simp <;> omega)) | (with_reducible refine Below.drew ?_)))
set_option maxRecDepth 100000 in
set_option maxHeartbeats 1600000 in
theorem refRead_part1 (f : ByteArray) (ss : List ByteArray) (n : Nat) (hr : Reads w w.heap.size 1 A (ss.length + 1) (strsV (f :: ss))) (hl : ss.length ≤ 10000) (hf : f.size ≤ 100000) (hcc : ss.length + 1 ≤ c) (hcc2 : c ≤ maxLen) (count : Int) (hm : min (max count 0) (f.size : Int) = n) (hnf : n < f.size) (hc1 : c = 1) :
    Calls Try.prog 18 #[.agg #[.bool r, .string t, .slice A (ss.length + 1) c], .int .i64 count] w (ReadPost w ⟨r, t, f.extract n f.size :: ss⟩ (f.extract 0 n) false) := by
  obtain ⟨b, off, rfl, hb, hcell⟩ := hr.2 (by omega)
  have hc0 : w.cell? ⟨b, off, none⟩ = some (.string f) := hcell 0 _ rfl
  subst hc1
  have hss : ss = [] := List.eq_nil_of_length_eq_zero (by omega)
  subst hss
  have htl : Reads w w.heap.size 1 (some ⟨b, off, none⟩) 0 (strsV []) := Reads.none_
  simp only [List.length_nil, Nat.zero_add] at *
  have HTL := Lib.hid htl
  have hi0 : (0 : Int) ≤ (n : Int) := by omega
  clear hr hcell htl
  go_enter Try.func18, Try.ntmps18
  go_wp2_with (first
    | (at_builtin; refine wpList_append_x _ rfl (.tmp 28) (.tmp 32) rfl slS (base := w.heap.size + 2) (A := none) (n := 0) (cc := 0) (xs := []) rfl (Own.none_ _ _ _ _) rfl (reads_one' _ 9 (.string (f.extract n f.size)) (by simp)) (by intro h; cases h) (by simp [Value.oneCell']) (by omega) (by simp <;> omega) ?_; intro A1 c1 w1 hown1 hfr1 hat1; simp only [Nat.zero_add, List.nil_append] at hown1; have b0 : Blk w1 w.heap.size 24 #[.bool r, .string t, .slice (some ⟨b, off, none⟩) 1 1] := (((Blk.new w _ _).alloc _).alloc _).fr hfr1 (by simp); have b1 : Blk w1 (w.heap.size + 1) 24 #[.bool false, .string ⟨#[]⟩, .slice none 0 0] := ((Blk.new' (w.alloc _) _ _ (by simp)).alloc _).fr hfr1 (by simp); obtain ⟨d0', d1', d2', g0'⟩ := b1.c3; obtain ⟨e0', e1', e2', g1'⟩ := b0.c3; have hz1' := b1.lt; have hz0' := b0.lt; have HB0 := Lib.hid b0; have HB1 := Lib.hid b1; have h2 : Below w.heap.size w w1 := below_app ((((Below.refl _ _).alloc (Nat.le_refl _) _).alloc (by simp) _).alloc (by simp <;> omega) _) (Own.none_ _ w.heap.size 9 1) hfr1 (Nat.le_refl _) (by simp <;> omega); have HO1 := Lib.hid hown1; have H1 := Lib.hid h2; clear hown1 hfr1 b1 b0 h2 hat1)
    | (at_builtin; refine wpList_append_x _ rfl (.tmp 34) (.tmp 37) rfl slS rfl HO1.out rfl (Reads.none_ (w := w1) (B := w.heap.size) (size := 1) (A := some ⟨b, off, none⟩)) (by intro h; cases h) (by simp) (by omega) (by omega) ?_; intro A2 c2 w2 hown hfr hat; have b0 : Blk w2 w.heap.size 24 #[.bool r, .string t, .slice (some ⟨b, off, none⟩) 1 1] := HB0.out.fr hfr (fun e => by have := (HO1.out.lt e).1; omega); have b1 : Blk w2 (w.heap.size + 1) 24 #[.bool false, .string ⟨#[]⟩, .slice none 0 0] := HB1.out.fr hfr (fun e => by have := (HO1.out.lt e).1; omega); obtain ⟨d0, d1, d2, g0⟩ := b1.c3; obtain ⟨e0, e1, e2, g1⟩ := b0.c3; have hz1 := b1.lt; have hz0 := b0.lt; simp only [List.append_nil] at hown; have h2 : Below w.heap.size w w2 := below_app H1.out HO1.out hfr (by omega) (by omega); have HO := Lib.hid hown; have H2 := Lib.hid h2; clear hown hfr b1 b0 h2 hat))
  go_region
  go_wp2_with fail
  have h2 := H2.out
  have o2 : Own w2 (w.heap.size + 2) 9 1 A2 (1 + 0) c2 (strsV (f.extract n f.size :: ([] : List ByteArray))) := HO.out
  refine bodyPost_ret (v := .tuple #[.agg #[.bool r, .string t, .slice A2 (1 + 0) c2], .string (f.extract 0 n), .bool false]) (by simp [results, Try.results18, go_sem, d0, d1, d2, hz0, hz1]) rfl ⟨_, rfl, ?_, fun _ => HO.out.fresh (by omega), ?_⟩
  · exact Own.lineV' (base := w.heap.size + 2) (by repeat (first | (with_reducible exact o2) | ((with_reducible refine Own.setLow ?_ ?_ _); rotate_left; (simp <;> omega)) | (with_reducible refine Own.alloc ?_ _) | (with_reducible refine Own.drew ?_))) (by simp)
  · exact (by repeat (first | (with_reducible exact h2) | ((with_reducible refine Below.setCell ?_ ?_ _); rotate_left; (simp <;> omega)) | ((with_reducible refine Below.alloc ?_ ?_ _); rotate_left; (simp <;> omega)) | (with_reducible refine Below.drew ?_)))
set_option maxRecDepth 100000 in
set_option maxHeartbeats 1600000 in
theorem refRead_part2 (f : ByteArray) (ss : List ByteArray) (n : Nat) (hr : Reads w w.heap.size 1 A (ss.length + 1) (strsV (f :: ss))) (hl : ss.length ≤ 10000) (hf : f.size ≤ 100000) (hcc : ss.length + 1 ≤ c) (hcc2 : c ≤ maxLen) (count : Int) (hm : min (max count 0) (f.size : Int) = n) (hnf : n < f.size) (hc1 : ¬ c = 1) :
    Calls Try.prog 18 #[.agg #[.bool r, .string t, .slice A (ss.length + 1) c], .int .i64 count] w (ReadPost w ⟨r, t, f.extract n f.size :: ss⟩ (f.extract 0 n) false) := by
  obtain ⟨b, off, rfl, hb, hcell⟩ := hr.2 (by omega)
  have hc0 : w.cell? ⟨b, off, none⟩ = some (.string f) := hcell 0 _ rfl
  have htl := hr.tail
  have HTL := Lib.hid htl
  have hi0 : (0 : Int) ≤ (n : Int) := by omega
  clear hr hcell htl
  go_enter Try.func18, Try.ntmps18
  go_wp2_with (first
    | (at_builtin; refine wpList_append_x _ rfl (.tmp 28) (.tmp 32) rfl slS (base := w.heap.size + 2) (A := none) (n := 0) (cc := 0) (xs := []) rfl (Own.none_ _ _ _ _) rfl (reads_one' _ 9 (.string (f.extract n f.size)) (by simp)) (by intro h; cases h) (by simp [Value.oneCell']) (by omega) (by simp <;> omega) ?_; intro A1 c1 w1 hown1 hfr1 hat1; simp only [Nat.zero_add, List.nil_append] at hown1; have b0 : Blk w1 w.heap.size 24 #[.bool r, .string t, .slice (some ⟨b, off, none⟩) (ss.length + 1) c] := (((Blk.new w _ _).alloc _).alloc _).fr hfr1 (by simp); have b1 : Blk w1 (w.heap.size + 1) 24 #[.bool false, .string ⟨#[]⟩, .slice none 0 0] := ((Blk.new' (w.alloc _) _ _ (by simp)).alloc _).fr hfr1 (by simp); obtain ⟨d0', d1', d2', g0'⟩ := b1.c3; obtain ⟨e0', e1', e2', g1'⟩ := b0.c3; have hz1' := b1.lt; have hz0' := b0.lt; have HB0 := Lib.hid b0; have HB1 := Lib.hid b1; have h2 : Below w.heap.size w w1 := below_app ((((Below.refl _ _).alloc (Nat.le_refl _) _).alloc (by simp) _).alloc (by simp <;> omega) _) (Own.none_ _ w.heap.size 9 1) hfr1 (Nat.le_refl _) (by simp <;> omega); have HO1 := Lib.hid hown1; have H1 := Lib.hid h2; clear hown1 hfr1 b1 b0 h2 hat1)
    | (at_builtin; refine wpList_append_x _ rfl (.tmp 34) (.tmp 37) rfl slS rfl HO1.out rfl (HTL.out.below H1.out) (by intro h; cases h) one_str (by omega) (by omega) ?_; intro A2 c2 w2 hown hfr hat; have b0 : Blk w2 w.heap.size 24 #[.bool r, .string t, .slice (some ⟨b, off, none⟩) (ss.length + 1) c] := HB0.out.fr hfr (fun e => by have := (HO1.out.lt e).1; omega); have b1 : Blk w2 (w.heap.size + 1) 24 #[.bool false, .string ⟨#[]⟩, .slice none 0 0] := HB1.out.fr hfr (fun e => by have := (HO1.out.lt e).1; omega); obtain ⟨d0, d1, d2, g0⟩ := b1.c3; obtain ⟨e0, e1, e2, g1⟩ := b0.c3; have hz1 := b1.lt; have hz0 := b0.lt; have h2 : Below w.heap.size w w2 := below_app H1.out HO1.out hfr (by omega) (by omega); have HO := Lib.hid hown; have H2 := Lib.hid h2; clear hown hfr b1 b0 h2 hat))
  go_region
  go_wp2_with fail
  have h2 := H2.out
  have o2 : Own w2 (w.heap.size + 2) 9 1 A2 (1 + ss.length) c2 (strsV (f.extract n f.size :: ss)) := HO.out
  refine bodyPost_ret (v := .tuple #[.agg #[.bool r, .string t, .slice A2 (1 + ss.length) c2], .string (f.extract 0 n), .bool false]) (by simp [results, Try.results18, go_sem, d0, d1, d2, hz0, hz1]) rfl ⟨_, rfl, ?_, fun _ => HO.out.fresh (by omega), ?_⟩
  · exact Own.lineV' (base := w.heap.size + 2) (by repeat (first | (with_reducible exact o2) | ((with_reducible refine Own.setLow ?_ ?_ _); rotate_left; (simp <;> omega)) | (with_reducible refine Own.alloc ?_ _) | (with_reducible refine Own.drew ?_))) (by simp; omega)
  · exact (by repeat (first | (with_reducible exact h2) | ((with_reducible refine Below.setCell ?_ ?_ _); rotate_left; (simp <;> omega)) | ((with_reducible refine Below.alloc ?_ ?_ _); rotate_left; (simp <;> omega)) | (with_reducible refine Below.drew ?_)))
end
end Go.Proofs.Ytcnoefpckiionaa
