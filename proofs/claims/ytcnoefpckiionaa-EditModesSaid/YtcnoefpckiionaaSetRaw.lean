/- SetRaw of the program and of the reference, by contracts. -/
import Derived.Test.YtcnoefpckiionaaRefFeed
import Derived.Test.YtcnoefpckiionaaAlls
import Derived.Deep.Cut
namespace Go.Proofs.Ytcnoefpckiionaa
open Go.RowKit
set_option linter.unusedSimpArgs false
set_option linter.unusedVariables false
def rawCond (l : LineD) (raw : Bool) : Bool := raw && !l.raw && !l.text.toList.isEmpty
def setRawF (l : LineD) (raw : Bool) : LineD :=
  if rawCond l raw = true then ⟨raw, emS, if l.ready.length < 1024 then l.ready ++ [l.text] else l.ready⟩ else ⟨raw, l.text, l.ready⟩
def ValPost (w : World) (l : LineD) (e : Ending) (w' : World) : Prop := ∃ v', e = .returned v' ∧ LineV w' l v' ∧ Below w.heap.size w w'
section
variable (w : World) (t : ByteArray) (A : Option Addr) (c : Nat) (ss : List ByteArray)
set_option maxRecDepth 100000 in
set_option maxHeartbeats 800000 in
theorem setRaw_room (hr : Reads w w.heap.size 1 A ss.length (strsV ss)) (hA : A = none → ss.length = 0 ∧ c = 0) (hl : ss.length < 1024) (ht : ¬ t.toList = []) (ht2 : t.toList.isEmpty = false) :
    Calls Try.prog 24 #[.agg #[.bool false, .string t, .slice A ss.length c], .bool true] w (ValPost w ⟨true, emS, ss ++ [t]⟩) := by
  have KO := Lib.hid (fun (W : World) (hw : Reads W w.heap.size 1 A ss.length (strsV ss)) hB => own_any false t A c ss W hw hB hA (by omega))
  have HR := Lib.hid hr
  clear hr hA
  go_enter Try.func24, Try.ntmps24
  go_wp2_with fail
  refine (KO.out _ (((HR.out.alloc (Nat.le_refl _) _).alloc (by simp) _)) (by simp; omega)).mono ?_
  rintro e w1 ⟨A1, c1, rfl, hown, hb⟩
  simp only [World.size_alloc, Nat.add_assoc, Nat.reduceAdd] at hown hb
  have b1 : Blk w1 (w.heap.size + 1) 24 #[.bool false, .string ⟨#[]⟩, .slice none 0 0] := (Blk.new' (w.alloc _) _ _ (by simp)).below hb (by omega)
  have hsz := b1.lt
  have HO := Lib.hid hown
  have HB := Lib.hid hb
  have HB1 := Lib.hid b1
  clear hown hb b1
  go_wp2_with fail
  refine (deliver_room _ _ _ _ A1 c1 (w.heap.size + 2) ss _ (Blk.new' w1 _ _ rfl) (HO.out.alloc _) (by simp; omega) hl).mono ?_
  rintro e w2 ⟨A2, c2, rfl, k1, o2, fr⟩
  have b2 : Blk w2 (w.heap.size + 1) 24 #[.bool false, .string ⟨#[]⟩, .slice none 0 0] := (HB1.out.alloc _).fr fr (fun e => by rcases e with e | e; omega; have := (HO.out.lt e).1; omega)
  obtain ⟨d0, d1, d2, g0⟩ := b2.c3
  obtain ⟨e0, e1, e2, g1⟩ := k1.c3
  have hsz2 := b2.lt
  have hsz3 := k1.lt
  have hne : w1.heap.size ≠ w.heap.size + 1 := by omega
  have hne2 : w.heap.size + 1 ≠ w1.heap.size := by omega
  have HO2 := Lib.hid o2
  have HF := Lib.hid fr
  have HK := Lib.hid k1
  clear b2 k1 o2 fr
  go_wp2_with fail
  have hnb : ∀ g off, A2 = some ⟨g, off, none⟩ → g ≠ w1.heap.size := fun g off hA => HO2.out.ne_blk HK.out (by decide) g off hA
  have o3 := (HO2.out.setCell (p := ⟨w1.heap.size, 1, none⟩) hnb (.string ⟨#[]⟩)).setCell (p := ⟨w1.heap.size, 0, none⟩) hnb (.bool true)
  have h1 : Below w.heap.size w w1 := ((((Below.refl _ _).alloc (Nat.le_refl _) _).alloc (by simp) _).trans (HB.out.mono (by omega)))
  have h2 : Below w.heap.size w w2 := (h1.alloc (by omega) _).trans (HF.out.below (by simp; omega) (fun i hi => by rcases hi with e | e; omega; have := (HO.out.lt e).1; omega))
  refine bodyPost_ret (v := .agg #[.bool true, .string ⟨#[]⟩, .slice A2 (ss.length + 1) c2]) (by simp [results, Try.results24, go_sem, d0, d1, d2, hne, hne2]) rfl ⟨_, rfl, ?_, ?_⟩
  · exact Own.lineV' (base := w.heap.size + 2) (by repeat (first | (with_reducible exact o3) | ((with_reducible refine Own.setLow ?_ ?_ _); rotate_left; (simp <;> omega)) | (with_reducible refine Own.alloc ?_ _) | (with_reducible refine Own.drew ?_))) (by simp)
  · exact (by repeat (first | (with_reducible exact h2) | ((with_reducible refine Below.setCell ?_ ?_ _); rotate_left; (simp <;> omega)) | ((with_reducible refine Below.alloc ?_ ?_ _); rotate_left; (simp <;> omega)) | (with_reducible refine Below.drew ?_)))
set_option maxRecDepth 100000 in
set_option maxHeartbeats 800000 in
theorem setRaw_full (hr : Reads w w.heap.size 1 A ss.length (strsV ss)) (hA : A = none → ss.length = 0 ∧ c = 0) (hl : 1024 ≤ ss.length) (hl2 : ss.length ≤ 100000) (ht : ¬ t.toList = []) (ht2 : t.toList.isEmpty = false) :
    Calls Try.prog 24 #[.agg #[.bool false, .string t, .slice A ss.length c], .bool true] w (ValPost w ⟨true, emS, ss⟩) := by
  have KO := Lib.hid (fun (W : World) (hw : Reads W w.heap.size 1 A ss.length (strsV ss)) hB => own_any false t A c ss W hw hB hA (by omega))
  have HR := Lib.hid hr
  clear hr hA
  go_enter Try.func24, Try.ntmps24
  go_wp2_with fail
  refine (KO.out _ (((HR.out.alloc (Nat.le_refl _) _).alloc (by simp) _)) (by simp; omega)).mono ?_
  rintro e w1 ⟨A1, c1, rfl, hown, hb⟩
  simp only [World.size_alloc, Nat.add_assoc, Nat.reduceAdd] at hown hb
  have b1 : Blk w1 (w.heap.size + 1) 24 #[.bool false, .string ⟨#[]⟩, .slice none 0 0] := (Blk.new' (w.alloc _) _ _ (by simp)).below hb (by omega)
  obtain ⟨d0, d1, d2, g0⟩ := b1.c3
  have hsz := b1.lt
  have hne : w1.heap.size ≠ w.heap.size + 1 := by omega
  have hne2 : w.heap.size + 1 ≠ w1.heap.size := by omega
  have HO := Lib.hid hown
  have HB := Lib.hid hb
  have HB1 := Lib.hid b1
  clear hown hb b1
  go_wp2_with fail
  refine (deliver_full _ _ _ _ A1 _ c1 _ (Blk.new' w1 _ _ rfl) hl hl2).mono ?_
  rintro e w2 ⟨rfl, rfl⟩
  go_wp2_with fail
  have o1 := HO.out
  have h1 : Below w.heap.size w w1 := ((((Below.refl _ _).alloc (Nat.le_refl _) _).alloc (by simp) _).trans (HB.out.mono (by omega)))
  refine bodyPost_ret (v := .agg #[.bool true, .string ⟨#[]⟩, .slice A1 ss.length c1]) (by simp [results, Try.results24, go_sem, d0, d1, d2, hne, hne2, hsz]) rfl ⟨_, rfl, ?_, ?_⟩
  · exact Own.lineV' (base := w.heap.size + 2) (by repeat (first | (with_reducible exact o1) | ((with_reducible refine Own.setLow ?_ ?_ _); rotate_left; (simp <;> omega)) | (with_reducible refine Own.alloc ?_ _) | (with_reducible refine Own.drew ?_))) rfl
  · exact (by repeat (first | (with_reducible exact h1) | ((with_reducible refine Below.setCell ?_ ?_ _); rotate_left; (simp <;> omega)) | ((with_reducible refine Below.alloc ?_ ?_ _); rotate_left; (simp <;> omega)) | (with_reducible refine Below.drew ?_)))
set_option maxRecDepth 100000 in
set_option maxHeartbeats 800000 in
theorem setRaw_plain_false_false (hr : Reads w w.heap.size 1 A ss.length (strsV ss)) (hA : A = none → ss.length = 0 ∧ c = 0) (hl : ss.length ≤ 100000)  :
    Calls Try.prog 24 #[.agg #[.bool false, .string t, .slice A ss.length c], .bool false] w (ValPost w ⟨false, t, ss⟩) := by
  have KO := Lib.hid (fun (W : World) (hw : Reads W w.heap.size 1 A ss.length (strsV ss)) hB => own_any false t A c ss W hw hB hA (by omega))
  have HR := Lib.hid hr
  clear hr hA
  go_enter Try.func24, Try.ntmps24
  go_wp2_with fail
  refine (KO.out _ (((HR.out.alloc (Nat.le_refl _) _).alloc (by simp) _)) (by simp; omega)).mono ?_
  rintro e w1 ⟨A1, c1, rfl, hown, hb⟩
  simp only [World.size_alloc, Nat.add_assoc, Nat.reduceAdd] at hown hb
  have b1 : Blk w1 (w.heap.size + 1) 24 #[.bool false, .string ⟨#[]⟩, .slice none 0 0] := (Blk.new' (w.alloc _) _ _ (by simp)).below hb (by omega)
  obtain ⟨d0, d1, d2, g0⟩ := b1.c3
  have hsz := b1.lt
  have hne : w1.heap.size ≠ w.heap.size + 1 := by omega
  have hne2 : w.heap.size + 1 ≠ w1.heap.size := by omega
  have HO := Lib.hid hown
  have HB := Lib.hid hb
  have HB1 := Lib.hid b1
  clear hown hb b1
  go_wp2_with fail
  have o1 := HO.out
  have h1 : Below w.heap.size w w1 := ((((Below.refl _ _).alloc (Nat.le_refl _) _).alloc (by simp) _).trans (HB.out.mono (by omega)))
  refine bodyPost_ret (v := .agg #[.bool false, .string t, .slice A1 ss.length c1]) (by simp [results, Try.results24, go_sem, d0, d1, d2, hne, hne2, hsz]) rfl ⟨_, rfl, ?_, ?_⟩
  · exact Own.lineV' (base := w.heap.size + 2) (by repeat (first | (with_reducible exact o1) | ((with_reducible refine Own.setLow ?_ ?_ _); rotate_left; (simp <;> omega)) | (with_reducible refine Own.alloc ?_ _) | (with_reducible refine Own.drew ?_))) rfl
  · exact (by repeat (first | (with_reducible exact h1) | ((with_reducible refine Below.setCell ?_ ?_ _); rotate_left; (simp <;> omega)) | ((with_reducible refine Below.alloc ?_ ?_ _); rotate_left; (simp <;> omega)) | (with_reducible refine Below.drew ?_)))
set_option maxRecDepth 100000 in
set_option maxHeartbeats 800000 in
theorem setRaw_plain_false_true (hr : Reads w w.heap.size 1 A ss.length (strsV ss)) (hA : A = none → ss.length = 0 ∧ c = 0) (hl : ss.length ≤ 100000)  :
    Calls Try.prog 24 #[.agg #[.bool true, .string t, .slice A ss.length c], .bool false] w (ValPost w ⟨false, t, ss⟩) := by
  have KO := Lib.hid (fun (W : World) (hw : Reads W w.heap.size 1 A ss.length (strsV ss)) hB => own_any true t A c ss W hw hB hA (by omega))
  have HR := Lib.hid hr
  clear hr hA
  go_enter Try.func24, Try.ntmps24
  go_wp2_with fail
  refine (KO.out _ (((HR.out.alloc (Nat.le_refl _) _).alloc (by simp) _)) (by simp; omega)).mono ?_
  rintro e w1 ⟨A1, c1, rfl, hown, hb⟩
  simp only [World.size_alloc, Nat.add_assoc, Nat.reduceAdd] at hown hb
  have b1 : Blk w1 (w.heap.size + 1) 24 #[.bool false, .string ⟨#[]⟩, .slice none 0 0] := (Blk.new' (w.alloc _) _ _ (by simp)).below hb (by omega)
  obtain ⟨d0, d1, d2, g0⟩ := b1.c3
  have hsz := b1.lt
  have hne : w1.heap.size ≠ w.heap.size + 1 := by omega
  have hne2 : w.heap.size + 1 ≠ w1.heap.size := by omega
  have HO := Lib.hid hown
  have HB := Lib.hid hb
  have HB1 := Lib.hid b1
  clear hown hb b1
  go_wp2_with fail
  have o1 := HO.out
  have h1 : Below w.heap.size w w1 := ((((Below.refl _ _).alloc (Nat.le_refl _) _).alloc (by simp) _).trans (HB.out.mono (by omega)))
  refine bodyPost_ret (v := .agg #[.bool false, .string t, .slice A1 ss.length c1]) (by simp [results, Try.results24, go_sem, d0, d1, d2, hne, hne2, hsz]) rfl ⟨_, rfl, ?_, ?_⟩
  · exact Own.lineV' (base := w.heap.size + 2) (by repeat (first | (with_reducible exact o1) | ((with_reducible refine Own.setLow ?_ ?_ _); rotate_left; (simp <;> omega)) | (with_reducible refine Own.alloc ?_ _) | (with_reducible refine Own.drew ?_))) rfl
  · exact (by repeat (first | (with_reducible exact h1) | ((with_reducible refine Below.setCell ?_ ?_ _); rotate_left; (simp <;> omega)) | ((with_reducible refine Below.alloc ?_ ?_ _); rotate_left; (simp <;> omega)) | (with_reducible refine Below.drew ?_)))
set_option maxRecDepth 100000 in
set_option maxHeartbeats 800000 in
theorem setRaw_plain_true_false (hr : Reads w w.heap.size 1 A ss.length (strsV ss)) (hA : A = none → ss.length = 0 ∧ c = 0) (hl : ss.length ≤ 100000) (hc3 : t.toList = []) (hc4 : t.toList.isEmpty = true) :
    Calls Try.prog 24 #[.agg #[.bool false, .string t, .slice A ss.length c], .bool true] w (ValPost w ⟨true, t, ss⟩) := by
  have KO := Lib.hid (fun (W : World) (hw : Reads W w.heap.size 1 A ss.length (strsV ss)) hB => own_any false t A c ss W hw hB hA (by omega))
  have HR := Lib.hid hr
  clear hr hA
  go_enter Try.func24, Try.ntmps24
  go_wp2_with fail
  refine (KO.out _ (((HR.out.alloc (Nat.le_refl _) _).alloc (by simp) _)) (by simp; omega)).mono ?_
  rintro e w1 ⟨A1, c1, rfl, hown, hb⟩
  simp only [World.size_alloc, Nat.add_assoc, Nat.reduceAdd] at hown hb
  have b1 : Blk w1 (w.heap.size + 1) 24 #[.bool false, .string ⟨#[]⟩, .slice none 0 0] := (Blk.new' (w.alloc _) _ _ (by simp)).below hb (by omega)
  obtain ⟨d0, d1, d2, g0⟩ := b1.c3
  have hsz := b1.lt
  have hne : w1.heap.size ≠ w.heap.size + 1 := by omega
  have hne2 : w.heap.size + 1 ≠ w1.heap.size := by omega
  have HO := Lib.hid hown
  have HB := Lib.hid hb
  have HB1 := Lib.hid b1
  clear hown hb b1
  go_wp2_with fail
  have o1 := HO.out
  have h1 : Below w.heap.size w w1 := ((((Below.refl _ _).alloc (Nat.le_refl _) _).alloc (by simp) _).trans (HB.out.mono (by omega)))
  refine bodyPost_ret (v := .agg #[.bool true, .string t, .slice A1 ss.length c1]) (by simp [results, Try.results24, go_sem, d0, d1, d2, hne, hne2, hsz]) rfl ⟨_, rfl, ?_, ?_⟩
  · exact Own.lineV' (base := w.heap.size + 2) (by repeat (first | (with_reducible exact o1) | ((with_reducible refine Own.setLow ?_ ?_ _); rotate_left; (simp <;> omega)) | (with_reducible refine Own.alloc ?_ _) | (with_reducible refine Own.drew ?_))) rfl
  · exact (by repeat (first | (with_reducible exact h1) | ((with_reducible refine Below.setCell ?_ ?_ _); rotate_left; (simp <;> omega)) | ((with_reducible refine Below.alloc ?_ ?_ _); rotate_left; (simp <;> omega)) | (with_reducible refine Below.drew ?_)))
set_option maxRecDepth 100000 in
set_option maxHeartbeats 800000 in
theorem setRaw_plain_true_true (hr : Reads w w.heap.size 1 A ss.length (strsV ss)) (hA : A = none → ss.length = 0 ∧ c = 0) (hl : ss.length ≤ 100000)  :
    Calls Try.prog 24 #[.agg #[.bool true, .string t, .slice A ss.length c], .bool true] w (ValPost w ⟨true, t, ss⟩) := by
  have KO := Lib.hid (fun (W : World) (hw : Reads W w.heap.size 1 A ss.length (strsV ss)) hB => own_any true t A c ss W hw hB hA (by omega))
  have HR := Lib.hid hr
  clear hr hA
  go_enter Try.func24, Try.ntmps24
  go_wp2_with fail
  refine (KO.out _ (((HR.out.alloc (Nat.le_refl _) _).alloc (by simp) _)) (by simp; omega)).mono ?_
  rintro e w1 ⟨A1, c1, rfl, hown, hb⟩
  simp only [World.size_alloc, Nat.add_assoc, Nat.reduceAdd] at hown hb
  have b1 : Blk w1 (w.heap.size + 1) 24 #[.bool false, .string ⟨#[]⟩, .slice none 0 0] := (Blk.new' (w.alloc _) _ _ (by simp)).below hb (by omega)
  obtain ⟨d0, d1, d2, g0⟩ := b1.c3
  have hsz := b1.lt
  have hne : w1.heap.size ≠ w.heap.size + 1 := by omega
  have hne2 : w.heap.size + 1 ≠ w1.heap.size := by omega
  have HO := Lib.hid hown
  have HB := Lib.hid hb
  have HB1 := Lib.hid b1
  clear hown hb b1
  go_wp2_with fail
  have o1 := HO.out
  have h1 : Below w.heap.size w w1 := ((((Below.refl _ _).alloc (Nat.le_refl _) _).alloc (by simp) _).trans (HB.out.mono (by omega)))
  refine bodyPost_ret (v := .agg #[.bool true, .string t, .slice A1 ss.length c1]) (by simp [results, Try.results24, go_sem, d0, d1, d2, hne, hne2, hsz]) rfl ⟨_, rfl, ?_, ?_⟩
  · exact Own.lineV' (base := w.heap.size + 2) (by repeat (first | (with_reducible exact o1) | ((with_reducible refine Own.setLow ?_ ?_ _); rotate_left; (simp <;> omega)) | (with_reducible refine Own.alloc ?_ _) | (with_reducible refine Own.drew ?_))) rfl
  · exact (by repeat (first | (with_reducible exact h1) | ((with_reducible refine Below.setCell ?_ ?_ _); rotate_left; (simp <;> omega)) | ((with_reducible refine Below.alloc ?_ ?_ _); rotate_left; (simp <;> omega)) | (with_reducible refine Below.drew ?_)))
theorem setRaw_plain (r raw : Bool) (hr : Reads w w.heap.size 1 A ss.length (strsV ss)) (hA : A = none → ss.length = 0 ∧ c = 0) (hl : ss.length ≤ 100000) (hc : (raw && !r && !t.toList.isEmpty) = false) :
    Calls Try.prog 24 #[.agg #[.bool r, .string t, .slice A ss.length c], .bool raw] w (ValPost w ⟨raw, t, ss⟩) := by
  have hc2 : raw = true → r = false → t.toList.isEmpty = true := by
    rintro rfl rfl
    simpa using hc
  rcases raw with _ | _ <;> rcases r with _ | _
  · exact setRaw_plain_false_false w t A c ss hr hA hl
  · exact setRaw_plain_false_true w t A c ss hr hA hl
  · exact setRaw_plain_true_false w t A c ss hr hA hl (List.isEmpty_iff.1 (hc2 rfl rfl)) (hc2 rfl rfl)
  · exact setRaw_plain_true_true w t A c ss hr hA hl
set_option maxRecDepth 100000 in
set_option maxHeartbeats 800000 in
theorem refSetRaw_room (hr : Reads w w.heap.size 1 A ss.length (strsV ss)) (hA : A = none → ss.length = 0 ∧ c = 0) (hl : ss.length < 1024) (ht : ¬ t.toList = []) (ht2 : t.toList.isEmpty = false) :
    Calls Try.prog 25 #[.agg #[.bool false, .string t, .slice A ss.length c], .bool true] w (ValPost w ⟨true, emS, ss ++ [t]⟩) := by
  have HR := Lib.hid hr
  have HA := Lib.hid hA
  clear hr hA
  go_enter Try.func25, Try.ntmps25
  go_wp2_with fail
  refine (refDeliver_room _ _ _ A c ss _ ((HR.out.alloc (Nat.le_refl _) _).alloc (by simp) _) (by simp <;> omega) HA.out hl).mono ?_
  rintro e w1 ⟨A1, c1, rfl, hown, hb⟩
  have hb' := hb
  simp only [World.size_alloc, Nat.add_assoc, Nat.reduceAdd] at hb' hown
  have b1 : Blk w1 (w.heap.size + 1) 24 #[.bool false, .string ⟨#[]⟩, .slice none 0 0] := (Blk.new' (w.alloc _) _ _ (by simp)).below hb' (by omega)
  have b0 := ((Blk.new w 24 #[.bool false, .string t, .slice A ss.length c]).alloc (.cells #[.bool false, .string ⟨#[]⟩, .slice none 0 0] 24)).below hb' (by simp <;> omega)
  obtain ⟨d0, d1, d2, g0⟩ := b1.c3
  obtain ⟨e0, e1, e2, g1⟩ := b0.c3
  have hz1 := b1.lt
  have hz0 := b0.lt
  have HB := Lib.hid hb'
  have h1 : Below w.heap.size w w1 := ((((Below.refl _ _).alloc (Nat.le_refl _) _).alloc (by simp) _).trans (HB.out.mono (by omega)))
  have HB0 := Lib.hid b0
  have HB1 := Lib.hid b1
  have H1 := Lib.hid h1
  have HO := Lib.hid hown
  clear hb hb' b1 b0 h1 hown
  go_upto_region 3 with (fail)
  have h1 := H1.out
  have k0 : Blk (((w1.setCell ⟨w.heap.size, 0, none⟩ (.bool false)).setCell ⟨w.heap.size, 1, none⟩ (.string ⟨#[]⟩)).setCell ⟨w.heap.size, 2, none⟩ (.slice A1 (ss.length + 1) c1)) w.heap.size 24 #[.bool false, .string ⟨#[]⟩, .slice A1 (ss.length + 1) c1] := HB0.out.all3
  have k1 : Blk (((w1.setCell ⟨w.heap.size, 0, none⟩ (.bool false)).setCell ⟨w.heap.size, 1, none⟩ (.string ⟨#[]⟩)).setCell ⟨w.heap.size, 2, none⟩ (.slice A1 (ss.length + 1) c1)) (w.heap.size + 1) 24 #[.bool false, .string ⟨#[]⟩, .slice none 0 0] := (by repeat (first | (with_reducible exact HB1.out) | ((with_reducible refine Blk.far ?_ ?_ _); rotate_left; (simp <;> omega)) | (with_reducible refine Blk.alloc ?_ _) | (with_reducible refine Blk.drew ?_)))
  have h2 : Below w.heap.size w (((w1.setCell ⟨w.heap.size, 0, none⟩ (.bool false)).setCell ⟨w.heap.size, 1, none⟩ (.string ⟨#[]⟩)).setCell ⟨w.heap.size, 2, none⟩ (.slice A1 (ss.length + 1) c1)) := (by repeat (first | (with_reducible exact h1) | ((with_reducible refine Below.setCell ?_ ?_ _); rotate_left; (simp <;> omega)) | ((with_reducible refine Below.alloc ?_ ?_ _); rotate_left; (simp <;> omega)) | (with_reducible refine Below.drew ?_)))
  have ho1 := HO.out
  have o2 : Own (((w1.setCell ⟨w.heap.size, 0, none⟩ (.bool false)).setCell ⟨w.heap.size, 1, none⟩ (.string ⟨#[]⟩)).setCell ⟨w.heap.size, 2, none⟩ (.slice A1 (ss.length + 1) c1)) (w.heap.size + 2) 9 1 A1 (ss.length + 1) c1 (strsV (ss ++ [t])) := (by repeat (first | (with_reducible exact ho1) | ((with_reducible refine Own.setLow ?_ ?_ _); rotate_left; (simp <;> omega)) | (with_reducible refine Own.alloc ?_ _) | (with_reducible refine Own.drew ?_)))
  clear ho1
  generalize (((w1.setCell ⟨w.heap.size, 0, none⟩ (.bool false)).setCell ⟨w.heap.size, 1, none⟩ (.string ⟨#[]⟩)).setCell ⟨w.heap.size, 2, none⟩ (.slice A1 (ss.length + 1) c1)) = w2 at o2 k0 k1 h2 ⊢
  clear d0 d1 d2 g0 e0 e1 e2 g1 h1 hz0 hz1
  obtain ⟨d0, d1, d2, g0⟩ := k1.c3
  obtain ⟨e0, e1, e2, g1⟩ := k0.c3
  have hz1 := k1.lt
  have hz0 := k0.lt
  have H2 := Lib.hid h2
  have HO2 := Lib.hid o2
  clear k0 k1 h2 o2
  go_wp2_with fail
  have h2 := H2.out
  have o2 := HO2.out
  refine bodyPost_ret (v := .agg #[.bool true, .string ⟨#[]⟩, .slice A1 (ss.length + 1) c1]) (by simp [results, Try.results25, go_sem, d0, d1, d2, hz0, hz1]) rfl ⟨_, rfl, ?_, ?_⟩
  · exact Own.lineV' (base := w.heap.size + 2) (by repeat (first | (with_reducible exact o2) | ((with_reducible refine Own.setLow ?_ ?_ _); rotate_left; (simp <;> omega)) | (with_reducible refine Own.alloc ?_ _) | (with_reducible refine Own.drew ?_))) (by simp)
  · exact (by repeat (first | (with_reducible exact h2) | ((with_reducible refine Below.setCell ?_ ?_ _); rotate_left; (simp <;> omega)) | ((with_reducible refine Below.alloc ?_ ?_ _); rotate_left; (simp <;> omega)) | (with_reducible refine Below.drew ?_)))
set_option maxRecDepth 100000 in
set_option maxHeartbeats 800000 in
theorem refSetRaw_full (hr : Reads w w.heap.size 1 A ss.length (strsV ss)) (hA : A = none → ss.length = 0 ∧ c = 0) (hc1 : ss.length ≤ c) (hc2 : c ≤ maxLen) (hl : 1024 ≤ ss.length) (hl2 : ss.length ≤ 100000) (ht : ¬ t.toList = []) (ht2 : t.toList.isEmpty = false) :
    Calls Try.prog 25 #[.agg #[.bool false, .string t, .slice A ss.length c], .bool true] w (ValPost w ⟨true, emS, ss⟩) := by
  have KL := Lib.hid (LineV.mk (c := c) (t := emS) (r := true) hr (Nat.le_refl _) hA hc1 hc2)
  clear hr hA hc1 hc2
  go_enter Try.func25, Try.ntmps25
  go_wp2_with fail
  refine (refDeliver_full _ _ _ A _ c _ hl hl2).mono ?_
  rintro e w1 ⟨rfl, hb⟩
  have hb' := hb
  simp only [World.size_alloc, Nat.add_assoc, Nat.reduceAdd] at hb'
  have b1 : Blk w1 (w.heap.size + 1) 24 #[.bool false, .string ⟨#[]⟩, .slice none 0 0] := (Blk.new' (w.alloc _) _ _ (by simp)).below hb' (by omega)
  have b0 := ((Blk.new w 24 #[.bool false, .string t, .slice A ss.length c]).alloc (.cells #[.bool false, .string ⟨#[]⟩, .slice none 0 0] 24)).below hb' (by simp <;> omega)
  obtain ⟨d0, d1, d2, g0⟩ := b1.c3
  obtain ⟨e0, e1, e2, g1⟩ := b0.c3
  have hz1 := b1.lt
  have hz0 := b0.lt
  have HB := Lib.hid hb'
  have h1 : Below w.heap.size w w1 := ((((Below.refl _ _).alloc (Nat.le_refl _) _).alloc (by simp) _).trans (HB.out.mono (by omega)))
  have HB0 := Lib.hid b0
  have HB1 := Lib.hid b1
  have H1 := Lib.hid h1
  clear hb hb' b1 b0 h1
  go_upto_region 3 with (fail)
  have h1 := H1.out
  have k0 : Blk (((w1.setCell ⟨w.heap.size, 0, none⟩ (.bool false)).setCell ⟨w.heap.size, 1, none⟩ (.string t)).setCell ⟨w.heap.size, 2, none⟩ (.slice A ss.length c)) w.heap.size 24 #[.bool false, .string t, .slice A ss.length c] := HB0.out.all3
  have k1 : Blk (((w1.setCell ⟨w.heap.size, 0, none⟩ (.bool false)).setCell ⟨w.heap.size, 1, none⟩ (.string t)).setCell ⟨w.heap.size, 2, none⟩ (.slice A ss.length c)) (w.heap.size + 1) 24 #[.bool false, .string ⟨#[]⟩, .slice none 0 0] := (by repeat (first | (with_reducible exact HB1.out) | ((with_reducible refine Blk.far ?_ ?_ _); rotate_left; (simp <;> omega)) | (with_reducible refine Blk.alloc ?_ _) | (with_reducible refine Blk.drew ?_)))
  have h2 : Below w.heap.size w (((w1.setCell ⟨w.heap.size, 0, none⟩ (.bool false)).setCell ⟨w.heap.size, 1, none⟩ (.string t)).setCell ⟨w.heap.size, 2, none⟩ (.slice A ss.length c)) := (by repeat (first | (with_reducible exact h1) | ((with_reducible refine Below.setCell ?_ ?_ _); rotate_left; (simp <;> omega)) | ((with_reducible refine Below.alloc ?_ ?_ _); rotate_left; (simp <;> omega)) | (with_reducible refine Below.drew ?_)))
  generalize (((w1.setCell ⟨w.heap.size, 0, none⟩ (.bool false)).setCell ⟨w.heap.size, 1, none⟩ (.string t)).setCell ⟨w.heap.size, 2, none⟩ (.slice A ss.length c)) = w2 at k0 k1 h2 ⊢
  clear d0 d1 d2 g0 e0 e1 e2 g1 h1 hz0 hz1
  obtain ⟨d0, d1, d2, g0⟩ := k1.c3
  obtain ⟨e0, e1, e2, g1⟩ := k0.c3
  have hz1 := k1.lt
  have hz0 := k0.lt
  have H2 := Lib.hid h2
  clear k0 k1 h2
  go_wp2_with fail
  have h2 := H2.out
  refine bodyPost_ret (v := .agg #[.bool true, .string ⟨#[]⟩, .slice A ss.length c]) (by simp [results, Try.results25, go_sem, d0, d1, d2, hz0, hz1]) rfl ⟨_, rfl, KL.out.below (by repeat (first | (with_reducible exact h2) | ((with_reducible refine Below.setCell ?_ ?_ _); rotate_left; (simp <;> omega)) | ((with_reducible refine Below.alloc ?_ ?_ _); rotate_left; (simp <;> omega)) | (with_reducible refine Below.drew ?_))), (by repeat (first | (with_reducible exact h2) | ((with_reducible refine Below.setCell ?_ ?_ _); rotate_left; (simp <;> omega)) | ((with_reducible refine Below.alloc ?_ ?_ _); rotate_left; (simp <;> omega)) | (with_reducible refine Below.drew ?_)))⟩
set_option maxRecDepth 100000 in
set_option maxHeartbeats 800000 in
theorem refSetRaw_plain_false_false (hr : Reads w w.heap.size 1 A ss.length (strsV ss)) (hA : A = none → ss.length = 0 ∧ c = 0) (hc1 : ss.length ≤ c) (hc2 : c ≤ maxLen) (hl : ss.length ≤ 100000)  :
    Calls Try.prog 25 #[.agg #[.bool false, .string t, .slice A ss.length c], .bool false] w (ValPost w ⟨false, t, ss⟩) := by
  have KL := Lib.hid (LineV.mk (c := c) (t := t) (r := false) hr (Nat.le_refl _) hA hc1 hc2)
  clear hr hA hc1 hc2
  go_enter Try.func25, Try.ntmps25
  go_wp2_with fail
  have h1 := Below.refl w.heap.size w
  refine bodyPost_ret (v := .agg #[.bool false, .string t, .slice A ss.length c]) (by simp [results, Try.results25, go_sem]) rfl ⟨_, rfl, KL.out.below (by repeat (first | (with_reducible exact h1) | ((with_reducible refine Below.setCell ?_ ?_ _); rotate_left; (simp <;> omega)) | ((with_reducible refine Below.alloc ?_ ?_ _); rotate_left; (simp <;> omega)) | (with_reducible refine Below.drew ?_))), (by repeat (first | (with_reducible exact h1) | ((with_reducible refine Below.setCell ?_ ?_ _); rotate_left; (simp <;> omega)) | ((with_reducible refine Below.alloc ?_ ?_ _); rotate_left; (simp <;> omega)) | (with_reducible refine Below.drew ?_)))⟩
set_option maxRecDepth 100000 in
set_option maxHeartbeats 800000 in
theorem refSetRaw_plain_false_true (hr : Reads w w.heap.size 1 A ss.length (strsV ss)) (hA : A = none → ss.length = 0 ∧ c = 0) (hc1 : ss.length ≤ c) (hc2 : c ≤ maxLen) (hl : ss.length ≤ 100000)  :
    Calls Try.prog 25 #[.agg #[.bool true, .string t, .slice A ss.length c], .bool false] w (ValPost w ⟨false, t, ss⟩) := by
  have KL := Lib.hid (LineV.mk (c := c) (t := t) (r := false) hr (Nat.le_refl _) hA hc1 hc2)
  clear hr hA hc1 hc2
  go_enter Try.func25, Try.ntmps25
  go_wp2_with fail
  have h1 := Below.refl w.heap.size w
  refine bodyPost_ret (v := .agg #[.bool false, .string t, .slice A ss.length c]) (by simp [results, Try.results25, go_sem]) rfl ⟨_, rfl, KL.out.below (by repeat (first | (with_reducible exact h1) | ((with_reducible refine Below.setCell ?_ ?_ _); rotate_left; (simp <;> omega)) | ((with_reducible refine Below.alloc ?_ ?_ _); rotate_left; (simp <;> omega)) | (with_reducible refine Below.drew ?_))), (by repeat (first | (with_reducible exact h1) | ((with_reducible refine Below.setCell ?_ ?_ _); rotate_left; (simp <;> omega)) | ((with_reducible refine Below.alloc ?_ ?_ _); rotate_left; (simp <;> omega)) | (with_reducible refine Below.drew ?_)))⟩
set_option maxRecDepth 100000 in
set_option maxHeartbeats 800000 in
theorem refSetRaw_plain_true_false (hr : Reads w w.heap.size 1 A ss.length (strsV ss)) (hA : A = none → ss.length = 0 ∧ c = 0) (hc1 : ss.length ≤ c) (hc2 : c ≤ maxLen) (hl : ss.length ≤ 100000) (hc3 : t.toList = []) (hc4 : t.toList.isEmpty = true) :
    Calls Try.prog 25 #[.agg #[.bool false, .string t, .slice A ss.length c], .bool true] w (ValPost w ⟨true, t, ss⟩) := by
  have KL := Lib.hid (LineV.mk (c := c) (t := t) (r := true) hr (Nat.le_refl _) hA hc1 hc2)
  clear hr hA hc1 hc2
  go_enter Try.func25, Try.ntmps25
  go_wp2_with fail
  have h1 := Below.refl w.heap.size w
  refine bodyPost_ret (v := .agg #[.bool true, .string t, .slice A ss.length c]) (by simp [results, Try.results25, go_sem]) rfl ⟨_, rfl, KL.out.below (by repeat (first | (with_reducible exact h1) | ((with_reducible refine Below.setCell ?_ ?_ _); rotate_left; (simp <;> omega)) | ((with_reducible refine Below.alloc ?_ ?_ _); rotate_left; (simp <;> omega)) | (with_reducible refine Below.drew ?_))), (by repeat (first | (with_reducible exact h1) | ((with_reducible refine Below.setCell ?_ ?_ _); rotate_left; (simp <;> omega)) | ((with_reducible refine Below.alloc ?_ ?_ _); rotate_left; (simp <;> omega)) | (with_reducible refine Below.drew ?_)))⟩
set_option maxRecDepth 100000 in
set_option maxHeartbeats 800000 in
theorem refSetRaw_plain_true_true (hr : Reads w w.heap.size 1 A ss.length (strsV ss)) (hA : A = none → ss.length = 0 ∧ c = 0) (hc1 : ss.length ≤ c) (hc2 : c ≤ maxLen) (hl : ss.length ≤ 100000)  :
    Calls Try.prog 25 #[.agg #[.bool true, .string t, .slice A ss.length c], .bool true] w (ValPost w ⟨true, t, ss⟩) := by
  have KL := Lib.hid (LineV.mk (c := c) (t := t) (r := true) hr (Nat.le_refl _) hA hc1 hc2)
  clear hr hA hc1 hc2
  go_enter Try.func25, Try.ntmps25
  go_wp2_with fail
  have h1 := Below.refl w.heap.size w
  refine bodyPost_ret (v := .agg #[.bool true, .string t, .slice A ss.length c]) (by simp [results, Try.results25, go_sem]) rfl ⟨_, rfl, KL.out.below (by repeat (first | (with_reducible exact h1) | ((with_reducible refine Below.setCell ?_ ?_ _); rotate_left; (simp <;> omega)) | ((with_reducible refine Below.alloc ?_ ?_ _); rotate_left; (simp <;> omega)) | (with_reducible refine Below.drew ?_))), (by repeat (first | (with_reducible exact h1) | ((with_reducible refine Below.setCell ?_ ?_ _); rotate_left; (simp <;> omega)) | ((with_reducible refine Below.alloc ?_ ?_ _); rotate_left; (simp <;> omega)) | (with_reducible refine Below.drew ?_)))⟩
theorem refSetRaw_plain (r raw : Bool) (hr : Reads w w.heap.size 1 A ss.length (strsV ss)) (hA : A = none → ss.length = 0 ∧ c = 0) (hc1 : ss.length ≤ c) (hc2 : c ≤ maxLen) (hl : ss.length ≤ 100000) (hc : (raw && !r && !t.toList.isEmpty) = false) :
    Calls Try.prog 25 #[.agg #[.bool r, .string t, .slice A ss.length c], .bool raw] w (ValPost w ⟨raw, t, ss⟩) := by
  have hcc : raw = true → r = false → t.toList.isEmpty = true := by
    rintro rfl rfl
    simpa using hc
  rcases raw with _ | _ <;> rcases r with _ | _
  · exact refSetRaw_plain_false_false w t A c ss hr hA hc1 hc2 hl
  · exact refSetRaw_plain_false_true w t A c ss hr hA hc1 hc2 hl
  · exact refSetRaw_plain_true_false w t A c ss hr hA hc1 hc2 hl (List.isEmpty_iff.1 (hcc rfl rfl)) (hcc rfl rfl)
  · exact refSetRaw_plain_true_true w t A c ss hr hA hc1 hc2 hl
end
theorem setRaw_any (l : LineD) (raw : Bool) (v : Value) (w : World) (hv : LineV w l v) (hR : Right l) : Calls Try.prog 24 #[v, .bool raw] w (ValPost w (setRawF l raw)) := by
  obtain ⟨A, c, rfl, hr, hA, hc1, hc2⟩ := hv
  obtain ⟨a1, a2, a3, a4, a5⟩ := (right_iff l).1 hR
  unfold setRawF
  by_cases hc : rawCond l raw = true
  · rw [if_pos hc]
    unfold rawCond at hc
    simp only [Bool.and_eq_true, Bool.not_eq_true'] at hc
    obtain ⟨⟨rfl, h2⟩, h3⟩ := hc
    have h4 : ¬ l.text.toList = [] := by intro h; rw [h] at h3; cases h3
    rw [h2]
    by_cases hn : l.ready.length < 1024
    · rw [if_pos hn]; exact setRaw_room w _ A c _ hr hA hn h4 h3
    · rw [if_neg hn]; exact setRaw_full w _ A c _ hr hA (by omega) (by omega) h4 h3
  · rw [if_neg hc]
    exact setRaw_plain w _ A c _ l.raw raw hr hA (by omega) (by unfold rawCond at hc; simpa using hc)
theorem refSetRaw_any (l : LineD) (raw : Bool) (v : Value) (w : World) (hv : LineV w l v) (hR : Right l) : Calls Try.prog 25 #[v, .bool raw] w (ValPost w (setRawF l raw)) := by
  obtain ⟨A, c, rfl, hr, hA, hc1, hc2⟩ := hv
  obtain ⟨a1, a2, a3, a4, a5⟩ := (right_iff l).1 hR
  unfold setRawF
  by_cases hc : rawCond l raw = true
  · rw [if_pos hc]
    unfold rawCond at hc
    simp only [Bool.and_eq_true, Bool.not_eq_true'] at hc
    obtain ⟨⟨rfl, h2⟩, h3⟩ := hc
    have h4 : ¬ l.text.toList = [] := by intro h; rw [h] at h3; cases h3
    rw [h2]
    by_cases hn : l.ready.length < 1024
    · rw [if_pos hn]; exact refSetRaw_room w _ A c _ hr hA hn h4 h3
    · rw [if_neg hn]; exact refSetRaw_full w _ A c _ hr hA hc1 hc2 (by omega) (by omega) h4 h3
  · rw [if_neg hc]
    exact refSetRaw_plain w _ A c _ l.raw raw hr hA hc1 hc2 (by omega) (by unfold rawCond at hc; simpa using hc)
theorem setRawF_right {l : LineD} (h : Right l) (raw : Bool) : Right (setRawF l raw) := by
  obtain ⟨a1, a2, a3, a4, a5⟩ := (right_iff l).1 h
  unfold setRawF
  split
  · rename_i hc
    rw [right_iff]
    refine ⟨by simp [size_em], fun _ => size_em, ?_, textOk_em, ?_⟩
    · simp only; split
      · simp; omega
      · exact a3
    · simp only; split
      · intro x hx
        rcases List.mem_append.1 hx with hx | hx
        · exact a5 x hx
        · simp at hx; subst hx; omega
      · exact a5
  · rename_i hc
    rw [right_iff]
    refine ⟨a1, fun hr => ?_, a3, a4, a5⟩
    have hr' : raw = true := hr
    subst hr'
    unfold rawCond at hc
    by_cases hraw : l.raw = true
    · exact a2 hraw
    · rw [← size_zero_iff]
      simpa [hraw] using hc
end Go.Proofs.Ytcnoefpckiionaa
