/- The reference's Type, by contract. -/
import Derived.Test.YtcnoefpckiionaaRefErase
import Derived.Test.YtcnoefpckiionaaRefDeliver
namespace Go.Proofs.Ytcnoefpckiionaa
open Go.RowKit
set_option linter.unusedSimpArgs false
set_option linter.unusedVariables false
theorem LineV.alloc {w : World} {l : LineD} {v : Value} (h : LineV w l v) (o : Obj) : LineV (w.alloc o) l v := h.below ((Below.refl _ _).alloc (Nat.le_refl _) _)
theorem LineV.mk {w : World} {B c : Nat} {r : Bool} {t : ByteArray} {A : Option Addr} {ss : List ByteArray} (hr : Reads w B 1 A ss.length (strsV ss)) (hB : B ≤ w.heap.size) (hA : A = none → ss.length = 0 ∧ c = 0) (h1 : ss.length ≤ c) (h2 : c ≤ maxLen) :
    LineV w ⟨r, t, ss⟩ (.agg #[.bool r, .string t, .slice A ss.length c]) := ⟨A, c, rfl, hr.more hB, hA, h1, h2⟩
theorem Own.lineV' {w : World} {base n c : Nat} {A : Option Addr} {r : Bool} {t : ByteArray} {ss : List ByteArray} (h : Own w base 9 1 A n c (strsV ss)) (hn : ss.length = n) : LineV w ⟨r, t, ss⟩ (.agg #[.bool r, .string t, .slice A n c]) := by
  subst hn; exact Own.lineV (l := ⟨r, t, ss⟩) h
theorem post_own {w w' : World} {base n c : Nat} {v : Value} {A : Option Addr} {r : Bool} {t out : ByteArray} {ss : List ByteArray} (h : Own w' base 9 1 A n c (strsV ss)) (hn : ss.length = n) (hH : w.heap.size ≤ base) (hB : Below w.heap.size w w') :
    LinePost w v ⟨r, t, ss⟩ out (.returned (.tuple #[.agg #[.bool r, .string t, .slice A n c], .string out])) w' := ⟨_, rfl, h.lineV' hn, .inr (h.fresh hH), hB⟩
theorem post_line {w w' : World} {l : LineD} {v0 v : Value} {out : ByteArray} (hs : lineSl v = lineSl v0 ∧ lineN v = lineN v0) (hv : LineV w l v) (hB : Below w.heap.size w w') : LinePost w v0 l out (.returned (.tuple #[v, .string out])) w' := ⟨v, rfl, hv.below hB, .inl hs, hB⟩
section
variable (w : World) (r : Bool) (t : ByteArray) (A : Option Addr) (c : Nat) (ss : List ByteArray)
set_option maxRecDepth 100000 in
set_option maxHeartbeats 800000 in
theorem refType_none (hr : Reads w w.heap.size 1 A ss.length (strsV ss)) (hA : A = none → ss.length = 0 ∧ c = 0) (hc1 : ss.length ≤ c) (hc2 : c ≤ maxLen) (n : Int) (h0 : 0 ≤ n) (h1 : n ≤ 255) (hp : prB n = false) (t8 : (n == 8) = false) (t127 : (n == 127) = false) (t21 : (n == 21) = false) (t23 : (n == 23) = false) (t10 : (n == 10) = false) (t13 : (n == 13) = false) (t4 : (n == 4) = false) :
    Calls Try.prog 23 #[.agg #[.bool false, .string t, .slice A ss.length c], .int .u8 n] w (LinePost w (.agg #[.bool false, .string t, .slice A ss.length c]) ⟨false, t, ss⟩ emS) := by
  have KL := Lib.hid (LineV.mk (c := c) (t := t) (r := false) hr (Nat.le_refl _) hA hc1 hc2)
  have HR := Lib.hid hr
  have HA := Lib.hid hA
  clear hr hA hc1 hc2
  go_enter Try.func23, Try.ntmps23
  go_wp2_with (go_at_call 29; refine (Printable_any _ _ (by omega)).mono ?_; rintro e w' ⟨rfl, rfl⟩)
  refine bodyPost_ret (v := .tuple #[.agg #[.bool false, .string (t), .slice A ss.length c], .string (emS)]) (by simp [results, Try.results23, go_sem, emS, nlS]) rfl (post_line ⟨rfl, rfl⟩ KL.out (((Below.refl w.heap.size w).alloc (Nat.le_refl _) _).alloc (by simp) _))
set_option maxRecDepth 100000 in
set_option maxHeartbeats 800000 in
theorem refType_pr_full (hr : Reads w w.heap.size 1 A ss.length (strsV ss)) (hA : A = none → ss.length = 0 ∧ c = 0) (hc1 : ss.length ≤ c) (hc2 : c ≤ maxLen) (hn : 1024 ≤ t.size) (hl : t.size ≤ 100000) (n : Int) (h0 : 0 ≤ n) (h1 : n ≤ 255) (hp : prB n = true) :
    Calls Try.prog 23 #[.agg #[.bool false, .string t, .slice A ss.length c], .int .u8 n] w (LinePost w (.agg #[.bool false, .string t, .slice A ss.length c]) ⟨false, t, ss⟩ emS) := by
  have KL := Lib.hid (LineV.mk (c := c) (t := t) (r := false) hr (Nat.le_refl _) hA hc1 hc2)
  have HR := Lib.hid hr
  have HA := Lib.hid hA
  clear hr hA hc1 hc2
  go_enter Try.func23, Try.ntmps23
  go_wp2_with (go_at_call 29; refine (Printable_any _ _ (by omega)).mono ?_; rintro e w' ⟨rfl, rfl⟩)
  refine bodyPost_ret (v := .tuple #[.agg #[.bool false, .string (t), .slice A ss.length c], .string (emS)]) (by simp [results, Try.results23, go_sem, emS, nlS]) rfl (post_line ⟨rfl, rfl⟩ KL.out (((Below.refl w.heap.size w).alloc (Nat.le_refl _) _).alloc (by simp) _))
set_option maxRecDepth 100000 in
set_option maxHeartbeats 800000 in
theorem refType_pr_room (hr : Reads w w.heap.size 1 A ss.length (strsV ss)) (hA : A = none → ss.length = 0 ∧ c = 0) (hc1 : ss.length ≤ c) (hc2 : c ≤ maxLen) (hn : t.size < 1024) (n : Int) (h0 : 0 ≤ n) (h1 : n ≤ 255) (hp : prB n = true) :
    Calls Try.prog 23 #[.agg #[.bool false, .string t, .slice A ss.length c], .int .u8 n] w (LinePost w (.agg #[.bool false, .string t, .slice A ss.length c]) ⟨false, t ++ byteS n, ss⟩ (byteS n)) := by
  have KL := Lib.hid (LineV.mk (c := c) (t := t ++ byteS n) (r := false) hr (Nat.le_refl _) hA hc1 hc2)
  have HR := Lib.hid hr
  have HA := Lib.hid hA
  clear hr hA hc1 hc2
  have hcv := run_conv_at (P := Try.prog) 45 5 9 Try.underlying45 Try.underlying5 Try.underlying9
  have hcv2 := run_conv_drew (P := Try.prog) 45 5 9 Try.underlying45 Try.underlying5 Try.underlying9
  have hbs := byteS_size n
  go_enter Try.func23, Try.ntmps23
  go_wp2_with (go_at_call 29; refine (Printable_any _ _ (by omega)).mono ?_; rintro e w' ⟨rfl, rfl⟩)
  go_region
  go_wp2_with fail
  refine bodyPost_ret (v := .tuple #[.agg #[.bool false, .string (t ++ byteS n), .slice A ss.length c], .string (byteS n)]) (by simp [results, Try.results23, go_sem, emS, nlS]) rfl (post_line ⟨rfl, rfl⟩ KL.out (((((((Below.refl w.heap.size w).alloc (Nat.le_refl _) _).alloc (by simp) _).alloc (by simp; omega) _).alloc (by simp; omega) _).drew)))
set_option maxRecDepth 100000 in
set_option maxHeartbeats 800000 in
theorem refType_erase8 (hr : Reads w w.heap.size 1 A ss.length (strsV ss)) (hA : A = none → ss.length = 0 ∧ c = 0) (hc1 : ss.length ≤ c) (hc2 : c ≤ maxLen) (hl : t.size ≤ 100000) :
    Calls Try.prog 23 #[.agg #[.bool false, .string t, .slice A ss.length c], .int .u8 8] w (LinePost w (.agg #[.bool false, .string t, .slice A ss.length c]) (eraseF ⟨false, t, ss⟩ (min t.size 1)).1 (eraseF ⟨false, t, ss⟩ (min t.size 1)).2) := by
  have KL := Lib.hid (LineV.mk (c := c) (t := t.extract 0 (t.size - min t.size 1)) (r := false) hr (Nat.le_refl _) hA hc1 hc2)
  have HR := Lib.hid hr
  have HA := Lib.hid hA
  clear hr hA hc1 hc2
  have hp : prB 8 = false := rfl
  go_enter Try.func23, Try.ntmps23
  go_wp2_with (go_at_call 29; refine (Printable_any _ _ (by omega)).mono ?_; rintro e w' ⟨rfl, rfl⟩)
  refine (refErase_int _ _ _ _ _ _ _ (by omega) (by omega) hl).mono ?_
  rintro e w1 ⟨rfl, hb⟩
  have hb' := hb
  simp only [World.size_alloc, Nat.add_assoc, Nat.reduceAdd] at hb'
  have b1 : Blk w1 (w.heap.size + 1) 24 #[.bool false, .string ⟨#[]⟩, .slice none 0 0] := (Blk.new' (w.alloc _) _ _ (by simp)).below hb' (by omega)
  have b0 := ((Blk.new w 24 #[.bool false, .string t, .slice A ss.length c]).alloc (.cells #[.bool false, .string ⟨#[]⟩, .slice none 0 0] 24)).below hb' (by simp <;> omega)
  obtain ⟨d0, d1, d2, g0⟩ := b1.c3
  obtain ⟨e0, e1, e2, g1⟩ := b0.c3
  have hz1 := b1.lt
  have hz0 := b0.lt
  have HB := Lib.hid hb'
  clear hb hb' b1 b0
  go_wp2_with fail
  have hm : (min (1 : Int) t.size).toNat = min t.size 1 := by omega
  refine bodyPost_ret (v := .tuple #[.agg #[.bool false, .string (t.extract 0 (t.size - min t.size 1)), .slice A ss.length c], .string (rub (min t.size 1))]) (by simp [results, Try.results23, go_sem, emS, nlS, d0, d1, d2, hm, hz0, hz1]) rfl (post_line ⟨rfl, rfl⟩ KL.out (((((((Below.refl w.heap.size w).alloc (Nat.le_refl _) _).alloc (by simp) _).trans (HB.out.mono (by omega))).setCell (by simp) _).setCell (by simp) _).setCell (by simp) _))
set_option maxRecDepth 100000 in
set_option maxHeartbeats 800000 in
theorem refType_erase127 (hr : Reads w w.heap.size 1 A ss.length (strsV ss)) (hA : A = none → ss.length = 0 ∧ c = 0) (hc1 : ss.length ≤ c) (hc2 : c ≤ maxLen) (hl : t.size ≤ 100000) :
    Calls Try.prog 23 #[.agg #[.bool false, .string t, .slice A ss.length c], .int .u8 127] w (LinePost w (.agg #[.bool false, .string t, .slice A ss.length c]) (eraseF ⟨false, t, ss⟩ (min t.size 1)).1 (eraseF ⟨false, t, ss⟩ (min t.size 1)).2) := by
  have KL := Lib.hid (LineV.mk (c := c) (t := t.extract 0 (t.size - min t.size 1)) (r := false) hr (Nat.le_refl _) hA hc1 hc2)
  have HR := Lib.hid hr
  have HA := Lib.hid hA
  clear hr hA hc1 hc2
  have hp : prB 127 = false := rfl
  go_enter Try.func23, Try.ntmps23
  go_wp2_with (go_at_call 29; refine (Printable_any _ _ (by omega)).mono ?_; rintro e w' ⟨rfl, rfl⟩)
  refine (refErase_int _ _ _ _ _ _ _ (by omega) (by omega) hl).mono ?_
  rintro e w1 ⟨rfl, hb⟩
  have hb' := hb
  simp only [World.size_alloc, Nat.add_assoc, Nat.reduceAdd] at hb'
  have b1 : Blk w1 (w.heap.size + 1) 24 #[.bool false, .string ⟨#[]⟩, .slice none 0 0] := (Blk.new' (w.alloc _) _ _ (by simp)).below hb' (by omega)
  have b0 := ((Blk.new w 24 #[.bool false, .string t, .slice A ss.length c]).alloc (.cells #[.bool false, .string ⟨#[]⟩, .slice none 0 0] 24)).below hb' (by simp <;> omega)
  obtain ⟨d0, d1, d2, g0⟩ := b1.c3
  obtain ⟨e0, e1, e2, g1⟩ := b0.c3
  have hz1 := b1.lt
  have hz0 := b0.lt
  have HB := Lib.hid hb'
  clear hb hb' b1 b0
  go_wp2_with fail
  have hm : (min (1 : Int) t.size).toNat = min t.size 1 := by omega
  refine bodyPost_ret (v := .tuple #[.agg #[.bool false, .string (t.extract 0 (t.size - min t.size 1)), .slice A ss.length c], .string (rub (min t.size 1))]) (by simp [results, Try.results23, go_sem, emS, nlS, d0, d1, d2, hm, hz0, hz1]) rfl (post_line ⟨rfl, rfl⟩ KL.out (((((((Below.refl w.heap.size w).alloc (Nat.le_refl _) _).alloc (by simp) _).trans (HB.out.mono (by omega))).setCell (by simp) _).setCell (by simp) _).setCell (by simp) _))
set_option maxRecDepth 100000 in
set_option maxHeartbeats 800000 in
theorem refType_erase21 (hr : Reads w w.heap.size 1 A ss.length (strsV ss)) (hA : A = none → ss.length = 0 ∧ c = 0) (hc1 : ss.length ≤ c) (hc2 : c ≤ maxLen) (hl : t.size ≤ 100000) :
    Calls Try.prog 23 #[.agg #[.bool false, .string t, .slice A ss.length c], .int .u8 21] w (LinePost w (.agg #[.bool false, .string t, .slice A ss.length c]) (eraseF ⟨false, t, ss⟩ t.size).1 (eraseF ⟨false, t, ss⟩ t.size).2) := by
  have KL := Lib.hid (LineV.mk (c := c) (t := t.extract 0 (t.size - t.size)) (r := false) hr (Nat.le_refl _) hA hc1 hc2)
  have HR := Lib.hid hr
  have HA := Lib.hid hA
  clear hr hA hc1 hc2
  have hp : prB 21 = false := rfl
  go_enter Try.func23, Try.ntmps23
  go_wp2_with (go_at_call 29; refine (Printable_any _ _ (by omega)).mono ?_; rintro e w' ⟨rfl, rfl⟩)
  refine (refErase_int _ _ _ _ _ _ _ (by omega) (by omega) hl).mono ?_
  rintro e w1 ⟨rfl, hb⟩
  have hb' := hb
  simp only [World.size_alloc, Nat.add_assoc, Nat.reduceAdd] at hb'
  have b1 : Blk w1 (w.heap.size + 1) 24 #[.bool false, .string ⟨#[]⟩, .slice none 0 0] := (Blk.new' (w.alloc _) _ _ (by simp)).below hb' (by omega)
  have b0 := ((Blk.new w 24 #[.bool false, .string t, .slice A ss.length c]).alloc (.cells #[.bool false, .string ⟨#[]⟩, .slice none 0 0] 24)).below hb' (by simp <;> omega)
  obtain ⟨d0, d1, d2, g0⟩ := b1.c3
  obtain ⟨e0, e1, e2, g1⟩ := b0.c3
  have hz1 := b1.lt
  have hz0 := b0.lt
  have HB := Lib.hid hb'
  clear hb hb' b1 b0
  go_wp2_with fail
  refine bodyPost_ret (v := .tuple #[.agg #[.bool false, .string (t.extract 0 (t.size - t.size)), .slice A ss.length c], .string (rub t.size)]) (by simp [results, Try.results23, go_sem, emS, nlS, d0, d1, d2, hz0, hz1]) rfl (post_line ⟨rfl, rfl⟩ KL.out (((((((Below.refl w.heap.size w).alloc (Nat.le_refl _) _).alloc (by simp) _).trans (HB.out.mono (by omega))).setCell (by simp) _).setCell (by simp) _).setCell (by simp) _))
set_option maxRecDepth 100000 in
set_option maxHeartbeats 800000 in
theorem refType_erase23 (hr : Reads w w.heap.size 1 A ss.length (strsV ss)) (hA : A = none → ss.length = 0 ∧ c = 0) (hc1 : ss.length ≤ c) (hc2 : c ≤ maxLen) (hl : t.size ≤ 100000) :
    Calls Try.prog 23 #[.agg #[.bool false, .string t, .slice A ss.length c], .int .u8 23] w (LinePost w (.agg #[.bool false, .string t, .slice A ss.length c]) (eraseF ⟨false, t, ss⟩ (wordN t)).1 (eraseF ⟨false, t, ss⟩ (wordN t)).2) := by
  have KL := Lib.hid (LineV.mk (c := c) (t := t.extract 0 (t.size - wordN t)) (r := false) hr (Nat.le_refl _) hA hc1 hc2)
  have HR := Lib.hid hr
  have HA := Lib.hid hA
  clear hr hA hc1 hc2
  have hp : prB 23 = false := rfl
  have hwl := wordN_le t
  go_enter Try.func23, Try.ntmps23
  go_wp2_with (go_at_call 29; refine (Printable_any _ _ (by omega)).mono ?_; rintro e w' ⟨rfl, rfl⟩)
  go_region_held3 (fun w' => w'.cell? ⟨w.heap.size, 0, none⟩ = some (.bool false) ∧ w'.cell? ⟨w.heap.size, 1, none⟩ = some (.string t) ∧ w'.cell? ⟨w.heap.size, 2, none⟩ = some (.slice A ss.length c)) (go_keep)
    (first | (go_at_call 36; refine (word_any _ _ hl).mono ?_; rintro e w' ⟨rfl, rfl⟩) | (go_at_call 35; refine (refErase_any _ _ _ _ _ _ _ hwl hl).mono ?_; rintro e w1 ⟨rfl, hb⟩; have hb' : Below (w.heap.size + 2) _ w1 := (by simpa using hb); have b1 : Blk w1 (w.heap.size + 1) 24 #[.bool false, .string ⟨#[]⟩, .slice none 0 0] := ((Blk.new' (w.alloc _) _ _ (by simp)).drew).below hb' (by omega); have b0 := ((Blk.new w 24 #[.bool false, .string t, .slice A ss.length c]).alloc (.cells #[.bool false, .string ⟨#[]⟩, .slice none 0 0] 24)).drew.below hb' (by simp <;> omega); obtain ⟨d0, d1, d2, g0⟩ := b1.c3; obtain ⟨e0, e1, e2, g1⟩ := b0.c3; have hz1 := b1.lt; have hz0 := b0.lt; have HB := Lib.hid hb'; clear hb hb' b1 b0))
  all_goals go_wp2_with fail
  have hB1 : Below w.heap.size w w1 := ((((Below.refl w.heap.size w).alloc (Nat.le_refl _) _).alloc (by simp) _).drew).trans (HB.out.mono (by omega))
  refine bodyPost_ret (v := .tuple #[.agg #[.bool false, .string (t.extract 0 (t.size - wordN t)), .slice A ss.length c], .string (rub (wordN t))]) (by simp [results, Try.results23, go_sem, emS, nlS, d0, d1, d2, hz0, hz1]) rfl (post_line ⟨rfl, rfl⟩ KL.out (by repeat (first | (with_reducible exact hB1) | ((with_reducible refine Below.setCell ?_ ?_ _); rotate_left; (simp <;> omega)) | ((with_reducible refine Below.alloc ?_ ?_ _); rotate_left; (simp <;> omega)) | (with_reducible refine Below.drew ?_))))
set_option maxRecDepth 100000 in
set_option maxHeartbeats 800000 in
theorem refType_nl_room (hr : Reads w w.heap.size 1 A ss.length (strsV ss)) (hA : A = none → ss.length = 0 ∧ c = 0) (hc1 : ss.length ≤ c) (hc2 : c ≤ maxLen) (hn : ss.length < 1024) (ht : t.size ≤ 100000) :
    Calls Try.prog 23 #[.agg #[.bool false, .string t, .slice A ss.length c], .int .u8 10] w (LinePost w (.agg #[.bool false, .string t, .slice A ss.length c]) ⟨false, emS, ss ++ [t ++ nlS]⟩ nlS) := by
  have KL := Lib.hid (LineV.mk (c := c) (t := t) (r := false) hr (Nat.le_refl _) hA hc1 hc2)
  have HR := Lib.hid hr
  have HA := Lib.hid hA
  clear hr hA hc1 hc2
  have hp : prB 10 = false := rfl
  go_enter Try.func23, Try.ntmps23
  go_wp2_with (go_at_call 29; refine (Printable_any _ _ (by omega)).mono ?_; rintro e w' ⟨rfl, rfl⟩)
  refine (refDeliver_room _ _ _ A c ss _ ((HR.out.alloc (Nat.le_refl _) _).alloc (by simp) _) (by simp <;> omega) HA.out hn).mono ?_
  rintro e w1 ⟨A1, c1, rfl, hown, hb⟩
  have hb' := hb
  simp only [World.size_alloc, Nat.add_assoc, Nat.reduceAdd] at hb' hown
  have b1 : Blk w1 (w.heap.size + 1) 24 #[.bool false, .string ⟨#[]⟩, .slice none 0 0] := (Blk.new' (w.alloc _) _ _ (by simp)).below hb' (by omega)
  have b0 := ((Blk.new w 24 #[.bool false, .string t, .slice A ss.length c]).alloc (.cells #[.bool false, .string ⟨#[]⟩, .slice none 0 0] 24)).below hb' (by simp <;> omega)
  obtain ⟨d0, d1, d2, g0⟩ := b1.c3
  obtain ⟨e0, e1, e2, g1⟩ := b0.c3
  have hz1 := b1.lt
  have hz0 := b0.lt
  have HB := Lib.hid hb'
  have HO := Lib.hid hown
  clear hb hb' b1 b0 hown
  go_wp2_with fail
  have HO2 : Own w1 (w.heap.size + 2) 9 1 A1 (ss.length + 1) c1 (strsV (ss ++ [t ++ nlS])) := HO.out
  have hB1 : Below w.heap.size w w1 := (((Below.refl w.heap.size w).alloc (Nat.le_refl _) _).alloc (by simp) _).trans (HB.out.mono (by omega))
  refine bodyPost_ret (v := .tuple #[.agg #[.bool false, .string (emS), .slice A1 (ss.length + 1) c1], .string (nlS)]) (by simp [results, Try.results23, go_sem, emS, nlS, d0, d1, d2, hz0, hz1]) rfl (post_own (base := w.heap.size + 2) (ss := ss ++ [t ++ nlS]) (by repeat (first | (with_reducible exact HO2) | ((with_reducible refine Own.setLow ?_ ?_ _); rotate_left; (simp <;> omega)) | (with_reducible refine Own.alloc ?_ _) | (with_reducible refine Own.drew ?_))) (by simp) (by omega) (by repeat (first | (with_reducible exact hB1) | ((with_reducible refine Below.setCell ?_ ?_ _); rotate_left; (simp <;> omega)) | ((with_reducible refine Below.alloc ?_ ?_ _); rotate_left; (simp <;> omega)) | (with_reducible refine Below.drew ?_))))
set_option maxRecDepth 100000 in
set_option maxHeartbeats 800000 in
theorem refType_nl_full (hr : Reads w w.heap.size 1 A ss.length (strsV ss)) (hA : A = none → ss.length = 0 ∧ c = 0) (hc1 : ss.length ≤ c) (hc2 : c ≤ maxLen) (hn : 1024 ≤ ss.length) (hl : ss.length ≤ 100000) (ht : t.size ≤ 100000) :
    Calls Try.prog 23 #[.agg #[.bool false, .string t, .slice A ss.length c], .int .u8 10] w (LinePost w (.agg #[.bool false, .string t, .slice A ss.length c]) ⟨false, t, ss⟩ emS) := by
  have KL := Lib.hid (LineV.mk (c := c) (t := t) (r := false) hr (Nat.le_refl _) hA hc1 hc2)
  have HR := Lib.hid hr
  have HA := Lib.hid hA
  clear hr hA hc1 hc2
  have hp : prB 10 = false := rfl
  go_enter Try.func23, Try.ntmps23
  go_wp2_with (go_at_call 29; refine (Printable_any _ _ (by omega)).mono ?_; rintro e w' ⟨rfl, rfl⟩)
  refine (refDeliver_full _ _ _ A _ c _ hn hl).mono ?_
  rintro e w1 ⟨rfl, hb⟩
  have hb' := hb
  simp only [World.size_alloc, Nat.add_assoc, Nat.reduceAdd] at hb'
  have b1 : Blk w1 (w.heap.size + 1) 24 #[.bool false, .string ⟨#[]⟩, .slice none 0 0] := (Blk.new' (w.alloc _) _ _ (by simp)).below hb' (by omega)
  have b0 := ((Blk.new w 24 #[.bool false, .string t, .slice A ss.length c]).alloc (.cells #[.bool false, .string ⟨#[]⟩, .slice none 0 0] 24)).below hb' (by simp <;> omega)
  obtain ⟨d0, d1, d2, g0⟩ := b1.c3
  obtain ⟨e0, e1, e2, g1⟩ := b0.c3
  have hz1 := b1.lt
  have hz0 := b0.lt
  have HB := Lib.hid hb'
  clear hb hb' b1 b0
  go_wp2_with fail
  have hB1 : Below w.heap.size w w1 := (((Below.refl w.heap.size w).alloc (Nat.le_refl _) _).alloc (by simp) _).trans (HB.out.mono (by omega))
  refine bodyPost_ret (v := .tuple #[.agg #[.bool false, .string (t), .slice A ss.length c], .string (emS)]) (by simp [results, Try.results23, go_sem, emS, nlS, d0, d1, d2, hz0, hz1]) rfl (post_line ⟨rfl, rfl⟩ KL.out (by repeat (first | (with_reducible exact hB1) | ((with_reducible refine Below.setCell ?_ ?_ _); rotate_left; (simp <;> omega)) | ((with_reducible refine Below.alloc ?_ ?_ _); rotate_left; (simp <;> omega)) | (with_reducible refine Below.drew ?_))))
set_option maxRecDepth 100000 in
set_option maxHeartbeats 800000 in
theorem refType_cr_room (hr : Reads w w.heap.size 1 A ss.length (strsV ss)) (hA : A = none → ss.length = 0 ∧ c = 0) (hc1 : ss.length ≤ c) (hc2 : c ≤ maxLen) (hn : ss.length < 1024) (ht : t.size ≤ 100000) :
    Calls Try.prog 23 #[.agg #[.bool false, .string t, .slice A ss.length c], .int .u8 13] w (LinePost w (.agg #[.bool false, .string t, .slice A ss.length c]) ⟨false, emS, ss ++ [t ++ nlS]⟩ nlS) := by
  have KL := Lib.hid (LineV.mk (c := c) (t := t) (r := false) hr (Nat.le_refl _) hA hc1 hc2)
  have HR := Lib.hid hr
  have HA := Lib.hid hA
  clear hr hA hc1 hc2
  have hp : prB 13 = false := rfl
  go_enter Try.func23, Try.ntmps23
  go_wp2_with (go_at_call 29; refine (Printable_any _ _ (by omega)).mono ?_; rintro e w' ⟨rfl, rfl⟩)
  refine (refDeliver_room _ _ _ A c ss _ ((HR.out.alloc (Nat.le_refl _) _).alloc (by simp) _) (by simp <;> omega) HA.out hn).mono ?_
  rintro e w1 ⟨A1, c1, rfl, hown, hb⟩
  have hb' := hb
  simp only [World.size_alloc, Nat.add_assoc, Nat.reduceAdd] at hb' hown
  have b1 : Blk w1 (w.heap.size + 1) 24 #[.bool false, .string ⟨#[]⟩, .slice none 0 0] := (Blk.new' (w.alloc _) _ _ (by simp)).below hb' (by omega)
  have b0 := ((Blk.new w 24 #[.bool false, .string t, .slice A ss.length c]).alloc (.cells #[.bool false, .string ⟨#[]⟩, .slice none 0 0] 24)).below hb' (by simp <;> omega)
  obtain ⟨d0, d1, d2, g0⟩ := b1.c3
  obtain ⟨e0, e1, e2, g1⟩ := b0.c3
  have hz1 := b1.lt
  have hz0 := b0.lt
  have HB := Lib.hid hb'
  have HO := Lib.hid hown
  clear hb hb' b1 b0 hown
  go_wp2_with fail
  have HO2 : Own w1 (w.heap.size + 2) 9 1 A1 (ss.length + 1) c1 (strsV (ss ++ [t ++ nlS])) := HO.out
  have hB1 : Below w.heap.size w w1 := (((Below.refl w.heap.size w).alloc (Nat.le_refl _) _).alloc (by simp) _).trans (HB.out.mono (by omega))
  refine bodyPost_ret (v := .tuple #[.agg #[.bool false, .string (emS), .slice A1 (ss.length + 1) c1], .string (nlS)]) (by simp [results, Try.results23, go_sem, emS, nlS, d0, d1, d2, hz0, hz1]) rfl (post_own (base := w.heap.size + 2) (ss := ss ++ [t ++ nlS]) (by repeat (first | (with_reducible exact HO2) | ((with_reducible refine Own.setLow ?_ ?_ _); rotate_left; (simp <;> omega)) | (with_reducible refine Own.alloc ?_ _) | (with_reducible refine Own.drew ?_))) (by simp) (by omega) (by repeat (first | (with_reducible exact hB1) | ((with_reducible refine Below.setCell ?_ ?_ _); rotate_left; (simp <;> omega)) | ((with_reducible refine Below.alloc ?_ ?_ _); rotate_left; (simp <;> omega)) | (with_reducible refine Below.drew ?_))))
set_option maxRecDepth 100000 in
set_option maxHeartbeats 800000 in
theorem refType_cr_full (hr : Reads w w.heap.size 1 A ss.length (strsV ss)) (hA : A = none → ss.length = 0 ∧ c = 0) (hc1 : ss.length ≤ c) (hc2 : c ≤ maxLen) (hn : 1024 ≤ ss.length) (hl : ss.length ≤ 100000) (ht : t.size ≤ 100000) :
    Calls Try.prog 23 #[.agg #[.bool false, .string t, .slice A ss.length c], .int .u8 13] w (LinePost w (.agg #[.bool false, .string t, .slice A ss.length c]) ⟨false, t, ss⟩ emS) := by
  have KL := Lib.hid (LineV.mk (c := c) (t := t) (r := false) hr (Nat.le_refl _) hA hc1 hc2)
  have HR := Lib.hid hr
  have HA := Lib.hid hA
  clear hr hA hc1 hc2
  have hp : prB 13 = false := rfl
  go_enter Try.func23, Try.ntmps23
  go_wp2_with (go_at_call 29; refine (Printable_any _ _ (by omega)).mono ?_; rintro e w' ⟨rfl, rfl⟩)
  refine (refDeliver_full _ _ _ A _ c _ hn hl).mono ?_
  rintro e w1 ⟨rfl, hb⟩
  have hb' := hb
  simp only [World.size_alloc, Nat.add_assoc, Nat.reduceAdd] at hb'
  have b1 : Blk w1 (w.heap.size + 1) 24 #[.bool false, .string ⟨#[]⟩, .slice none 0 0] := (Blk.new' (w.alloc _) _ _ (by simp)).below hb' (by omega)
  have b0 := ((Blk.new w 24 #[.bool false, .string t, .slice A ss.length c]).alloc (.cells #[.bool false, .string ⟨#[]⟩, .slice none 0 0] 24)).below hb' (by simp <;> omega)
  obtain ⟨d0, d1, d2, g0⟩ := b1.c3
  obtain ⟨e0, e1, e2, g1⟩ := b0.c3
  have hz1 := b1.lt
  have hz0 := b0.lt
  have HB := Lib.hid hb'
  clear hb hb' b1 b0
  go_wp2_with fail
  have hB1 : Below w.heap.size w w1 := (((Below.refl w.heap.size w).alloc (Nat.le_refl _) _).alloc (by simp) _).trans (HB.out.mono (by omega))
  refine bodyPost_ret (v := .tuple #[.agg #[.bool false, .string (t), .slice A ss.length c], .string (emS)]) (by simp [results, Try.results23, go_sem, emS, nlS, d0, d1, d2, hz0, hz1]) rfl (post_line ⟨rfl, rfl⟩ KL.out (by repeat (first | (with_reducible exact hB1) | ((with_reducible refine Below.setCell ?_ ?_ _); rotate_left; (simp <;> omega)) | ((with_reducible refine Below.alloc ?_ ?_ _); rotate_left; (simp <;> omega)) | (with_reducible refine Below.drew ?_))))
set_option maxRecDepth 100000 in
set_option maxHeartbeats 800000 in
theorem refType_eof_room (hr : Reads w w.heap.size 1 A ss.length (strsV ss)) (hA : A = none → ss.length = 0 ∧ c = 0) (hc1 : ss.length ≤ c) (hc2 : c ≤ maxLen) (hn : ss.length < 1024) (ht : t.size ≤ 100000) :
    Calls Try.prog 23 #[.agg #[.bool false, .string t, .slice A ss.length c], .int .u8 4] w (LinePost w (.agg #[.bool false, .string t, .slice A ss.length c]) ⟨false, emS, ss ++ [t]⟩ emS) := by
  have KL := Lib.hid (LineV.mk (c := c) (t := t) (r := false) hr (Nat.le_refl _) hA hc1 hc2)
  have HR := Lib.hid hr
  have HA := Lib.hid hA
  clear hr hA hc1 hc2
  have hp : prB 4 = false := rfl
  go_enter Try.func23, Try.ntmps23
  go_wp2_with (go_at_call 29; refine (Printable_any _ _ (by omega)).mono ?_; rintro e w' ⟨rfl, rfl⟩)
  refine (refDeliver_room _ _ _ A c ss _ ((HR.out.alloc (Nat.le_refl _) _).alloc (by simp) _) (by simp <;> omega) HA.out hn).mono ?_
  rintro e w1 ⟨A1, c1, rfl, hown, hb⟩
  have hb' := hb
  simp only [World.size_alloc, Nat.add_assoc, Nat.reduceAdd] at hb' hown
  have b1 : Blk w1 (w.heap.size + 1) 24 #[.bool false, .string ⟨#[]⟩, .slice none 0 0] := (Blk.new' (w.alloc _) _ _ (by simp)).below hb' (by omega)
  have b0 := ((Blk.new w 24 #[.bool false, .string t, .slice A ss.length c]).alloc (.cells #[.bool false, .string ⟨#[]⟩, .slice none 0 0] 24)).below hb' (by simp <;> omega)
  obtain ⟨d0, d1, d2, g0⟩ := b1.c3
  obtain ⟨e0, e1, e2, g1⟩ := b0.c3
  have hz1 := b1.lt
  have hz0 := b0.lt
  have HB := Lib.hid hb'
  have HO := Lib.hid hown
  clear hb hb' b1 b0 hown
  go_wp2_with fail
  have hB1 : Below w.heap.size w w1 := (((Below.refl w.heap.size w).alloc (Nat.le_refl _) _).alloc (by simp) _).trans (HB.out.mono (by omega))
  refine bodyPost_ret (v := .tuple #[.agg #[.bool false, .string (emS), .slice A1 (ss.length + 1) c1], .string (emS)]) (by simp [results, Try.results23, go_sem, emS, nlS, d0, d1, d2, hz0, hz1]) rfl (post_own (base := w.heap.size + 2) (ss := ss ++ [t]) (by repeat (first | (with_reducible exact HO.out) | ((with_reducible refine Own.setLow ?_ ?_ _); rotate_left; (simp <;> omega)) | (with_reducible refine Own.alloc ?_ _) | (with_reducible refine Own.drew ?_))) (by simp) (by omega) (by repeat (first | (with_reducible exact hB1) | ((with_reducible refine Below.setCell ?_ ?_ _); rotate_left; (simp <;> omega)) | ((with_reducible refine Below.alloc ?_ ?_ _); rotate_left; (simp <;> omega)) | (with_reducible refine Below.drew ?_))))
set_option maxRecDepth 100000 in
set_option maxHeartbeats 800000 in
theorem refType_eof_full (hr : Reads w w.heap.size 1 A ss.length (strsV ss)) (hA : A = none → ss.length = 0 ∧ c = 0) (hc1 : ss.length ≤ c) (hc2 : c ≤ maxLen) (hn : 1024 ≤ ss.length) (hl : ss.length ≤ 100000) (ht : t.size ≤ 100000) :
    Calls Try.prog 23 #[.agg #[.bool false, .string t, .slice A ss.length c], .int .u8 4] w (LinePost w (.agg #[.bool false, .string t, .slice A ss.length c]) ⟨false, t, ss⟩ emS) := by
  have KL := Lib.hid (LineV.mk (c := c) (t := t) (r := false) hr (Nat.le_refl _) hA hc1 hc2)
  have HR := Lib.hid hr
  have HA := Lib.hid hA
  clear hr hA hc1 hc2
  have hp : prB 4 = false := rfl
  go_enter Try.func23, Try.ntmps23
  go_wp2_with (go_at_call 29; refine (Printable_any _ _ (by omega)).mono ?_; rintro e w' ⟨rfl, rfl⟩)
  refine (refDeliver_full _ _ _ A _ c _ hn hl).mono ?_
  rintro e w1 ⟨rfl, hb⟩
  have hb' := hb
  simp only [World.size_alloc, Nat.add_assoc, Nat.reduceAdd] at hb'
  have b1 : Blk w1 (w.heap.size + 1) 24 #[.bool false, .string ⟨#[]⟩, .slice none 0 0] := (Blk.new' (w.alloc _) _ _ (by simp)).below hb' (by omega)
  have b0 := ((Blk.new w 24 #[.bool false, .string t, .slice A ss.length c]).alloc (.cells #[.bool false, .string ⟨#[]⟩, .slice none 0 0] 24)).below hb' (by simp <;> omega)
  obtain ⟨d0, d1, d2, g0⟩ := b1.c3
  obtain ⟨e0, e1, e2, g1⟩ := b0.c3
  have hz1 := b1.lt
  have hz0 := b0.lt
  have HB := Lib.hid hb'
  clear hb hb' b1 b0
  go_wp2_with fail
  have hB1 : Below w.heap.size w w1 := (((Below.refl w.heap.size w).alloc (Nat.le_refl _) _).alloc (by simp) _).trans (HB.out.mono (by omega))
  refine bodyPost_ret (v := .tuple #[.agg #[.bool false, .string (t), .slice A ss.length c], .string (emS)]) (by simp [results, Try.results23, go_sem, emS, nlS, d0, d1, d2, hz0, hz1]) rfl (post_line ⟨rfl, rfl⟩ KL.out (by repeat (first | (with_reducible exact hB1) | ((with_reducible refine Below.setCell ?_ ?_ _); rotate_left; (simp <;> omega)) | ((with_reducible refine Below.alloc ?_ ?_ _); rotate_left; (simp <;> omega)) | (with_reducible refine Below.drew ?_))))
set_option maxRecDepth 100000 in
set_option maxHeartbeats 800000 in
theorem refType_raw_room (hr : Reads w w.heap.size 1 A ss.length (strsV ss)) (hA : A = none → ss.length = 0 ∧ c = 0) (hc1 : ss.length ≤ c) (hc2 : c ≤ maxLen) (hn : ss.length < 1024) (n : Int) (h0 : 0 ≤ n) (h1 : n ≤ 255) :
    Calls Try.prog 23 #[.agg #[.bool true, .string t, .slice A ss.length c], .int .u8 n] w (LinePost w (.agg #[.bool true, .string t, .slice A ss.length c]) ⟨true, emS, ss ++ [byteS n]⟩ emS) := by
  have KL := Lib.hid (LineV.mk (c := c) (t := t) (r := true) hr (Nat.le_refl _) hA hc1 hc2)
  have HR := Lib.hid hr
  have HA := Lib.hid hA
  clear hr hA hc1 hc2
  have hcv := run_conv_at (P := Try.prog) 45 5 9 Try.underlying45 Try.underlying5 Try.underlying9
  have hcv2 := run_conv_drew (P := Try.prog) 45 5 9 Try.underlying45 Try.underlying5 Try.underlying9
  go_enter Try.func23, Try.ntmps23
  go_wp2_with (go_at_call 29; refine (Printable_any _ _ (by omega)).mono ?_; rintro e w' ⟨rfl, rfl⟩)
  refine (refDeliver_room _ _ _ A c ss _ (by exact ((HR.out.alloc (Nat.le_refl _) _).alloc (by simp) _).alloc (by simp <;> omega) _) (by simp <;> omega) HA.out hn).mono ?_
  rintro e w1 ⟨A1, c1, rfl, hown, hb⟩
  have hb' := hb
  simp only [World.size_alloc, Nat.add_assoc, Nat.reduceAdd] at hb' hown
  have b1 : Blk w1 (w.heap.size + 1) 24 #[.bool false, .string ⟨#[]⟩, .slice none 0 0] := ((Blk.new' (w.alloc _) _ _ (by simp)).alloc _).below hb' (by omega)
  have b0 := ((Blk.new w 24 #[.bool true, .string t, .slice A ss.length c]).alloc (.cells #[.bool false, .string ⟨#[]⟩, .slice none 0 0] 24)).alloc _ |>.below hb' (by simp <;> omega)
  obtain ⟨d0, d1, d2, g0⟩ := b1.c3
  obtain ⟨e0, e1, e2, g1⟩ := b0.c3
  have hz1 := b1.lt
  have hz0 := b0.lt
  have HB := Lib.hid hb'
  have HO := Lib.hid hown
  clear hb hb' b1 b0 hown
  go_wp2_with fail
  have hB1 : Below w.heap.size w w1 := ((((Below.refl w.heap.size w).alloc (Nat.le_refl _) _).alloc (by simp) _).alloc (by simp <;> omega) _).trans (HB.out.mono (by omega))
  refine bodyPost_ret (v := .tuple #[.agg #[.bool true, .string (emS), .slice A1 (ss.length + 1) c1], .string (emS)]) (by simp [results, Try.results23, go_sem, emS, nlS, d0, d1, d2, hz0, hz1]) rfl (post_own (base := w.heap.size + 3) (ss := ss ++ [byteS n]) (by repeat (first | (with_reducible exact HO.out) | ((with_reducible refine Own.setLow ?_ ?_ _); rotate_left; (simp <;> omega)) | (with_reducible refine Own.alloc ?_ _) | (with_reducible refine Own.drew ?_))) (by simp) (by omega) (by repeat (first | (with_reducible exact hB1) | ((with_reducible refine Below.setCell ?_ ?_ _); rotate_left; (simp <;> omega)) | ((with_reducible refine Below.alloc ?_ ?_ _); rotate_left; (simp <;> omega)) | (with_reducible refine Below.drew ?_))))
set_option maxRecDepth 100000 in
set_option maxHeartbeats 800000 in
theorem refType_raw_full (hr : Reads w w.heap.size 1 A ss.length (strsV ss)) (hA : A = none → ss.length = 0 ∧ c = 0) (hc1 : ss.length ≤ c) (hc2 : c ≤ maxLen) (hn : 1024 ≤ ss.length) (hl : ss.length ≤ 100000) (n : Int) (h0 : 0 ≤ n) (h1 : n ≤ 255) :
    Calls Try.prog 23 #[.agg #[.bool true, .string t, .slice A ss.length c], .int .u8 n] w (LinePost w (.agg #[.bool true, .string t, .slice A ss.length c]) ⟨true, t, ss⟩ emS) := by
  have KL := Lib.hid (LineV.mk (c := c) (t := t) (r := true) hr (Nat.le_refl _) hA hc1 hc2)
  have HR := Lib.hid hr
  have HA := Lib.hid hA
  clear hr hA hc1 hc2
  have hcv := run_conv_at (P := Try.prog) 45 5 9 Try.underlying45 Try.underlying5 Try.underlying9
  have hcv2 := run_conv_drew (P := Try.prog) 45 5 9 Try.underlying45 Try.underlying5 Try.underlying9
  go_enter Try.func23, Try.ntmps23
  go_wp2_with (go_at_call 29; refine (Printable_any _ _ (by omega)).mono ?_; rintro e w' ⟨rfl, rfl⟩)
  refine (refDeliver_full _ _ _ A _ c _ hn hl).mono ?_
  rintro e w1 ⟨rfl, hb⟩
  have hb' := hb
  simp only [World.size_alloc, Nat.add_assoc, Nat.reduceAdd] at hb'
  have b1 : Blk w1 (w.heap.size + 1) 24 #[.bool false, .string ⟨#[]⟩, .slice none 0 0] := ((Blk.new' (w.alloc _) _ _ (by simp)).alloc _).below hb' (by omega)
  have b0 := ((Blk.new w 24 #[.bool true, .string t, .slice A ss.length c]).alloc (.cells #[.bool false, .string ⟨#[]⟩, .slice none 0 0] 24)).alloc _ |>.below hb' (by simp <;> omega)
  obtain ⟨d0, d1, d2, g0⟩ := b1.c3
  obtain ⟨e0, e1, e2, g1⟩ := b0.c3
  have hz1 := b1.lt
  have hz0 := b0.lt
  have HB := Lib.hid hb'
  clear hb hb' b1 b0
  go_wp2_with fail
  have hB1 : Below w.heap.size w w1 := ((((Below.refl w.heap.size w).alloc (Nat.le_refl _) _).alloc (by simp) _).alloc (by simp <;> omega) _).trans (HB.out.mono (by omega))
  refine bodyPost_ret (v := .tuple #[.agg #[.bool true, .string (t), .slice A ss.length c], .string (emS)]) (by simp [results, Try.results23, go_sem, emS, nlS, d0, d1, d2, hz0, hz1]) rfl (post_line ⟨rfl, rfl⟩ KL.out (by repeat (first | (with_reducible exact hB1) | ((with_reducible refine Below.setCell ?_ ?_ _); rotate_left; (simp <;> omega)) | ((with_reducible refine Below.alloc ?_ ?_ _); rotate_left; (simp <;> omega)) | (with_reducible refine Below.drew ?_))))
end
end Go.Proofs.Ytcnoefpckiionaa
