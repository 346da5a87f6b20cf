/- Typing a byte, by contracts: the program's function. -/
import Derived.Test.YtcnoefpckiionaaRows
import Derived.Test.YtcnoefpckiionaaErased
import Derived.Test.YtcnoefpckiionaaDeliver
import Derived.Test.YtcnoefpckiionaaShelf
import Derived.Test.YtcnoefpckiionaaBytes
import Derived.Deep.RegionHeld3
namespace Go.Proofs.Ytcnoefpckiionaa
open Go.RowKit
set_option linter.unusedSimpArgs false
set_option linter.unusedVariables false
def nlS : ByteArray := ⟨#[10]⟩
def emS : ByteArray := ⟨#[]⟩
def rub (k : Nat) : ByteArray := ⟨(Lib.repeatL [8, 32, 8] k).toArray⟩
def eraseF (l : LineD) (k : Nat) : LineD × ByteArray := (⟨l.raw, l.text.extract 0 (l.text.size - k), l.ready⟩, rub k)
/-- What typing a byte does to a line editor, and its echo. -/
def typeF (l : LineD) (n : Int) : LineD × ByteArray :=
  if l.raw = true then (if l.ready.length < 1024 then (⟨l.raw, l.text, l.ready ++ [byteS n]⟩, emS) else (l, emS))
  else if prB n = true then (if l.text.size < 1024 then (⟨l.raw, l.text ++ byteS n, l.ready⟩, byteS n) else (l, emS))
  else if n = 8 ∨ n = 127 then eraseF l (min l.text.size 1)
  else if n = 21 then eraseF l l.text.size
  else if n = 23 then eraseF l (wordN l.text)
  else if n = 10 ∨ n = 13 then (if l.ready.length < 1024 then (⟨l.raw, emS, l.ready ++ [l.text ++ nlS]⟩, nlS) else (l, emS))
  else if n = 4 then (if l.ready.length < 1024 then (⟨l.raw, emS, l.ready ++ [l.text]⟩, emS) else (l, emS))
  else (l, emS)
/-- How a line editor lies in block lb, its texts in memory from 'base' on. -/
def LineAt (w : World) (lb base : Nat) (A : Option Addr) (c : Nat) (l : LineD) : Prop :=
  Blk w lb 24 #[.bool l.raw, .string l.text, .slice A l.ready.length c] ∧ Own w base 9 1 A l.ready.length c (strsV l.ready)
def TypedPost (lb base : Nat) (A : Option Addr) (w : World) (r : LineD × ByteArray) (e : Ending) (w' : World) : Prop :=
  e = .returned (.string r.2) ∧ ∃ A' c', LineAt w' lb base A' c' r.1 ∧ Fr (fun i => i = lb ∨ A = some ⟨i, 0, none⟩) w w'
theorem wordN_le (s : ByteArray) : wordN s ≤ s.size := by unfold wordN; omega
section
variable (lb base c : Nat) (A : Option Addr) (w : World) (l : LineD)
set_option maxRecDepth 100000 in
set_option maxHeartbeats 800000 in
theorem typed_raw_room (h : LineAt w lb base A c l) (hbase : base ≤ w.heap.size) (hr : l.raw = true) (hn : l.ready.length < 1024) (n : Int) (h0 : 0 ≤ n) (h1 : n ≤ 255) :
    Calls Try.prog 32 #[.pointer (some ⟨lb, 0, none⟩), .int .u8 n] w (TypedPost lb base A w (⟨l.raw, l.text, l.ready ++ [byteS n]⟩, emS)) := by
  obtain ⟨r, t, ss⟩ := l
  obtain ⟨hb, ho⟩ := h
  simp only at *
  subst hr
  obtain ⟨c0, c1, c2, f0⟩ := hb.c3
  have hlt := hb.lt
  have HB := Lib.hid hb
  have HO := Lib.hid ho
  clear hb ho
  go_enter Try.func32, Try.ntmps32
  have hcv := run_conv_one (P := Try.prog) 45 5 9 Try.underlying45 Try.underlying5 Try.underlying9
  go_wp2_with (go_at_call 37; refine (deliver_room lb _ _ _ A c base ss _ (HB.out.alloc _) (HO.out.alloc _) (by simp; omega) hn).mono ?_; rintro e w1 ⟨A', c', rfl, b1, o1, fr1⟩; obtain ⟨d0, d1, d2, g0⟩ := b1.c3; have HB1 := Lib.hid b1; have HO1 := Lib.hid o1; have HF1 := Lib.hid fr1; clear b1 o1 fr1)
  go_ret
  exact ⟨rfl, A', c', ⟨by simpa using HB1.out, by simpa using HO1.out⟩, ((Fr.refl _ w).alloc _).trans HF1.out fun i _ h => h⟩
set_option maxRecDepth 100000 in
set_option maxHeartbeats 800000 in
theorem typed_raw_full (h : LineAt w lb base A c l) (hbase : base ≤ w.heap.size) (hr : l.raw = true) (hn : 1024 ≤ l.ready.length) (hl : l.ready.length ≤ 100000) (n : Int) (h0 : 0 ≤ n) (h1 : n ≤ 255) :
    Calls Try.prog 32 #[.pointer (some ⟨lb, 0, none⟩), .int .u8 n] w (TypedPost lb base A w (l, emS)) := by
  obtain ⟨r, t, ss⟩ := l
  obtain ⟨hb, ho⟩ := h
  simp only at *
  subst hr
  obtain ⟨c0, c1, c2, f0⟩ := hb.c3
  have hlt := hb.lt
  have HB := Lib.hid hb
  have HO := Lib.hid ho
  clear hb ho
  go_enter Try.func32, Try.ntmps32
  have hcv := run_conv_one (P := Try.prog) 45 5 9 Try.underlying45 Try.underlying5 Try.underlying9
  go_wp2_with (go_at_call 37; refine (deliver_full lb _ _ _ A _ c _ (HB.out.alloc _) hn hl).mono ?_; rintro e w1 ⟨rfl, rfl⟩)
  go_ret
  exact ⟨rfl, A, c, ⟨HB.out.alloc _, HO.out.alloc _⟩, (Fr.refl _ _).alloc _⟩
set_option maxRecDepth 100000 in
set_option maxHeartbeats 800000 in
theorem typed_nl_room (h : LineAt w lb base A c l) (hbase : base ≤ w.heap.size) (hr : l.raw = false) (ht : l.text.size ≤ 100000) (hn : l.ready.length < 1024) :
    Calls Try.prog 32 #[.pointer (some ⟨lb, 0, none⟩), .int .u8 10] w (TypedPost lb base A w (⟨l.raw, emS, l.ready ++ [l.text ++ nlS]⟩, nlS)) := by
  obtain ⟨r, t, ss⟩ := l
  obtain ⟨hb, ho⟩ := h
  simp only at *
  subst hr
  obtain ⟨c0, c1, c2, f0⟩ := hb.c3
  have hlt := hb.lt
  have HB := Lib.hid hb
  have HO := Lib.hid ho
  clear hb ho
  go_enter Try.func32, Try.ntmps32
  go_wp2_with (go_at_call 37; refine (deliver_room lb _ _ _ A c base ss _ HB.out HO.out hbase hn).mono ?_; rintro e w1 ⟨A', c', rfl, b1, o1, fr1⟩; obtain ⟨d0, d1, d2, g0⟩ := b1.c3; have HB1 := Lib.hid b1; have HO1 := Lib.hid o1; have HF1 := Lib.hid fr1; clear b1 o1 fr1)
  go_ret
  exact ⟨rfl, A', c', ⟨by simpa [nlS, emS] using HB1.out.set_ 1 (.string ⟨#[]⟩), by simpa [nlS, emS] using HO1.out.setCell (fun g off hA => HO1.out.ne_blk HB1.out (by decide) g off hA) _⟩, HF1.out.setCell (.inr (.inl rfl)) _⟩
set_option maxRecDepth 100000 in
set_option maxHeartbeats 800000 in
theorem typed_nl_full (h : LineAt w lb base A c l) (hbase : base ≤ w.heap.size) (hr : l.raw = false) (ht : l.text.size ≤ 100000) (hn : 1024 ≤ l.ready.length) (hl : l.ready.length ≤ 100000) :
    Calls Try.prog 32 #[.pointer (some ⟨lb, 0, none⟩), .int .u8 10] w (TypedPost lb base A w (l, emS)) := by
  obtain ⟨r, t, ss⟩ := l
  obtain ⟨hb, ho⟩ := h
  simp only at *
  subst hr
  obtain ⟨c0, c1, c2, f0⟩ := hb.c3
  have hlt := hb.lt
  have HB := Lib.hid hb
  have HO := Lib.hid ho
  clear hb ho
  go_enter Try.func32, Try.ntmps32
  go_wp2_with (go_at_call 37; refine (deliver_full lb _ _ _ A _ c _ HB.out hn hl).mono ?_; rintro e w1 ⟨rfl, rfl⟩)
  go_ret
  exact ⟨rfl, A, c, ⟨HB.out, HO.out⟩, Fr.refl _ _⟩
set_option maxRecDepth 100000 in
set_option maxHeartbeats 800000 in
theorem typed_cr_room (h : LineAt w lb base A c l) (hbase : base ≤ w.heap.size) (hr : l.raw = false) (ht : l.text.size ≤ 100000) (hn : l.ready.length < 1024) :
    Calls Try.prog 32 #[.pointer (some ⟨lb, 0, none⟩), .int .u8 13] w (TypedPost lb base A w (⟨l.raw, emS, l.ready ++ [l.text ++ nlS]⟩, nlS)) := by
  obtain ⟨r, t, ss⟩ := l
  obtain ⟨hb, ho⟩ := h
  simp only at *
  subst hr
  obtain ⟨c0, c1, c2, f0⟩ := hb.c3
  have hlt := hb.lt
  have HB := Lib.hid hb
  have HO := Lib.hid ho
  clear hb ho
  go_enter Try.func32, Try.ntmps32
  go_wp2_with (go_at_call 37; refine (deliver_room lb _ _ _ A c base ss _ HB.out HO.out hbase hn).mono ?_; rintro e w1 ⟨A', c', rfl, b1, o1, fr1⟩; obtain ⟨d0, d1, d2, g0⟩ := b1.c3; have HB1 := Lib.hid b1; have HO1 := Lib.hid o1; have HF1 := Lib.hid fr1; clear b1 o1 fr1)
  go_ret
  exact ⟨rfl, A', c', ⟨by simpa [nlS, emS] using HB1.out.set_ 1 (.string ⟨#[]⟩), by simpa [nlS, emS] using HO1.out.setCell (fun g off hA => HO1.out.ne_blk HB1.out (by decide) g off hA) _⟩, HF1.out.setCell (.inr (.inl rfl)) _⟩
set_option maxRecDepth 100000 in
set_option maxHeartbeats 800000 in
theorem typed_cr_full (h : LineAt w lb base A c l) (hbase : base ≤ w.heap.size) (hr : l.raw = false) (ht : l.text.size ≤ 100000) (hn : 1024 ≤ l.ready.length) (hl : l.ready.length ≤ 100000) :
    Calls Try.prog 32 #[.pointer (some ⟨lb, 0, none⟩), .int .u8 13] w (TypedPost lb base A w (l, emS)) := by
  obtain ⟨r, t, ss⟩ := l
  obtain ⟨hb, ho⟩ := h
  simp only at *
  subst hr
  obtain ⟨c0, c1, c2, f0⟩ := hb.c3
  have hlt := hb.lt
  have HB := Lib.hid hb
  have HO := Lib.hid ho
  clear hb ho
  go_enter Try.func32, Try.ntmps32
  go_wp2_with (go_at_call 37; refine (deliver_full lb _ _ _ A _ c _ HB.out hn hl).mono ?_; rintro e w1 ⟨rfl, rfl⟩)
  go_ret
  exact ⟨rfl, A, c, ⟨HB.out, HO.out⟩, Fr.refl _ _⟩
set_option maxRecDepth 100000 in
set_option maxHeartbeats 800000 in
theorem typed_eof_room (h : LineAt w lb base A c l) (hbase : base ≤ w.heap.size) (hr : l.raw = false) (hn : l.ready.length < 1024) :
    Calls Try.prog 32 #[.pointer (some ⟨lb, 0, none⟩), .int .u8 4] w (TypedPost lb base A w (⟨l.raw, emS, l.ready ++ [l.text]⟩, emS)) := by
  obtain ⟨r, t, ss⟩ := l
  obtain ⟨hb, ho⟩ := h
  simp only at *
  subst hr
  obtain ⟨c0, c1, c2, f0⟩ := hb.c3
  have hlt := hb.lt
  have HB := Lib.hid hb
  have HO := Lib.hid ho
  clear hb ho
  go_enter Try.func32, Try.ntmps32
  go_wp2_with (go_at_call 37; refine (deliver_room lb _ _ _ A c base ss _ HB.out HO.out hbase hn).mono ?_; rintro e w1 ⟨A', c', rfl, b1, o1, fr1⟩; obtain ⟨d0, d1, d2, g0⟩ := b1.c3; have HB1 := Lib.hid b1; have HO1 := Lib.hid o1; have HF1 := Lib.hid fr1; clear b1 o1 fr1)
  go_ret
  exact ⟨rfl, A', c', ⟨by simpa [nlS, emS] using HB1.out.set_ 1 (.string ⟨#[]⟩), by simpa [nlS, emS] using HO1.out.setCell (fun g off hA => HO1.out.ne_blk HB1.out (by decide) g off hA) _⟩, HF1.out.setCell (.inr (.inl rfl)) _⟩
set_option maxRecDepth 100000 in
set_option maxHeartbeats 800000 in
theorem typed_eof_full (h : LineAt w lb base A c l) (hbase : base ≤ w.heap.size) (hr : l.raw = false) (hn : 1024 ≤ l.ready.length) (hl : l.ready.length ≤ 100000) :
    Calls Try.prog 32 #[.pointer (some ⟨lb, 0, none⟩), .int .u8 4] w (TypedPost lb base A w (l, emS)) := by
  obtain ⟨r, t, ss⟩ := l
  obtain ⟨hb, ho⟩ := h
  simp only at *
  subst hr
  obtain ⟨c0, c1, c2, f0⟩ := hb.c3
  have hlt := hb.lt
  have HB := Lib.hid hb
  have HO := Lib.hid ho
  clear hb ho
  go_enter Try.func32, Try.ntmps32
  go_wp2_with (go_at_call 37; refine (deliver_full lb _ _ _ A _ c _ HB.out hn hl).mono ?_; rintro e w1 ⟨rfl, rfl⟩)
  go_ret
  exact ⟨rfl, A, c, ⟨HB.out, HO.out⟩, Fr.refl _ _⟩
set_option maxRecDepth 100000 in
set_option maxHeartbeats 800000 in
theorem typed_pr_room (h : LineAt w lb base A c l) (hbase : base ≤ w.heap.size) (hr : l.raw = false) (hn : l.text.size < 1024) (n : Int) (h0 : 0 ≤ n) (h1 : n ≤ 255) (hp : prB n = true) (t8 : (n == 8) = false) (t127 : (n == 127) = false) (t21 : (n == 21) = false) (t23 : (n == 23) = false) (t10 : (n == 10) = false) (t13 : (n == 13) = false) (t4 : (n == 4) = false) :
    Calls Try.prog 32 #[.pointer (some ⟨lb, 0, none⟩), .int .u8 n] w (TypedPost lb base A w (⟨l.raw, l.text ++ byteS n, l.ready⟩, byteS n)) := by
  obtain ⟨r, t, ss⟩ := l
  obtain ⟨hb, ho⟩ := h
  simp only at *
  subst hr
  obtain ⟨c0, c1, c2, f0⟩ := hb.c3
  have hlt := hb.lt
  have HB := Lib.hid hb
  have HO := Lib.hid ho
  clear hb ho
  go_enter Try.func32, Try.ntmps32
  have hbs := byteS_size n
  have hcv := run_conv_one (P := Try.prog) 45 5 9 Try.underlying45 Try.underlying5 Try.underlying9
  go_wp2_with (go_at_call 26; refine (printable_any _ _ ⟨h0, h1⟩).mono ?_; rintro e w' ⟨rfl, rfl⟩)
  go_ret
  exact ⟨rfl, A, c, ⟨by simpa using (HB.out.set_ 1 _).alloc _, (HO.out.setCell (fun g off hA => HO.out.ne_blk HB.out (by decide) g off hA) _).alloc _⟩, ((Fr.refl _ _).setCell (.inr (.inl rfl)) _).alloc _⟩
set_option maxRecDepth 100000 in
set_option maxHeartbeats 800000 in
theorem typed_pr_full (h : LineAt w lb base A c l) (hbase : base ≤ w.heap.size) (hr : l.raw = false) (hn : 1024 ≤ l.text.size) (hl : l.text.size ≤ 100000) (n : Int) (h0 : 0 ≤ n) (h1 : n ≤ 255) (hp : prB n = true) (t8 : (n == 8) = false) (t127 : (n == 127) = false) (t21 : (n == 21) = false) (t23 : (n == 23) = false) (t10 : (n == 10) = false) (t13 : (n == 13) = false) (t4 : (n == 4) = false) :
    Calls Try.prog 32 #[.pointer (some ⟨lb, 0, none⟩), .int .u8 n] w (TypedPost lb base A w (l, emS)) := by
  obtain ⟨r, t, ss⟩ := l
  obtain ⟨hb, ho⟩ := h
  simp only at *
  subst hr
  obtain ⟨c0, c1, c2, f0⟩ := hb.c3
  have hlt := hb.lt
  have HB := Lib.hid hb
  have HO := Lib.hid ho
  clear hb ho
  go_enter Try.func32, Try.ntmps32
  go_wp2_with (go_at_call 26; refine (printable_any _ _ ⟨h0, h1⟩).mono ?_; rintro e w' ⟨rfl, rfl⟩)
  go_ret
  exact ⟨rfl, A, c, ⟨HB.out, HO.out⟩, Fr.refl _ _⟩
set_option maxRecDepth 100000 in
set_option maxHeartbeats 800000 in
theorem typed_none (h : LineAt w lb base A c l) (hbase : base ≤ w.heap.size) (hr : l.raw = false) (n : Int) (h0 : 0 ≤ n) (h1 : n ≤ 255) (hp : prB n = false) (t8 : (n == 8) = false) (t127 : (n == 127) = false) (t21 : (n == 21) = false) (t23 : (n == 23) = false) (t10 : (n == 10) = false) (t13 : (n == 13) = false) (t4 : (n == 4) = false) :
    Calls Try.prog 32 #[.pointer (some ⟨lb, 0, none⟩), .int .u8 n] w (TypedPost lb base A w (l, emS)) := by
  obtain ⟨r, t, ss⟩ := l
  obtain ⟨hb, ho⟩ := h
  simp only at *
  subst hr
  obtain ⟨c0, c1, c2, f0⟩ := hb.c3
  have hlt := hb.lt
  have HB := Lib.hid hb
  have HO := Lib.hid ho
  clear hb ho
  go_enter Try.func32, Try.ntmps32
  go_wp2_with (go_at_call 26; refine (printable_any _ _ ⟨h0, h1⟩).mono ?_; rintro e w' ⟨rfl, rfl⟩)
  go_ret
  exact ⟨rfl, A, c, ⟨HB.out, HO.out⟩, Fr.refl _ _⟩
set_option maxRecDepth 100000 in
set_option maxHeartbeats 800000 in
theorem typed_erase8 (h : LineAt w lb base A c l) (hbase : base ≤ w.heap.size) (hr : l.raw = false) (hl : l.text.size ≤ 100000) :
    Calls Try.prog 32 #[.pointer (some ⟨lb, 0, none⟩), .int .u8 8] w (TypedPost lb base A w (eraseF l (min l.text.size 1))) := by
  obtain ⟨r, t, ss⟩ := l
  obtain ⟨hb, ho⟩ := h
  simp only at *
  subst hr
  obtain ⟨c0, c1, c2, f0⟩ := hb.c3
  have hlt := hb.lt
  have hwl := wordN_le t
  have HB := Lib.hid hb
  have HO := Lib.hid ho
  clear hb ho
  go_enter Try.func32, Try.ntmps32
  go_wp2_with (go_at_call 41; refine (erased_one _ _ _ hl rfl rfl).mono ?_; rintro e w' ⟨rfl, rfl⟩)
  go_region
  go_wp2_with (go_at_call 42; refine (Try.strings_Repeat _ _ _ (by omega) (by show 3 * _ ≤ _; omega)).mono ?_; rintro e w1 ⟨rfl, hbw⟩)
  go_ret
  have b1 := (HB.out.set_ 1 (.string (t.extract 0 (t.size - min t.size 1)))).drew
  have o1 := (HO.out.setCell (p := ⟨lb, 1, none⟩) (fun g off hA => HO.out.ne_blk HB.out (by decide) g off hA) (.string (t.extract 0 (t.size - min t.size 1)))).drew
  refine ⟨rfl, A, c, ⟨by simpa [eraseF] using b1.below hbw b1.lt, o1.below hbw (Nat.le_refl _)⟩, ?_⟩
  exact ((Fr.refl _ w).setCell (p := ⟨lb, 1, none⟩) (.inr (.inl rfl)) _).drew.trans (Fr.of_new hbw (fun _ => False)) (fun _ _ h => h.elim)
set_option maxRecDepth 100000 in
set_option maxHeartbeats 800000 in
theorem typed_erase127 (h : LineAt w lb base A c l) (hbase : base ≤ w.heap.size) (hr : l.raw = false) (hl : l.text.size ≤ 100000) :
    Calls Try.prog 32 #[.pointer (some ⟨lb, 0, none⟩), .int .u8 127] w (TypedPost lb base A w (eraseF l (min l.text.size 1))) := by
  obtain ⟨r, t, ss⟩ := l
  obtain ⟨hb, ho⟩ := h
  simp only at *
  subst hr
  obtain ⟨c0, c1, c2, f0⟩ := hb.c3
  have hlt := hb.lt
  have hwl := wordN_le t
  have HB := Lib.hid hb
  have HO := Lib.hid ho
  clear hb ho
  go_enter Try.func32, Try.ntmps32
  go_wp2_with (go_at_call 41; refine (erased_one _ _ _ hl rfl rfl).mono ?_; rintro e w' ⟨rfl, rfl⟩)
  go_region
  go_wp2_with (go_at_call 42; refine (Try.strings_Repeat _ _ _ (by omega) (by show 3 * _ ≤ _; omega)).mono ?_; rintro e w1 ⟨rfl, hbw⟩)
  go_ret
  have b1 := (HB.out.set_ 1 (.string (t.extract 0 (t.size - min t.size 1)))).drew
  have o1 := (HO.out.setCell (p := ⟨lb, 1, none⟩) (fun g off hA => HO.out.ne_blk HB.out (by decide) g off hA) (.string (t.extract 0 (t.size - min t.size 1)))).drew
  refine ⟨rfl, A, c, ⟨by simpa [eraseF] using b1.below hbw b1.lt, o1.below hbw (Nat.le_refl _)⟩, ?_⟩
  exact ((Fr.refl _ w).setCell (p := ⟨lb, 1, none⟩) (.inr (.inl rfl)) _).drew.trans (Fr.of_new hbw (fun _ => False)) (fun _ _ h => h.elim)
set_option maxRecDepth 100000 in
set_option maxHeartbeats 800000 in
theorem typed_erase21 (h : LineAt w lb base A c l) (hbase : base ≤ w.heap.size) (hr : l.raw = false) (hl : l.text.size ≤ 100000) :
    Calls Try.prog 32 #[.pointer (some ⟨lb, 0, none⟩), .int .u8 21] w (TypedPost lb base A w (eraseF l (l.text.size))) := by
  obtain ⟨r, t, ss⟩ := l
  obtain ⟨hb, ho⟩ := h
  simp only at *
  subst hr
  obtain ⟨c0, c1, c2, f0⟩ := hb.c3
  have hlt := hb.lt
  have hwl := wordN_le t
  have HB := Lib.hid hb
  have HO := Lib.hid ho
  clear hb ho
  go_enter Try.func32, Try.ntmps32
  go_wp2_with (go_at_call 41; refine (erased_line _ _ hl).mono ?_; rintro e w' ⟨rfl, rfl⟩)
  go_region
  go_wp2_with (go_at_call 42; refine (Try.strings_Repeat _ _ _ (by omega) (by show 3 * _ ≤ _; omega)).mono ?_; rintro e w1 ⟨rfl, hbw⟩)
  go_ret
  have b1 := (HB.out.set_ 1 (.string ByteArray.empty)).drew
  have o1 := (HO.out.setCell (p := ⟨lb, 1, none⟩) (fun g off hA => HO.out.ne_blk HB.out (by decide) g off hA) (.string ByteArray.empty)).drew
  refine ⟨rfl, A, c, ⟨by simpa [eraseF] using b1.below hbw b1.lt, o1.below hbw (Nat.le_refl _)⟩, ?_⟩
  exact ((Fr.refl _ w).setCell (p := ⟨lb, 1, none⟩) (.inr (.inl rfl)) _).drew.trans (Fr.of_new hbw (fun _ => False)) (fun _ _ h => h.elim)
set_option maxRecDepth 100000 in
set_option maxHeartbeats 800000 in
theorem typed_erase23 (h : LineAt w lb base A c l) (hbase : base ≤ w.heap.size) (hr : l.raw = false) (hl : l.text.size ≤ 100000) :
    Calls Try.prog 32 #[.pointer (some ⟨lb, 0, none⟩), .int .u8 23] w (TypedPost lb base A w (eraseF l (wordN l.text))) := by
  obtain ⟨r, t, ss⟩ := l
  obtain ⟨hb, ho⟩ := h
  simp only at *
  subst hr
  obtain ⟨c0, c1, c2, f0⟩ := hb.c3
  have hlt := hb.lt
  have hwl := wordN_le t
  have HB := Lib.hid hb
  have HO := Lib.hid ho
  clear hb ho
  go_enter Try.func32, Try.ntmps32
  go_wp2_with (go_at_call 41; refine (erased_word _ _ hl).mono ?_; rintro e w' ⟨rfl, rfl⟩)
  go_region
  go_wp2_with (go_at_call 42; refine (Try.strings_Repeat _ _ _ (by omega) (by show 3 * _ ≤ _; omega)).mono ?_; rintro e w1 ⟨rfl, hbw⟩)
  go_ret
  have b1 := (HB.out.set_ 1 (.string (t.extract 0 (t.size - wordN t)))).drew
  have o1 := (HO.out.setCell (p := ⟨lb, 1, none⟩) (fun g off hA => HO.out.ne_blk HB.out (by decide) g off hA) (.string (t.extract 0 (t.size - wordN t)))).drew
  refine ⟨rfl, A, c, ⟨by simpa [eraseF] using b1.below hbw b1.lt, o1.below hbw (Nat.le_refl _)⟩, ?_⟩
  exact ((Fr.refl _ w).setCell (p := ⟨lb, 1, none⟩) (.inr (.inl rfl)) _).drew.trans (Fr.of_new hbw (fun _ => False)) (fun _ _ h => h.elim)
end
end Go.Proofs.Ytcnoefpckiionaa
