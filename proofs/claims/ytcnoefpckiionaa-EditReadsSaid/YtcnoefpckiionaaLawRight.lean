/- EditRight: the walk. -/
import Derived.Test.YtcnoefpckiionaaAwake
import Derived.Test.YtcnoefpckiionaaSmall
import Derived.Test.YtcnoefpckiionaaRefRight
namespace Go.Proofs.Ytcnoefpckiionaa
open Go.RowKit
set_option linter.unusedSimpArgs false
set_option linter.unusedVariables false
theorem small_facts {t : ByteArray} {ss : List ByteArray} (h : smallB t ss = true) : t.size ≤ 2000 ∧ ss.length ≤ 1100 ∧ szs ss ≤ 50000 := by simpa [smallB] using h
theorem mem_szs {ss : List ByteArray} {s : ByteArray} (h : s ∈ ss) : s.size ≤ szs ss := by
  induction ss with
  | nil => cases h
  | cons a t ih =>
    simp only [szs, List.map_cons, List.sum_cons] at *
    rcases List.mem_cons.1 h with rfl | h
    · omega
    · have := ih h; omega
/-- What a law's line editor is: how it lies, and that it is no larger than memory. -/
structure ArgLine (w : World) (l : LineD) (A : Option Addr) (c : Nat) : Prop where
  reads : Reads w w.heap.size 1 A l.ready.length (strsV l.ready)
  nil : A = none → l.ready.length = 0 ∧ c = 0
  len : l.ready.length ≤ c
  cap : c ≤ maxLen
  text : l.text.size ≤ 140737488351232
  count : l.ready.length ≤ 140737488351232
  sizes : ∀ s ∈ l.ready, s.size ≤ 140737488351232
theorem cell_keep {W W' : World} {p : Addr} {v : Value} (h : W.cell? p = some v) (hb : Below W.heap.size W W') : W'.cell? p = some v := (hb.cell (World.block_lt_of_cell? _ _ h)).trans h
theorem keep3 {W0 W W' : World} {p0 p1 p2 : Addr} {v0 v1 v2 : Value} (h : (W.cell? p0 = some v0 ∧ W.cell? p1 = some v1 ∧ W.cell? p2 = some v2) ∧ Below W0.heap.size W0 W) (hb : Below W.heap.size W W') :
    (W'.cell? p0 = some v0 ∧ W'.cell? p1 = some v1 ∧ W'.cell? p2 = some v2) ∧ Below W0.heap.size W0 W' :=
  ⟨⟨cell_keep h.1.1 hb, cell_keep h.1.2.1 hb, cell_keep h.1.2.2 hb⟩, h.2.trans (hb.mono h.2.size)⟩
set_option maxRecDepth 100000 in
set_option maxHeartbeats 800000 in
theorem lawRight_any (l : LineD) (A : Option Addr) (c : Nat) (w : World) (h : ArgLine w l A c) :
    Calls Try.prog 3 #[.agg #[.bool l.raw, .string l.text, .slice A l.ready.length c]] w fun e w' => e = .returned (.bool true) ∧ Below w.heap.size w w' := by
  obtain ⟨r, t, ss⟩ := l
  obtain ⟨hr, hA, hc1, hc2, ht, hl, hs⟩ := h
  simp only at *
  have KS := Lib.hid (fun W (hW : Reads W W.heap.size 1 A ss.length (strsV ss)) => small_any r t A c ss W hW ht hl hs)
  have HR := Lib.hid hr
  by_cases hsm : smallB t ss = true
  · obtain ⟨g1, g2, g3⟩ := small_facts hsm
    have hss : ∀ s ∈ ss, s.size ≤ 100000 := fun s h => by have := mem_szs h; omega
    have KE := Lib.hid (fun W (hW : Reads W w.heap.size 1 A ss.length (strsV ss)) hB => editRight_any r t A c ss W hW hB (by omega) hss (by omega))
    have KR := Lib.hid (fun W (hW : Reads W w.heap.size 1 A ss.length (strsV ss)) hB => refRight_any r t A c ss W hW hB (by omega) hss (by omega))
    clear hr hA hs hss
    generalize rightB r t ss = rb at *
    go_enter Try.func3, Try.ntmps3
    go_wp2_with fail
    refine (KS.out _ ((HR.out.alloc (Nat.le_refl _) _).more (by simp))).mono ?_
    rintro e w1 ⟨rfl, hb1⟩
    rw [hsm]
    have b1 := (Blk.new w 24 #[.bool r, .string t, .slice A ss.length c]).below hb1 (by simp)
    obtain ⟨d0, d1, d2, f1⟩ := b1.c3
    have HB1 := Lib.hid (((Below.refl w.heap.size w).alloc (Nat.le_refl _) _).trans (hb1.mono (by simp)))
    have hz1 := b1.lt
    clear hb1 b1
    go_wp2_with fail
    have hS : (w1.drew.cell? ⟨w.heap.size, 0, none⟩ = some (.bool r) ∧ w1.drew.cell? ⟨w.heap.size, 1, none⟩ = some (.string t) ∧ w1.drew.cell? ⟨w.heap.size, 2, none⟩ = some (.slice A ss.length c)) ∧ Below w.heap.size w w1.drew := ⟨⟨d0, d1, d2⟩, HB1.out.drew⟩
    go_region_held3 (fun w' => (w'.cell? ⟨w.heap.size, 0, none⟩ = some (.bool r) ∧ w'.cell? ⟨w.heap.size, 1, none⟩ = some (.string t) ∧ w'.cell? ⟨w.heap.size, 2, none⟩ = some (.slice A ss.length c)) ∧ Below w.heap.size w w') (assumption)
      (first
        | (go_at_call 12; refine (KE.out _ (HR.out.below hS.2) hS.2.size).mono ?_; rintro e w2 ⟨rfl, hb⟩; have hS2 := keep3 hS hb; clear hb)
        | (go_at_call 13; refine (KR.out _ (HR.out.below hS2.2) hS2.2.size).mono ?_; rintro e w3 ⟨rfl, hb⟩; have hS3 := keep3 hS2 hb; clear hb)
        | (go_at_call 11; refine (awake_any _).mono ?_; rintro e w4 ⟨rfl, hb⟩; have hS4 := keep3 hS3 hb; clear hb))
    go_wp2_with fail
    go_ret
    exact ⟨rfl, hS4.2⟩
  · have hsm' : smallB t ss = false := by simpa using hsm
    go_enter Try.func3, Try.ntmps3
    go_wp2_with fail
    refine (KS.out _ ((HR.out.alloc (Nat.le_refl _) _).more (by simp))).mono ?_
    rintro e w1 ⟨rfl, hb1⟩
    rw [hsm']
    have HB1 := Lib.hid (((Below.refl w.heap.size w).alloc (Nat.le_refl _) _).trans (hb1.mono (by simp)))
    clear hb1
    go_wp2_with fail
    refine (awake_any _).mono ?_
    rintro e w2 ⟨rfl, hb2⟩
    go_wp2_with fail
    go_ret
    exact ⟨rfl, HB1.out.trans (hb2.mono HB1.out.size)⟩
end Go.Proofs.Ytcnoefpckiionaa
