/- EditTypes: the walk. -/
import Derived.Test.YtcnoefpckiionaaLawRight
import Derived.Test.YtcnoefpckiionaaRefFeed
import Derived.Test.YtcnoefpckiionaaSame
namespace Go.Proofs.Ytcnoefpckiionaa
open Go.RowKit
set_option linter.unusedSimpArgs false
set_option linter.unusedVariables false
theorem right_fit {r : Bool} {t : ByteArray} {ss : List ByteArray} (h : Right ⟨r, t, ss⟩) : t.size ≤ 100000 ∧ ss.length ≤ 100000 ∧ ∀ s ∈ ss, s.size ≤ 100000 := by
  obtain ⟨a1, a2, a3, a4, a5⟩ := (right_iff _).1 h
  exact ⟨by simp only at a1; omega, by simp only at a3; omega, fun s hs => by have := a5 s hs; omega⟩
theorem Reads.low {w : World} {B size n : Nat} {A : Option Addr} {xs : List Value} (h : Reads w B size A n xs) (hB : B ≤ w.heap.size) : Reads w w.heap.size size A n xs := h.more hB
set_option maxRecDepth 100000 in
set_option maxHeartbeats 800000 in
theorem lawTypes_any (l : LineD) (A : Option Addr) (c : Nat) (n : Int) (h0 : 0 ≤ n) (h1 : n ≤ 255) (w : World) (h : ArgLine w l A c) :
    Calls Try.prog 7 #[.agg #[.bool l.raw, .string l.text, .slice A l.ready.length c], .int .u8 n] w fun e w' => e = .returned (.bool true) ∧ Below w.heap.size w w' := by
  obtain ⟨r, t, ss⟩ := l
  obtain ⟨hr, hA, hc1, hc2, ht, hl, hs⟩ := h
  simp only at *
  have KS := Lib.hid (fun W (hW : Reads W W.heap.size 1 A ss.length (strsV ss)) => small_any r t A c ss W hW ht hl hs)
  have HR := Lib.hid hr
  by_cases hsm : smallB t ss = true
  · obtain ⟨g1, g2, g3⟩ := small_facts hsm
    have hss : ∀ s ∈ ss, s.size ≤ 100000 := fun s h => by have := mem_szs h; omega
    have KR := Lib.hid (fun W (hW : Reads W w.heap.size 1 A ss.length (strsV ss)) hB => refRight_any r t A c ss W hW hB (by omega) hss (by omega))
    have HRt : Hid (∀ W, Below w.heap.size w W → LineV W ⟨r, t, ss⟩ (.agg #[.bool r, .string t, .slice A ss.length c])) := Lib.hid (fun W hW => ⟨A, c, rfl, (hr.below hW).more hW.size, hA, hc1, hc2⟩)
    clear hr hA hs hss hc1 hc2
    by_cases hrt : rightB r t ss = true
    · have HRR : Right ⟨r, t, ss⟩ := hrt
      have hq := typeF_right (n := n) HRR h0 h1
      have KT := Lib.hid (fun W v (hv : LineV W ⟨r, t, ss⟩ v) => type_any ⟨r, t, ss⟩ v W hv HRR n h0 h1)
      have KU := Lib.hid (fun W v (hv : LineV W ⟨r, t, ss⟩ v) => refType_any ⟨r, t, ss⟩ v W hv HRR n h0 h1)
      generalize typeF ⟨r, t, ss⟩ n = q at *
      obtain ⟨⟨r', t', ss'⟩, out⟩ := q
      simp only at hq
      obtain ⟨k1, k2, k3⟩ := right_fit hq
      have HQ : rightB r' t' ss' = true := hq
      have KE := Lib.hid (fun B A' c' W (hW : Reads W B 1 A' ss'.length (strsV ss')) hB => editRight_any r' t' A' c' ss' W hW hB k1 k3 k2)
      have KM := Lib.hid (fun B B' A A' c c' W hr hB hr' hB' => same_eq (B := B) (B' := B') r' t' A A' c c' ss' W hr hB hr' hB' k2)
      simp only [HQ] at KE
      clear HQ hq k3
      go_enter Try.func7, Try.ntmps7
      go_wp2_with fail
      refine (KS.out _ ((HR.out.alloc (Nat.le_refl _) _).more (by simp))).mono ?_
      rintro e w1 ⟨rfl, hb1⟩
      rw [hsm]
      have b1 := (Blk.new w 24 #[.bool r, .string t, .slice A ss.length c]).below hb1 (by simp)
      obtain ⟨d0, d1, d2, f1⟩ := b1.c3
      have HB1 := Lib.hid (((Below.refl w.heap.size w).alloc (Nat.le_refl _) _).trans (hb1.mono (by simp)))
      have HK1 := Lib.hid b1
      clear hb1 b1
      go_wp2_with fail
      refine (KR.out _ (HR.out.below HB1.out) HB1.out.size).mono ?_
      rintro e w2 ⟨rfl, hb2⟩
      rw [hrt]
      have b2 := HK1.out.below hb2 HK1.out.lt
      have HB2 := Lib.hid (HB1.out.trans (hb2.mono HB1.out.size))
      clear d0 d1 d2 f1
      obtain ⟨d0, d1, d2, f1⟩ := b2.c3
      have HK2 := Lib.hid b2
      clear hb2 b2
      go_wp2_with fail
      refine (KT.out _ _ (HRt.out _ HB2.out)).mono ?_
      rintro e w3 ⟨v3, rfl, hv3, _, hb3⟩
      obtain ⟨A3, c3, rfl, hr3, hA3, hc3, hc4⟩ := hv3
      have b3 := HK2.out.below hb3 HK2.out.lt
      have HB3 := Lib.hid (HB2.out.trans (hb3.mono HB2.out.size))
      clear d0 d1 d2 f1
      have HK3 := Lib.hid b3
      obtain ⟨d0, d1, d2, f1⟩ := b3.c3
      have hz3 := b3.lt
      have HR3 := Lib.hid hr3
      clear hb3 b3 hr3
      simp only at *
      go_wp2_with fail
      refine (KU.out _ _ (HRt.out _ (HB3.out.alloc HB3.out.size _))).mono ?_
      rintro e w4 ⟨v4, rfl, hv4, _, hb4⟩
      obtain ⟨A4, c4, rfl, hr4, hA4, hc5, hc6⟩ := hv4
      have b4 := (HK3.out.alloc (.cells #[.bool r', .string t', .slice A3 ss'.length c3] 24)).below hb4 (by simp; omega)
      have b5 := (Blk.new w3 24 #[.bool r', .string t', .slice A3 ss'.length c3]).below hb4 (by simp)
      have HB4 := Lib.hid ((HB3.out.alloc HB3.out.size _).trans (hb4.mono (by have := HB3.out.size; simp; omega)))
      have HR3' := Lib.hid (((HR3.out.alloc (Nat.le_refl _) (.cells #[.bool r', .string t', .slice A3 ss'.length c3] 24)).below (hb4.mono (by simp))))
      clear d0 d1 d2 f1
      obtain ⟨d0, d1, d2, f1⟩ := b4.c3
      obtain ⟨m0, m1, m2, f2⟩ := b5.c3
      have hz4 := b4.lt
      have hz5 := b5.lt
      have hs4 : w3.heap.size ≤ w4.heap.size := by omega
      have HK4 := Lib.hid b4
      have HK5 := Lib.hid b5
      have HR4 := Lib.hid hr4
      clear hb4 b4 b5 hr4
      simp only at *
      go_wp2_with fail
      refine (KM.out _ _ _ _ _ _ _ (HR3'.out.alloc hs4 _) (by simp; omega) (HR4.out.alloc (Nat.le_refl _) _) (by simp)).mono ?_
      rintro e w5 ⟨rfl, hb5⟩
      have b6 := (HK5.out.alloc (.cells #[.bool r', .string t', .slice A4 ss'.length c4] 24)).below hb5 (by simp; omega)
      have HR5 := Lib.hid ((HR3'.out.alloc hs4 (.cells #[.bool r', .string t', .slice A4 ss'.length c4] 24)).below (hb5.mono (by simp; omega)))
      have HB5 := Lib.hid ((HB4.out.alloc HB4.out.size _).trans (hb5.mono (by have := HB4.out.size; simp; omega)))
      have hs5 : w4.heap.size + 1 ≤ w5.heap.size := by have := hb5.size; simpa using this
      clear d0 d1 d2 f1 m0 m1 m2 f2 hb5
      obtain ⟨d0, d1, d2, f1⟩ := b6.c3
      clear b6
      go_wp2_with fail
      refine (KE.out _ _ _ _ HR5.out (by omega)).mono ?_
      rintro e w6 ⟨rfl, hb6⟩
      have HB6 := Lib.hid (HB5.out.trans (hb6.mono HB5.out.size))
      clear hb6
      go_wp2_with fail
      refine (awake_any _).mono ?_
      rintro e w7 ⟨rfl, hb7⟩
      go_wp2_with fail
      go_ret
      exact ⟨rfl, HB6.out.trans (hb7.mono HB6.out.size)⟩
    · have hrt' : rightB r t ss = false := by simpa using hrt
      go_enter Try.func7, Try.ntmps7
      go_wp2_with fail
      refine (KS.out _ ((HR.out.alloc (Nat.le_refl _) _).more (by simp))).mono ?_
      rintro e w1 ⟨rfl, hb1⟩
      rw [hsm]
      have b1 := (Blk.new w 24 #[.bool r, .string t, .slice A ss.length c]).below hb1 (by simp)
      obtain ⟨d0, d1, d2, f1⟩ := b1.c3
      have HB1 := Lib.hid (((Below.refl w.heap.size w).alloc (Nat.le_refl _) _).trans (hb1.mono (by simp)))
      clear hb1 b1
      go_wp2_with fail
      refine (KR.out _ (HR.out.below HB1.out) HB1.out.size).mono ?_
      rintro e w2 ⟨rfl, hb2⟩
      rw [hrt']
      have HB2 := Lib.hid (HB1.out.trans (hb2.mono HB1.out.size))
      clear hb2
      go_wp2_with fail
      refine (awake_any _).mono ?_
      rintro e w3 ⟨rfl, hb3⟩
      go_wp2_with fail
      go_ret
      exact ⟨rfl, HB2.out.trans (hb3.mono HB2.out.size)⟩
  · have hsm' : smallB t ss = false := by simpa using hsm
    go_enter Try.func7, Try.ntmps7
    go_wp2_with fail
    refine (KS.out _ ((HR.out.alloc (Nat.le_refl _) _).more (by simp))).mono ?_
    rintro e w1 ⟨rfl, hb1⟩
    rw [hsm']
    have HB1 := Lib.hid (((Below.refl w.heap.size w).alloc (Nat.le_refl _) _).trans (hb1.mono (by simp)))
    clear hb1
    go_wp2_with fail
    refine (awake_any _).mono ?_
    rintro e w2 ⟨rfl, hb2⟩
    go_wp2_with fail
    go_ret
    exact ⟨rfl, HB1.out.trans (hb2.mono HB1.out.size)⟩
end Go.Proofs.Ytcnoefpckiionaa
