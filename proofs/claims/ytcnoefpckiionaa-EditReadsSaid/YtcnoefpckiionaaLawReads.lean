/- EditReads: the walk. -/
import Derived.Test.YtcnoefpckiionaaLawTypes
import Derived.Test.YtcnoefpckiionaaReadAll
import Derived.Test.YtcnoefpckiionaaPend
namespace Go.Proofs.Ytcnoefpckiionaa
open Go.RowKit
set_option linter.unusedSimpArgs false
set_option linter.unusedVariables false
theorem keep9 {W0 W1 W W' : World} {p0 p1 p2 p3 p4 p5 p6 p7 p8 : Addr} {v0 v1 v2 v3 v4 v5 v6 v7 v8 : Value} (h : (W.cell? p0 = some v0 ∧ W.cell? p1 = some v1 ∧ W.cell? p2 = some v2 ∧ W.cell? p3 = some v3 ∧ W.cell? p4 = some v4 ∧ W.cell? p5 = some v5 ∧ W.cell? p6 = some v6 ∧ W.cell? p7 = some v7 ∧ W.cell? p8 = some v8) ∧ Below W0.heap.size W0 W ∧ Below W1.heap.size W1 W) (hb : Below W.heap.size W W') :
    (W'.cell? p0 = some v0 ∧ W'.cell? p1 = some v1 ∧ W'.cell? p2 = some v2 ∧ W'.cell? p3 = some v3 ∧ W'.cell? p4 = some v4 ∧ W'.cell? p5 = some v5 ∧ W'.cell? p6 = some v6 ∧ W'.cell? p7 = some v7 ∧ W'.cell? p8 = some v8) ∧ Below W0.heap.size W0 W' ∧ Below W1.heap.size W1 W' :=
  ⟨⟨cell_keep h.1.1 hb, cell_keep h.1.2.1 hb, cell_keep h.1.2.2.1 hb, cell_keep h.1.2.2.2.1 hb, cell_keep h.1.2.2.2.2.1 hb, cell_keep h.1.2.2.2.2.2.1 hb, cell_keep h.1.2.2.2.2.2.2.1 hb, cell_keep h.1.2.2.2.2.2.2.2.1 hb, cell_keep h.1.2.2.2.2.2.2.2.2 hb⟩, h.2.1.trans (hb.mono h.2.1.size), h.2.2.trans (hb.mono h.2.2.size)⟩
theorem readF_szs (l : LineD) (n : Int) : szs l.ready = szs (readF l n).1.ready + (readF l n).2.1.size := by
  obtain ⟨r, t, ss⟩ := l
  rcases ss with _ | ⟨f, ss⟩
  · rfl
  · have hk := (readN_le n f).1
    simp only [readF]
    split
    · simp [szs]; omega
    · simp only [szs, List.map_cons, List.sum_cons, ByteArray.size_extract]
      omega
theorem readF_right {l : LineD} (h : Right l) (n : Int) : Right (readF l n).1 := by
  have h' := h
  rw [right_iff] at h
  obtain ⟨a1, a2, a3, a4, a5⟩ := h
  obtain ⟨r, t, ss⟩ := l
  rcases ss with _ | ⟨f, ss⟩
  · exact h'
  · have hk := (readN_le n f).1
    have hf := a5 f (List.mem_cons_self ..)
    simp only [List.length_cons] at a3
    rw [right_iff]
    simp only [readF]
    split
    · exact ⟨a1, a2, by show ss.length ≤ 1024; omega, a4, fun s hs => a5 s (List.mem_cons_of_mem _ hs)⟩
    · refine ⟨a1, a2, by show (_ :: ss).length ≤ 1024; simp only [List.length_cons]; omega, a4, fun s hs => ?_⟩
      rcases List.mem_cons.1 hs with rfl | hs
      · rw [ByteArray.size_extract]; omega
      · exact a5 s (List.mem_cons_of_mem _ hs)
set_option maxRecDepth 100000 in
set_option maxHeartbeats 800000 in
theorem lawReads_any (l : LineD) (A : Option Addr) (c : Nat) (n : Int) (h0 : -9223372036854775808 ≤ n) (h1 : n ≤ 9223372036854775807) (w : World) (h : ArgLine w l A c) :
    Calls Try.prog 5 #[.agg #[.bool l.raw, .string l.text, .slice A l.ready.length c], .int .i64 n] w fun e w' => e = .returned (.bool true) ∧ Below w.heap.size w w' := by
  obtain ⟨r, t, ss⟩ := l
  obtain ⟨hr, hA, hc1, hc2, ht, hl, hs⟩ := h
  simp only at *
  have KS := Lib.hid (fun W (hW : Reads W W.heap.size 1 A ss.length (strsV ss)) => small_any r t A c ss W hW ht hl hs)
  have HR := Lib.hid hr
  by_cases hsm : smallB t ss = true
  · obtain ⟨g1, g2, g3⟩ := small_facts hsm
    have hss : ∀ s ∈ ss, s.size ≤ 100000 := fun s h => by have := mem_szs h; omega
    have KP := Lib.hid (fun W (hW : Reads W w.heap.size 1 A ss.length (strsV ss)) hB => pending_any r t A c ss W hW hB hss (by omega))
    have KQ := Lib.hid (fun W (hW : Reads W w.heap.size 1 A ss.length (strsV ss)) hB => refPending_any r t A c ss W hW hB hss (by omega))
    have KR := Lib.hid (fun W (hW : Reads W w.heap.size 1 A ss.length (strsV ss)) hB => refRight_any r t A c ss W hW hB (by omega) hss (by omega))
    have HRt : Hid (∀ W, Below w.heap.size w W → LineV W ⟨r, t, ss⟩ (.agg #[.bool r, .string t, .slice A ss.length c])) := Lib.hid (fun W hW => ⟨A, c, rfl, (hr.below hW).more hW.size, hA, hc1, hc2⟩)
    clear hr hA hs hss hc1 hc2
    by_cases hrt : rightB r t ss = true
    · have HRR : Right ⟨r, t, ss⟩ := hrt
      have hq := readF_right HRR n
      have hq2 : szs ss = szs (readF ⟨r, t, ss⟩ n).1.ready + (readF ⟨r, t, ss⟩ n).2.1.size := readF_szs ⟨r, t, ss⟩ n
      have KT := Lib.hid (fun W v (hv : LineV W ⟨r, t, ss⟩ v) => read_any ⟨r, t, ss⟩ n v W hv HRR)
      have KU := Lib.hid (fun W v (hv : LineV W ⟨r, t, ss⟩ v) => refRead_any ⟨r, t, ss⟩ n v W hv HRR)
      generalize readF ⟨r, t, ss⟩ n = q at *
      obtain ⟨⟨r', t', ss'⟩, out, blk⟩ := q
      simp only at hq hq2
      obtain ⟨k1, k2, k3⟩ := right_fit hq
      have HQ : rightB r' t' ss' = true := hq
      have KE := Lib.hid (fun B A' c' W (hW : Reads W B 1 A' ss'.length (strsV ss')) hB => editRight_any r' t' A' c' ss' W hW hB k1 k3 k2)
      have KM := Lib.hid (fun B B' A A' c c' W hr hB hr' hB' => same_eq (B := B) (B' := B') r' t' A A' c c' ss' W hr hB hr' hB' k2)
      have KN := Lib.hid (fun B A' c' W (hW : Reads W B 1 A' ss'.length (strsV ss')) hB => pending_any r' t' A' c' ss' W hW hB k3 k2)
      simp only [HQ] at KE
      have hp1 : out.size ≤ 50000 := by omega
      have hp2 : szs ss' ≤ 50000 := by omega
      simp only [hq2, Int.natCast_add] at KP KQ
      clear hq2
      generalize szs ss' = p' at *
      have hwp : IntKind.i64.wrap (p' : Int) = (p' : Int) := by rw [IntKind.wrap_i64]; omega
      clear HQ hq k3
      go_enter Try.func5, Try.ntmps5
      go_wp2_with fail
      refine (KS.out _ ((HR.out.alloc (Nat.le_refl _) _).more (by simp))).mono ?_
      rintro e w1 ⟨rfl, hb1⟩
      rw [hsm]
      have b1 := (Blk.new w 24 #[.bool r, .string t, .slice A ss.length c]).below hb1 (by simp)
      obtain ⟨d0, d1, d2, f1⟩ := b1.c3
      have HB1 := Lib.hid (((Below.refl w.heap.size w).alloc (Nat.le_refl _) _).trans (hb1.mono (by simp)))
      have HK1 := Lib.hid b1
      clear hb1 b1
      go_wp2_with fail
      refine (KR.out _ (HR.out.below HB1.out) HB1.out.size).mono ?_
      rintro e w2 ⟨rfl, hb2⟩
      rw [hrt]
      have b2 := HK1.out.below hb2 HK1.out.lt
      have HB2 := Lib.hid (HB1.out.trans (hb2.mono HB1.out.size))
      clear d0 d1 d2 f1
      obtain ⟨d0, d1, d2, f1⟩ := b2.c3
      have HK2 := Lib.hid b2
      clear hb2 b2
      go_wp2_with fail
      refine (KT.out _ _ (HRt.out _ HB2.out)).mono ?_
      rintro e w3 ⟨v3, rfl, hv3, _, hb3⟩
      obtain ⟨A3, c3, rfl, hr3, hA3, hc3, hc4⟩ := hv3
      have b3 := HK2.out.below hb3 HK2.out.lt
      have HB3 := Lib.hid (HB2.out.trans (hb3.mono HB2.out.size))
      clear d0 d1 d2 f1
      have HK3 := Lib.hid b3
      obtain ⟨d0, d1, d2, f1⟩ := b3.c3
      have hz3 := b3.lt
      have HR3 := Lib.hid hr3
      clear hb3 b3 hr3
      simp only at *
      go_wp2_with fail
      refine (KU.out _ _ (HRt.out _ (HB3.out.alloc HB3.out.size _))).mono ?_
      rintro e w4 ⟨v4, rfl, hv4, _, hb4⟩
      obtain ⟨A4, c4, rfl, hr4, hA4, hc5, hc6⟩ := hv4
      have b4 := (HK3.out.alloc (.cells #[.bool r', .string t', .slice A3 ss'.length c3] 24)).below hb4 (by simp; omega)
      have b5 := (Blk.new w3 24 #[.bool r', .string t', .slice A3 ss'.length c3]).below hb4 (by simp)
      have HB4 := Lib.hid ((HB3.out.alloc HB3.out.size _).trans (hb4.mono (by have := HB3.out.size; simp; omega)))
      have HR3' := Lib.hid (((HR3.out.alloc (Nat.le_refl _) (.cells #[.bool r', .string t', .slice A3 ss'.length c3] 24)).below (hb4.mono (by simp))))
      clear d0 d1 d2 f1
      obtain ⟨d0, d1, d2, f1⟩ := b4.c3
      obtain ⟨m0, m1, m2, f2⟩ := b5.c3
      have hz4 := b4.lt
      have hz5 := b5.lt
      have hs4 : w3.heap.size ≤ w4.heap.size := by omega
      have HK4 := Lib.hid b4
      have HK5 := Lib.hid b5
      have HR4 := Lib.hid hr4
      clear hb4 b4 b5 hr4
      simp only at *
      go_wp2_with fail
      have e1 := (HK4.out.alloc (.cells #[.bool r', .string t', .slice A4 ss'.length c4] 24)).drew
      have e2 := (HK5.out.alloc (.cells #[.bool r', .string t', .slice A4 ss'.length c4] 24)).drew
      have e3 := (Blk.new w4 24 #[.bool r', .string t', .slice A4 ss'.length c4]).drew
      clear d0 d1 d2 f1 m0 m1 m2 f2
      obtain ⟨d0, d1, d2, f1⟩ := e1.c3
      obtain ⟨m0, m1, m2, f2⟩ := e2.c3
      obtain ⟨n0, n1, n2, f3⟩ := e3.c3
      have hS := And.intro (And.intro d0 (And.intro d1 (And.intro d2 (And.intro m0 (And.intro m1 (And.intro m2 (And.intro n0 (And.intro n1 n2)))))))) (And.intro ((HB4.out.alloc HB4.out.size (.cells #[.bool r', .string t', .slice A4 ss'.length c4] 24)).drew) ((Below.refl w4.heap.size w4).alloc (Nat.le_refl _) (.cells #[.bool r', .string t', .slice A4 ss'.length c4] 24)).drew)
      have HRw := Lib.hid (fun W (hW : Below w4.heap.size w4 W) => (HR3'.out.more hs4).below hW)
      clear d0 d1 d2 f1 m0 m1 m2 f2 n0 n1 n2 f3 e1 e2 e3
      go_region_held3 (fun w' => (w'.cell? ⟨w.heap.size, 0, none⟩ = some (.bool r) ∧ w'.cell? ⟨w.heap.size, 1, none⟩ = some (.string t) ∧ w'.cell? ⟨w.heap.size, 2, none⟩ = some (.slice A ss.length c) ∧ w'.cell? ⟨w3.heap.size, 0, none⟩ = some (.bool r') ∧ w'.cell? ⟨w3.heap.size, 1, none⟩ = some (.string t') ∧ w'.cell? ⟨w3.heap.size, 2, none⟩ = some (.slice A3 ss'.length c3) ∧ w'.cell? ⟨w4.heap.size, 0, none⟩ = some (.bool r') ∧ w'.cell? ⟨w4.heap.size, 1, none⟩ = some (.string t') ∧ w'.cell? ⟨w4.heap.size, 2, none⟩ = some (.slice A4 ss'.length c4)) ∧ Below w.heap.size w w' ∧ Below w4.heap.size w4 w') (assumption)
        (first
          | (go_at_call 16; refine (KM.out _ _ _ _ _ _ _ (HRw.out _ hS.2.2) hS.2.2.size (HR4.out.below hS.2.2) hS.2.2.size).mono ?_; rintro e w5 ⟨rfl, hb⟩; have hS5 := keep9 hS hb; clear hb)
          | (go_at_call 19; refine (KP.out _ (HR.out.below hS5.2.1) hS5.2.1.size).mono ?_; rintro e w6 ⟨rfl, hb⟩; have hS6 := keep9 hS5 hb; clear hb hS5)
          | (go_at_call 20; refine (KQ.out _ (HR.out.below hS6.2.1) hS6.2.1.size).mono ?_; rintro e w7 ⟨rfl, hb⟩; have hS7 := keep9 hS6 hb; clear hb hS6)
          | (go_at_call 19; refine (KN.out _ _ _ _ (HRw.out _ hS7.2.2) hS7.2.2.size).mono ?_; rintro e w8 ⟨rfl, hb⟩; have hS8 := keep9 hS7 hb; clear hb hS7)
          | (go_at_call 19; refine (KP.out _ (HR.out.below hS8.2.1) hS8.2.1.size).mono ?_; rintro e w9 ⟨rfl, hb⟩; have hS9 := keep9 hS8 hb; clear hb hS8)
          | (go_at_call 12; refine (KE.out _ _ _ _ (HRw.out _ hS9.2.2) hS9.2.2.size).mono ?_; rintro e w10 ⟨rfl, hb⟩; have hS10 := keep9 hS9 hb; clear hb hS9)
          | (go_at_call 11; refine (awake_any _).mono ?_; rintro e w11 ⟨rfl, hb⟩; have hS11 := keep9 hS10 hb; clear hb))
      go_wp2_with fail
      go_ret
      exact ⟨rfl, hS11.2.1⟩
    · have hrt' : rightB r t ss = false := by simpa using hrt
      go_enter Try.func5, Try.ntmps5
      go_wp2_with fail
      refine (KS.out _ ((HR.out.alloc (Nat.le_refl _) _).more (by simp))).mono ?_
      rintro e w1 ⟨rfl, hb1⟩
      rw [hsm]
      have b1 := (Blk.new w 24 #[.bool r, .string t, .slice A ss.length c]).below hb1 (by simp)
      obtain ⟨d0, d1, d2, f1⟩ := b1.c3
      have HB1 := Lib.hid (((Below.refl w.heap.size w).alloc (Nat.le_refl _) _).trans (hb1.mono (by simp)))
      clear hb1 b1
      go_wp2_with fail
      refine (KR.out _ (HR.out.below HB1.out) HB1.out.size).mono ?_
      rintro e w2 ⟨rfl, hb2⟩
      rw [hrt']
      have HB2 := Lib.hid (HB1.out.trans (hb2.mono HB1.out.size))
      clear hb2
      go_wp2_with fail
      refine (awake_any _).mono ?_
      rintro e w3 ⟨rfl, hb3⟩
      go_wp2_with fail
      go_ret
      exact ⟨rfl, HB2.out.trans (hb3.mono HB2.out.size)⟩
  · have hsm' : smallB t ss = false := by simpa using hsm
    go_enter Try.func5, Try.ntmps5
    go_wp2_with fail
    refine (KS.out _ ((HR.out.alloc (Nat.le_refl _) _).more (by simp))).mono ?_
    rintro e w1 ⟨rfl, hb1⟩
    rw [hsm']
    have HB1 := Lib.hid (((Below.refl w.heap.size w).alloc (Nat.le_refl _) _).trans (hb1.mono (by simp)))
    clear hb1
    go_wp2_with fail
    refine (awake_any _).mono ?_
    rintro e w2 ⟨rfl, hb2⟩
    go_wp2_with fail
    go_ret
    exact ⟨rfl, HB1.out.trans (hb2.mono HB1.out.size)⟩
end Go.Proofs.Ytcnoefpckiionaa
