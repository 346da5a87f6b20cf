/- The reference's Type for all bytes, and its Feed, by contracts. -/
import Derived.Test.YtcnoefpckiionaaRefType
import Derived.Test.YtcnoefpckiionaaAlls
namespace Go.Proofs.Ytcnoefpckiionaa
open Go.RowKit
set_option linter.unusedSimpArgs false
set_option linter.unusedVariables false
theorem empty_of_size {t : ByteArray} (h : t.size = 0) : t = emS := by
  apply ByteArray.ext
  apply Array.ext'
  have : t.data.toList.length = 0 := by simpa using h
  rw [List.eq_nil_of_length_eq_zero this]; rfl
theorem refType_any (l : LineD) (v : Value) (w : World) (hv : LineV w l v) (hR : Right l) (n : Int) (h0 : 0 ≤ n) (h1 : n ≤ 255) :
    Calls Try.prog 23 #[v, .int .u8 n] w (LinePost w v (typeF l n).1 (typeF l n).2) := by
  obtain ⟨A, c, rfl, hr, hA, hc1, hc2⟩ := hv
  obtain ⟨a1, a2, a3, a4, a5⟩ := (right_iff l).1 hR
  unfold typeF
  by_cases hraw : l.raw = true
  · rw [if_pos hraw]
    have ht := empty_of_size (a2 hraw)
    by_cases hn : l.ready.length < 1024
    · rw [if_pos hn]
      have := refType_raw_room w l.text A c l.ready hr hA hc1 hc2 hn n h0 h1
      rw [hraw]; simp only; rw [ht] at this ⊢; exact this
    · rw [if_neg hn]
      have := refType_raw_full w l.text A c l.ready hr hA hc1 hc2 (by omega) (by omega) n h0 h1
      obtain ⟨r, t, ss⟩ := l
      simp only at *
      rw [hraw]; exact this
  · rw [if_neg hraw]
    have hr' : l.raw = false := by simpa using hraw
    obtain ⟨r, t, ss⟩ := l
    simp only at *
    subst hr'
    by_cases g8 : n = 8
    · subst g8; rw [if_neg (by decide), if_pos (by decide)]; exact refType_erase8 w t A c ss hr hA hc1 hc2 (by omega)
    by_cases g127 : n = 127
    · subst g127; rw [if_neg (by decide), if_pos (by decide)]; exact refType_erase127 w t A c ss hr hA hc1 hc2 (by omega)
    by_cases g21 : n = 21
    · subst g21; rw [if_neg (by decide), if_neg (by decide), if_pos rfl]; exact refType_erase21 w t A c ss hr hA hc1 hc2 (by omega)
    by_cases g23 : n = 23
    · subst g23; rw [if_neg (by decide), if_neg (by decide), if_neg (by decide), if_pos rfl]; exact refType_erase23 w t A c ss hr hA hc1 hc2 (by omega)
    by_cases g10 : n = 10
    · subst g10; rw [if_neg (by decide), if_neg (by decide), if_neg (by decide), if_neg (by decide), if_pos (by decide)]
      by_cases hn : ss.length < 1024
      · rw [if_pos hn]; exact refType_nl_room w t A c ss hr hA hc1 hc2 hn (by omega)
      · rw [if_neg hn]; exact refType_nl_full w t A c ss hr hA hc1 hc2 (by omega) (by omega) (by omega)
    by_cases g13 : n = 13
    · subst g13; rw [if_neg (by decide), if_neg (by decide), if_neg (by decide), if_neg (by decide), if_pos (by decide)]
      by_cases hn : ss.length < 1024
      · rw [if_pos hn]; exact refType_cr_room w t A c ss hr hA hc1 hc2 hn (by omega)
      · rw [if_neg hn]; exact refType_cr_full w t A c ss hr hA hc1 hc2 (by omega) (by omega) (by omega)
    by_cases g4 : n = 4
    · subst g4; rw [if_neg (by decide), if_neg (by decide), if_neg (by decide), if_neg (by decide), if_neg (by decide), if_pos rfl]
      by_cases hn : ss.length < 1024
      · rw [if_pos hn]; exact refType_eof_room w t A c ss hr hA hc1 hc2 hn (by omega)
      · rw [if_neg hn]; exact refType_eof_full w t A c ss hr hA hc1 hc2 (by omega) (by omega) (by omega)
    by_cases hp : prB n = true
    · rw [if_pos hp]
      by_cases hn : t.size < 1024
      · rw [if_pos hn]; exact refType_pr_room w t A c ss hr hA hc1 hc2 hn n h0 h1 hp
      · rw [if_neg hn]; exact refType_pr_full w t A c ss hr hA hc1 hc2 (by omega) (by omega) n h0 h1 hp
    · rw [if_neg hp, if_neg (by omega), if_neg g21, if_neg g23, if_neg (by omega), if_neg g4]
      exact refType_none w t A c ss hr hA hc1 hc2 n h0 h1 (by simpa using hp) (by simpa using g8) (by simpa using g127) (by simpa using g21) (by simpa using g23) (by simpa using g10) (by simpa using g13) (by simpa using g4)
/-- What typing the first k bytes of a text does. -/
def feedN (l : LineD) (s : ByteArray) : Nat → LineD × ByteArray
  | 0 => (l, emS)
  | k + 1 => ((typeF (feedN l s k).1 (s.data.toList.getD k 0).toNat).1, (feedN l s k).2 ++ (typeF (feedN l s k).1 (s.data.toList.getD k 0).toNat).2)
theorem feedN_right {l : LineD} (h : Right l) (s : ByteArray) : ∀ k, Right (feedN l s k).1
  | 0 => h
  | k + 1 => typeF_right (feedN_right h s k) (byte_le _).1 (byte_le _).2
theorem typeF_echo {l : LineD} (h : Right l) (n : Int) : (typeF l n).2.size ≤ 3072 := by
  obtain ⟨a1, a2, a3, a4, a5⟩ := (right_iff l).1 h
  have hw := wordN_le l.text
  unfold typeF eraseF
  split
  · split <;> simp [size_em]
  split
  · split <;> simp [size_em, byteS_size]
  split
  · simp only [rub_size]; omega
  split
  · simp only [rub_size]; omega
  split
  · simp only [rub_size]; omega
  split
  · split
    · show nlS.size ≤ _; decide
    · simp [size_em]
  split
  · split <;> simp [size_em]
  · simp [size_em]
theorem feedN_echo {l : LineD} (h : Right l) (s : ByteArray) : ∀ k, (feedN l s k).2.size ≤ 3072 * k
  | 0 => by simp [feedN, size_em]
  | k + 1 => by
    have h1 := feedN_echo h s k
    have h2 := typeF_echo (feedN_right h s k) (s.data.toList.getD k 0).toNat
    unfold feedN
    rw [ByteArray.size_append]
    omega
theorem feedN_succ {l : LineD} {s : ByteArray} {k : Nat} (hk : k < s.size) : feedN l s (k + 1) = ((typeF (feedN l s k).1 s[k].toNat).1, (feedN l s k).2 ++ (typeF (feedN l s k).1 s[k].toNat).2) := by
  rw [feedN, getD_byte s k hk]
theorem LineV.drew {w : World} {l : LineD} {v : Value} (h : LineV w l v) : LineV w.drew l v := h.below (Below.refl _ _).drew
/-- A line editor in block g of a world, its slice in no block from H to K. -/
def LineIn (w : World) (g H K : Nat) (l : LineD) : Prop :=
  ∃ A c, Blk w g 24 #[.bool l.raw, .string l.text, .slice A l.ready.length c] ∧ LineV w l (.agg #[.bool l.raw, .string l.text, .slice A l.ready.length c]) ∧ Apt H K (.agg #[.bool l.raw, .string l.text, .slice A l.ready.length c])
def RefFeedInv (w : World) (l : LineD) (wr : World) : Prop :=
  LineIn wr w.heap.size w.heap.size (w.heap.size + 2) l ∧ Blk wr (w.heap.size + 1) 24 #[.bool false, .string ⟨#[]⟩, .slice none 0 0] ∧ Below w.heap.size w wr
theorem refFeed_round {w w1 w2 : World} {r' : Bool} {t' : ByteArray} {ss' : List ByteArray} {A2 : Option Addr} {c2 : Nat} {x y z : Value} (hlv1 : LineV w1 ⟨r', t', ss'⟩ (.agg #[.bool r', .string t', .slice A2 ss'.length c2])) (ha : Apt w.heap.size (w.heap.size + 2) (.agg #[.bool r', .string t', .slice A2 ss'.length c2]))
    (b0 : Blk w2 w.heap.size 24 #[x, y, z]) (b1 : Blk w2 (w.heap.size + 1) 24 #[.bool false, .string ⟨#[]⟩, .slice none 0 0]) (hb : Below w.heap.size w w2) (hlv : LineV w2 ⟨r', t', ss'⟩ (.agg #[.bool r', .string t', .slice A2 ss'.length c2])) :
    RefFeedInv w ⟨r', t', ss'⟩ (((w2.setCell ⟨w.heap.size, 0, none⟩ (.bool r')).setCell ⟨w.heap.size, 1, none⟩ (.string t')).setCell ⟨w.heap.size, 2, none⟩ (.slice A2 ss'.length c2)) := by
  refine ⟨⟨A2, c2, b0.all3, ?_, ha⟩, ?_, ?_⟩
  · have hp : ∀ i : Nat, 0 < lineN (.agg #[.bool r', .string t', .slice A2 ss'.length c2]) → ∀ b off, lineSl (.agg #[.bool r', .string t', .slice A2 ss'.length c2]) = some ⟨b, off, none⟩ → b ≠ (⟨w.heap.size, i, none⟩ : Addr).block := by
      intro i hn b off e
      have := ha hn b off e
      show b ≠ w.heap.size
      omega
    exact ((hlv.setCell (hp 0) _).setCell (hp 1) _).setCell (hp 2) _
  · exact ((b1.far (by simp) _).far (by simp) _).far (by simp) _
  · exact ((hb.setCell (by simp) _).setCell (by simp) _).setCell (by simp) _
theorem RefFeedInv.alloc {w wr : World} {l : LineD} (h : RefFeedInv w l wr) (hB : w.heap.size ≤ wr.heap.size) (o : Obj) : RefFeedInv w l (wr.alloc o) := by
  obtain ⟨⟨A, c, h1, h2, h3⟩, h4, h5⟩ := h
  exact ⟨⟨A, c, h1.alloc _, h2.alloc _, h3⟩, h4.alloc _, h5.alloc hB _⟩
set_option maxRecDepth 100000 in
set_option maxHeartbeats 1600000 in
theorem refFeed_any (l : LineD) (s : ByteArray) (v : Value) (w : World) (hv : LineV w l v) (hR : Right l) (hs : s.size ≤ 2000) :
    Calls Try.prog 15 #[v, .string s] w (fun e w' => ∃ v', e = .returned (.tuple #[v', .string (feedN l s s.size).2]) ∧ LineV w' (feedN l s s.size).1 v' ∧ Below w.heap.size w w') := by
  have HV := Lib.hid hv
  obtain ⟨A, c, rfl, hr, hA, hc1, hc2⟩ := hv
  have HRt := Lib.hid hR
  clear hR hr hA hc1 hc2
  go_enter Try.func15, Try.ntmps15
  go_wp2_with fail
  go_loopw [6, 7] (fun out i wr => ∃ k : Nat, k ≤ s.size ∧ i = .int .i64 k ∧ out = .string (feedN l s k).2 ∧ RefFeedInv w (feedN l s k).1 wr) (fun _ i _ => s.size - (intOf i).toNat)
  case atStart =>
    refine ⟨0, Nat.zero_le _, rfl, rfl, ⟨A, c, (Blk.new w _ _).alloc _, (HV.out.alloc _).alloc _, HV.out.apt _⟩, Blk.new' _ _ _ (by simp), ?_⟩
    exact ((Below.refl _ _).alloc (Nat.le_refl _) _).alloc (by simp) _
  case round =>
    obtain ⟨k, hk, rfl, rfl, hinv⟩ := hrel
    have HRk := Lib.hid (feedN_right HRt.out s k)
    have hek := feedN_echo HRt.out s k
    by_cases hlt : k < s.size
    · have HS := Lib.hid (feedN_succ (l := l) hlt)
      have het := typeF_echo HRk.out s[k].toNat
      generalize hT : typeF (feedN l s k).1 ↑s[k].toNat = T at *
      have HT := Lib.hid hT
      clear hT
      generalize hp : feedN l s k = p at *
      clear hp
      obtain ⟨⟨r, t, ss⟩, out⟩ := p
      obtain ⟨⟨r', t', ss'⟩, out'⟩ := T
      obtain ⟨⟨A1, c1, b0, hlv, hapt⟩, b1, hbw⟩ := hinv
      simp only at *
      have HLV := Lib.hid hlv
      have HB0 := Lib.hid b0
      have HB1 := Lib.hid b1
      have HBW := Lib.hid hbw
      have HAP := Lib.hid hapt
      obtain ⟨d0, d1, d2, g0⟩ := b0.c3
      have hz0 := b0.lt
      have hz1 := b1.lt
      have KC := Lib.hid (fun (W : World) (hW : LineV W ⟨r, t, ss⟩ (.agg #[.bool r, .string t, .slice A1 ss.length c1])) => by
        have := refType_any ⟨r, t, ss⟩ _ W hW HRk.out (s[k].toNat : Int) (byte_le _).1 (byte_le _).2
        rw [HT.out] at this
        exact this)
      have hne : wr.heap.size ≠ w.heap.size := by omega
      have hne2 : w.heap.size ≠ wr.heap.size := by omega
      clear hlv b0 b1 hbw hapt
      go_wp2_with fail
      go_region_held3 (fun w' => w'.cell? ⟨w.heap.size, 0, none⟩ = some (.bool r) ∧ w'.cell? ⟨w.heap.size, 1, none⟩ = some (.string t) ∧ w'.cell? ⟨w.heap.size, 2, none⟩ = some (.slice A1 ss.length c1)) (go_keep)
        (first
          | (go_at_call 23; refine (KC.out _ HLV.out.drew).mono ?_; rintro e w1 ⟨v', rfl, hlv1, hap1, hb1⟩; have HLV1 := Lib.hid hlv1; have HAP1 := Lib.hid (HAP.out.post hap1 (by simp; omega)); obtain ⟨A2, c2, rfl, hr2, hA2, hc3, hc4⟩ := hlv1; have b2 := HB0.out.drew.below hb1 HB0.out.drew.lt; obtain ⟨e0, e1, e2, g1⟩ := b2.c3; have hz2 := b2.lt; have HB2 := Lib.hid b2; have HB3 := Lib.hid (HB1.out.drew.below hb1 HB1.out.drew.lt); have HBW1 := Lib.hid (HBW.out.drew.trans (hb1.mono (by simp; omega))); clear hb1 b2 hr2 hA2 hc3 hc4 hap1)
          | (go_at_call 23; refine (KC.out _ (HLV.out.alloc _).drew).mono ?_; rintro e w1 ⟨v', rfl, hlv1, hap1, hb1⟩; have HLV1 := Lib.hid hlv1; have HAP1 := Lib.hid (HAP.out.post hap1 (by simp; omega)); have HAP2 := Lib.hid (((HLV.out.apt (wr.heap.size + 1)).post hap1 (by simp))); obtain ⟨A2, c2, rfl, hr2, hA2, hc3, hc4⟩ := hlv1; have b2 := (HB0.out.alloc _).drew.below hb1 (HB0.out.alloc _).drew.lt; obtain ⟨e0, e1, e2, g1⟩ := b2.c3; have b3 := (Blk.new wr 24 #[.bool false, .string ⟨#[]⟩, .slice none 0 0]).drew.below hb1 (by simp); obtain ⟨m0, m1, m2, n1⟩ := b3.c3; have hz2 := b2.lt; have hz3 := b3.lt; have HB2 := Lib.hid b2; have HB3 := Lib.hid ((HB1.out.alloc _).drew.below hb1 (HB1.out.alloc _).drew.lt); have HBW1 := Lib.hid ((HBW.out.alloc (by omega) _).drew.trans (hb1.mono (by simp; omega))); clear hb1 b2 b3 hr2 hA2 hc3 hc4 hap1))
      all_goals go_wp2_with fail
      all_goals
        go_roundw
        case rel =>
          refine ⟨k + 1, by omega, by go_num, by rw [HS.out], ?_⟩
          rw [HS.out]
          first
            | ((with_reducible refine RefFeedInv.alloc (refFeed_round HLV1.out HAP1.out HB2.out HB3.out HBW1.out HLV1.out) ?_ _); have := HBW1.out.size; simp <;> omega)
            | (have hp : ∀ i : Nat, 0 < lineN (.agg #[.bool r', .string t', .slice A2 ss'.length c2]) → ∀ b off, lineSl (.agg #[.bool r', .string t', .slice A2 ss'.length c2]) = some ⟨b, off, none⟩ → b ≠ (⟨wr.heap.size, i, none⟩ : Addr).block := by
                 intro i hn b off e
                 have := HAP2.out hn b off e
                 show b ≠ wr.heap.size
                 omega
               with_reducible refine refFeed_round (x := .bool r) (y := .string t) (z := .slice A1 ss.length c1) HLV1.out HAP1.out ?_ ?_ ?_ (((HLV1.out.setCell (hp 0) _).setCell (hp 1) _).setCell (hp 2) _)
               · exact (by repeat (first | (with_reducible exact HB2.out) | ((with_reducible refine Blk.far ?_ ?_ _); rotate_left; (simp <;> omega)) | (with_reducible refine Blk.alloc ?_ _) | (with_reducible refine Blk.drew ?_)))
               · exact (by repeat (first | (with_reducible exact HB3.out) | ((with_reducible refine Blk.far ?_ ?_ _); rotate_left; (simp <;> omega)) | (with_reducible refine Blk.alloc ?_ _) | (with_reducible refine Blk.drew ?_)))
               · exact (by repeat (first | (with_reducible exact HBW1.out) | ((with_reducible refine Below.setCell ?_ ?_ _); rotate_left; (simp <;> omega)) | ((with_reducible refine Below.alloc ?_ ?_ _); rotate_left; (simp <;> omega)) | (with_reducible refine Below.drew ?_))))
        case measure => simp [intOf]; omega
    · obtain rfl : k = s.size := by omega
      generalize hp : feedN l s s.size = p at *
      have HP := Lib.hid hp
      clear hp
      obtain ⟨⟨r, t, ss⟩, out⟩ := p
      obtain ⟨⟨A1, c1, b0, hlv, hapt⟩, b1, hbw⟩ := hinv
      simp only at *
      have HLV := Lib.hid hlv
      have HBW := Lib.hid hbw
      obtain ⟨d0, d1, d2, g0⟩ := b0.c3
      obtain ⟨e0, e1, e2, g1⟩ := b1.c3
      have HAP := Lib.hid hapt
      have hz0 := b0.lt
      have hz1 := b1.lt
      clear hlv b0 b1 hbw hapt
      go_wp2_with fail
      refine bodyPost_ret (v := .tuple #[.agg #[.bool r, .string t, .slice A1 ss.length c1], .string out]) (by simp [results, Try.results15, go_sem, e0, e1, e2]) rfl ?_
      rw [HP.out]
      refine ⟨_, rfl, ?_, (by repeat (first | (with_reducible exact HBW.out) | ((with_reducible refine Below.setCell ?_ ?_ _); rotate_left; (simp <;> omega)) | ((with_reducible refine Below.alloc ?_ ?_ _); rotate_left; (simp <;> omega)) | (with_reducible refine Below.drew ?_)))⟩
      have hp : ∀ i : Nat, 0 < lineN (.agg #[.bool r, .string t, .slice A1 ss.length c1]) → ∀ b off, lineSl (.agg #[.bool r, .string t, .slice A1 ss.length c1]) = some ⟨b, off, none⟩ → b ≠ (⟨w.heap.size + 1, i, none⟩ : Addr).block := by
        intro i hn b off e
        have := HAP.out hn b off e
        show b ≠ w.heap.size + 1
        omega
      exact ((HLV.out.setCell (hp 0) _).setCell (hp 1) _).setCell (hp 2) _
end Go.Proofs.Ytcnoefpckiionaa
