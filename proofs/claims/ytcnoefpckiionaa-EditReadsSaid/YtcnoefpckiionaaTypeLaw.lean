/- Typing a byte: one contract for all bytes, and that a valid line editor stays valid. -/
import Derived.Test.YtcnoefpckiionaaTyped
namespace Go.Proofs.Ytcnoefpckiionaa
open Go.RowKit
set_option linter.unusedSimpArgs false
set_option linter.unusedVariables false
def Right (l : LineD) : Prop := rightB l.raw l.text l.ready = true
theorem right_iff (l : LineD) : Right l ↔ l.text.size ≤ 1024 ∧ (l.raw = true → l.text.size = 0) ∧ l.ready.length ≤ 1024 ∧ textOk l.text = true ∧ ∀ s ∈ l.ready, s.size ≤ 1025 := by
  unfold Right rightB anyLong
  simp only [Bool.and_eq_true, decide_eq_true_eq, Bool.not_eq_true', Bool.and_eq_false_iff, List.any_eq_false, decide_eq_false_iff_not]
  constructor
  · rintro ⟨⟨⟨⟨h1, h2⟩, h3⟩, h4⟩, h5⟩
    refine ⟨h1, fun hr => ?_, h3, h4, fun s hs => by have := h5 s hs; omega⟩
    rcases h2 with h2 | h2
    · rw [hr] at h2; cases h2
    · omega
  · rintro ⟨h1, h2, h3, h4, h5⟩
    refine ⟨⟨⟨⟨h1, ?_⟩, h3⟩, h4⟩, fun s hs => by have := h5 s hs; omega⟩
    cases hr : l.raw
    · exact .inl rfl
    · right; have := h2 hr; omega
theorem textOk_app (a b : ByteArray) : textOk (a ++ b) = (textOk a && textOk b) := by
  unfold textOk
  rw [show (a ++ b).data.toList = a.data.toList ++ b.data.toList by simp, List.all_append]
theorem textOk_ext (a : ByteArray) (n : Nat) (h : textOk a = true) : textOk (a.extract 0 n) = true := by
  unfold textOk at *
  rw [List.all_eq_true] at *
  intro c hc
  have : (a.extract 0 n).data.toList = a.data.toList.take n := by simp [ByteArray.data_extract]
  rw [this] at hc
  exact h c (List.mem_of_mem_take hc)
theorem byteS_ok {n : Int} (h0 : 0 ≤ n) (h1 : n ≤ 255) : textOk (byteS n) = prB n := by
  have : ((UInt8.ofNat n.toNat).toNat : Int) = n := by
    rw [UInt8.toNat_ofNat']; omega
  show ([UInt8.ofNat n.toNat].all fun c => prB c.toNat) = prB n
  simp only [List.all_cons, List.all_nil, Bool.and_true, this]
theorem textOk_em : textOk emS = true := rfl
theorem size_em : emS.size = 0 := rfl
theorem size_ext (a : ByteArray) (n : Nat) (h : n ≤ a.size) : (a.extract 0 n).size = n := by simp [ByteArray.size_extract]; omega
theorem typeF_right {l : LineD} (h : Right l) {n : Int} (h0 : 0 ≤ n) (h1 : n ≤ 255) : Right (typeF l n).1 := by
  have h' := h
  rw [right_iff] at h
  obtain ⟨a1, a2, a3, a4, a5⟩ := h
  have er : ∀ k, Right (eraseF l k).1 := by
    intro k
    rw [right_iff]
    unfold eraseF
    simp only
    have hs := size_ext l.text (l.text.size - k) (by omega)
    exact ⟨by omega, fun hr => by have := a2 hr; omega, a3, textOk_ext _ _ a4, a5⟩
  have add : ∀ s : ByteArray, s.size ≤ 1025 → ∀ x ∈ l.ready ++ [s], x.size ≤ 1025 := by
    intro s hs x hx
    rcases List.mem_append.1 hx with hx | hx
    · exact a5 x hx
    · simp at hx; subst hx; exact hs
  unfold typeF
  split
  · rename_i hr
    split
    · rw [right_iff]
      exact ⟨a1, a2, by simp; omega, a4, add _ (by rw [byteS_size]; omega)⟩
    · exact h'
  · rename_i hr
    split
    · rename_i hp
      split
      · rw [right_iff]
        refine ⟨by simp [byteS_size]; omega, fun h => absurd h hr, a3, ?_, a5⟩
        simp only
        rw [textOk_app, a4, byteS_ok h0 h1, hp]; rfl
      · exact h'
    · split
      · exact er _
      split
      · exact er _
      split
      · exact er _
      split
      · split
        · rw [right_iff]
          refine ⟨by simp [size_em], fun h => absurd h hr, by simp; omega, textOk_em, add _ ?_⟩
          rw [ByteArray.size_append]; have : nlS.size = 1 := rfl; omega
        · exact h'
      split
      · split
        · rw [right_iff]
          exact ⟨by simp [size_em], fun h => absurd h hr, by simp; omega, textOk_em, add _ (by omega)⟩
        · exact h'
      · exact h'
theorem typed_any (lb base c : Nat) (A : Option Addr) (w : World) (l : LineD) (h : LineAt w lb base A c l) (hbase : base ≤ w.heap.size) (hR : Right l) (n : Int) (h0 : 0 ≤ n) (h1 : n ≤ 255) :
    Calls Try.prog 32 #[.pointer (some ⟨lb, 0, none⟩), .int .u8 n] w (TypedPost lb base A w (typeF l n)) := by
  obtain ⟨a1, a2, a3, a4, a5⟩ := (right_iff l).1 hR
  unfold typeF
  by_cases hr : l.raw = true
  · rw [if_pos hr]
    by_cases hn : l.ready.length < 1024
    · rw [if_pos hn]; exact typed_raw_room lb base c A w l h hbase hr hn n h0 h1
    · rw [if_neg hn]; exact typed_raw_full lb base c A w l h hbase hr (by omega) (by omega) n h0 h1
  · rw [if_neg hr]
    have hr' : l.raw = false := by simpa using hr
    by_cases g8 : n = 8
    · subst g8; rw [if_neg (by decide), if_pos (by decide)]; exact typed_erase8 lb base c A w l h hbase hr' (by omega)
    by_cases g127 : n = 127
    · subst g127; rw [if_neg (by decide), if_pos (by decide)]; exact typed_erase127 lb base c A w l h hbase hr' (by omega)
    by_cases g21 : n = 21
    · subst g21; rw [if_neg (by decide), if_neg (by decide), if_pos rfl]; exact typed_erase21 lb base c A w l h hbase hr' (by omega)
    by_cases g23 : n = 23
    · subst g23; rw [if_neg (by decide), if_neg (by decide), if_neg (by decide), if_pos rfl]; exact typed_erase23 lb base c A w l h hbase hr' (by omega)
    by_cases g10 : n = 10
    · subst g10; rw [if_neg (by decide), if_neg (by decide), if_neg (by decide), if_neg (by decide), if_pos (by decide)]
      by_cases hn : l.ready.length < 1024
      · rw [if_pos hn]; exact typed_nl_room lb base c A w l h hbase hr' (by omega) hn
      · rw [if_neg hn]; exact typed_nl_full lb base c A w l h hbase hr' (by omega) (by omega) (by omega)
    by_cases g13 : n = 13
    · subst g13; rw [if_neg (by decide), if_neg (by decide), if_neg (by decide), if_neg (by decide), if_pos (by decide)]
      by_cases hn : l.ready.length < 1024
      · rw [if_pos hn]; exact typed_cr_room lb base c A w l h hbase hr' (by omega) hn
      · rw [if_neg hn]; exact typed_cr_full lb base c A w l h hbase hr' (by omega) (by omega) (by omega)
    by_cases g4 : n = 4
    · subst g4; rw [if_neg (by decide), if_neg (by decide), if_neg (by decide), if_neg (by decide), if_neg (by decide), if_pos rfl]
      by_cases hn : l.ready.length < 1024
      · rw [if_pos hn]; exact typed_eof_room lb base c A w l h hbase hr' hn
      · rw [if_neg hn]; exact typed_eof_full lb base c A w l h hbase hr' (by omega) (by omega)
    have b8 : (n == 8) = false := by simpa using g8
    have b127 : (n == 127) = false := by simpa using g127
    have b21 : (n == 21) = false := by simpa using g21
    have b23 : (n == 23) = false := by simpa using g23
    have b10 : (n == 10) = false := by simpa using g10
    have b13 : (n == 13) = false := by simpa using g13
    have b4 : (n == 4) = false := by simpa using g4
    by_cases hp : prB n = true
    · rw [if_pos hp]
      by_cases hn : l.text.size < 1024
      · rw [if_pos hn]; exact typed_pr_room lb base c A w l h hbase hr' hn n h0 h1 hp b8 b127 b21 b23 b10 b13 b4
      · rw [if_neg hn]; exact typed_pr_full lb base c A w l h hbase hr' (by omega) (by omega) n h0 h1 hp b8 b127 b21 b23 b10 b13 b4
    · rw [if_neg hp, if_neg (by omega), if_neg g21, if_neg g23, if_neg (by omega), if_neg g4]
      exact typed_none lb base c A w l h hbase hr' n h0 h1 (by simpa using hp) b8 b127 b21 b23 b10 b13 b4
end Go.Proofs.Ytcnoefpckiionaa
