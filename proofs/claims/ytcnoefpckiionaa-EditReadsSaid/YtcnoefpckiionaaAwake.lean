/- The fixed examples of the laws hold. -/
import Derived.Test.YtcnoefpckiionaaReadAll
import Derived.Test.YtcnoefpckiionaaFeed
import Derived.Test.YtcnoefpckiionaaPend
namespace Go.Proofs.Ytcnoefpckiionaa
open Go.RowKit
set_option linter.unusedSimpArgs false
set_option linter.unusedVariables false
def l0 : LineD := ⟨false, emS, []⟩
def s0 : ByteArray := ⟨#[97, 98, 8, 99, 10, 120]⟩
theorem feed0 : feedN l0 s0 s0.size = (⟨false, ⟨#[120]⟩, [⟨#[97, 99, 10]⟩]⟩, ⟨#[97, 98, 8, 32, 8, 99, 10, 120]⟩) := by
  rfl
theorem read0 : readF ⟨false, ⟨#[120]⟩, [⟨#[97, 99, 10]⟩]⟩ 2 = (⟨false, ⟨#[120]⟩, [⟨#[10]⟩]⟩, ⟨#[97, 99]⟩, false) := by
  rfl
theorem Reads.setNe {w : World} {B size n : Nat} {A : Option Addr} {xs : List Value} (h : Reads w B size A n xs) {p : Addr} (hp : ∀ b off, A = some ⟨b, off, none⟩ → b ≠ p.block) (u : Value) : Reads (w.setCell p u) B size A n xs := by
  refine ⟨h.1, fun hn => ?_⟩
  obtain ⟨b, off, e, hb, hc⟩ := h.2 hn
  exact ⟨b, off, e, hb, fun j u' hu => (World.cell?_setCell_other w p ⟨b, off + j, none⟩ u (fun e' => hp b off e (by rw [e']))).trans (hc j u' hu)⟩
def l1 : LineD := ⟨false, ⟨#[120]⟩, [⟨#[97, 99, 10]⟩]⟩
def l2 : LineD := ⟨false, ⟨#[120]⟩, [⟨#[10]⟩]⟩
theorem right0 : Right l0 := rfl
theorem right1 : Right l1 := rfl
theorem right2 : rightB false ⟨#[120]⟩ [⟨#[10]⟩] = true := rfl
theorem awakeFeed (W : World) : Calls Try.prog 14 #[.agg #[.bool false, .string ⟨#[]⟩, .slice none 0 0], .string ⟨#[97, 98, 8, 99, 10, 120]⟩] W
    (fun e w' => ∃ v', e = .returned (.tuple #[v', .string ⟨#[97, 98, 8, 32, 8, 99, 10, 120]⟩]) ∧ LineV w' l1 v' ∧ Below W.heap.size W w') := by
  have := feed_any l0 s0 (.agg #[.bool false, .string ⟨#[]⟩, .slice none 0 0]) W ⟨none, 0, rfl, Reads.none_, fun _ => ⟨rfl, rfl⟩, Nat.le_refl _, Nat.zero_le _⟩ right0 (by decide)
  rw [feed0] at this
  exact this
theorem awakeRead (W : World) (v : Value) (hv : LineV W l1 v) : Calls Try.prog 17 #[v, .int .i64 2] W (ReadPost W l2 ⟨#[97, 99]⟩ false) := by
  have := read_any l1 2 v W hv right1
  rw [show readF l1 2 = _ from read0] at this
  exact this
set_option maxRecDepth 100000 in
set_option maxHeartbeats 800000 in
theorem awake_any (w : World) : Calls Try.prog 11 #[] w fun e w' => e = .returned (.bool true) ∧ Below w.heap.size w w' := by
  go_enter Try.func11, Try.ntmps11
  go_wp2_with fail
  refine (awakeFeed _).mono ?_
  rintro e w1 ⟨v1, rfl, hv1, hb1⟩
  have HV1 := Lib.hid hv1
  obtain ⟨A1, c1, rfl, hr1, hA1, hc1, hc2⟩ := hv1
  obtain ⟨b, off, rfl, hb, hc⟩ := hr1.2 (by decide)
  have hcell : w1.cell? ⟨b, off, none⟩ = some (.string ⟨#[97, 99, 10]⟩) := hc 0 _ rfl
  have HR1 := Lib.hid hr1
  have HB1 := Lib.hid hb1
  clear hr1 hA1 hc hb1
  simp only [l1, List.length_cons, List.length_nil, Nat.zero_add] at hc1 ⊢
  go_wp2_with fail
  have hp1 := fun W (hW : Reads W w1.heap.size 1 (some ⟨b, off, none⟩) 1 (strsV [⟨#[97, 99, 10]⟩])) hB => pending_any false ⟨#[120]⟩ (some ⟨b, off, none⟩) c1 [⟨#[97, 99, 10]⟩] W hW hB (by decide) (by decide)
  have HP1 := Lib.hid hp1
  clear hp1
  refine (HP1.out _ (HR1.out.alloc (Nat.le_refl _) _) (by simp)).mono ?_
  rintro e w2 ⟨rfl, hb2⟩
  have k2 := (Blk.new w1 24 #[.bool false, .string ⟨#[120]⟩, .slice (some ⟨b, off, none⟩) 1 c1]).below hb2 (by simp)
  obtain ⟨d0, d1, d2, g0⟩ := k2.c3
  have hz2 := k2.lt
  have HB2 := Lib.hid (show Below w1.heap.size w1 w2 from ((Below.refl _ _).alloc (Nat.le_refl _) _).trans (hb2.mono (by simp)))
  have HK2 := Lib.hid k2
  have hs3 : (szs [⟨#[97, 99, 10]⟩] : Nat) = 3 := rfl
  clear hb2 k2
  go_wp2_with fail
  refine (awakeRead _ _ (HV1.out.below HB2.out)).mono ?_
  rintro e w3 ⟨v3, rfl, hv3, hfr3, hb3⟩
  obtain ⟨A3, c3, rfl, hr3, hA3, hc3, hc4⟩ := hv3
  have k3 := HK2.out.below hb3 HK2.out.lt
  obtain ⟨e0, e1, e2, g1⟩ := k3.c3
  have hz3 := k3.lt
  obtain ⟨b3, off3, rfl, hl3, hc30⟩ := hr3.2 (by decide)
  have hb3n : w2.heap.size ≤ b3 := hfr3 Nat.zero_lt_one b3 off3 rfl
  have HR3 := Lib.hid hr3
  have HB3 := Lib.hid hb3
  have HK3 := Lib.hid k3
  clear hr3 hA3 hc30 hb3 k3 hfr3
  simp only [l2, List.length_cons, List.length_nil, Nat.zero_add] at hc3 ⊢
  go_wp2_with fail
  have hnb : ∀ i : Nat, ∀ b off, (some ⟨b3, off3, none⟩ : Option Addr) = some ⟨b, off, none⟩ → b ≠ (⟨w1.heap.size, i, none⟩ : Addr).block := by
    intro i b off e
    injection e with e
    injection e with e1
    show b ≠ w1.heap.size
    omega
  have hr4 := ((HR3.out.setNe (hnb 0) (.bool false)).setNe (hnb 1) (.string ⟨#[120]⟩)).setNe (hnb 2) (.slice (some ⟨b3, off3, none⟩) 1 c3)
  have k4 := HK3.out.all3 (u0 := .bool false) (u1 := .string ⟨#[120]⟩) (u2 := .slice (some ⟨b3, off3, none⟩) 1 c3)
  have h1 : Below w.heap.size w w3 := (HB1.out.trans (HB2.out.mono HB1.out.size)).trans (HB3.out.mono (by have := HB1.out.size; have := HB2.out.size; omega))
  have h4 : Below w.heap.size w (((w3.setCell ⟨w1.heap.size, 0, none⟩ (.bool false)).setCell ⟨w1.heap.size, 1, none⟩ (.string ⟨#[120]⟩)).setCell ⟨w1.heap.size, 2, none⟩ (.slice (some ⟨b3, off3, none⟩) 1 c3)) := by
    have := HB1.out.size
    exact (by repeat (first | (with_reducible exact h1) | ((with_reducible refine Below.setCell ?_ ?_ _); rotate_left; (simp <;> omega)) | ((with_reducible refine Below.alloc ?_ ?_ _); rotate_left; (simp <;> omega)) | (with_reducible refine Below.drew ?_)))
  clear d0 d1 d2 g0 e0 e1 e2 g1 hnb h1
  generalize (((w3.setCell ⟨w1.heap.size, 0, none⟩ (.bool false)).setCell ⟨w1.heap.size, 1, none⟩ (.string ⟨#[120]⟩)).setCell ⟨w1.heap.size, 2, none⟩ (.slice (some ⟨b3, off3, none⟩) 1 c3)) = w4 at hr4 k4 h4 ⊢
  have hz4 := k4.lt
  have hr4' : Reads w4 w4.heap.size 1 (some ⟨b3, off3, none⟩) 1 (strsV [⟨#[10]⟩]) := ⟨hr4.1, fun hn => by
    obtain ⟨b, off, e, hb, hc⟩ := hr4.2 hn
    refine ⟨b, off, e, ?_, hc⟩
    exact World.block_lt_of_cell? w4 _ (hc 0 _ rfl)⟩
  have HR4 := Lib.hid hr4'
  have HK4 := Lib.hid k4
  have H4 := Lib.hid h4
  clear hr4 hr4' k4 h4
  have hp2 := fun W (hW : Reads W w4.heap.size 1 (some ⟨b3, off3, none⟩) 1 (strsV [⟨#[10]⟩])) hB => pending_any false ⟨#[120]⟩ (some ⟨b3, off3, none⟩) c3 [⟨#[10]⟩] W hW hB (by decide) (by decide)
  have hq2 := fun W (hW : Reads W w4.heap.size 1 (some ⟨b3, off3, none⟩) 1 (strsV [⟨#[10]⟩])) hB => editRight_any false ⟨#[120]⟩ (some ⟨b3, off3, none⟩) c3 [⟨#[10]⟩] W hW hB (by decide) (by decide) (by decide)
  simp only [right2] at hq2
  have HP2 := Lib.hid hp2
  have HQ2 := Lib.hid hq2
  clear hp2 hq2
  refine (HQ2.out _ HR4.out (Nat.le_refl _)).mono ?_
  rintro e w5 ⟨rfl, hb5⟩
  have k5 := HK4.out.below hb5 HK4.out.lt
  obtain ⟨d0, d1, d2, g0⟩ := k5.c3
  have hz5 := k5.lt
  have HB5 := Lib.hid hb5
  have hs1 : (szs [⟨#[10]⟩] : Nat) = 1 := rfl
  clear hb5 k5
  go_wp2_with fail
  refine (HP2.out _ (HR4.out.below HB5.out) HB5.out.size).mono ?_
  rintro e w6 ⟨rfl, hb6⟩
  go_wp2_with fail
  go_ret
  have h4 := H4.out
  have h5 := HB5.out
  exact ⟨rfl, (h4.trans (h5.mono h4.size)).trans (hb6.mono (by have := h4.size; have := h5.size; omega))⟩
end Go.Proofs.Ytcnoefpckiionaa
