/- edit.Feed, by contract. -/
import Derived.Test.YtcnoefpckiionaaBld
import Derived.Test.YtcnoefpckiionaaRefFeed
namespace Go.Proofs.Ytcnoefpckiionaa
open Go.RowKit
set_option linter.unusedSimpArgs false
set_option linter.unusedVariables false
theorem LineAt.bld {w w' : World} {lb base c bb : Nat} {A : Option Addr} {l : LineD} (h : LineAt w lb base A c l) (hf : Fr (fun i => i = bb ∨ base ≤ i ∧ ElemIs w 5 i) w w') (hne : lb ≠ bb) (hbb : ∃ cs, Blk w bb 47 cs) : LineAt w' lb base A c l := by
  obtain ⟨cs, hbb⟩ := hbb
  refine ⟨h.1.fr hf ?_, h.2.fr hf ?_⟩
  · rintro (e | e)
    · exact hne e
    · exact h.1.not_elem (by decide) e.2
  · rintro g off hA (e | e)
    · exact h.2.ne_blk hbb (by decide) g off hA e
    · exact h.2.not_elem (by decide) hA e.2
theorem Bld.typed {w w' : World} {lb base c bb : Nat} {A : Option Addr} {l : LineD} {s : ByteArray} (h : Bld w bb base s) (hl : LineAt w lb base A c l) (hf : Fr (fun i => i = lb ∨ A = some ⟨i, 0, none⟩) w w') (hne : lb ≠ bb) : Bld w' bb base s := by
  have h' := h
  obtain ⟨p, A2, c2, hp, hb, ho⟩ := h
  refine h'.fr hf ?_ ?_
  · rintro (e | e)
    · exact hne e.symm
    · exact hl.2.ne_blk hb (by decide) bb 0 e rfl
  · rintro i hi (e | e)
    · subst e; exact hl.1.not_elem (by decide) hi
    · exact hl.2.not_elem (by decide) e hi
theorem Bld.blk {w : World} {bb base : Nat} {s : ByteArray} (h : Bld w bb base s) : ∃ cs, Blk w bb 47 cs := by
  obtain ⟨p, A, c, hp, hb, ho⟩ := h
  exact ⟨_, hb⟩
theorem Bld.lt {w : World} {bb base : Nat} {s : ByteArray} (h : Bld w bb base s) : bb < w.heap.size := by
  obtain ⟨cs, h⟩ := h.blk; exact h.lt
def FeedInv (w : World) (mb bb base : Nat) (l : LineD) (s : ByteArray) (wr : World) : Prop :=
  (∃ A c, LineAt wr mb base A c l) ∧ Bld wr bb base s ∧ Blk wr (w.heap.size + 1) 24 #[.bool false, .string ⟨#[]⟩, .slice none 0 0] ∧ Below w.heap.size w wr
theorem FeedInv.step {w wr w1 w2 : World} {mb bb base c : Nat} {A : Option Addr} {l l' : LineD} {s t : ByteArray} (hm : w.heap.size + 2 ≤ mb) (hbb : mb < bb) (hbase : base = w.heap.size + 2)
    (hl : LineAt wr mb base A c l) (hb : Bld wr bb base s) (hr : Blk wr (w.heap.size + 1) 24 #[.bool false, .string ⟨#[]⟩, .slice none 0 0]) (hw : Below w.heap.size w wr)
    (h1 : ∃ A' c', LineAt w1 mb base A' c' l') (hf1 : Fr (fun i => i = mb ∨ A = some ⟨i, 0, none⟩) wr w1) (hb2 : Bld w2 bb base t) (hb1 : Bld w1 bb base s) (hf2 : Fr (fun i => i = bb ∨ base ≤ i ∧ ElemIs w1 5 i) w1 w2) : FeedInv w mb bb base l' t w2 := by
  obtain ⟨A', c', h1⟩ := h1
  have r1 : Blk w1 (w.heap.size + 1) 24 #[.bool false, .string ⟨#[]⟩, .slice none 0 0] := hr.fr hf1 (by
    rintro (e | e)
    · omega
    · have := (hl.2.lt e).1; omega)
  refine ⟨⟨A', c', h1.bld hf2 (by omega) hb1.blk⟩, hb2, r1.fr hf2 ?_, ?_⟩
  · rintro (e | e)
    · omega
    · exact r1.not_elem (by decide) e.2
  · have hz := hr.lt
    have w1b : Below w.heap.size w w1 := hw.trans (hf1.below (by omega) (by
      rintro i (e | e)
      · omega
      · have := (hl.2.lt e).1; omega))
    exact w1b.trans (hf2.below (by have := hf1.size; omega) (by
      rintro i (e | e)
      · omega
      · omega))
set_option maxRecDepth 100000 in
set_option maxHeartbeats 1600000 in
theorem feed_any (l : LineD) (s : ByteArray) (v : Value) (w : World) (hv : LineV w l v) (hR : Right l) (hs : s.size ≤ 2000) :
    Calls Try.prog 14 #[v, .string s] w (fun e w' => ∃ v', e = .returned (.tuple #[v', .string (feedN l s s.size).2]) ∧ LineV w' (feedN l s s.size).1 v' ∧ Below w.heap.size w w') := by
  obtain ⟨A, c, rfl, hr, hA, hc1, hc2⟩ := hv
  obtain ⟨a1, a2, a3, a4, a5⟩ := (right_iff l).1 hR
  have KO := Lib.hid (fun (W : World) (hw : Reads W w.heap.size 1 A l.ready.length (strsV l.ready)) hB => own_any l.raw l.text A c l.ready W hw hB hA (by omega))
  have HR := Lib.hid hr
  have HRt := Lib.hid hR
  clear hr hA hR a2 a5 a1 a4
  go_enter Try.func14, Try.ntmps14
  go_wp2_with fail
  refine (KO.out _ (((HR.out.alloc (Nat.le_refl _) _).alloc (by simp) _)) (by simp; omega)).mono ?_
  rintro e w1 ⟨A1, c1, rfl, hown, hb⟩
  simp only [World.size_alloc, Nat.add_assoc, Nat.reduceAdd] at hown hb
  have b1 : Blk w1 (w.heap.size + 1) 24 #[.bool false, .string ⟨#[]⟩, .slice none 0 0] := (Blk.new' (w.alloc _) _ _ (by simp)).below hb (by omega)
  have hsz := b1.lt
  have hmb : w.heap.size + 2 ≤ w1.heap.size := by omega
  have HI : Hid (∀ W, W = ((w1.alloc (.cells #[.bool l.raw, .string l.text, .slice A1 l.ready.length c1] 24)).alloc (.cells #[.pointer none, .slice none 0 0] 47)) → FeedInv w w1.heap.size (w1.heap.size + 1) (w.heap.size + 2) l emS W) := by
    rintro W rfl
    refine ⟨⟨A1, c1, (Blk.new w1 _ _).alloc _, (hown.alloc _).alloc _⟩, ⟨.pointer none, none, 0, .inl rfl, Blk.new' _ _ _ (by simp), Own.none_ _ _ _ _⟩, (b1.alloc _).alloc _, ?_⟩
    exact (((((Below.refl w.heap.size w).alloc (Nat.le_refl _) _).alloc (by simp) _).trans (hb.mono (by omega))).alloc (by omega) _).alloc (by simp; omega) _
  clear hown hb b1
  go_wp2_with fail
  go_loopw [13] (fun i wr => ∃ k : Nat, k ≤ s.size ∧ i = .int .i64 k ∧ FeedInv w w1.heap.size (w1.heap.size + 1) (w.heap.size + 2) (feedN l s k).1 (feedN l s k).2 wr) (fun i _ => s.size - (intOf i).toNat)
  case atStart => exact ⟨0, Nat.zero_le _, rfl, HI.out _ rfl⟩
  case round =>
    obtain ⟨k, hk, rfl, hinv⟩ := hrel
    clear HI
    have HRk := Lib.hid (feedN_right HRt.out s k)
    have hek := feedN_echo HRt.out s k
    by_cases hlt : k < s.size
    · have HS := Lib.hid (feedN_succ (l := l) hlt)
      have het := typeF_echo HRk.out s[k].toNat
      generalize hp : feedN l s k = p at *
      clear hp
      obtain ⟨l1, out⟩ := p
      obtain ⟨⟨A2, c2, hla⟩, hbl, hre, hbe⟩ := hinv
      simp only at *
      have HLA := Lib.hid hla
      have HBL := Lib.hid hbl
      have HRE := Lib.hid hre
      have HBE := Lib.hid hbe
      have hbb := hbl.lt
      clear hla hbl hre hbe
      go_wp2_with fail
      refine (typed_any _ _ c2 A2 _ l1 HLA.out (by omega) HRk.out (s[k].toNat : Int) (byte_le _).1 (byte_le _).2).mono ?_
      rintro e w2 ⟨rfl, A3, c3, hla2, hf2⟩
      have HBL2 := Lib.hid (HBL.out.typed HLA.out hf2 (by omega))
      have HLA2 := Lib.hid hla2
      have HF2 := Lib.hid hf2
      have hsz2 := hf2.size
      clear hla2 hf2
      go_wp2_with fail
      refine (writeString_any _ _ out (typeF l1 s[k].toNat).2 _ HBL2.out (by omega) (by omega)).mono ?_
      rintro e w3 ⟨rfl, hbl3, hf3⟩
      have HI3 := Lib.hid (FeedInv.step (by omega) (by omega) rfl HLA.out HBL.out HRE.out HBE.out ⟨A3, c3, HLA2.out⟩ HF2.out hbl3 HBL2.out hf3)
      clear hbl3 hf3
      go_wp2_with fail
      go_roundw
      case rel => exact ⟨k + 1, by omega, by go_num, by rw [HS.out]; exact HI3.out⟩
      case measure => simp [intOf]; omega
    · obtain rfl : k = s.size := by omega
      generalize hp : feedN l s s.size = p at *
      have HP := Lib.hid hp
      clear hp
      obtain ⟨⟨r, t, ss⟩, out⟩ := p
      obtain ⟨⟨A2, c2, hla, hlo⟩, hbl, hre, hbe⟩ := hinv
      simp only at *
      have HBL := Lib.hid hbl
      obtain ⟨d0, d1, d2, g0⟩ := hla.c3
      have HLA := Lib.hid hla
      have HLO := Lib.hid hlo
      have HRE := Lib.hid hre
      have HBE := Lib.hid hbe
      have hbb := hbl.lt
      have hz0 := hre.lt
      have hne : w.heap.size + 1 ≠ w1.heap.size := by omega
      have hne2 : w1.heap.size ≠ w.heap.size + 1 := by omega
      clear hla hbl hre hbe hlo
      go_wp2_with fail
      go_region_held3 (fun w' => w'.cell? ⟨w1.heap.size, 0, none⟩ = some (.bool r) ∧ w'.cell? ⟨w1.heap.size, 1, none⟩ = some (.string t) ∧ w'.cell? ⟨w1.heap.size, 2, none⟩ = some (.slice A2 ss.length c2)) (go_keep)
        (first | (go_at_call 33; refine (bldString_any _ (w.heap.size + 2) out _ (HBL.out.fr ((Fr.refl (fun _ => False) _).drew) (fun h => h) (fun _ _ h => h)) (by omega)).mono ?_; rintro e w2 ⟨rfl, hf2⟩; have b2 := (Blk.drew HLA.out).fr hf2 (fun h => Blk.not_elem (Blk.drew HLA.out) (by decide) h.2); have b3 := (Blk.drew HRE.out).fr hf2 (fun h => by omega); obtain ⟨e0, e1, e2, g2⟩ := b2.c3; obtain ⟨m0, m1, m2, g3⟩ := b3.c3; have hz2 := b2.lt; have hz3 := b3.lt; have HLO2 := Lib.hid ((HLO.out.drew).fr hf2 (fun g off hA h => (HLO.out.drew).not_elem (by decide) hA h.2)); have HBE2 := Lib.hid (HBE.out.drew.trans (hf2.below (by simp; omega) (fun i h => by omega))); have HRE2 := Lib.hid b3; clear b2 b3 hf2))
      all_goals go_wp2_with fail
      refine bodyPost_ret (v := .tuple #[.agg #[.bool r, .string t, .slice A2 ss.length c2], .string out]) (by simp [results, Try.results14, go_sem, m0, m1, m2]) rfl ?_
      rw [HP.out]
      have hbe2 := HBE2.out
      have hlo2 : Own w2 (w.heap.size + 2) 9 1 A2 ss.length c2 (strsV ss) := HLO2.out
      exact ⟨_, rfl, Own.lineV' (base := w.heap.size + 2) (by repeat (first | (with_reducible exact hlo2) | ((with_reducible refine Own.setLow ?_ ?_ _); rotate_left; (simp <;> omega)) | (with_reducible refine Own.alloc ?_ _) | (with_reducible refine Own.drew ?_))) rfl, (by repeat (first | (with_reducible exact hbe2) | ((with_reducible refine Below.setCell ?_ ?_ _); rotate_left; (simp <;> omega)) | ((with_reducible refine Below.alloc ?_ ?_ _); rotate_left; (simp <;> omega)) | (with_reducible refine Below.drew ?_)))⟩
end Go.Proofs.Ytcnoefpckiionaa
