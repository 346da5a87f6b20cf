/- edit.Type, by contract. -/
import Derived.Test.YtcnoefpckiionaaTypeLaw
import Derived.Test.YtcnoefpckiionaaOwnFn
namespace Go.Proofs.Ytcnoefpckiionaa
open Go.RowKit
set_option linter.unusedSimpArgs false
set_option linter.unusedVariables false
theorem Own.nilc {w : World} {base size n c : Nat} {e : TypeId} {A : Option Addr} {xs : List Value} (h : Own w base e size A n c xs) (hA : A = none) : n = 0 ∧ c = 0 := by
  rcases h.cases with ⟨_, h1, h2⟩ | ⟨g, cur, h1, _⟩
  · exact ⟨h1, h2⟩
  · rw [hA] at h1; cases h1
theorem Own.lineV {w : World} {base c : Nat} {A : Option Addr} {l : LineD} (h : Own w base 9 1 A l.ready.length c (strsV l.ready)) : LineV w l (.agg #[.bool l.raw, .string l.text, .slice A l.ready.length c]) :=
  ⟨A, c, rfl, h.reads, h.nilc, h.cap.1, h.cap.2⟩
/-- The slice of a line editor's value; a slice in memory from H on. -/
def lineSl : Value → Option Addr
  | .agg ⟨[_, _, .slice A _ _]⟩ => A
  | _ => none
def lineN : Value → Nat
  | .agg ⟨[_, _, .slice _ n _]⟩ => n
  | _ => 0
def Fresh (H : Nat) (A : Option Addr) : Prop := ∀ b off, A = some ⟨b, off, none⟩ → H ≤ b
theorem LineV.setCell {w : World} {l : LineD} {v : Value} (h : LineV w l v) {p : Addr} (hp : 0 < lineN v → ∀ b off, lineSl v = some ⟨b, off, none⟩ → b ≠ p.block) (u : Value) : LineV (w.setCell p u) l v := by
  obtain ⟨A, c, rfl, hr, h1, h2, h3⟩ := h
  refine ⟨A, c, rfl, ⟨hr.1, fun hn => ?_⟩, h1, h2, h3⟩
  obtain ⟨b, off, e, hb, hc⟩ := hr.2 hn
  exact ⟨b, off, e, by simpa [World.setCell] using hb, fun j u' hu => (World.cell?_setCell_other w p ⟨b, off + j, none⟩ u (fun e' => hp hn b off e (by rw [e']))).trans (hc j u' hu)⟩
/-- The slice of v lies in no block from H to K. -/
def Apt (H K : Nat) (v : Value) : Prop := 0 < lineN v → ∀ b off, lineSl v = some ⟨b, off, none⟩ → b < H ∨ K ≤ b
theorem LineV.apt {w : World} {l : LineD} {v : Value} (h : LineV w l v) (K : Nat) : Apt w.heap.size K v := by
  obtain ⟨A, c, rfl, hr, h1, h2, h3⟩ := h
  intro hn b off e
  obtain ⟨b', off', e', hb, hc⟩ := hr.2 hn
  have : A = some ⟨b, off, none⟩ := e
  rw [this] at e'
  injection e' with e'
  injection e' with e1
  left; omega
theorem LineV.below {w w' : World} {l : LineD} {v : Value} (h : LineV w l v) (hb : Below w.heap.size w w') : LineV w' l v := by
  obtain ⟨A, c, rfl, hr, h1, h2, h3⟩ := h
  exact ⟨A, c, rfl, (hr.below hb).more hb.size, h1, h2, h3⟩
theorem Own.fresh {w : World} {base size n c H : Nat} {e : TypeId} {A : Option Addr} {xs : List Value} (h : Own w base e size A n c xs) (hH : H ≤ base) : Fresh H A := fun b off hA => by have := (h.lt hA).1; omega
theorem Apt.post {H K : Nat} {w : World} {v v' : Value} (h : Apt H K v) (hp : (lineSl v' = lineSl v ∧ lineN v' = lineN v) ∨ Fresh w.heap.size (lineSl v')) (hK : K ≤ w.heap.size) : Apt H K v' := by
  intro hn b off e
  rcases hp with ⟨h1, h2⟩ | h1
  · exact h (by omega) b off (h1 ▸ e)
  · have := h1 b off e; right; omega
/-- What a function leaves that takes the line editor v in world w and returns one, l, and a text. Its memory is the old one's or new. -/
def LinePost (w : World) (v : Value) (l : LineD) (out : ByteArray) (e : Ending) (w' : World) : Prop :=
  ∃ v', e = .returned (.tuple #[v', .string out]) ∧ LineV w' l v' ∧ ((lineSl v' = lineSl v ∧ lineN v' = lineN v) ∨ Fresh w.heap.size (lineSl v')) ∧ Below w.heap.size w w'
set_option maxRecDepth 100000 in
set_option maxHeartbeats 800000 in
theorem type_any (l : LineD) (v : Value) (w : World) (hv : LineV w l v) (hR : Right l) (n : Int) (h0 : 0 ≤ n) (h1 : n ≤ 255) :
    Calls Try.prog 22 #[v, .int .u8 n] w (LinePost w v (typeF l n).1 (typeF l n).2) := by
  obtain ⟨A, c, rfl, hr, hA, hc1, hc2⟩ := hv
  obtain ⟨a1, a2, a3, a4, a5⟩ := (right_iff l).1 hR
  have KO := Lib.hid (fun (W : World) (hw : Reads W w.heap.size 1 A l.ready.length (strsV l.ready)) hB => own_any l.raw l.text A c l.ready W hw hB hA (by omega))
  have KT := Lib.hid (fun lb base c A w h hb => typed_any lb base c A w l h hb hR n h0 h1)
  have HR := Lib.hid hr
  clear hr hA hR a2 a5
  generalize hT : typeF l n = T at *
  clear hT
  obtain ⟨⟨r', t', ss'⟩, out⟩ := T
  obtain ⟨r, t, ss⟩ := l
  simp only at *
  go_enter Try.func22, Try.ntmps22
  go_wp2_with fail
  refine (KO.out _ (((HR.out.alloc (Nat.le_refl _) _).alloc (by simp) _)) (by simp; omega)).mono ?_
  rintro e w1 ⟨A1, c1, rfl, hown, hb⟩
  simp only [World.size_alloc, Nat.add_assoc, Nat.reduceAdd] at hown hb
  have b1 : Blk w1 (w.heap.size + 1) 24 #[.bool false, .string ⟨#[]⟩, .slice none 0 0] := (Blk.new' (w.alloc _) _ _ (by simp)).below hb (by omega)
  have hsz := b1.lt
  have HO := Lib.hid hown
  have HB := Lib.hid hb
  have HB1 := Lib.hid b1
  clear hown hb b1
  go_wp2_with fail
  refine (KT.out _ (w.heap.size + 2) c1 A1 _ ⟨Blk.new' w1 _ _ rfl, HO.out.alloc _⟩ (by simp; omega)).mono ?_
  rintro e w2 ⟨rfl, A2, c2, ⟨k1, o2⟩, fr⟩
  have b2 : Blk w2 (w.heap.size + 1) 24 #[.bool false, .string ⟨#[]⟩, .slice none 0 0] := (HB1.out.alloc _).fr fr (fun e => by rcases e with e | e; omega; have := (HO.out.lt e).1; omega)
  obtain ⟨d0, d1, d2, g0⟩ := b2.c3
  obtain ⟨e0, e1, e2, g1⟩ := k1.c3
  have hsz2 := b2.lt
  have hsz3 := k1.lt
  have HO2 := Lib.hid o2
  have HF := Lib.hid fr
  clear b2 k1 o2 fr
  go_wp2_with fail
  refine bodyPost_ret (v := .tuple #[.agg #[.bool r', .string t', .slice A2 ss'.length c2], .string out]) (by simp [results, Try.results22, go_sem, d0, d1, d2]) rfl ⟨_, rfl, ?_, .inr (HO2.out.fresh (by omega)), ?_⟩
  · exact Own.lineV (l := ⟨r', t', ss'⟩) (((HO2.out.setLow (by simp) _).setLow (by simp) _).setLow (by simp) _)
  · have h1 : Below w.heap.size w w1 := ((((Below.refl _ _).alloc (Nat.le_refl _) _).alloc (by simp) _).trans (HB.out.mono (by omega)))
    have h2 : Below w.heap.size w w2 := (h1.alloc (by omega) _).trans (HF.out.below (by simp; omega) (fun i hi => by rcases hi with e | e; omega; have := (HO.out.lt e).1; omega))
    exact ((h2.setCell (by simp) _).setCell (by simp) _).setCell (by simp) _
end Go.Proofs.Ytcnoefpckiionaa
