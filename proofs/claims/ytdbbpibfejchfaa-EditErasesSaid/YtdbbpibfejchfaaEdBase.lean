/- Line editors as data. -/
import Derived.Test.YtdbbpibfejchfaaEvF
import Derived.Test.YtdbbpibfejchfaaEvE
import Derived.Test.YtdbbpibfejchfaaEvC
import Derived.Test.YtdbbpibfejchfaaEvD
namespace Go.Proofs.Ytdbbpibfejchfaa
open Go.RowKit
set_option linter.unusedVariables false
set_option linter.unusedSimpArgs false
structure Line where
  raw : Bool
  text : List UInt8
  ready : List (List UInt8)
  deriving Inhabited, DecidableEq
def Line.v (x : Line) : List V := [.bool x.raw, .str x.text, .lst (strV x.ready)]
def lineV (l : List Line) : List (List V) := l.map Line.v
theorem lineV_len (l : List Line) : (lineV l).length = l.length := by simp [lineV]
theorem lineV_row {l : List Line} {i : Nat} {f : Line} (h : l[i]? = some f) : rowAt (lineV l) (i : Int) = f.v := by simp [rowAt, lineV, List.getD, h]
theorem lineV_ok {l : List Line} {i : Nat} (h : i < l.length) : okRow (lineV l) i 3 = true := by simp [okRow, lineV, List.getElem?_eq_getElem h, Line.v]
theorem lineV_lenL (l : List Line) : lenL (lineV l) = (l.length : Int) := by simp [lenL, lineV]
theorem lineV_all (l : List Line) : List.take l.length (lineV l) = lineV l := List.take_of_length_le (by simp [lineV])
theorem lineV_all1 (l : List Line) (x : List V) : List.take (l.length + 1) (lineV l ++ [x]) = lineV l ++ [x] := List.take_of_length_le (by simp [lineV])
theorem lineV_add (l : List Line) (f : Line) : lineV l ++ [f.v] = lineV (l ++ [f]) := by simp [lineV]
theorem lineV_part {l : List Line} {i : Nat} {f : Line} (h : l[i]? = some f) (o n : Nat) : partAt (lineV l) i o n = sub f.v o n := by simp [partAt, lineV, h]
theorem lineV_put {l : List Line} {i : Nat} {f g : Line} (h : l[i]? = some f) {o : Nat} {ys : List V} (e : put f.v o ys = some g.v) : putAt (lineV l) i o ys = some (lineV (l.set i g)) := by simp [putAt, lineV, h, e]
theorem lineV_snoc {l : List Line} {j : Nat} {f : Line} (h : l[j]? = some f) : lineV (l.take j) ++ [f.v] = lineV (l.take (j + 1)) := by
  have := (List.getElem?_eq_some_iff.1 h); obtain ⟨h1, rfl⟩ := this
  unfold lineV; rw [List.take_succ_eq_append_getElem h1, List.map_append]; rfl
theorem lineV_app (a b : List Line) : lineV a ++ lineV b = lineV (a ++ b) := by simp [lineV]
theorem lineV_take (a : List Line) (n : Nat) : List.take n (lineV a) = lineV (a.take n) := by simp [lineV]
theorem lineV_drop (a : List Line) (n : Nat) : List.drop n (lineV a) = lineV (a.drop n) := by simp [lineV]
theorem lineV_set (a : List Line) (n : Nat) (f : Line) : (lineV a).set n f.v = lineV (a.set n f) := by simp [lineV]
theorem lineV_head (a : List Line) : headOkP 3 (lineV a) = true := by cases a <;> rfl
theorem lineV_get (a : List Line) (i : Nat) : (lineV a)[i]? = (a[i]?).map Line.v := by simp [lineV]
theorem Line.eqv {x y : Line} : x = y ↔ x.raw = y.raw ∧ x.text = y.text ∧ x.ready = y.ready := by cases x; cases y; simp
theorem Line.v_inj {x y : Line} : x.v = y.v ↔ x = y := by
  cases x; cases y
  simp [Line.v, strV_inj, and_assoc]
theorem lineV_inj {a b : List Line} : lineV a = lineV b ↔ a = b := List.map_inj_right fun _ _ h => Line.v_inj.1 h
def lineSh : Sh := .pair .bool (.pair .str (.pair (.slice 16 1 .str) .unit))
def Line.fit (x : Line) : Prop := True ∧ x.text.length ≤ 140737488351232 ∧ (x.ready.length * 16 ≤ 140737488351232 ∧ ∀ a ∈ x.ready, a.length ≤ 140737488351232)
theorem Line.fits {vs : List V} (h : Fits lineSh vs) : ∃ x : Line, vs = x.v ∧ x.fit := by
  unfold lineSh at h
  obtain ⟨u1, w1, rfl, a1, b1⟩ := h
  obtain ⟨x1, rfl⟩ := a1
  obtain ⟨u2, w2, rfl, a2, b2⟩ := b1
  obtain ⟨x2, rfl, fx2⟩ := a2
  obtain ⟨u3, w3, rfl, a3, b3⟩ := b2
  obtain ⟨rx3, rfl, lx3, ex3⟩ := a3
  obtain ⟨x3, rfl, gx3⟩ := rows_of (fun x => [.str x]) (fun a => a.length ≤ 140737488351232) (fun q hq => fits_oneS (ex3 q hq).2)
  rw [List.length_map] at lx3
  obtain rfl : w3 = [] := b3
  exact ⟨⟨x1, x2, x3⟩, rfl, ⟨trivial, fx2, ⟨lx3, gx3⟩⟩⟩

end Go.Proofs.Ytdbbpibfejchfaa
namespace Go.Proofs.Ytdbbpibfejchfaa
open Go.RowKit
/-- The live slots at the loops' heads. -/
def keepS : List (Nat × Nat × List Nat) := [(9, 4, [1, 4, 6, 200007, 12, 13]), (12, 4, [1, 25, 26]), (6, 5, [1, 3, 17, 18]), (7, 4, [1, 3]), (7, 9, [1, 4]), (10, 3, [1, 2, 4, 6, 7]), (11, 4, [2, 3, 5]),
  (29, 6, [0, 5]), (29, 8, [0, 5]), (32, 4, [1, 2, 4, 6, 7]), (33, 2, [0, 3]), (33, 4, [0, 3]), (17, 3, [3, 7, 8, 9]),
  (13, 2, [0, 3]), (5, 7, [2, 5, 53, 54]), (34, 2, [0, 1, 7, 8])]
def cfgN : Cfg where
  glob := glT
  rows := fun _ => none
  prim := fun f => bif Nat.beq f 30 then some repPrim else none
  ref := fun f => has [20, 28, 19, 21, 27, 24, 34] f
  bld := bldN
  self := fun f => Nat.beq f 27
  bstr := fun f => Nat.beq f 21
  clone := fun f => Nat.beq f 26
  res := fun f => bif Nat.beq f 18 then 0 else 1
  keep := keepOf keepS
theorem cfgN_ok : CfgOk Try.prog cfgN where
  prim := fun f g e => by
    simp only [cfgN, Bool.cond_eq_ite] at e
    split at e
    · rename_i h
      have h := Nat.eq_of_beq_eq_true h
      subst h; cases e
      exact @rep_prim _
    · cases e
  self := fun f e => by
    obtain rfl := Nat.eq_of_beq_eq_true e
    exact @self_spec
  clone := fun f e => by
    obtain rfl := Nat.eq_of_beq_eq_true e
    exact clone_str
  bstr := fun f e => by
    obtain rfl := Nat.eq_of_beq_eq_true e
    exact @bstr_spec
end Go.Proofs.Ytdbbpibfejchfaa
namespace Go.Proofs.Ytdbbpibfejchfaa
open Go.RowKit
set_option linter.unusedVariables false
set_option linter.unusedSimpArgs false
def prB (n : Int) : Bool := decide (n = 9) || (decide (32 ≤ n) && !decide (n = 127))
def blB (n : Int) : Bool := decide (n = 9) || decide (n = 32)
def nbl (n : Int) : Bool := !blB n
def byteL (n : Int) : List UInt8 := [UInt8.ofNat n.toNat]
def textOk (t : List UInt8) : Bool := t.all fun c => prB c.toNat
def longB (n : Int) : Bool := decide (1025 < n)
def anyLong (ss : List (List UInt8)) : Bool := ss.any fun s => longB s.length
def rightL (l : Line) : Bool := decide (l.text.length ≤ 1024) && !(l.raw && !decide (l.text.length = 0)) && decide (l.ready.length ≤ 1024) && textOk l.text && !anyLong l.ready
theorem rightL_iff (l : Line) : rightL l = true ↔ l.text.length ≤ 1024 ∧ (l.raw = true → l.text = []) ∧ l.ready.length ≤ 1024 ∧ textOk l.text = true ∧ ∀ s ∈ l.ready, s.length ≤ 1025 := by
  unfold rightL anyLong longB
  simp only [Bool.and_eq_true, decide_eq_true_eq, Bool.not_eq_true', Bool.and_eq_false_iff, List.any_eq_false, decide_eq_false_iff_not, Bool.not_eq_false', List.length_eq_zero_iff]
  constructor
  · rintro ⟨⟨⟨⟨h1, h2⟩, h3⟩, h4⟩, h5⟩
    refine ⟨h1, fun hr => ?_, h3, h4, fun s hs => by have := h5 s hs; omega⟩
    rcases h2 with h2 | h2
    · rw [hr] at h2; cases h2
    · exact h2
  · rintro ⟨h1, h2, h3, h4, h5⟩
    refine ⟨⟨⟨⟨h1, ?_⟩, h3⟩, h4⟩, fun s hs => by have := h5 s hs; omega⟩
    cases hr : l.raw
    · exact .inl rfl
    · exact .inr (h2 hr)
/-- How far a text goes when bytes of a kind are taken off its end. -/
def scanB (p : Int → Bool) (s : List UInt8) : Nat → Nat
  | 0 => 0
  | n + 1 => if p ((s.getD n 0).toNat : Int) = true then scanB p s n else n + 1
theorem scanB_le (p : Int → Bool) (s : List UInt8) : ∀ n, scanB p s n ≤ n
  | 0 => Nat.le_refl _
  | n + 1 => by
    unfold scanB
    split
    · exact Nat.le_succ_of_le (scanB_le p s n)
    · exact Nat.le_refl _
def wordN (s : List UInt8) : Nat := s.length - scanB nbl s (scanB blB s s.length)
theorem wordN_le (s : List UInt8) : wordN s ≤ s.length := by unfold wordN; omega
def rub (k : Nat) : List UInt8 := Lib.repeatL [8, 32, 8] k
def eraseF (l : Line) (k : Nat) : Line × List UInt8 := (⟨l.raw, l.text.take (l.text.length - k), l.ready⟩, rub k)
def erasedN (t : List UInt8) (n : Int) : Nat := if n = 21 then t.length else if n = 23 then wordN t else min t.length 1
theorem erasedN_le (t : List UInt8) (n : Int) : erasedN t n ≤ t.length := by
  have := wordN_le t
  unfold erasedN; split
  · omega
  split <;> omega
def delivF (l : Line) (s : List UInt8) : Line := if l.ready.length < 1024 then ⟨l.raw, l.text, l.ready ++ [s]⟩ else l
/-- What typing a byte does to a line editor, and its echo. -/
def typeF (l : Line) (n : Int) : Line × List UInt8 :=
  if l.raw = true then (if l.ready.length < 1024 then (⟨l.raw, l.text, l.ready ++ [byteL n]⟩, []) else (l, []))
  else if n = 8 ∨ n = 127 ∨ n = 21 ∨ n = 23 then eraseF l (erasedN l.text n)
  else if n = 10 ∨ n = 13 then (if l.ready.length < 1024 then (⟨l.raw, [], l.ready ++ [l.text ++ [10]]⟩, [10]) else (l, []))
  else if n = 4 then (if l.ready.length < 1024 then (⟨l.raw, [], l.ready ++ [l.text]⟩, []) else (l, []))
  else if prB n = true then (if l.text.length < 1024 then (⟨l.raw, l.text ++ byteL n, l.ready⟩, byteL n) else (l, []))
  else (l, [])
theorem textOk_app (a b : List UInt8) : textOk (a ++ b) = (textOk a && textOk b) := by simp [textOk]
theorem textOk_take (a : List UInt8) (n : Nat) (h : textOk a = true) : textOk (a.take n) = true := by
  unfold textOk at *
  rw [List.all_eq_true] at *
  exact fun c hc => h c (List.mem_of_mem_take hc)
theorem byteL_ok {n : Int} (h0 : 0 ≤ n) (h1 : n ≤ 255) : textOk (byteL n) = prB n := by
  have : ((UInt8.ofNat n.toNat).toNat : Int) = n := by
    rw [UInt8.toNat_ofNat']; omega
  unfold textOk byteL
  rw [List.all_cons, this, List.all_nil, Bool.and_true]
theorem typeF_right {l : Line} (h : rightL l = true) {n : Int} (h0 : 0 ≤ n) (h1 : n ≤ 255) : rightL (typeF l n).1 = true := by
  have h' := h
  rw [rightL_iff] at h
  obtain ⟨a1, a2, a3, a4, a5⟩ := h
  have er : ∀ k, rightL (eraseF l k).1 = true := by
    intro k
    rw [rightL_iff]
    unfold eraseF
    exact ⟨by simp; omega, fun hr => by simp [a2 hr], a3, textOk_take _ _ a4, a5⟩
  have add : ∀ s : List UInt8, s.length ≤ 1025 → ∀ x ∈ l.ready ++ [s], x.length ≤ 1025 := by
    intro s hs x hx
    rcases List.mem_append.1 hx with hx | hx
    · exact a5 x hx
    · simp at hx; subst hx; exact hs
  unfold typeF
  split
  · split
    · rw [rightL_iff]
      exact ⟨a1, a2, by simp; omega, a4, add _ (by simp [byteL])⟩
    · exact h'
  · rename_i hr
    split
    · exact er _
    split
    · split
      · rw [rightL_iff]
        exact ⟨by simp, fun h => rfl, by simp; omega, rfl, add _ (by simp; omega)⟩
      · exact h'
    split
    · split
      · rw [rightL_iff]
        exact ⟨by simp, fun h => rfl, by simp; omega, rfl, add _ (by omega)⟩
      · exact h'
    split
    · rename_i hp
      split
      · rw [rightL_iff]
        exact ⟨by simp [byteL]; omega, fun h => absurd h hr, a3, by rw [textOk_app, a4, byteL_ok h0 h1, hp]; rfl, a5⟩
      · exact h'
    · exact h'
theorem rub_len : ∀ k, (rub k).length = 3 * k
  | 0 => rfl
  | k + 1 => by
    have := rub_len k
    unfold rub at *
    simp [Lib.repeatL] at *
    try omega
theorem typeF_echo {l : Line} (h : rightL l = true) (n : Int) : (typeF l n).2.length ≤ 3072 := by
  obtain ⟨a1, a2, a3, a4, a5⟩ := (rightL_iff l).1 h
  have h2 := erasedN_le l.text n
  have h3 := rub_len (erasedN l.text n)
  unfold typeF eraseF
  split
  · split <;> simp
  split
  · simp only; omega
  split
  · split <;> simp
  split
  · split <;> simp
  split
  · split <;> simp [byteL]
  · simp
/-- All bytes of a text are typed. -/
def feedF : Line → List UInt8 → Line × List UInt8
  | l, [] => (l, [])
  | l, c :: s => ((feedF (typeF l (c.toNat : Int)).1 s).1, (typeF l (c.toNat : Int)).2 ++ (feedF (typeF l (c.toNat : Int)).1 s).2)
theorem feedF_app : ∀ (a : List UInt8) (l : Line) (b : List UInt8), feedF l (a ++ b) = ((feedF (feedF l a).1 b).1, (feedF l a).2 ++ (feedF (feedF l a).1 b).2)
  | [], l, b => by simp [feedF]
  | c :: a, l, b => by
    rw [List.cons_append, feedF, feedF_app a, feedF]
    simp
theorem feedF_snoc (a : List UInt8) (l : Line) (c : UInt8) : feedF l (a ++ [c]) = ((typeF (feedF l a).1 (c.toNat : Int)).1, (feedF l a).2 ++ (typeF (feedF l a).1 (c.toNat : Int)).2) := by
  rw [feedF_app]; simp [feedF]
theorem byte255 (c : UInt8) : 0 ≤ (c.toNat : Int) ∧ (c.toNat : Int) ≤ 255 := by have := c.toNat_lt; omega
theorem feedF_right : ∀ (s : List UInt8) {l : Line}, rightL l = true → rightL (feedF l s).1 = true
  | [], l, h => h
  | c :: s, l, h => feedF_right s (typeF_right h (byte255 c).1 (byte255 c).2)
theorem feedF_echo : ∀ (s : List UInt8) {l : Line}, rightL l = true → (feedF l s).2.length ≤ 3072 * s.length
  | [], l, h => by simp [feedF]
  | c :: s, l, h => by
    have := feedF_echo s (typeF_right h (byte255 c).1 (byte255 c).2)
    have := typeF_echo h (c.toNat : Int)
    simp only [feedF, List.length_append, List.length_cons]
    omega
def readN (count : Int) (f : List UInt8) : Nat := (min (max count 0) (f.length : Int)).toNat
def readF (l : Line) (count : Int) : Line × List UInt8 × Bool :=
  match l.ready with
  | [] => (l, [], true)
  | f :: ss => if readN count f = f.length then (⟨l.raw, l.text, ss⟩, f, false) else (⟨l.raw, l.text, f.drop (readN count f) :: ss⟩, f.take (readN count f), false)
def setRawF (l : Line) (raw : Bool) : Line :=
  if raw = true ∧ l.raw = false ∧ l.text ≠ [] then ⟨raw, [], if l.ready.length < 1024 then l.ready ++ [l.text] else l.ready⟩ else ⟨raw, l.text, l.ready⟩
theorem readF_right {l : Line} (h : rightL l = true) (count : Int) : rightL (readF l count).1 = true := by
  have h' := h
  obtain ⟨a1, a2, a3, a4, a5⟩ := (rightL_iff l).1 h
  unfold readF
  split
  · exact h'
  · rename_i f ss hl
    rw [hl] at a3 a5
    simp only [List.length_cons] at a3
    split
    · rw [rightL_iff]
      exact ⟨a1, a2, by simp only; omega, a4, fun s hs => a5 s (List.mem_cons_of_mem _ hs)⟩
    · rw [rightL_iff]
      refine ⟨a1, a2, by simp only [List.length_cons]; omega, a4, fun s hs => ?_⟩
      rcases List.mem_cons.1 hs with rfl | hs
      · have := a5 f (List.mem_cons_self ..); simp only [List.length_drop]; omega
      · exact a5 s (List.mem_cons_of_mem _ hs)
theorem setRawF_right {l : Line} (h : rightL l = true) (raw : Bool) : rightL (setRawF l raw) = true := by
  obtain ⟨a1, a2, a3, a4, a5⟩ := (rightL_iff l).1 h
  unfold setRawF
  split
  · rw [rightL_iff]
    refine ⟨by simp, fun _ => rfl, ?_, rfl, ?_⟩
    · simp only; split
      · simp; omega
      · exact a3
    · simp only; split
      · intro x hx
        rcases List.mem_append.1 hx with hx | hx
        · exact a5 x hx
        · simp at hx; subst hx; omega
      · exact a5
  · rename_i hn
    rw [rightL_iff]
    refine ⟨a1, fun hr => ?_, a3, a4, a5⟩
    simp only at hr ⊢
    subst hr
    cases hl : l.raw
    · by_cases ht : l.text = []
      · exact ht
      · exact absurd ⟨rfl, hl, ht⟩ hn
    · exact a2 hl
-- printable texts
theorem typeF_pr {l : Line} {n : Int} (hr : l.raw = false) (hp : prB n = true) (hn : l.text.length < 1024) : typeF l n = (⟨l.raw, l.text ++ byteL n, l.ready⟩, byteL n) := by
  have h : ¬ (n = 8 ∨ n = 127 ∨ n = 21 ∨ n = 23) ∧ ¬ (n = 10 ∨ n = 13) ∧ ¬ n = 4 := by
    simp [prB] at hp; omega
  unfold typeF
  rw [if_neg (by simp [hr]), if_neg h.1, if_neg h.2.1, if_neg h.2.2, if_pos hp, if_pos hn]
theorem byteL_toNat (c : UInt8) : byteL (c.toNat : Int) = [c] := by
  unfold byteL
  rw [Int.toNat_natCast]; simp
theorem feedF_pr : ∀ (s : List UInt8) {l : Line}, l.raw = false → textOk s = true → l.text.length + s.length ≤ 1024 → feedF l s = (⟨l.raw, l.text ++ s, l.ready⟩, s)
  | [], l, hr, hp, hn => by simp [feedF]
  | c :: s, l, hr, hp, hn => by
    simp only [List.length_cons] at hn
    have h1 : prB (c.toNat : Int) = true ∧ textOk s = true := by simpa [textOk] using hp
    rw [feedF, typeF_pr hr h1.1 (by omega), byteL_toNat]
    rw [feedF_pr s (l := ⟨l.raw, l.text ++ [c], l.ready⟩) hr h1.2 (by simp; omega)]
    simp
def delN : Nat → Line → Line
  | 0, l => l
  | k + 1, l => delN k (typeF l 127).1
theorem type127 {l : Line} (hr : l.raw = false) : (typeF l 127).1 = ⟨l.raw, l.text.take (l.text.length - 1), l.ready⟩ := by
  unfold typeF
  rw [if_neg (by simp [hr]), if_pos (by omega)]
  unfold eraseF erasedN
  simp only
  rw [if_neg (by omega), if_neg (by omega)]
  congr 2
  by_cases h : l.text.length = 0
  · simp [List.length_eq_zero_iff.1 h]
  · congr 1; omega
end Go.Proofs.Ytdbbpibfejchfaa
namespace Go.Proofs.Ytdbbpibfejchfaa
open Go.RowKit
theorem awake_ev {n : Nat} (h : 12 ≤ n) : evalF Try.prog cfgN n 8 [] [] = some (.bool true, []) := by
  obtain ⟨k, rfl⟩ : ∃ k, n = k + 12 := ⟨n - 12, by omega⟩
  kernel_rfl
end Go.Proofs.Ytdbbpibfejchfaa
