/- The evaluator's knobs for this program. -/
import Derived.Test.YtdbbpibfejchfaaGreatDoorEvE
import Derived.Test.YtdbbpibfejchfaaGreatDoorEvC
import Derived.Test.YtdbbpibfejchfaaGreatDoorEvF
namespace Go.Proofs.YtdbbpibfejchfaaGreatDoor
open Go.RowKit
/-- The live slots at the loops' heads. -/
def keepS : List (Nat × Nat × List Nat) := [(38, 4, [1, 4, 6, 200007, 12, 13]), (63, 4, [1, 25, 26]), (12, 4, [1, 3]), (12, 9, [1, 4]),
  (93, 6, [0, 5]), (93, 8, [0, 5]), (99, 2, [0, 1, 7, 8]),
(48, 3, [1, 2, 4, 6, 7]), (97, 4, [1, 2, 4, 6, 7]), (98, 2, [0, 3]), (98, 4, [0, 3]), (58, 7, [0, 1, 2, 8, 9]),
(85, 10, [2, 4, 6, 7]), (80, 2, [0, 5]), (4, 5, [0, 100003, 100004, 17, 18]),
(62, 4, [2, 3, 29, 30]),
  (5, 4, [1, 12, 13]), (5, 10, [1, 4, 12, 13, 48, 49]), (11, 4, [1, 21, 22, 23]), (6, 5, [1, 3, 4, 26, 27]), (10, 4, [2, 3, 29, 30]),
  (18, 8, [2, 200008, 29, 30, 31]), (32, 3, [1, 2, 10, 11]), (43, 4, [3, 200005, 6]), (43, 10, [200005, 29, 30, 31]),
  (64, 2, [0, 1, 7, 8]), (47, 2, [1, 2, 8, 9]), (78, 9, [2, 4, 40, 41, 42]),
  (82, 2, [0, 1, 5]), (75, 7, [0, 1, 2, 8, 31, 32])]
def cfgN : Cfg where
  glob := glT
  rows := fun _ => none
  prim := fun f => bif Nat.beq f 90 then some fiPrim else bif Nat.beq f 94 then some repPrim else none
  ref := fun f => has [72, 92, 71, 73, 91, 87, 99,
    64, 65, 45, 78, 42] f
  bld := bldN
  self := fun f => Nat.beq f 91
  bstr := fun f => Nat.beq f 73
  clone := fun f => Nat.beq f 67 || Nat.beq f 66
  res := fun f => bif has [70, 32, 78, 42, 45] f then 0 else 1
  keep := keepOf keepS
theorem cfgN_ok : CfgOk Tryz.prog cfgN where
  prim := fun f g e => by
    simp only [cfgN, Bool.cond_eq_ite] at e
    split at e
    · rename_i h
      have h := Nat.eq_of_beq_eq_true h
      subst h; cases e
      exact @fi_prim
    · split at e
      · rename_i h
        have h := Nat.eq_of_beq_eq_true h
        subst h; cases e
        exact @rep_prim _
      · cases e
  self := fun f e => by
    obtain rfl := Nat.eq_of_beq_eq_true e
    exact @self_spec
  clone := fun f e => by
    have e : (Nat.beq f 67 || Nat.beq f 66) = true := e
    rw [Bool.or_eq_true] at e
    rcases e with e | e
    · obtain rfl := Nat.eq_of_beq_eq_true e
      exact @clone_str
    · obtain rfl := Nat.eq_of_beq_eq_true e
      exact @clone_win
  bstr := fun f e => by
    obtain rfl := Nat.eq_of_beq_eq_true e
    exact @bstr_spec
end Go.Proofs.YtdbbpibfejchfaaGreatDoor
namespace Go.Proofs.YtdbbpibfejchfaaGreatDoor
open Go.RowKit
set_option linter.unusedVariables false
set_option linter.unusedSimpArgs false
structure Line where
  raw : Bool
  text : List UInt8
  ready : List (List UInt8)
  deriving Inhabited, DecidableEq
def Line.v (x : Line) : List V := [.bool x.raw, .str x.text, .lst (strV x.ready)]
def lineV (l : List Line) : List (List V) := l.map Line.v
theorem lineV_len (l : List Line) : (lineV l).length = l.length := by simp [lineV]
theorem lineV_row {l : List Line} {i : Nat} {f : Line} (h : l[i]? = some f) : rowAt (lineV l) (i : Int) = f.v := by simp [rowAt, lineV, List.getD, h]
theorem lineV_ok {l : List Line} {i : Nat} (h : i < l.length) : okRow (lineV l) i 3 = true := by simp [okRow, lineV, List.getElem?_eq_getElem h, Line.v]
theorem lineV_lenL (l : List Line) : lenL (lineV l) = (l.length : Int) := by simp [lenL, lineV]
theorem lineV_all (l : List Line) : List.take l.length (lineV l) = lineV l := List.take_of_length_le (by simp [lineV])
theorem lineV_all1 (l : List Line) (x : List V) : List.take (l.length + 1) (lineV l ++ [x]) = lineV l ++ [x] := List.take_of_length_le (by simp [lineV])
theorem lineV_add (l : List Line) (f : Line) : lineV l ++ [f.v] = lineV (l ++ [f]) := by simp [lineV]
theorem lineV_part {l : List Line} {i : Nat} {f : Line} (h : l[i]? = some f) (o n : Nat) : partAt (lineV l) i o n = sub f.v o n := by simp [partAt, lineV, h]
theorem lineV_put {l : List Line} {i : Nat} {f g : Line} (h : l[i]? = some f) {o : Nat} {ys : List V} (e : put f.v o ys = some g.v) : putAt (lineV l) i o ys = some (lineV (l.set i g)) := by simp [putAt, lineV, h, e]
theorem lineV_snoc {l : List Line} {j : Nat} {f : Line} (h : l[j]? = some f) : lineV (l.take j) ++ [f.v] = lineV (l.take (j + 1)) := by
  have := (List.getElem?_eq_some_iff.1 h); obtain ⟨h1, rfl⟩ := this
  unfold lineV; rw [List.take_succ_eq_append_getElem h1, List.map_append]; rfl
theorem lineV_app (a b : List Line) : lineV a ++ lineV b = lineV (a ++ b) := by simp [lineV]
theorem lineV_take (a : List Line) (n : Nat) : List.take n (lineV a) = lineV (a.take n) := by simp [lineV]
theorem lineV_drop (a : List Line) (n : Nat) : List.drop n (lineV a) = lineV (a.drop n) := by simp [lineV]
theorem lineV_set (a : List Line) (n : Nat) (f : Line) : (lineV a).set n f.v = lineV (a.set n f) := by simp [lineV]
theorem lineV_head (a : List Line) : headOkP 3 (lineV a) = true := by cases a <;> rfl
theorem lineV_get (a : List Line) (i : Nat) : (lineV a)[i]? = (a[i]?).map Line.v := by simp [lineV]
theorem Line.eqv {x y : Line} : x = y ↔ x.raw = y.raw ∧ x.text = y.text ∧ x.ready = y.ready := by cases x; cases y; simp
theorem Line.v_inj {x y : Line} : x.v = y.v ↔ x = y := by
  cases x; cases y
  simp [Line.v, strV_inj, and_assoc]
theorem lineV_inj {a b : List Line} : lineV a = lineV b ↔ a = b := List.map_inj_right fun _ _ h => Line.v_inj.1 h
def lineSh : Sh := .pair .bool (.pair .str (.pair (.slice 16 1 .str) .unit))
def Line.fit (x : Line) : Prop := True ∧ x.text.length ≤ 140737488351232 ∧ (x.ready.length * 16 ≤ 140737488351232 ∧ ∀ a ∈ x.ready, a.length ≤ 140737488351232)
theorem Line.fits {vs : List V} (h : Fits lineSh vs) : ∃ x : Line, vs = x.v ∧ x.fit := by
  unfold lineSh at h
  obtain ⟨u1, w1, rfl, a1, b1⟩ := h
  obtain ⟨x1, rfl⟩ := a1
  obtain ⟨u2, w2, rfl, a2, b2⟩ := b1
  obtain ⟨x2, rfl, fx2⟩ := a2
  obtain ⟨u3, w3, rfl, a3, b3⟩ := b2
  obtain ⟨rx3, rfl, lx3, ex3⟩ := a3
  obtain ⟨x3, rfl, gx3⟩ := rows_of (fun x => [.str x]) (fun a => a.length ≤ 140737488351232) (fun q hq => fits_oneS (ex3 q hq).2)
  rw [List.length_map] at lx3
  obtain rfl : w3 = [] := b3
  exact ⟨⟨x1, x2, x3⟩, rfl, ⟨trivial, fx2, ⟨lx3, gx3⟩⟩⟩

end Go.Proofs.YtdbbpibfejchfaaGreatDoor
namespace Go.Proofs.YtdbbpibfejchfaaGreatDoor
open Go.RowKit
set_option linter.unusedVariables false
set_option linter.unusedSimpArgs false
def prB (n : Int) : Bool := decide (n = 9) || (decide (32 ≤ n) && !decide (n = 127))
def blB (n : Int) : Bool := decide (n = 9) || decide (n = 32)
def nbl (n : Int) : Bool := !blB n
def byteL (n : Int) : List UInt8 := [UInt8.ofNat n.toNat]
def textOk (t : List UInt8) : Bool := t.all fun c => prB c.toNat
def longB (n : Int) : Bool := decide (1025 < n)
def anyLong (ss : List (List UInt8)) : Bool := ss.any fun s => longB s.length
def rightL (l : Line) : Bool := decide (l.text.length ≤ 1024) && !(l.raw && !decide (l.text.length = 0)) && decide (l.ready.length ≤ 1024) && textOk l.text && !anyLong l.ready
theorem rightL_iff (l : Line) : rightL l = true ↔ l.text.length ≤ 1024 ∧ (l.raw = true → l.text = []) ∧ l.ready.length ≤ 1024 ∧ textOk l.text = true ∧ ∀ s ∈ l.ready, s.length ≤ 1025 := by
  unfold rightL anyLong longB
  simp only [Bool.and_eq_true, decide_eq_true_eq, Bool.not_eq_true', Bool.and_eq_false_iff, List.any_eq_false, decide_eq_false_iff_not, Bool.not_eq_false', List.length_eq_zero_iff]
  constructor
  · rintro ⟨⟨⟨⟨h1, h2⟩, h3⟩, h4⟩, h5⟩
    refine ⟨h1, fun hr => ?_, h3, h4, fun s hs => by have := h5 s hs; omega⟩
    rcases h2 with h2 | h2
    · rw [hr] at h2; cases h2
    · exact h2
  · rintro ⟨h1, h2, h3, h4, h5⟩
    refine ⟨⟨⟨⟨h1, ?_⟩, h3⟩, h4⟩, fun s hs => by have := h5 s hs; omega⟩
    cases hr : l.raw
    · exact .inl rfl
    · exact .inr (h2 hr)
/-- How far a text goes when bytes of a kind are taken off its end. -/
def scanB (p : Int → Bool) (s : List UInt8) : Nat → Nat
  | 0 => 0
  | n + 1 => if p ((s.getD n 0).toNat : Int) = true then scanB p s n else n + 1
theorem scanB_le (p : Int → Bool) (s : List UInt8) : ∀ n, scanB p s n ≤ n
  | 0 => Nat.le_refl _
  | n + 1 => by
    unfold scanB
    split
    · exact Nat.le_succ_of_le (scanB_le p s n)
    · exact Nat.le_refl _
def wordN (s : List UInt8) : Nat := s.length - scanB nbl s (scanB blB s s.length)
theorem wordN_le (s : List UInt8) : wordN s ≤ s.length := by unfold wordN; omega
def rub (k : Nat) : List UInt8 := Lib.repeatL [8, 32, 8] k
def eraseF (l : Line) (k : Nat) : Line × List UInt8 := (⟨l.raw, l.text.take (l.text.length - k), l.ready⟩, rub k)
def erasedN (t : List UInt8) (n : Int) : Nat := if n = 21 then t.length else if n = 23 then wordN t else min t.length 1
theorem erasedN_le (t : List UInt8) (n : Int) : erasedN t n ≤ t.length := by
  have := wordN_le t
  unfold erasedN; split
  · omega
  split <;> omega
def delivF (l : Line) (s : List UInt8) : Line := if l.ready.length < 1024 then ⟨l.raw, l.text, l.ready ++ [s]⟩ else l
/-- What typing a byte does to a line editor, and its echo. -/
def typeF (l : Line) (n : Int) : Line × List UInt8 :=
  if l.raw = true then (if l.ready.length < 1024 then (⟨l.raw, l.text, l.ready ++ [byteL n]⟩, []) else (l, []))
  else if n = 8 ∨ n = 127 ∨ n = 21 ∨ n = 23 then eraseF l (erasedN l.text n)
  else if n = 10 ∨ n = 13 then (if l.ready.length < 1024 then (⟨l.raw, [], l.ready ++ [l.text ++ [10]]⟩, [10]) else (l, []))
  else if n = 4 then (if l.ready.length < 1024 then (⟨l.raw, [], l.ready ++ [l.text]⟩, []) else (l, []))
  else if prB n = true then (if l.text.length < 1024 then (⟨l.raw, l.text ++ byteL n, l.ready⟩, byteL n) else (l, []))
  else (l, [])
theorem textOk_app (a b : List UInt8) : textOk (a ++ b) = (textOk a && textOk b) := by simp [textOk]
theorem textOk_take (a : List UInt8) (n : Nat) (h : textOk a = true) : textOk (a.take n) = true := by
  unfold textOk at *
  rw [List.all_eq_true] at *
  exact fun c hc => h c (List.mem_of_mem_take hc)
theorem byteL_ok {n : Int} (h0 : 0 ≤ n) (h1 : n ≤ 255) : textOk (byteL n) = prB n := by
  have : ((UInt8.ofNat n.toNat).toNat : Int) = n := by
    rw [UInt8.toNat_ofNat']; omega
  unfold textOk byteL
  rw [List.all_cons, this, List.all_nil, Bool.and_true]
theorem typeF_right {l : Line} (h : rightL l = true) {n : Int} (h0 : 0 ≤ n) (h1 : n ≤ 255) : rightL (typeF l n).1 = true := by
  have h' := h
  rw [rightL_iff] at h
  obtain ⟨a1, a2, a3, a4, a5⟩ := h
  have er : ∀ k, rightL (eraseF l k).1 = true := by
    intro k
    rw [rightL_iff]
    unfold eraseF
    exact ⟨by simp; omega, fun hr => by simp [a2 hr], a3, textOk_take _ _ a4, a5⟩
  have add : ∀ s : List UInt8, s.length ≤ 1025 → ∀ x ∈ l.ready ++ [s], x.length ≤ 1025 := by
    intro s hs x hx
    rcases List.mem_append.1 hx with hx | hx
    · exact a5 x hx
    · simp at hx; subst hx; exact hs
  unfold typeF
  split
  · split
    · rw [rightL_iff]
      exact ⟨a1, a2, by simp; omega, a4, add _ (by simp [byteL])⟩
    · exact h'
  · rename_i hr
    split
    · exact er _
    split
    · split
      · rw [rightL_iff]
        exact ⟨by simp, fun h => rfl, by simp; omega, rfl, add _ (by simp; omega)⟩
      · exact h'
    split
    · split
      · rw [rightL_iff]
        exact ⟨by simp, fun h => rfl, by simp; omega, rfl, add _ (by omega)⟩
      · exact h'
    split
    · rename_i hp
      split
      · rw [rightL_iff]
        exact ⟨by simp [byteL]; omega, fun h => absurd h hr, a3, by rw [textOk_app, a4, byteL_ok h0 h1, hp]; rfl, a5⟩
      · exact h'
    · exact h'
theorem rub_len : ∀ k, (rub k).length = 3 * k
  | 0 => rfl
  | k + 1 => by
    have := rub_len k
    unfold rub at *
    simp [Lib.repeatL] at *
    try omega
theorem typeF_echo {l : Line} (h : rightL l = true) (n : Int) : (typeF l n).2.length ≤ 3072 := by
  obtain ⟨a1, a2, a3, a4, a5⟩ := (rightL_iff l).1 h
  have h2 := erasedN_le l.text n
  have h3 := rub_len (erasedN l.text n)
  unfold typeF eraseF
  split
  · split <;> simp
  split
  · simp only; omega
  split
  · split <;> simp
  split
  · split <;> simp
  split
  · split <;> simp [byteL]
  · simp
/-- All bytes of a text are typed. -/
def feedF : Line → List UInt8 → Line × List UInt8
  | l, [] => (l, [])
  | l, c :: s => ((feedF (typeF l (c.toNat : Int)).1 s).1, (typeF l (c.toNat : Int)).2 ++ (feedF (typeF l (c.toNat : Int)).1 s).2)
theorem feedF_app : ∀ (a : List UInt8) (l : Line) (b : List UInt8), feedF l (a ++ b) = ((feedF (feedF l a).1 b).1, (feedF l a).2 ++ (feedF (feedF l a).1 b).2)
  | [], l, b => by simp [feedF]
  | c :: a, l, b => by
    rw [List.cons_append, feedF, feedF_app a, feedF]
    simp
theorem feedF_snoc (a : List UInt8) (l : Line) (c : UInt8) : feedF l (a ++ [c]) = ((typeF (feedF l a).1 (c.toNat : Int)).1, (feedF l a).2 ++ (typeF (feedF l a).1 (c.toNat : Int)).2) := by
  rw [feedF_app]; simp [feedF]
theorem byte255 (c : UInt8) : 0 ≤ (c.toNat : Int) ∧ (c.toNat : Int) ≤ 255 := by have := c.toNat_lt; omega
theorem feedF_right : ∀ (s : List UInt8) {l : Line}, rightL l = true → rightL (feedF l s).1 = true
  | [], l, h => h
  | c :: s, l, h => feedF_right s (typeF_right h (byte255 c).1 (byte255 c).2)
theorem feedF_echo : ∀ (s : List UInt8) {l : Line}, rightL l = true → (feedF l s).2.length ≤ 3072 * s.length
  | [], l, h => by simp [feedF]
  | c :: s, l, h => by
    have := feedF_echo s (typeF_right h (byte255 c).1 (byte255 c).2)
    have := typeF_echo h (c.toNat : Int)
    simp only [feedF, List.length_append, List.length_cons]
    omega
def readN (count : Int) (f : List UInt8) : Nat := (min (max count 0) (f.length : Int)).toNat
def readF (l : Line) (count : Int) : Line × List UInt8 × Bool :=
  match l.ready with
  | [] => (l, [], true)
  | f :: ss => if readN count f = f.length then (⟨l.raw, l.text, ss⟩, f, false) else (⟨l.raw, l.text, f.drop (readN count f) :: ss⟩, f.take (readN count f), false)
def setRawF (l : Line) (raw : Bool) : Line :=
  if raw = true ∧ l.raw = false ∧ l.text ≠ [] then ⟨raw, [], if l.ready.length < 1024 then l.ready ++ [l.text] else l.ready⟩ else ⟨raw, l.text, l.ready⟩
theorem readF_right {l : Line} (h : rightL l = true) (count : Int) : rightL (readF l count).1 = true := by
  have h' := h
  obtain ⟨a1, a2, a3, a4, a5⟩ := (rightL_iff l).1 h
  unfold readF
  split
  · exact h'
  · rename_i f ss hl
    rw [hl] at a3 a5
    simp only [List.length_cons] at a3
    split
    · rw [rightL_iff]
      exact ⟨a1, a2, by simp only; omega, a4, fun s hs => a5 s (List.mem_cons_of_mem _ hs)⟩
    · rw [rightL_iff]
      refine ⟨a1, a2, by simp only [List.length_cons]; omega, a4, fun s hs => ?_⟩
      rcases List.mem_cons.1 hs with rfl | hs
      · have := a5 f (List.mem_cons_self ..); simp only [List.length_drop]; omega
      · exact a5 s (List.mem_cons_of_mem _ hs)
theorem setRawF_right {l : Line} (h : rightL l = true) (raw : Bool) : rightL (setRawF l raw) = true := by
  obtain ⟨a1, a2, a3, a4, a5⟩ := (rightL_iff l).1 h
  unfold setRawF
  split
  · rw [rightL_iff]
    refine ⟨by simp, fun _ => rfl, ?_, rfl, ?_⟩
    · simp only; split
      · simp; omega
      · exact a3
    · simp only; split
      · intro x hx
        rcases List.mem_append.1 hx with hx | hx
        · exact a5 x hx
        · simp at hx; subst hx; omega
      · exact a5
  · rename_i hn
    rw [rightL_iff]
    refine ⟨a1, fun hr => ?_, a3, a4, a5⟩
    simp only at hr ⊢
    subst hr
    cases hl : l.raw
    · by_cases ht : l.text = []
      · exact ht
      · exact absurd ⟨rfl, hl, ht⟩ hn
    · exact a2 hl
-- printable texts
theorem typeF_pr {l : Line} {n : Int} (hr : l.raw = false) (hp : prB n = true) (hn : l.text.length < 1024) : typeF l n = (⟨l.raw, l.text ++ byteL n, l.ready⟩, byteL n) := by
  have h : ¬ (n = 8 ∨ n = 127 ∨ n = 21 ∨ n = 23) ∧ ¬ (n = 10 ∨ n = 13) ∧ ¬ n = 4 := by
    simp [prB] at hp; omega
  unfold typeF
  rw [if_neg (by simp [hr]), if_neg h.1, if_neg h.2.1, if_neg h.2.2, if_pos hp, if_pos hn]
theorem byteL_toNat (c : UInt8) : byteL (c.toNat : Int) = [c] := by
  unfold byteL
  rw [Int.toNat_natCast]; simp
theorem feedF_pr : ∀ (s : List UInt8) {l : Line}, l.raw = false → textOk s = true → l.text.length + s.length ≤ 1024 → feedF l s = (⟨l.raw, l.text ++ s, l.ready⟩, s)
  | [], l, hr, hp, hn => by simp [feedF]
  | c :: s, l, hr, hp, hn => by
    simp only [List.length_cons] at hn
    have h1 : prB (c.toNat : Int) = true ∧ textOk s = true := by simpa [textOk] using hp
    rw [feedF, typeF_pr hr h1.1 (by omega), byteL_toNat]
    rw [feedF_pr s (l := ⟨l.raw, l.text ++ [c], l.ready⟩) hr h1.2 (by simp; omega)]
    simp
def delN : Nat → Line → Line
  | 0, l => l
  | k + 1, l => delN k (typeF l 127).1
theorem type127 {l : Line} (hr : l.raw = false) : (typeF l 127).1 = ⟨l.raw, l.text.take (l.text.length - 1), l.ready⟩ := by
  unfold typeF
  rw [if_neg (by simp [hr]), if_pos (by omega)]
  unfold eraseF erasedN
  simp only
  rw [if_neg (by omega), if_neg (by omega)]
  congr 2
  by_cases h : l.text.length = 0
  · simp [List.length_eq_zero_iff.1 h]
  · congr 1; omega
end Go.Proofs.YtdbbpibfejchfaaGreatDoor
namespace Go.Proofs.YtdbbpibfejchfaaGreatDoor
open Go.RowKit
set_option maxRecDepth 100000
set_option linter.unusedVariables false
set_option linter.unusedSimpArgs false
structure dgC where
  b : Int
structure dgX where
  n : Int
  s : List UInt8
def dgSt (c : dgC) (x : dgX) : St := ⟨[(0, .int .i64 x.n), (1, .int .i64 c.b), (5, .str x.s)], []⟩
def dgUn (s : St) : Option (dgC × dgX) :=
  match s with
  | ⟨[(q0, .int .i64 n), (q1, .int .i64 b), (q2, .str s)], []⟩ => bif Nat.beq q0 0 && Nat.beq q1 1 && Nat.beq q2 5 then some (⟨b⟩, ⟨n, s⟩) else none
  | _ => none
def dgL (inv : dgC → dgX → dgX → Nat → Prop) : LoopS where
  C := dgC
  X := dgX
  st := dgSt
  un := dgUn
  ok := by
    intro s c x h
    unfold dgUn at h
    split at h
    · simp only [Bool.cond_eq_ite] at h
      split at h
      · rename_i hg
        simp only [Bool.and_eq_true, Nat.beq_eq] at hg
        obtain ⟨⟨rfl, rfl⟩, rfl⟩ := hg
        cases h
        rfl
      · cases h
    · cases h
  inv := inv

def dg_vc_1 (n b : Int) (I : dgC → dgX → dgX → Nat → Prop) (K : V → List Bk → Prop) (x4 : (dgL I).X) (m5 : Nat) : Prop :=
  (
    need (notB (eqI b 0)) (
    need (andB (leI 0 (addI IntKind.i64 (subI IntKind.i64 0 (x4.1.tmod b)) 1)) (leI (addI IntKind.i64 (subI IntKind.i64 0 (x4.1.tmod b)) 1) 16)) (
    need (andB (leI 0 (subI IntKind.i64 0 (x4.1.tmod b))) (leI (subI IntKind.i64 0 (x4.1.tmod b)) (addI IntKind.i64 (subI IntKind.i64 0 (x4.1.tmod b)) 1))) (
    need (catOk (cutS [48, 49, 50, 51, 52, 53, 54, 55, 56, 57, 97, 98, 99, 100, 101, 102] (subI IntKind.i64 0 (x4.1.tmod b)) (addI IntKind.i64 (subI IntKind.i64 0 (x4.1.tmod b)) 1)) x4.2) (
    need (notB (eqI b 0)) (
    ((dgC.mk b : (dgL I).C) = dgC.mk b) ∧ (
    ∃ m'6 : Nat, (m'6 < m5) ∧ (
    I (dgC.mk b) (dgX.mk n []) (dgX.mk (quoI IntKind.i64 x4.1 b) (catS (cutS [48, 49, 50, 51, 52, 53, 54, 55, 56, 57, 97, 98, 99, 100, 101, 102] (subI IntKind.i64 0 (x4.1.tmod b)) (addI IntKind.i64 (subI IntKind.i64 0 (x4.1.tmod b)) 1)) x4.2)) m'6))))))))
theorem dg_vc (n b : Int) (I : dgC → dgX → dgX → Nat → Prop) (K : V → List Bk → Prop) : vcF Tryz.prog cfgN (ctOf []) (lpOf [(2, dgL I)]) 82 [.int .i64 n, .int .i64 b] [] K = (
  (∃ m4 : Nat, (m4 < 18446744073709551616) ∧ (
  I (dgC.mk b) (dgX.mk n []) (dgX.mk n []) m4)) ∧ (
  ∀ x4 : (dgL I).X, ∀ m5 : Nat, (I (dgC.mk b) (dgX.mk n []) x4 m5) → (
  br (ltI x4.1 0) (dg_vc_1 n b I K x4 m5) (
    br (eqS x4.2 []) (dg_vc_1 n b I K x4 m5) (
      K (V.str x4.2) []))))) := by kernel_rfl

theorem digs_len (b : Nat) : ∀ (k u : Nat), (digs b k u).length ≤ k
  | 0, u => by simp [digs]
  | k + 1, u => by
    rcases Nat.lt_or_ge u b with h | h
    · rw [digs_lt h]; simp
    · rw [digs_ge h]
      have := digs_len b k (u / b)
      simp; omega
theorem hex_cut : ∀ d : Fin 16, cutS [48, 49, 50, 51, 52, 53, 54, 55, 56, 57, 97, 98, 99, 100, 101, 102] (d.val : Int) ((d.val + 1 : Nat) : Int) = [dgt d.val] := by decide +kernel
def dgI (b : Nat) (T : List UInt8) (x : dgX) (m : Nat) : Prop := ∃ (u f : Nat), x.n = -(u : Int) ∧ u ≤ 9223372036854775808 ∧ u < b ^ f ∧ 1 ≤ f ∧ m = u + (if x.s = [] then 1 else 0) ∧ (x.s = [] ∨ 0 < u → digs b f u ++ x.s = T) ∧ (x.s ≠ [] → u = 0 → x.s = T) ∧ x.s.length ≤ 64
theorem dg_step {b u f : Nat} (hb : 2 ≤ b) (hf : u < b ^ f) (hf1 : 1 ≤ f) {s T : List UInt8} (h : digs b f u ++ s = T) (hu : b ≤ u) : u / b < b ^ (f - 1) ∧ 1 ≤ f - 1 ∧ digs b (f - 1) (u / b) ++ dgt (u % b) :: s = T := by
  obtain ⟨g, rfl⟩ : ∃ g, f = g + 1 := ⟨f - 1, by omega⟩
  have h1 : u / b < b ^ g := by rw [Nat.div_lt_iff_lt_mul (by omega), ← Nat.pow_succ]; exact hf
  refine ⟨h1, ?_, ?_⟩
  · rcases Nat.eq_zero_or_pos g with rfl | h0
    · simp at hf; omega
    · exact h0
  · rw [digs_ge hu] at h
    rw [← h]; simp
theorem dg_run {n : Nat} (hn : 1 ≤ n) {a b : Int} (h1 : a ≤ 0) (h2 : -9223372036854775808 ≤ a) (h3 : 2 ≤ b) (h4 : b ≤ 16) : ∃ r out, evalF Tryz.prog cfgN n 82 [.int .i64 a, .int .i64 b] [] = some (r, out) ∧ r = .str (digs b.toNat 64 a.natAbs) ∧ out = [] := by
  obtain ⟨B, rfl⟩ : ∃ B : Nat, b = (B : Int) := ⟨b.toNat, by omega⟩
  refine run_of (lp := lpOf [(2, dgL fun _ _ x m => dgI B (digs B 64 a.natAbs) x m)]) hn (fun k _ => noCt_ok _) ?_
  rw [dg_vc]
  have hp : (9223372036854775808 : Nat) < 2 ^ 64 := by decide
  have hp2 : (2 : Nat) ^ 64 ≤ B ^ 64 := Nat.pow_le_pow_left (by omega) 64
  refine ⟨⟨a.natAbs + 1, by omega, a.natAbs, 64, (by simp only; omega), by omega, by omega, by omega, by simp, by simp, by simp, by simp⟩, ?_⟩
  rintro ⟨xn, s⟩ m ⟨u, f, rfl, hu, hf, hf1, hm, hT, hT0, hs⟩
  simp only at hm hT hT0 hs
  unfold dg_vc_1
  have hB : 0 < B := by omega
  have hmod : u % B < B := Nat.mod_lt _ hB
  have e1 : (-(u : Int)).tmod (B : Int) = -((u % B : Nat) : Int) := by rw [Int.neg_tmod]; rfl
  have e2 : subI .i64 0 (-((u % B : Nat) : Int)) = ((u % B : Nat) : Int) := by rw [subI_i64 (by omega) (by omega)]; omega
  have e3 : addI .i64 ((u % B : Nat) : Int) 1 = ((u % B + 1 : Nat) : Int) := by rw [addI_i64 (by omega) (by omega)]; omega
  have e4 : quoI .i64 (-(u : Int)) (B : Int) = -((u / B : Nat) : Int) := by
    unfold quoI
    rw [Int.neg_tdiv]
    have := Nat.div_le_self u B
    have e : (u : Int).tdiv (B : Int) = ((u / B : Nat) : Int) := rfl
    rw [e]
    generalize u / B = q at this ⊢
    exact wrap64 (by omega) (by omega)
  have e5 : cutS [48, 49, 50, 51, 52, 53, 54, 55, 56, 57, 97, 98, 99, 100, 101, 102] ((u % B : Nat) : Int) ((u % B + 1 : Nat) : Int) = [dgt (u % B)] := hex_cut ⟨u % B, by omega⟩
  simp only [e1, e2, e3, e4, e5]
  have key : (s = [] ∨ 0 < u) → need (notB (eqI (B : Int) 0)) (need (andB (leI 0 ((u % B + 1 : Nat) : Int)) (leI ((u % B + 1 : Nat) : Int) 16)) (need (andB (leI 0 ((u % B : Nat) : Int)) (leI ((u % B : Nat) : Int) ((u % B + 1 : Nat) : Int)))
      (need (catOk [dgt (u % B)] s) (need (notB (eqI (B : Int) 0)) (True ∧ ∃ m' : Nat, m' < m ∧ dgI B (digs B 64 a.natAbs) (dgX.mk (-((u / B : Nat) : Int)) (catS [dgt (u % B)] s)) m'))))) := by
    intro hor
    have hTT := hT hor
    have hlen : s.length < 64 := by
      have h64 := digs_len B 64 a.natAbs
      rw [← hTT] at h64
      have := digs_ne_nil (b := B) (u := u) hf1
      have : 1 ≤ (digs B f u).length := List.length_pos_iff.2 this
      simp at h64; omega
    simp only [need_iff]
    refine ⟨by simp [notB, eqI]; omega, by simp [andB, leI]; omega, by simp [andB, leI]; omega, by rw [catOk_t]; simp; omega, by simp [notB, eqI]; omega, trivial, u / B, ?_, ?_⟩
    · rw [hm]
      rcases hor with rfl | h0
      · have := Nat.div_le_self u B
        simp; omega
      · have := Nat.div_lt_self h0 (show 1 < B by omega)
        omega
    · rcases Nat.lt_or_ge u B with hlt | hge
      · refine ⟨0, 1, ?_, by omega, by simp; omega, by omega, ?_, ?_, ?_, ?_⟩
        · simp [Nat.div_eq_of_lt hlt]
        · simp [Nat.div_eq_of_lt hlt, catS]
        · simp [catS]
        · intro _ _
          obtain ⟨g, rfl⟩ : ∃ g, f = g + 1 := ⟨f - 1, by omega⟩
          rw [digs_lt hlt] at hTT
          rw [Nat.mod_eq_of_lt hlt]
          exact hTT
        · simp [catS]; omega
      · obtain ⟨q1, q2, q3⟩ := dg_step (by omega) hf hf1 hTT hge
        have := Nat.div_le_self u B
        have := Nat.div_pos hge hB
        refine ⟨u / B, f - 1, rfl, by omega, q1, q2, by simp [catS], fun _ => q3, fun _ h0 => by omega, by simp [catS]; omega⟩
  rw [br_iff]
  refine ⟨fun hlt => key (.inr (by simp [ltI] at hlt; omega)), fun hge => ?_⟩
  rw [br_iff]
  refine ⟨fun he => key (.inl (by simpa [eqS, strEq] using he)), fun he => ?_⟩
  have h0 : u = 0 := by simp [ltI] at hge; omega
  have hne : s ≠ [] := by simpa [eqS, strEq] using he
  exact ⟨by rw [hT0 hne h0]; rfl, trivial⟩
theorem tx_vc (n b : Int) (K : V → List Bk → Prop) : vcF Tryz.prog cfgN (ctOf [(89, inlC Tryz.prog cfgN (ctOf []) 89)]) (lpOf []) 68 [.int .i64 n, .int .i64 b] [] K = (
  br (eqI b 8) (
    need (andB (inI64 n) (orB (orB (eqI b 8) (eqI b 16)) (eqI b 10))) (
    K (V.str (textN b.toNat n)) [])) (
    br (eqI b 10) (
      need (andB (inI64 n) (orB (orB (eqI b 8) (eqI b 16)) (eqI b 10))) (
      K (V.str (textN b.toNat n)) [])) (
      br (notB (eqI b 16)) (
        K (V.str []) []) (
        need (andB (inI64 n) (orB (orB (eqI b 8) (eqI b 16)) (eqI b 10))) (
        K (V.str (textN b.toNat n)) []))))) := by kernel_rfl

def dgCon : Con := fun vs bs K => match vs, bs with
  | [.int .i64 n, .int .i64 b], [] => need (andB (leI n 0) (leI (-9223372036854775808) n)) (need (andB (leI 2 b) (leI b 16)) (K (.str (digs b.toNat 64 n.natAbs)) []))
  | _, _ => False

def rt_vc_1 (n b : Int) (K : V → List Bk → Prop) : Prop :=
  (
    br (ltI n 0) (
      need (andB (leI n 0) (leI (-9223372036854775808) n)) (
      need (andB (leI 2 b) (leI b 16)) (
      need (catOk [45] (digs b.toNat 64 n.natAbs)) (
      K (V.str (45 :: digs b.toNat 64 n.natAbs)) [])))) (
      need (andB (leI (subI IntKind.i64 0 n) 0) (leI (-9223372036854775808) (subI IntKind.i64 0 n))) (
      need (andB (leI 2 b) (leI b 16)) (
      K (V.str (digs b.toNat 64 (subI IntKind.i64 0 n).natAbs)) []))))
theorem rt_vc (n b : Int) (K : V → List Bk → Prop) : vcF Tryz.prog cfgN (ctOf [(81, inlC Tryz.prog cfgN (ctOf []) 81), (82, dgCon)]) (lpOf []) 56 [.int .i64 n, .int .i64 b] [] K = (
  br (eqI b 8) (rt_vc_1 n b K) (
    br (eqI b 10) (rt_vc_1 n b K) (
      br (notB (eqI b 16)) (
        K (V.str []) []) (rt_vc_1 n b K)))) := by kernel_rfl

theorem dg_con {n : Nat} (hn : 1 ≤ n) : ConOk (evalF Tryz.prog cfgN n) 82 dgCon := by
  intro vs bs K h
  unfold dgCon at h
  split at h
  · rename_i a b
    simp only [need_iff, andB, leI, Bool.and_eq_true, decide_eq_true_eq] at h
    obtain ⟨⟨h1, h2⟩, ⟨h3, h4⟩, hK⟩ := h
    obtain ⟨r, out, e, rfl, rfl⟩ := dg_run hn h1 h2 h3 h4
    exact ⟨_, _, e, hK⟩
  · exact h.elim
/-- A number's text; the empty text if the base is none. -/
def textF (a b : Int) : List UInt8 := if b = 8 ∨ b = 10 ∨ b = 16 then textN b.toNat a else []
theorem text_run {n : Nat} (hn : 2 ≤ n) {a b : Int} (h1 : -9223372036854775808 ≤ a) (h2 : a ≤ 9223372036854775807) : ∃ r out, evalF Tryz.prog cfgN n 68 [.int .i64 a, .int .i64 b] [] = some (r, out) ∧ r = .str (textF a b) ∧ out = [] := by
  refine run_of (lp := lpOf []) (ct := ctOf [(89, inlC Tryz.prog cfgN (ctOf []) 89)]) (by omega) (fun k hk => ctOf_ok (ctOf_cons (inl_ok (by omega) fun _ _ => noCt_ok _) (ctOf_nil _))) ?_
  rw [tx_vc]
  have hin : inI64 a = true := by simp [inI64, h1, h2]
  simp only [br_iff, need_iff, hin, andB, orB, notB, eqI, Bool.true_and, Bool.or_eq_true, Bool.not_eq_true', decide_eq_true_eq, decide_eq_false_iff_not, Bool.not_eq_false']
  refine ⟨fun h => ⟨by omega, by simp [textF, h], trivial⟩, fun h => ⟨fun h' => ⟨by omega, by simp [textF, h'], trivial⟩, fun h' => ⟨fun h'' => ⟨by simp [textF, h, h', h''], trivial⟩, fun h'' => ⟨by omega, by simp [textF, h''], trivial⟩⟩⟩⟩
theorem rtext_run {n : Nat} (hn : 2 ≤ n) {a b : Int} (h1 : -9223372036854775808 ≤ a) (h2 : a ≤ 9223372036854775807) : ∃ r out, evalF Tryz.prog cfgN n 56 [.int .i64 a, .int .i64 b] [] = some (r, out) ∧ r = .str (textF a b) ∧ out = [] := by
  refine run_of (lp := lpOf []) (ct := ctOf [(81, inlC Tryz.prog cfgN (ctOf []) 81), (82, dgCon)]) (by omega) (fun k hk => ctOf_ok (ctOf_cons (inl_ok (by omega) fun _ _ => noCt_ok _) (ctOf_cons (dg_con (by omega)) (ctOf_nil _)))) ?_
  rw [rt_vc]
  have key : (b = 8 ∨ b = 10 ∨ b = 16) → br (ltI a 0) (need (andB (leI a 0) (leI (-9223372036854775808) a)) (need (andB (leI 2 b) (leI b 16)) (need (catOk [45] (digs b.toNat 64 a.natAbs)) (V.str (45 :: digs b.toNat 64 a.natAbs) = .str (textF a b) ∧ ([] : List Bk) = []))))
      (need (andB (leI (subI IntKind.i64 0 a) 0) (leI (-9223372036854775808) (subI IntKind.i64 0 a))) (need (andB (leI 2 b) (leI b 16)) (V.str (digs b.toNat 64 (subI IntKind.i64 0 a).natAbs) = .str (textF a b) ∧ ([] : List Bk) = []))) := by
    intro hb
    have hx : textF a b = textN b.toNat a := by simp [textF, hb]
    have hlen := digs_len b.toNat 64 a.natAbs
    simp only [br_iff, need_iff, andB_t, andB_f, orB_t, orB_f, notB_t, notB_f, leI_t, leI_f, ltI_t, ltI_f, eqI_t, eqI_f, leN_t, leN_f, eqN_t, eqN_f, eqS_t, eqS_f, eqB_t, eqB_f, catOk_t, leC_t, lenS]
    refine ⟨fun h => ⟨by omega, by omega, by simp; omega, ?_, trivial⟩, fun h => ?_⟩
    · rw [hx]
      cases a with
      | ofNat u => exact absurd h (by simp)
      | negSucc u => rfl
    · have hs : subI .i64 0 a = -a := by rw [subI_i64 (by omega) (by omega)]; omega
      rw [hs]
      refine ⟨by omega, by omega, ?_, trivial⟩
      rw [hx]
      cases a with
      | ofNat u => simp [textN]
      | negSucc u => exact absurd (Int.negSucc_lt_zero u) (by omega)
  rw [br_iff]
  refine ⟨fun h => key (.inl (by simpa [eqI] using h)), fun h => ?_⟩
  rw [br_iff]
  refine ⟨fun h' => key (.inr (.inl (by simpa [eqI] using h'))), fun h' => ?_⟩
  rw [br_iff]
  refine ⟨fun h'' => ⟨?_, rfl⟩, fun h'' => key (.inr (.inr (by simpa [notB, eqI] using h'')))⟩
  simp only [notB, eqI, Bool.not_eq_true', decide_eq_false_iff_not] at h h' h''
  simp [textF, h, h', h'']
end Go.Proofs.YtdbbpibfejchfaaGreatDoor
namespace Go.Proofs.YtdbbpibfejchfaaGreatDoor
open Go.RowKit
set_option maxRecDepth 100000
set_option linter.unusedVariables false
set_option linter.unusedSimpArgs false
structure paC where
  s : List UInt8
  b : Int
  most : Int
  cnt : Int
structure paX where
  n : Int
  i : Int
def paSt (c : paC) (x : paX) : St := ⟨[(0, .str c.s), (1, .int .i64 c.b), (2, .int .i64 c.most), (8, .int .i64 x.n), (31, .int .i64 c.cnt), (32, .int .i64 x.i)], []⟩
set_option maxHeartbeats 4000000 in
def paUn (s : St) : Option (paC × paX) :=
  match s with
  | ⟨[(q0, .str s), (q1, .int .i64 b), (q2, .int .i64 most), (q3, .int .i64 n), (q4, .int .i64 cnt), (q5, .int .i64 i)], []⟩ => bif Nat.beq q0 0 && Nat.beq q1 1 && Nat.beq q2 2 && Nat.beq q3 8 && Nat.beq q4 31 && Nat.beq q5 32 then some (⟨s, b, most, cnt⟩, ⟨n, i⟩) else none
  | _ => none
set_option maxHeartbeats 4000000 in
def paL (inv : paC → paX → paX → Nat → Prop) : LoopS where
  C := paC
  X := paX
  st := paSt
  un := paUn
  ok := by
    intro s c x h
    unfold paUn at h
    split at h
    · simp only [Bool.cond_eq_ite] at h
      split at h
      · rename_i hg
        simp only [Bool.and_eq_true, Nat.beq_eq] at hg
        obtain ⟨⟨⟨⟨⟨rfl, rfl⟩, rfl⟩, rfl⟩, rfl⟩, rfl⟩ := hg
        cases h
        rfl
      · cases h
    · cases h
  inv := inv

theorem dgt_vc (c : Int) (K : V → List Bk → Prop) : vcF Tryz.prog cfgN (ctOf []) (lpOf []) 95 [.int .u8 c] [] K = (
  br (leI 48 c) (
    br (leI c 57) (
      K (V.int IntKind.i64 (wrapI IntKind.i64 (subI IntKind.u8 c 48))) []) (
      br (leI 97 c) (
        br (leI c 102) (
          K (V.int IntKind.i64 (addI IntKind.i64 (wrapI IntKind.i64 (subI IntKind.u8 c 97)) 10)) []) (
          K (V.int IntKind.i64 16) [])) (
        K (V.int IntKind.i64 16) []))) (
    br (leI 97 c) (
      br (leI c 102) (
        K (V.int IntKind.i64 (addI IntKind.i64 (wrapI IntKind.i64 (subI IntKind.u8 c 97)) 10)) []) (
        K (V.int IntKind.i64 16) [])) (
      K (V.int IntKind.i64 16) []))) := by kernel_rfl

theorem dgt_run {n : Nat} (hn : 1 ≤ n) {c : Int} (h0 : 0 ≤ c) (h1 : c < 256) : ∃ r out, evalF Tryz.prog cfgN n 95 [.int .u8 c] [] = some (r, out) ∧ r = .int .i64 (if 48 ≤ c ∧ c ≤ 57 then c - 48 else if 97 ≤ c ∧ c ≤ 102 then c - 87 else 16) ∧ out = [] := by
  refine run_of (lp := lpOf []) hn (fun k _ => noCt_ok _) ?_
  rw [dgt_vc]
  have e1 : 48 ≤ c → c ≤ 57 → wrapI .i64 (subI .u8 c 48) = c - 48 := fun a b => by unfold wrapI subI; rw [wrapU8 (by omega) (by omega), wrap64 (by omega) (by omega)]
  have e2 : 97 ≤ c → c ≤ 102 → addI .i64 (wrapI .i64 (subI .u8 c 97)) 10 = c - 87 := fun a b => by
    unfold wrapI subI; rw [wrapU8 (by omega) (by omega), wrap64 (by omega) (by omega), addI_i64 (by omega) (by omega)]; omega
  simp only [br_iff, need_iff, andB_t, andB_f, orB_t, orB_f, notB_t, notB_f, leI_t, leI_f, ltI_t, ltI_f, eqI_t, eqI_f, leN_t, leN_f, eqN_t, eqN_f, eqS_t, eqS_f, eqB_t, eqB_f, catOk_t, leC_t]
  refine ⟨fun h => ⟨fun h' => ⟨by rw [e1 h h', if_pos ⟨h, h'⟩], trivial⟩, fun h' => ⟨fun g => ⟨fun g' => ⟨by rw [e2 g g', if_neg (by omega), if_pos ⟨g, g'⟩], trivial⟩, fun g' => ⟨by rw [if_neg (by omega), if_neg (by omega)], trivial⟩⟩, fun g => ⟨by rw [if_neg (by omega), if_neg (by omega)], trivial⟩⟩⟩,
    fun h => ⟨fun g => ⟨fun g' => ⟨by rw [e2 g g', if_neg (by omega), if_pos ⟨g, g'⟩], trivial⟩, fun g' => ⟨by rw [if_neg (by omega), if_neg (by omega)], trivial⟩⟩, fun g => ⟨by rw [if_neg (by omega), if_neg (by omega)], trivial⟩⟩⟩
def dvI (c : Int) : Int := if 48 ≤ c ∧ c ≤ 57 then c - 48 else if 97 ≤ c ∧ c ≤ 102 then c - 87 else 16

def dvR (c : Int) : Int := if 48 ≤ c ∧ c ≤ 57 then c - 48 else if 97 ≤ c ∧ c ≤ 102 then c - 87 else -1

def par_vc_2 (s : List UInt8) (b most : Int) (I : paC → paX → paX → Nat → Prop) (K : V → List Bk → Prop) : Prop :=
  (
            (∃ m5 : Nat, (((m5 : Nat) < 18446744073709551616)) ∧ (
            I (paC.mk s b most (lenS s)) (paX.mk 0 0) (paX.mk 0 0) m5)) ∧ (
            ∀ x5 : (paL I).X, ∀ m6 : Nat, (I (paC.mk s b most (lenS s)) (paX.mk 0 0) x5 m6) → (
            br (ltI x5.2 (lenS s)) (
              need (andB (leI 0 x5.2) (ltI x5.2 (lenS s))) (
              need (andB true (ltI (atS s x5.2) 256)) (
              br (leI b (dvI (atS s x5.2))) (
                K (V.tup [V.int IntKind.i64 0, V.int IntKind.i64 5]) []) (
                need (notB (eqI b 0)) (
                br (ltI (quoI IntKind.i64 (subI IntKind.i64 most (dvI (atS s x5.2))) b) x5.1) (
                  K (V.tup [V.int IntKind.i64 0, V.int IntKind.i64 5]) []) (
                  br (ltI most (dvI (atS s x5.2))) (
                    K (V.tup [V.int IntKind.i64 0, V.int IntKind.i64 5]) []) (
                    ((paC.mk s b most (lenS s) : (paL I).C) = paC.mk s b most (lenS s)) ∧ (
                    ∃ m'7 : Nat, (((m'7 : Nat) < m6)) ∧ (
                    I (paC.mk s b most (lenS s)) (paX.mk 0 0) (paX.mk (addI IntKind.i64 (mulI IntKind.i64 x5.1 b) (dvI (atS s x5.2))) (addI IntKind.i64 x5.2 1)) m'7))))))))) (
              K (V.tup [V.int IntKind.i64 x5.1, V.int IntKind.i64 0]) []))))
def par_vc_1 (s : List UInt8) (b most : Int) (I : paC → paX → paX → Nat → Prop) (K : V → List Bk → Prop) : Prop :=
  (
    br (ltI most 0) (
      K (V.tup [V.int IntKind.i64 0, V.int IntKind.i64 1]) []) (
      br (eqS s []) (
        K (V.tup [V.int IntKind.i64 0, V.int IntKind.i64 5]) []) (
        br (ltI 1 (lenS s)) (
          need (andB true (ltI 0 (lenS s))) (
          br (eqI (atS s 0) 48) (
            K (V.tup [V.int IntKind.i64 0, V.int IntKind.i64 5]) []) (par_vc_2 s b most I K))) (par_vc_2 s b most I K))))
theorem par_vc (s : List UInt8) (b most : Int) (I : paC → paX → paX → Nat → Prop) (K : V → List Bk → Prop) : vcF Tryz.prog cfgN (ctOf [(89, inlC Tryz.prog cfgN (ctOf []) 89), (95, fun vs bs K => match vs, bs with | [.int .u8 c], [] => need (andB (leI 0 c) (ltI c 256)) (K (.int .i64 (dvI c)) []) | _, _ => False)]) (lpOf [(7, paL I)]) 75 [.str s, .int .i64 b, .int .i64 most] [] K = (
  br (eqI b 8) (par_vc_1 s b most I K) (
    br (eqI b 10) (par_vc_1 s b most I K) (
      br (notB (eqI b 16)) (
        K (V.tup [V.int IntKind.i64 0, V.int IntKind.i64 1]) []) (par_vc_1 s b most I K)))) := by kernel_rfl

theorem quoI_t64 {a b : Int} (h1 : -9223372036854775807 ≤ a) (h2 : a ≤ 9223372036854775807) (hb : 1 ≤ b) : quoI .i64 a b = a.tdiv b := by
  unfold quoI
  have h := Int.natAbs_tdiv_le_natAbs a b
  exact wrap64 (by omega) (by omega)
/-- A digit's value; 16 for a byte that is none. -/
def dv (c : UInt8) : Int := dvI (c.toNat : Int)
theorem dv_nonneg (c : UInt8) : 0 ≤ dv c ∧ dv c ≤ 16 := by
  unfold dv dvI
  have := c.toNat_lt
  split
  · omega
  · split <;> omega
theorem dvR_dv (c : UInt8) : dvR (c.toNat : Int) = if dv c = 16 then -1 else dv c := by
  unfold dv dvI dvR
  have := c.toNat_lt
  split
  · rw [if_neg (by omega)]
  · split
    · rw [if_neg (by omega)]
    · rw [if_pos rfl]
def parseGo (b most : Int) : List UInt8 → Int → Option Int
  | [], n => some n
  | c :: t, n => if b ≤ dv c ∨ most < dv c ∨ (most - dv c).tdiv b < n then none else parseGo b most t (n * b + dv c)
def parseF (s : List UInt8) (b most : Int) : V :=
  if ¬ (b = 8 ∨ b = 10 ∨ b = 16) ∨ most < 0 then .tup [.int .i64 0, .int .i64 1]
  else if s = [] ∨ (1 < s.length ∧ s.head? = some 48) then .tup [.int .i64 0, .int .i64 5]
  else match parseGo b most s 0 with
    | some n => .tup [.int .i64 n, .int .i64 0]
    | none => .tup [.int .i64 0, .int .i64 5]
theorem parse_step {b most n : Int} {c : UInt8} {t : List UInt8} (hb : 2 ≤ b) (hn : 0 ≤ n) (h1 : ¬ b ≤ dv c) (h2 : ¬ most < dv c) (h3 : ¬ (most - dv c).tdiv b < n) : parseGo b most (c :: t) n = parseGo b most t (n * b + dv c) ∧ 0 ≤ n * b + dv c ∧ n * b + dv c ≤ most ∧ n * b ≤ most ∧ 0 ≤ n * b := by
  have hd := dv_nonneg c
  refine ⟨by simp only [parseGo]; rw [if_neg (by rintro (h | h | h); exact h1 h; exact h2 h; exact h3 h)], ?_⟩
  have hnb : 0 ≤ n * b := Int.mul_nonneg hn (by omega)
  rw [Int.tdiv_eq_ediv_of_nonneg (by omega)] at h3
  have : n * b ≤ most - dv c := (Int.le_ediv_iff_mul_le (by omega)).1 (by omega)
  omega
theorem parse_fail {b most n : Int} {c : UInt8} {t : List UInt8} (h : b ≤ dv c ∨ most < dv c ∨ (most - dv c).tdiv b < n) : parseGo b most (c :: t) n = none := by
  simp only [parseGo]; rw [if_pos h]
def paI (s : List UInt8) (b most : Int) (n i : Int) (m : Nat) : Prop := ∃ k : Nat, i = (k : Int) ∧ k + m = s.length ∧ parseGo b most (s.drop k) n = parseGo b most s 0 ∧ 0 ≤ n ∧ n ≤ most
theorem pa_loop {s : List UInt8} {b most : Int} (hs : s.length ≤ 4611686018427387904) (hb : b = 8 ∨ b = 10 ∨ b = 16) (hm0 : 0 ≤ most) (hm : most ≤ 9223372036854775807) (hne : ¬ (s = [] ∨ (1 < s.length ∧ s.head? = some 48))) :
    par_vc_2 s b most (fun _ _ x m => paI s b most x.n x.i m) (fun r out => r = parseF s b most ∧ out = []) := by
  unfold par_vc_2
  refine ⟨⟨s.length, by omega, 0, rfl, by omega, rfl, by simp only; omega, hm0⟩, ?_⟩
  rintro ⟨n, i⟩ m ⟨k, rfl, hk, hp, hn0, hn1⟩
  have hF : parseF s b most = match parseGo b most s 0 with
      | some n => .tup [.int .i64 n, .int .i64 0]
      | none => .tup [.int .i64 0, .int .i64 5] := by
    unfold parseF
    rw [if_neg (by rintro (h | h); exact h hb; omega), if_neg hne]
  simp only at hp hn0 hn1 ⊢
  rw [br_iff]
  refine ⟨fun hlt => ?_, fun hge => ?_⟩
  · have hlt : k < s.length := by simp only [br_iff, need_iff, andB_t, andB_f, orB_t, orB_f, notB_t, notB_f, leI_t, leI_f, ltI_t, ltI_f, eqI_t, eqI_f, leN_t, leN_f, eqN_t, eqN_f, eqS_t, eqS_f, eqB_t, eqB_f, catOk_t, leC_t, lenS] at hlt; omega
    rw [List.drop_eq_getElem_cons hlt] at hp
    rw [atS_at hlt]
    have hc := (s[k]).toNat_lt
    have hd := dv_nonneg s[k]
    generalize s[k] = c at hp hc hd
    have hD : dvI (c.toNat : Int) = dv c := rfl
    have fail : (b ≤ dv c ∨ most < dv c ∨ (most - dv c).tdiv b < n) → V.tup [V.int IntKind.i64 0, V.int IntKind.i64 5] = parseF s b most ∧ ([] : List Bk) = [] := by
      intro h
      rw [hF, ← hp, parse_fail h]
      exact ⟨rfl, rfl⟩
    have e1 : subI .i64 most (dv c) = most - dv c := subI_i64 (by omega) (by omega)
    have e2 : quoI .i64 (most - dv c) b = (most - dv c).tdiv b := quoI_t64 (by omega) (by omega) (by omega)
    rw [hD, e1, e2]
    simp only [br_iff, need_iff, andB_t, andB_f, orB_t, orB_f, notB_t, notB_f, leI_t, leI_f, ltI_t, ltI_f, eqI_t, eqI_f, leN_t, leN_f, eqN_t, eqN_f, eqS_t, eqS_f, eqB_t, eqB_f, catOk_t, leC_t]
    refine ⟨⟨by omega, by simpa [lenS] using hlt⟩, ⟨trivial, by omega⟩, fun h => by simpa using fail (.inl h), fun h => ⟨by omega, fun h' => by simpa using fail (.inr (.inr h')), fun h' => ⟨fun h'' => by simpa using fail (.inr (.inl h'')), fun h'' => ?_⟩⟩⟩
    obtain ⟨g1, g2, g3, g4, g5⟩ := parse_step (b := b) (most := most) (c := c) (t := s.drop (k + 1)) (n := n) (by omega) hn0 (by omega) (by omega) (by omega)
    have e3 : mulI .i64 n b = n * b := mulI_i64 (by omega) (by omega)
    have e4 : addI .i64 (n * b) (dv c) = n * b + dv c := addI_i64 (by omega) (by omega)
    have e5 : addI .i64 (k : Int) 1 = ((k + 1 : Nat) : Int) := by rw [addI_i64 (by omega) (by omega)]; omega
    rw [e3, e4, e5]
    refine ⟨trivial, m - 1, by omega, k + 1, rfl, by omega, by rw [← hp, ← g1], g2, g3⟩
  · have hk2 : k = s.length := by simp only [br_iff, need_iff, andB_t, andB_f, orB_t, orB_f, notB_t, notB_f, leI_t, leI_f, ltI_t, ltI_f, eqI_t, eqI_f, leN_t, leN_f, eqN_t, eqN_f, eqS_t, eqS_f, eqB_t, eqB_f, catOk_t, leC_t, lenS] at hge; omega
    subst hk2
    rw [hF, ← hp, List.drop_length]
    exact ⟨rfl, by trivial⟩
theorem pa_run {n : Nat} (hn : 2 ≤ n) {s : List UInt8} {b most : Int} (hs : s.length ≤ 4611686018427387904) (hm1 : -9223372036854775808 ≤ most) (hm : most ≤ 9223372036854775807) : ∃ r out, evalF Tryz.prog cfgN n 75 [.str s, .int .i64 b, .int .i64 most] [] = some (r, out) ∧ r = parseF s b most ∧ out = [] := by
  refine run_of (lp := lpOf [(7, paL fun _ _ x m => paI s b most x.n x.i m)]) (ct := ctOf [(89, inlC Tryz.prog cfgN (ctOf []) 89), (95, fun vs bs K => match vs, bs with | [.int .u8 c], [] => need (andB (leI 0 c) (ltI c 256)) (K (.int .i64 (dvI c)) []) | _, _ => False)]) (by omega)
    (fun k hk => ctOf_ok (ctOf_cons (inl_ok (by omega) fun _ _ => noCt_ok _) (ctOf_cons ?_ (ctOf_nil _)))) ?_
  · intro vs bs K h
    try dsimp only at h
    split at h
    · simp only [br_iff, need_iff, andB_t, andB_f, orB_t, orB_f, notB_t, notB_f, leI_t, leI_f, ltI_t, ltI_f, eqI_t, eqI_f, leN_t, leN_f, eqN_t, eqN_f, eqS_t, eqS_f, eqB_t, eqB_f, catOk_t, leC_t] at h
      obtain ⟨r, out, e, rfl, rfl⟩ := dgt_run (n := k) (by omega) h.1.1 h.1.2
      exact ⟨_, _, e, h.2⟩
    · exact h.elim
  · rw [par_vc]
    have key : (b = 8 ∨ b = 10 ∨ b = 16) → par_vc_1 s b most (fun _ _ x m => paI s b most x.n x.i m) (fun r out => r = parseF s b most ∧ out = []) := by
      intro hb
      unfold par_vc_1
      simp only [br_iff]
      refine ⟨fun h => ?_, fun h => ⟨fun h1 => ?_, fun h1 => ⟨fun h2 => ?_, fun h2 => ?_⟩⟩⟩
      · simp only [br_iff, need_iff, andB_t, andB_f, orB_t, orB_f, notB_t, notB_f, leI_t, leI_f, ltI_t, ltI_f, eqI_t, eqI_f, leN_t, leN_f, eqN_t, eqN_f, eqS_t, eqS_f, eqB_t, eqB_f, catOk_t, leC_t] at h
        exact ⟨by simp [parseF, h], by trivial⟩
      · simp only [br_iff, need_iff, andB_t, andB_f, orB_t, orB_f, notB_t, notB_f, leI_t, leI_f, ltI_t, ltI_f, eqI_t, eqI_f, leN_t, leN_f, eqN_t, eqN_f, eqS_t, eqS_f, eqB_t, eqB_f, catOk_t, leC_t] at h h1
        exact ⟨by unfold parseF; rw [if_neg (by rintro (h' | h'); exact h' hb; omega), if_pos (.inl h1)], by trivial⟩
      · simp only [br_iff, need_iff, andB_t, andB_f, orB_t, orB_f, notB_t, notB_f, leI_t, leI_f, ltI_t, ltI_f, eqI_t, eqI_f, leN_t, leN_f, eqN_t, eqN_f, eqS_t, eqS_f, eqB_t, eqB_f, catOk_t, leC_t] at h h1
        have h2' : 1 < s.length := by simp only [br_iff, need_iff, andB_t, andB_f, orB_t, orB_f, notB_t, notB_f, leI_t, leI_f, ltI_t, ltI_f, eqI_t, eqI_f, leN_t, leN_f, eqN_t, eqN_f, eqS_t, eqS_f, eqB_t, eqB_f, catOk_t, leC_t, lenS] at h2; omega
        rw [need_iff]
        refine ⟨by simp only [br_iff, need_iff, andB_t, andB_f, orB_t, orB_f, notB_t, notB_f, leI_t, leI_f, ltI_t, ltI_f, eqI_t, eqI_f, leN_t, leN_f, eqN_t, eqN_f, eqS_t, eqS_f, eqB_t, eqB_f, catOk_t, leC_t, lenS]; simp; omega, ?_⟩
        obtain ⟨c, t, rfl⟩ : ∃ c t, s = c :: t := by cases s with
          | nil => simp at h2'
          | cons c t => exact ⟨c, t, rfl⟩
        have h0 : atS (c :: t) 0 = (c.toNat : Int) := rfl
        simp only [h0, br_iff]
        refine ⟨fun h3 => ?_, fun h3 => ?_⟩
        · have : c = 48 := by
            simp only [br_iff, need_iff, andB_t, andB_f, orB_t, orB_f, notB_t, notB_f, leI_t, leI_f, ltI_t, ltI_f, eqI_t, eqI_f, leN_t, leN_f, eqN_t, eqN_f, eqS_t, eqS_f, eqB_t, eqB_f, catOk_t, leC_t] at h3
            apply UInt8.toNat_inj.1
            simp; omega
          exact ⟨by unfold parseF; rw [if_neg (by rintro (h' | h'); exact h' hb; omega), if_pos (.inr ⟨h2', by simp [this]⟩)], by trivial⟩
        · refine pa_loop hs hb h hm ?_
          rintro (h' | ⟨_, h'⟩)
          · cases h'
          · simp only [br_iff, need_iff, andB_t, andB_f, orB_t, orB_f, notB_t, notB_f, leI_t, leI_f, ltI_t, ltI_f, eqI_t, eqI_f, leN_t, leN_f, eqN_t, eqN_f, eqS_t, eqS_f, eqB_t, eqB_f, catOk_t, leC_t] at h3
            simp at h'
            subst h'
            exact h3 rfl
      · simp only [br_iff, need_iff, andB_t, andB_f, orB_t, orB_f, notB_t, notB_f, leI_t, leI_f, ltI_t, ltI_f, eqI_t, eqI_f, leN_t, leN_f, eqN_t, eqN_f, eqS_t, eqS_f, eqB_t, eqB_f, catOk_t, leC_t] at h h1
        refine pa_loop hs hb h hm ?_
        rintro (h' | ⟨h', _⟩)
        · exact h1 h'
        · simp only [br_iff, need_iff, andB_t, andB_f, orB_t, orB_f, notB_t, notB_f, leI_t, leI_f, ltI_t, ltI_f, eqI_t, eqI_f, leN_t, leN_f, eqN_t, eqN_f, eqS_t, eqS_f, eqB_t, eqB_f, catOk_t, leC_t, lenS] at h2; omega
    simp only [br_iff]
    refine ⟨fun h => key (.inl (by simpa only [br_iff, need_iff, andB_t, andB_f, orB_t, orB_f, notB_t, notB_f, leI_t, leI_f, ltI_t, ltI_f, eqI_t, eqI_f, leN_t, leN_f, eqN_t, eqN_f, eqS_t, eqS_f, eqB_t, eqB_f, catOk_t, leC_t] using h)), fun h => ⟨fun h' => key (.inr (.inl (by simpa only [br_iff, need_iff, andB_t, andB_f, orB_t, orB_f, notB_t, notB_f, leI_t, leI_f, ltI_t, ltI_f, eqI_t, eqI_f, leN_t, leN_f, eqN_t, eqN_f, eqS_t, eqS_f, eqB_t, eqB_f, catOk_t, leC_t] using h'))), fun h' => ⟨fun h'' => ?_, fun h'' => key (.inr (.inr (by simpa only [br_iff, need_iff, andB_t, andB_f, orB_t, orB_f, notB_t, notB_f, leI_t, leI_f, ltI_t, ltI_f, eqI_t, eqI_f, leN_t, leN_f, eqN_t, eqN_f, eqS_t, eqS_f, eqB_t, eqB_f, catOk_t, leC_t] using h'')))⟩⟩⟩
    simp only [br_iff, need_iff, andB_t, andB_f, orB_t, orB_f, notB_t, notB_f, leI_t, leI_f, ltI_t, ltI_f, eqI_t, eqI_f, leN_t, leN_f, eqN_t, eqN_f, eqS_t, eqS_f, eqB_t, eqB_f, catOk_t, leC_t] at h h' h''
    exact ⟨by simp [parseF, h, h', h''], trivial⟩
end Go.Proofs.YtdbbpibfejchfaaGreatDoor
namespace Go.Proofs.YtdbbpibfejchfaaGreatDoor
open Go.RowKit
set_option maxRecDepth 100000
set_option linter.unusedVariables false
set_option linter.unusedSimpArgs false
structure rpC where
  s : List UInt8
  b : Int
  most : Int
structure rpX where
  n : Int
  i : Int
def rpSt (c : rpC) (x : rpX) : St := ⟨[(0, .str c.s), (1, .int .i64 c.b), (2, .int .i64 c.most), (8, .int .i64 x.n), (9, .int .i64 x.i)], []⟩
set_option maxHeartbeats 4000000 in
def rpUn (s : St) : Option (rpC × rpX) :=
  match s with
  | ⟨[(q0, .str s), (q1, .int .i64 b), (q2, .int .i64 most), (q3, .int .i64 n), (q4, .int .i64 i)], []⟩ => bif Nat.beq q0 0 && Nat.beq q1 1 && Nat.beq q2 2 && Nat.beq q3 8 && Nat.beq q4 9 then some (⟨s, b, most⟩, ⟨n, i⟩) else none
  | _ => none
set_option maxHeartbeats 4000000 in
def rpL (inv : rpC → rpX → rpX → Nat → Prop) : LoopS where
  C := rpC
  X := rpX
  st := rpSt
  un := rpUn
  ok := by
    intro s c x h
    unfold rpUn at h
    split at h
    · simp only [Bool.cond_eq_ite] at h
      split at h
      · rename_i hg
        simp only [Bool.and_eq_true, Nat.beq_eq] at hg
        obtain ⟨⟨⟨⟨rfl, rfl⟩, rfl⟩, rfl⟩, rfl⟩ := hg
        cases h
        rfl
      · cases h
    · cases h
  inv := inv

theorem rdgt_vc (c : Int) (K : V → List Bk → Prop) : vcF Tryz.prog cfgN (ctOf []) (lpOf []) 83 [.int .u8 c] [] K = (
  br (leI 48 c) (
    br (leI c 57) (
      K (V.int IntKind.i64 (subI IntKind.i64 (wrapI IntKind.i64 c) 48)) []) (
      br (leI 97 c) (
        br (leI c 102) (
          K (V.int IntKind.i64 (addI IntKind.i64 (subI IntKind.i64 (wrapI IntKind.i64 c) 97) 10)) []) (
          K (V.int IntKind.i64 (-1)) [])) (
        K (V.int IntKind.i64 (-1)) []))) (
    br (leI 97 c) (
      br (leI c 102) (
        K (V.int IntKind.i64 (addI IntKind.i64 (subI IntKind.i64 (wrapI IntKind.i64 c) 97) 10)) []) (
        K (V.int IntKind.i64 (-1)) [])) (
      K (V.int IntKind.i64 (-1)) []))) := by kernel_rfl

theorem rdgt_run {n : Nat} (hn : 1 ≤ n) {c : Int} (h0 : 0 ≤ c) (h1 : c < 256) : ∃ r out, evalF Tryz.prog cfgN n 83 [.int .u8 c] [] = some (r, out) ∧ r = .int .i64 (if 48 ≤ c ∧ c ≤ 57 then c - 48 else if 97 ≤ c ∧ c ≤ 102 then c - 87 else -1) ∧ out = [] := by
  refine run_of (lp := lpOf []) hn (fun k _ => noCt_ok _) ?_
  rw [rdgt_vc]
  have e1 : subI .i64 (wrapI .i64 c) 48 = c - 48 := by unfold wrapI; rw [wrap64 (by omega) (by omega), subI_i64 (by omega) (by omega)]
  have e2 : addI .i64 (subI .i64 (wrapI .i64 c) 97) 10 = c - 87 := by
    unfold wrapI; rw [wrap64 (by omega) (by omega), subI_i64 (by omega) (by omega), addI_i64 (by omega) (by omega)]; omega
  simp only [br_iff, need_iff, andB_t, andB_f, orB_t, orB_f, notB_t, notB_f, leI_t, leI_f, ltI_t, ltI_f, eqI_t, eqI_f, leN_t, leN_f, eqN_t, eqN_f, eqS_t, eqS_f, eqB_t, eqB_f, catOk_t, leC_t, e1, e2]
  refine ⟨fun h => ⟨fun h' => ⟨by rw [if_pos ⟨h, h'⟩], trivial⟩, fun h' => ⟨fun g => ⟨fun g' => ⟨by rw [if_neg (by omega), if_pos ⟨g, g'⟩], trivial⟩, fun g' => ⟨by rw [if_neg (by omega), if_neg (by omega)], trivial⟩⟩, fun g => ⟨by rw [if_neg (by omega), if_neg (by omega)], trivial⟩⟩⟩,
    fun h => ⟨fun g => ⟨fun g' => ⟨by rw [if_neg (by omega), if_pos ⟨g, g'⟩], trivial⟩, fun g' => ⟨by rw [if_neg (by omega), if_neg (by omega)], trivial⟩⟩, fun g => ⟨by rw [if_neg (by omega), if_neg (by omega)], trivial⟩⟩⟩
def rps_vc_2 (s : List UInt8) (b most : Int) (I : rpC → rpX → rpX → Nat → Prop) (K : V → List Bk → Prop) : Prop :=
  (
            (∃ m5 : Nat, (((m5 : Nat) < 18446744073709551616)) ∧ (
            I (rpC.mk s b most) (rpX.mk 0 0) (rpX.mk 0 0) m5)) ∧ (
            ∀ x5 : (rpL I).X, ∀ m6 : Nat, (I (rpC.mk s b most) (rpX.mk 0 0) x5 m6) → (
            br (ltI x5.2 (lenS s)) (
              need (andB (leI 0 x5.2) (ltI x5.2 (lenS s))) (
              need (andB true (ltI (atS s x5.2) 256)) (
              br (ltI (dvR (atS s x5.2)) 0) (
                K (V.tup [V.int IntKind.i64 0, V.int IntKind.i64 5]) []) (
                br (leI b (dvR (atS s x5.2))) (
                  K (V.tup [V.int IntKind.i64 0, V.int IntKind.i64 5]) []) (
                  br (ltI most (dvR (atS s x5.2))) (
                    K (V.tup [V.int IntKind.i64 0, V.int IntKind.i64 5]) []) (
                    need (notB (eqI b 0)) (
                    br (ltI (quoI IntKind.i64 (subI IntKind.i64 most (dvR (atS s x5.2))) b) x5.1) (
                      K (V.tup [V.int IntKind.i64 0, V.int IntKind.i64 5]) []) (
                      ((rpC.mk s b most : (rpL I).C) = rpC.mk s b most) ∧ (
                      ∃ m'7 : Nat, (((m'7 : Nat) < m6)) ∧ (
                      I (rpC.mk s b most) (rpX.mk 0 0) (rpX.mk (addI IntKind.i64 (mulI IntKind.i64 x5.1 b) (dvR (atS s x5.2))) (addI IntKind.i64 x5.2 1)) m'7)))))))))) (
              K (V.tup [V.int IntKind.i64 x5.1, V.int IntKind.i64 0]) []))))
def rps_vc_1 (s : List UInt8) (b most : Int) (I : rpC → rpX → rpX → Nat → Prop) (K : V → List Bk → Prop) : Prop :=
  (
    br (ltI most 0) (
      K (V.tup [V.int IntKind.i64 0, V.int IntKind.i64 1]) []) (
      br (eqS s []) (
        K (V.tup [V.int IntKind.i64 0, V.int IntKind.i64 5]) []) (
        br (ltI 1 (lenS s)) (
          need (andB true (ltI 0 (lenS s))) (
          br (eqI (atS s 0) 48) (
            K (V.tup [V.int IntKind.i64 0, V.int IntKind.i64 5]) []) (rps_vc_2 s b most I K))) (rps_vc_2 s b most I K))))
theorem rps_vc (s : List UInt8) (b most : Int) (I : rpC → rpX → rpX → Nat → Prop) (K : V → List Bk → Prop) : vcF Tryz.prog cfgN (ctOf [(81, inlC Tryz.prog cfgN (ctOf []) 81), (83, fun vs bs K => match vs, bs with | [.int .u8 c], [] => need (andB (leI 0 c) (ltI c 256)) (K (.int .i64 (dvR c)) []) | _, _ => False)]) (lpOf [(7, rpL I)]) 58 [.str s, .int .i64 b, .int .i64 most] [] K = (
  br (eqI b 8) (rps_vc_1 s b most I K) (
    br (eqI b 10) (rps_vc_1 s b most I K) (
      br (notB (eqI b 16)) (
        K (V.tup [V.int IntKind.i64 0, V.int IntKind.i64 1]) []) (rps_vc_1 s b most I K)))) := by kernel_rfl

theorem rp_loop {s : List UInt8} {b most : Int} (hs : s.length ≤ 4611686018427387904) (hb : b = 8 ∨ b = 10 ∨ b = 16) (hm0 : 0 ≤ most) (hm : most ≤ 9223372036854775807) (hne : ¬ (s = [] ∨ (1 < s.length ∧ s.head? = some 48))) :
    rps_vc_2 s b most (fun _ _ x m => paI s b most x.n x.i m) (fun r out => r = parseF s b most ∧ out = []) := by
  unfold rps_vc_2
  refine ⟨⟨s.length, by omega, 0, rfl, by omega, rfl, by simp only; omega, hm0⟩, ?_⟩
  rintro ⟨n, i⟩ m ⟨k, rfl, hk, hp, hn0, hn1⟩
  have hF : parseF s b most = match parseGo b most s 0 with
      | some n => .tup [.int .i64 n, .int .i64 0]
      | none => .tup [.int .i64 0, .int .i64 5] := by
    unfold parseF
    rw [if_neg (by rintro (h | h); exact h hb; omega), if_neg hne] <;> cases parseGo b most s 0 <;> rfl
  simp only at hp hn0 hn1 ⊢
  rw [br_iff]
  refine ⟨fun hlt => ?_, fun hge => ?_⟩
  · have hlt : k < s.length := by simp only [br_iff, need_iff, andB_t, andB_f, orB_t, orB_f, notB_t, notB_f, leI_t, leI_f, ltI_t, ltI_f, eqI_t, eqI_f, leN_t, leN_f, eqN_t, eqN_f, eqS_t, eqS_f, eqB_t, eqB_f, catOk_t, leC_t, lenS] at hlt; omega
    rw [List.drop_eq_getElem_cons hlt] at hp
    rw [atS_at hlt]
    have hc := (s[k]).toNat_lt
    have hd := dv_nonneg s[k]
    generalize s[k] = c at hp hc hd
    have hD : dvI (c.toNat : Int) = dv c := rfl
    have fail : (b ≤ dv c ∨ most < dv c ∨ (most - dv c).tdiv b < n) → V.tup [V.int IntKind.i64 0, V.int IntKind.i64 5] = parseF s b most ∧ ([] : List Bk) = [] := by
      intro h
      rw [hF, ← hp, parse_fail h]
      exact ⟨rfl, rfl⟩
    have e1 : subI .i64 most (dv c) = most - dv c := subI_i64 (by omega) (by omega)
    have e2 : quoI .i64 (most - dv c) b = (most - dv c).tdiv b := quoI_t64 (by omega) (by omega) (by omega)
    rw [dvR_dv]
    by_cases h16 : dv c = 16
    · rw [if_pos h16]
      simp only [br_iff, need_iff, andB_t, andB_f, orB_t, orB_f, notB_t, notB_f, leI_t, leI_f, ltI_t, ltI_f, eqI_t, eqI_f, leN_t, leN_f, eqN_t, eqN_f, eqS_t, eqS_f, eqB_t, eqB_f, catOk_t, leC_t]
      refine ⟨⟨by omega, by simpa [lenS] using hlt⟩, ⟨trivial, by omega⟩, fun _ => by simpa using fail (.inl (by omega)), fun h => by omega⟩
    rw [if_neg h16, e1, e2]
    simp only [br_iff, need_iff, andB_t, andB_f, orB_t, orB_f, notB_t, notB_f, leI_t, leI_f, ltI_t, ltI_f, eqI_t, eqI_f, leN_t, leN_f, eqN_t, eqN_f, eqS_t, eqS_f, eqB_t, eqB_f, catOk_t, leC_t]
    refine ⟨⟨by omega, by simpa [lenS] using hlt⟩, ⟨trivial, by omega⟩, fun h => by omega, fun _ => ⟨fun h => by simpa using fail (.inl h), fun h => ⟨fun h' => by simpa using fail (.inr (.inl h')), fun h' => ⟨by omega, fun h'' => by simpa using fail (.inr (.inr h'')), fun h'' => ?_⟩⟩⟩⟩
    obtain ⟨g1, g2, g3, g4, g5⟩ := parse_step (b := b) (most := most) (c := c) (t := s.drop (k + 1)) (n := n) (by omega) hn0 (by omega) (by omega) (by omega)
    have e3 : mulI .i64 n b = n * b := mulI_i64 (by omega) (by omega)
    have e4 : addI .i64 (n * b) (dv c) = n * b + dv c := addI_i64 (by omega) (by omega)
    have e5 : addI .i64 (k : Int) 1 = ((k + 1 : Nat) : Int) := by rw [addI_i64 (by omega) (by omega)]; omega
    rw [e3, e4, e5]
    refine ⟨trivial, m - 1, by omega, k + 1, rfl, by omega, by rw [← hp, ← g1], g2, g3⟩
  · have hk2 : k = s.length := by simp only [br_iff, need_iff, andB_t, andB_f, orB_t, orB_f, notB_t, notB_f, leI_t, leI_f, ltI_t, ltI_f, eqI_t, eqI_f, leN_t, leN_f, eqN_t, eqN_f, eqS_t, eqS_f, eqB_t, eqB_f, catOk_t, leC_t, lenS] at hge; omega
    subst hk2
    rw [hF, ← hp, List.drop_length]
    exact ⟨rfl, by trivial⟩
theorem rp_run {n : Nat} (hn : 2 ≤ n) {s : List UInt8} {b most : Int} (hs : s.length ≤ 4611686018427387904) (hm1 : -9223372036854775808 ≤ most) (hm : most ≤ 9223372036854775807) : ∃ r out, evalF Tryz.prog cfgN n 58 [.str s, .int .i64 b, .int .i64 most] [] = some (r, out) ∧ r = parseF s b most ∧ out = [] := by
  refine run_of (lp := lpOf [(7, rpL fun _ _ x m => paI s b most x.n x.i m)]) (ct := ctOf [(81, inlC Tryz.prog cfgN (ctOf []) 81), (83, fun vs bs K => match vs, bs with | [.int .u8 c], [] => need (andB (leI 0 c) (ltI c 256)) (K (.int .i64 (dvR c)) []) | _, _ => False)]) (by omega)
    (fun k hk => ctOf_ok (ctOf_cons (inl_ok (by omega) fun _ _ => noCt_ok _) (ctOf_cons ?_ (ctOf_nil _)))) ?_
  · intro vs bs K h
    try dsimp only at h
    split at h
    · simp only [br_iff, need_iff, andB_t, andB_f, orB_t, orB_f, notB_t, notB_f, leI_t, leI_f, ltI_t, ltI_f, eqI_t, eqI_f, leN_t, leN_f, eqN_t, eqN_f, eqS_t, eqS_f, eqB_t, eqB_f, catOk_t, leC_t] at h
      obtain ⟨r, out, e, rfl, rfl⟩ := rdgt_run (n := k) (by omega) h.1.1 h.1.2
      exact ⟨_, _, e, h.2⟩
    · exact h.elim
  · rw [rps_vc]
    have key : (b = 8 ∨ b = 10 ∨ b = 16) → rps_vc_1 s b most (fun _ _ x m => paI s b most x.n x.i m) (fun r out => r = parseF s b most ∧ out = []) := by
      intro hb
      unfold rps_vc_1
      simp only [br_iff]
      refine ⟨fun h => ?_, fun h => ⟨fun h1 => ?_, fun h1 => ⟨fun h2 => ?_, fun h2 => ?_⟩⟩⟩
      · simp only [br_iff, need_iff, andB_t, andB_f, orB_t, orB_f, notB_t, notB_f, leI_t, leI_f, ltI_t, ltI_f, eqI_t, eqI_f, leN_t, leN_f, eqN_t, eqN_f, eqS_t, eqS_f, eqB_t, eqB_f, catOk_t, leC_t] at h
        exact ⟨by simp [parseF, h], by trivial⟩
      · simp only [br_iff, need_iff, andB_t, andB_f, orB_t, orB_f, notB_t, notB_f, leI_t, leI_f, ltI_t, ltI_f, eqI_t, eqI_f, leN_t, leN_f, eqN_t, eqN_f, eqS_t, eqS_f, eqB_t, eqB_f, catOk_t, leC_t] at h h1
        exact ⟨by unfold parseF; rw [if_neg (by rintro (h' | h'); exact h' hb; omega), if_pos (.inl h1)], by trivial⟩
      · simp only [br_iff, need_iff, andB_t, andB_f, orB_t, orB_f, notB_t, notB_f, leI_t, leI_f, ltI_t, ltI_f, eqI_t, eqI_f, leN_t, leN_f, eqN_t, eqN_f, eqS_t, eqS_f, eqB_t, eqB_f, catOk_t, leC_t] at h h1
        have h2' : 1 < s.length := by simp only [br_iff, need_iff, andB_t, andB_f, orB_t, orB_f, notB_t, notB_f, leI_t, leI_f, ltI_t, ltI_f, eqI_t, eqI_f, leN_t, leN_f, eqN_t, eqN_f, eqS_t, eqS_f, eqB_t, eqB_f, catOk_t, leC_t, lenS] at h2; omega
        rw [need_iff]
        refine ⟨by simp only [br_iff, need_iff, andB_t, andB_f, orB_t, orB_f, notB_t, notB_f, leI_t, leI_f, ltI_t, ltI_f, eqI_t, eqI_f, leN_t, leN_f, eqN_t, eqN_f, eqS_t, eqS_f, eqB_t, eqB_f, catOk_t, leC_t, lenS]; simp; omega, ?_⟩
        obtain ⟨c, t, rfl⟩ : ∃ c t, s = c :: t := by cases s with
          | nil => simp at h2'
          | cons c t => exact ⟨c, t, rfl⟩
        have h0 : atS (c :: t) 0 = (c.toNat : Int) := rfl
        simp only [h0, br_iff]
        refine ⟨fun h3 => ?_, fun h3 => ?_⟩
        · have : c = 48 := by
            simp only [br_iff, need_iff, andB_t, andB_f, orB_t, orB_f, notB_t, notB_f, leI_t, leI_f, ltI_t, ltI_f, eqI_t, eqI_f, leN_t, leN_f, eqN_t, eqN_f, eqS_t, eqS_f, eqB_t, eqB_f, catOk_t, leC_t] at h3
            apply UInt8.toNat_inj.1
            simp; omega
          exact ⟨by unfold parseF; rw [if_neg (by rintro (h' | h'); exact h' hb; omega), if_pos (.inr ⟨h2', by simp [this]⟩)], by trivial⟩
        · refine rp_loop hs hb h hm ?_
          rintro (h' | ⟨_, h'⟩)
          · cases h'
          · simp only [br_iff, need_iff, andB_t, andB_f, orB_t, orB_f, notB_t, notB_f, leI_t, leI_f, ltI_t, ltI_f, eqI_t, eqI_f, leN_t, leN_f, eqN_t, eqN_f, eqS_t, eqS_f, eqB_t, eqB_f, catOk_t, leC_t] at h3
            simp at h'
            subst h'
            exact h3 rfl
      · simp only [br_iff, need_iff, andB_t, andB_f, orB_t, orB_f, notB_t, notB_f, leI_t, leI_f, ltI_t, ltI_f, eqI_t, eqI_f, leN_t, leN_f, eqN_t, eqN_f, eqS_t, eqS_f, eqB_t, eqB_f, catOk_t, leC_t] at h h1
        refine rp_loop hs hb h hm ?_
        rintro (h' | ⟨h', _⟩)
        · exact h1 h'
        · simp only [br_iff, need_iff, andB_t, andB_f, orB_t, orB_f, notB_t, notB_f, leI_t, leI_f, ltI_t, ltI_f, eqI_t, eqI_f, leN_t, leN_f, eqN_t, eqN_f, eqS_t, eqS_f, eqB_t, eqB_f, catOk_t, leC_t, lenS] at h2; omega
    simp only [br_iff]
    refine ⟨fun h => key (.inl (by simpa only [br_iff, need_iff, andB_t, andB_f, orB_t, orB_f, notB_t, notB_f, leI_t, leI_f, ltI_t, ltI_f, eqI_t, eqI_f, leN_t, leN_f, eqN_t, eqN_f, eqS_t, eqS_f, eqB_t, eqB_f, catOk_t, leC_t] using h)), fun h => ⟨fun h' => key (.inr (.inl (by simpa only [br_iff, need_iff, andB_t, andB_f, orB_t, orB_f, notB_t, notB_f, leI_t, leI_f, ltI_t, ltI_f, eqI_t, eqI_f, leN_t, leN_f, eqN_t, eqN_f, eqS_t, eqS_f, eqB_t, eqB_f, catOk_t, leC_t] using h'))), fun h' => ⟨fun h'' => ?_, fun h'' => key (.inr (.inr (by simpa only [br_iff, need_iff, andB_t, andB_f, orB_t, orB_f, notB_t, notB_f, leI_t, leI_f, ltI_t, ltI_f, eqI_t, eqI_f, leN_t, leN_f, eqN_t, eqN_f, eqS_t, eqS_f, eqB_t, eqB_f, catOk_t, leC_t] using h'')))⟩⟩⟩
    simp only [br_iff, need_iff, andB_t, andB_f, orB_t, orB_f, notB_t, notB_f, leI_t, leI_f, ltI_t, ltI_f, eqI_t, eqI_f, leN_t, leN_f, eqN_t, eqN_f, eqS_t, eqS_f, eqB_t, eqB_f, catOk_t, leC_t] at h h' h''
    exact ⟨by simp [parseF, h, h', h''], trivial⟩
end Go.Proofs.YtdbbpibfejchfaaGreatDoor
namespace Go.Proofs.YtdbbpibfejchfaaGreatDoor
open Go.RowKit
set_option linter.unusedVariables false
set_option linter.unusedSimpArgs false
structure Window where
  id : Int
  label : List UInt8
  line : Line
  text : List UInt8
  opens : Int
  gone : Bool
  deriving Inhabited, DecidableEq
def Window.v (x : Window) : List V := [.int .i64 x.id, .str x.label, .bool x.line.raw, .str x.line.text, .lst (strV x.line.ready), .str x.text, .int .i64 x.opens, .bool x.gone]
def windowV (l : List Window) : List (List V) := l.map Window.v
theorem windowV_len (l : List Window) : (windowV l).length = l.length := by simp [windowV]
theorem windowV_row {l : List Window} {i : Nat} {f : Window} (h : l[i]? = some f) : rowAt (windowV l) (i : Int) = f.v := by simp [rowAt, windowV, List.getD, h]
theorem windowV_ok {l : List Window} {i : Nat} (h : i < l.length) : okRow (windowV l) i 8 = true := by simp [okRow, windowV, List.getElem?_eq_getElem h, Window.v]
theorem windowV_lenL (l : List Window) : lenL (windowV l) = (l.length : Int) := by simp [lenL, windowV]
theorem windowV_all (l : List Window) : List.take l.length (windowV l) = windowV l := List.take_of_length_le (by simp [windowV])
theorem windowV_all1 (l : List Window) (x : List V) : List.take (l.length + 1) (windowV l ++ [x]) = windowV l ++ [x] := List.take_of_length_le (by simp [windowV])
theorem windowV_add (l : List Window) (f : Window) : windowV l ++ [f.v] = windowV (l ++ [f]) := by simp [windowV]
theorem windowV_part {l : List Window} {i : Nat} {f : Window} (h : l[i]? = some f) (o n : Nat) : partAt (windowV l) i o n = sub f.v o n := by simp [partAt, windowV, h]
theorem windowV_put {l : List Window} {i : Nat} {f g : Window} (h : l[i]? = some f) {o : Nat} {ys : List V} (e : put f.v o ys = some g.v) : putAt (windowV l) i o ys = some (windowV (l.set i g)) := by simp [putAt, windowV, h, e]
theorem windowV_snoc {l : List Window} {j : Nat} {f : Window} (h : l[j]? = some f) : windowV (l.take j) ++ [f.v] = windowV (l.take (j + 1)) := by
  have := (List.getElem?_eq_some_iff.1 h); obtain ⟨h1, rfl⟩ := this
  unfold windowV; rw [List.take_succ_eq_append_getElem h1, List.map_append]; rfl
theorem windowV_app (a b : List Window) : windowV a ++ windowV b = windowV (a ++ b) := by simp [windowV]
theorem windowV_take (a : List Window) (n : Nat) : List.take n (windowV a) = windowV (a.take n) := by simp [windowV]
theorem windowV_drop (a : List Window) (n : Nat) : List.drop n (windowV a) = windowV (a.drop n) := by simp [windowV]
theorem windowV_set (a : List Window) (n : Nat) (f : Window) : (windowV a).set n f.v = windowV (a.set n f) := by simp [windowV]
theorem windowV_head (a : List Window) : headOkP 8 (windowV a) = true := by cases a <;> rfl
theorem windowV_get (a : List Window) (i : Nat) : (windowV a)[i]? = (a[i]?).map Window.v := by simp [windowV]
theorem Window.eqv {x y : Window} : x = y ↔ x.id = y.id ∧ x.label = y.label ∧ x.line = y.line ∧ x.text = y.text ∧ x.opens = y.opens ∧ x.gone = y.gone := by cases x; cases y; simp
theorem Window.v_inj {x y : Window} : x.v = y.v ↔ x = y := by
  cases x; cases y
  simp [Window.v, Line.eqv, strV_inj, and_assoc]
theorem windowV_inj {a b : List Window} : windowV a = windowV b ↔ a = b := List.map_inj_right fun _ _ h => Window.v_inj.1 h
def windowSh : Sh := .pair (.int .i64) (.pair .str (.pair lineSh (.pair .str (.pair (.int .i64) (.pair .bool .unit)))))
def Window.fit (x : Window) : Prop := (IntKind.i64.min ≤ x.id ∧ x.id ≤ IntKind.i64.max) ∧ x.label.length ≤ 140737488351232 ∧ Line.fit x.line ∧ x.text.length ≤ 140737488351232 ∧ (IntKind.i64.min ≤ x.opens ∧ x.opens ≤ IntKind.i64.max) ∧ True
theorem Window.fits {vs : List V} (h : Fits windowSh vs) : ∃ x : Window, vs = x.v ∧ x.fit := by
  unfold windowSh at h
  obtain ⟨u1, w1, rfl, a1, b1⟩ := h
  obtain ⟨x1, rfl, fx1⟩ := a1
  obtain ⟨u2, w2, rfl, a2, b2⟩ := b1
  obtain ⟨x2, rfl, fx2⟩ := a2
  obtain ⟨u3, w3, rfl, a3, b3⟩ := b2
  obtain ⟨x3, rfl, fx3⟩ := Line.fits a3
  obtain ⟨u4, w4, rfl, a4, b4⟩ := b3
  obtain ⟨x4, rfl, fx4⟩ := a4
  obtain ⟨u5, w5, rfl, a5, b5⟩ := b4
  obtain ⟨x5, rfl, fx5⟩ := a5
  obtain ⟨u6, w6, rfl, a6, b6⟩ := b5
  obtain ⟨x6, rfl⟩ := a6
  obtain rfl : w6 = [] := b6
  exact ⟨⟨x1, x2, x3, x4, x5, x6⟩, rfl, ⟨fx1, fx2, fx3, fx4, fx5, trivial⟩⟩

structure Windows where
  next : Int
  focus : Int
  l : List Window
  deriving Inhabited, DecidableEq
def Windows.v (x : Windows) : List V := [.int .i64 x.next, .int .i64 x.focus, .lst (windowV x.l)]
def windowsV (l : List Windows) : List (List V) := l.map Windows.v
theorem windowsV_len (l : List Windows) : (windowsV l).length = l.length := by simp [windowsV]
theorem windowsV_row {l : List Windows} {i : Nat} {f : Windows} (h : l[i]? = some f) : rowAt (windowsV l) (i : Int) = f.v := by simp [rowAt, windowsV, List.getD, h]
theorem windowsV_ok {l : List Windows} {i : Nat} (h : i < l.length) : okRow (windowsV l) i 3 = true := by simp [okRow, windowsV, List.getElem?_eq_getElem h, Windows.v]
theorem windowsV_lenL (l : List Windows) : lenL (windowsV l) = (l.length : Int) := by simp [lenL, windowsV]
theorem windowsV_all (l : List Windows) : List.take l.length (windowsV l) = windowsV l := List.take_of_length_le (by simp [windowsV])
theorem windowsV_all1 (l : List Windows) (x : List V) : List.take (l.length + 1) (windowsV l ++ [x]) = windowsV l ++ [x] := List.take_of_length_le (by simp [windowsV])
theorem windowsV_add (l : List Windows) (f : Windows) : windowsV l ++ [f.v] = windowsV (l ++ [f]) := by simp [windowsV]
theorem windowsV_part {l : List Windows} {i : Nat} {f : Windows} (h : l[i]? = some f) (o n : Nat) : partAt (windowsV l) i o n = sub f.v o n := by simp [partAt, windowsV, h]
theorem windowsV_put {l : List Windows} {i : Nat} {f g : Windows} (h : l[i]? = some f) {o : Nat} {ys : List V} (e : put f.v o ys = some g.v) : putAt (windowsV l) i o ys = some (windowsV (l.set i g)) := by simp [putAt, windowsV, h, e]
theorem windowsV_snoc {l : List Windows} {j : Nat} {f : Windows} (h : l[j]? = some f) : windowsV (l.take j) ++ [f.v] = windowsV (l.take (j + 1)) := by
  have := (List.getElem?_eq_some_iff.1 h); obtain ⟨h1, rfl⟩ := this
  unfold windowsV; rw [List.take_succ_eq_append_getElem h1, List.map_append]; rfl
theorem windowsV_app (a b : List Windows) : windowsV a ++ windowsV b = windowsV (a ++ b) := by simp [windowsV]
theorem windowsV_take (a : List Windows) (n : Nat) : List.take n (windowsV a) = windowsV (a.take n) := by simp [windowsV]
theorem windowsV_drop (a : List Windows) (n : Nat) : List.drop n (windowsV a) = windowsV (a.drop n) := by simp [windowsV]
theorem windowsV_set (a : List Windows) (n : Nat) (f : Windows) : (windowsV a).set n f.v = windowsV (a.set n f) := by simp [windowsV]
theorem windowsV_head (a : List Windows) : headOkP 3 (windowsV a) = true := by cases a <;> rfl
theorem windowsV_get (a : List Windows) (i : Nat) : (windowsV a)[i]? = (a[i]?).map Windows.v := by simp [windowsV]
theorem Windows.eqv {x y : Windows} : x = y ↔ x.next = y.next ∧ x.focus = y.focus ∧ x.l = y.l := by cases x; cases y; simp
theorem Windows.v_inj {x y : Windows} : x.v = y.v ↔ x = y := by
  cases x; cases y
  simp [Windows.v, windowV_inj, and_assoc]
theorem windowsV_inj {a b : List Windows} : windowsV a = windowsV b ↔ a = b := List.map_inj_right fun _ _ h => Windows.v_inj.1 h
def windowsSh : Sh := .pair (.int .i64) (.pair (.int .i64) (.pair (.slice 104 8 windowSh) .unit))
def Windows.fit (x : Windows) : Prop := (IntKind.i64.min ≤ x.next ∧ x.next ≤ IntKind.i64.max) ∧ (IntKind.i64.min ≤ x.focus ∧ x.focus ≤ IntKind.i64.max) ∧ (x.l.length * 104 ≤ 140737488351232 ∧ ∀ a ∈ x.l, Window.fit a)
theorem Windows.fits {vs : List V} (h : Fits windowsSh vs) : ∃ x : Windows, vs = x.v ∧ x.fit := by
  unfold windowsSh at h
  obtain ⟨u1, w1, rfl, a1, b1⟩ := h
  obtain ⟨x1, rfl, fx1⟩ := a1
  obtain ⟨u2, w2, rfl, a2, b2⟩ := b1
  obtain ⟨x2, rfl, fx2⟩ := a2
  obtain ⟨u3, w3, rfl, a3, b3⟩ := b2
  obtain ⟨rx3, rfl, lx3, ex3⟩ := a3
  obtain ⟨x3, rfl, gx3⟩ := rows_of (Window.v) (fun a => Window.fit a) (fun q hq => Window.fits (ex3 q hq).2)
  rw [List.length_map] at lx3
  obtain rfl : w3 = [] := b3
  exact ⟨⟨x1, x2, x3⟩, rfl, ⟨fx1, fx2, ⟨lx3, gx3⟩⟩⟩

structure Dir where
  type : Int
  dev : Int
  qt : Int
  qv : Int
  qp : Int
  mode : Int
  atime : Int
  mtime : Int
  length : Int
  name : List UInt8
  uid : List UInt8
  gid : List UInt8
  muid : List UInt8
  deriving Inhabited, DecidableEq
def Dir.v (x : Dir) : List V := [.int .i64 x.type, .int .i64 x.dev, .int .i64 x.qt, .int .i64 x.qv, .int .i64 x.qp, .int .i64 x.mode, .int .i64 x.atime, .int .i64 x.mtime, .int .i64 x.length, .str x.name, .str x.uid, .str x.gid, .str x.muid]
def dirV (l : List Dir) : List (List V) := l.map Dir.v
theorem dirV_len (l : List Dir) : (dirV l).length = l.length := by simp [dirV]
theorem dirV_row {l : List Dir} {i : Nat} {f : Dir} (h : l[i]? = some f) : rowAt (dirV l) (i : Int) = f.v := by simp [rowAt, dirV, List.getD, h]
theorem dirV_ok {l : List Dir} {i : Nat} (h : i < l.length) : okRow (dirV l) i 13 = true := by simp [okRow, dirV, List.getElem?_eq_getElem h, Dir.v]
theorem dirV_lenL (l : List Dir) : lenL (dirV l) = (l.length : Int) := by simp [lenL, dirV]
theorem dirV_all (l : List Dir) : List.take l.length (dirV l) = dirV l := List.take_of_length_le (by simp [dirV])
theorem dirV_all1 (l : List Dir) (x : List V) : List.take (l.length + 1) (dirV l ++ [x]) = dirV l ++ [x] := List.take_of_length_le (by simp [dirV])
theorem dirV_add (l : List Dir) (f : Dir) : dirV l ++ [f.v] = dirV (l ++ [f]) := by simp [dirV]
theorem dirV_part {l : List Dir} {i : Nat} {f : Dir} (h : l[i]? = some f) (o n : Nat) : partAt (dirV l) i o n = sub f.v o n := by simp [partAt, dirV, h]
theorem dirV_put {l : List Dir} {i : Nat} {f g : Dir} (h : l[i]? = some f) {o : Nat} {ys : List V} (e : put f.v o ys = some g.v) : putAt (dirV l) i o ys = some (dirV (l.set i g)) := by simp [putAt, dirV, h, e]
theorem dirV_snoc {l : List Dir} {j : Nat} {f : Dir} (h : l[j]? = some f) : dirV (l.take j) ++ [f.v] = dirV (l.take (j + 1)) := by
  have := (List.getElem?_eq_some_iff.1 h); obtain ⟨h1, rfl⟩ := this
  unfold dirV; rw [List.take_succ_eq_append_getElem h1, List.map_append]; rfl
theorem dirV_app (a b : List Dir) : dirV a ++ dirV b = dirV (a ++ b) := by simp [dirV]
theorem dirV_take (a : List Dir) (n : Nat) : List.take n (dirV a) = dirV (a.take n) := by simp [dirV]
theorem dirV_drop (a : List Dir) (n : Nat) : List.drop n (dirV a) = dirV (a.drop n) := by simp [dirV]
theorem dirV_set (a : List Dir) (n : Nat) (f : Dir) : (dirV a).set n f.v = dirV (a.set n f) := by simp [dirV]
theorem dirV_head (a : List Dir) : headOkP 13 (dirV a) = true := by cases a <;> rfl
theorem dirV_get (a : List Dir) (i : Nat) : (dirV a)[i]? = (a[i]?).map Dir.v := by simp [dirV]
theorem Dir.eqv {x y : Dir} : x = y ↔ x.type = y.type ∧ x.dev = y.dev ∧ x.qt = y.qt ∧ x.qv = y.qv ∧ x.qp = y.qp ∧ x.mode = y.mode ∧ x.atime = y.atime ∧ x.mtime = y.mtime ∧ x.length = y.length ∧ x.name = y.name ∧ x.uid = y.uid ∧ x.gid = y.gid ∧ x.muid = y.muid := by cases x; cases y; simp
theorem Dir.v_inj {x y : Dir} : x.v = y.v ↔ x = y := by
  cases x; cases y
  simp [Dir.v, and_assoc]
theorem dirV_inj {a b : List Dir} : dirV a = dirV b ↔ a = b := List.map_inj_right fun _ _ h => Dir.v_inj.1 h
def dirSh : Sh := .pair (.int .i64) (.pair (.int .i64) (.pair (.int .i64) (.pair (.int .i64) (.pair (.int .i64) (.pair (.int .i64) (.pair (.int .i64) (.pair (.int .i64) (.pair (.int .i64) (.pair .str (.pair .str (.pair .str (.pair .str .unit))))))))))))
def Dir.fit (x : Dir) : Prop := (IntKind.i64.min ≤ x.type ∧ x.type ≤ IntKind.i64.max) ∧ (IntKind.i64.min ≤ x.dev ∧ x.dev ≤ IntKind.i64.max) ∧ (IntKind.i64.min ≤ x.qt ∧ x.qt ≤ IntKind.i64.max) ∧ (IntKind.i64.min ≤ x.qv ∧ x.qv ≤ IntKind.i64.max) ∧ (IntKind.i64.min ≤ x.qp ∧ x.qp ≤ IntKind.i64.max) ∧ (IntKind.i64.min ≤ x.mode ∧ x.mode ≤ IntKind.i64.max) ∧ (IntKind.i64.min ≤ x.atime ∧ x.atime ≤ IntKind.i64.max) ∧ (IntKind.i64.min ≤ x.mtime ∧ x.mtime ≤ IntKind.i64.max) ∧ (IntKind.i64.min ≤ x.length ∧ x.length ≤ IntKind.i64.max) ∧ x.name.length ≤ 140737488351232 ∧ x.uid.length ≤ 140737488351232 ∧ x.gid.length ≤ 140737488351232 ∧ x.muid.length ≤ 140737488351232
theorem Dir.fits {vs : List V} (h : Fits dirSh vs) : ∃ x : Dir, vs = x.v ∧ x.fit := by
  unfold dirSh at h
  obtain ⟨u1, w1, rfl, a1, b1⟩ := h
  obtain ⟨x1, rfl, fx1⟩ := a1
  obtain ⟨u2, w2, rfl, a2, b2⟩ := b1
  obtain ⟨x2, rfl, fx2⟩ := a2
  obtain ⟨u3, w3, rfl, a3, b3⟩ := b2
  obtain ⟨x3, rfl, fx3⟩ := a3
  obtain ⟨u4, w4, rfl, a4, b4⟩ := b3
  obtain ⟨x4, rfl, fx4⟩ := a4
  obtain ⟨u5, w5, rfl, a5, b5⟩ := b4
  obtain ⟨x5, rfl, fx5⟩ := a5
  obtain ⟨u6, w6, rfl, a6, b6⟩ := b5
  obtain ⟨x6, rfl, fx6⟩ := a6
  obtain ⟨u7, w7, rfl, a7, b7⟩ := b6
  obtain ⟨x7, rfl, fx7⟩ := a7
  obtain ⟨u8, w8, rfl, a8, b8⟩ := b7
  obtain ⟨x8, rfl, fx8⟩ := a8
  obtain ⟨u9, w9, rfl, a9, b9⟩ := b8
  obtain ⟨x9, rfl, fx9⟩ := a9
  obtain ⟨u10, w10, rfl, a10, b10⟩ := b9
  obtain ⟨x10, rfl, fx10⟩ := a10
  obtain ⟨u11, w11, rfl, a11, b11⟩ := b10
  obtain ⟨x11, rfl, fx11⟩ := a11
  obtain ⟨u12, w12, rfl, a12, b12⟩ := b11
  obtain ⟨x12, rfl, fx12⟩ := a12
  obtain ⟨u13, w13, rfl, a13, b13⟩ := b12
  obtain ⟨x13, rfl, fx13⟩ := a13
  obtain rfl : w13 = [] := b13
  exact ⟨⟨x1, x2, x3, x4, x5, x6, x7, x8, x9, x10, x11, x12, x13⟩, rfl, ⟨fx1, fx2, fx3, fx4, fx5, fx6, fx7, fx8, fx9, fx10, fx11, fx12, fx13⟩⟩

structure Place where
  id : Int
  name : List UInt8
  mode : Int
  window : Int
  file : Int
  deriving Inhabited, DecidableEq
def Place.v (x : Place) : List V := [.int .i64 x.id, .str x.name, .int .i64 x.mode, .int .i64 x.window, .int .i64 x.file]
def placeV (l : List Place) : List (List V) := l.map Place.v
theorem placeV_len (l : List Place) : (placeV l).length = l.length := by simp [placeV]
theorem placeV_row {l : List Place} {i : Nat} {f : Place} (h : l[i]? = some f) : rowAt (placeV l) (i : Int) = f.v := by simp [rowAt, placeV, List.getD, h]
theorem placeV_ok {l : List Place} {i : Nat} (h : i < l.length) : okRow (placeV l) i 5 = true := by simp [okRow, placeV, List.getElem?_eq_getElem h, Place.v]
theorem placeV_lenL (l : List Place) : lenL (placeV l) = (l.length : Int) := by simp [lenL, placeV]
theorem placeV_all (l : List Place) : List.take l.length (placeV l) = placeV l := List.take_of_length_le (by simp [placeV])
theorem placeV_all1 (l : List Place) (x : List V) : List.take (l.length + 1) (placeV l ++ [x]) = placeV l ++ [x] := List.take_of_length_le (by simp [placeV])
theorem placeV_add (l : List Place) (f : Place) : placeV l ++ [f.v] = placeV (l ++ [f]) := by simp [placeV]
theorem placeV_part {l : List Place} {i : Nat} {f : Place} (h : l[i]? = some f) (o n : Nat) : partAt (placeV l) i o n = sub f.v o n := by simp [partAt, placeV, h]
theorem placeV_put {l : List Place} {i : Nat} {f g : Place} (h : l[i]? = some f) {o : Nat} {ys : List V} (e : put f.v o ys = some g.v) : putAt (placeV l) i o ys = some (placeV (l.set i g)) := by simp [putAt, placeV, h, e]
theorem placeV_snoc {l : List Place} {j : Nat} {f : Place} (h : l[j]? = some f) : placeV (l.take j) ++ [f.v] = placeV (l.take (j + 1)) := by
  have := (List.getElem?_eq_some_iff.1 h); obtain ⟨h1, rfl⟩ := this
  unfold placeV; rw [List.take_succ_eq_append_getElem h1, List.map_append]; rfl
theorem placeV_app (a b : List Place) : placeV a ++ placeV b = placeV (a ++ b) := by simp [placeV]
theorem placeV_take (a : List Place) (n : Nat) : List.take n (placeV a) = placeV (a.take n) := by simp [placeV]
theorem placeV_drop (a : List Place) (n : Nat) : List.drop n (placeV a) = placeV (a.drop n) := by simp [placeV]
theorem placeV_set (a : List Place) (n : Nat) (f : Place) : (placeV a).set n f.v = placeV (a.set n f) := by simp [placeV]
theorem placeV_head (a : List Place) : headOkP 5 (placeV a) = true := by cases a <;> rfl
theorem placeV_get (a : List Place) (i : Nat) : (placeV a)[i]? = (a[i]?).map Place.v := by simp [placeV]
theorem Place.eqv {x y : Place} : x = y ↔ x.id = y.id ∧ x.name = y.name ∧ x.mode = y.mode ∧ x.window = y.window ∧ x.file = y.file := by cases x; cases y; simp
theorem Place.v_inj {x y : Place} : x.v = y.v ↔ x = y := by
  cases x; cases y
  simp [Place.v, and_assoc]
theorem placeV_inj {a b : List Place} : placeV a = placeV b ↔ a = b := List.map_inj_right fun _ _ h => Place.v_inj.1 h
def placeSh : Sh := .pair (.int .i64) (.pair .str (.pair (.int .i64) (.pair (.int .i64) (.pair (.int .i64) .unit))))
def Place.fit (x : Place) : Prop := (IntKind.i64.min ≤ x.id ∧ x.id ≤ IntKind.i64.max) ∧ x.name.length ≤ 140737488351232 ∧ (IntKind.i64.min ≤ x.mode ∧ x.mode ≤ IntKind.i64.max) ∧ (IntKind.i64.min ≤ x.window ∧ x.window ≤ IntKind.i64.max) ∧ (IntKind.i64.min ≤ x.file ∧ x.file ≤ IntKind.i64.max)
theorem Place.fits {vs : List V} (h : Fits placeSh vs) : ∃ x : Place, vs = x.v ∧ x.fit := by
  unfold placeSh at h
  obtain ⟨u1, w1, rfl, a1, b1⟩ := h
  obtain ⟨x1, rfl, fx1⟩ := a1
  obtain ⟨u2, w2, rfl, a2, b2⟩ := b1
  obtain ⟨x2, rfl, fx2⟩ := a2
  obtain ⟨u3, w3, rfl, a3, b3⟩ := b2
  obtain ⟨x3, rfl, fx3⟩ := a3
  obtain ⟨u4, w4, rfl, a4, b4⟩ := b3
  obtain ⟨x4, rfl, fx4⟩ := a4
  obtain ⟨u5, w5, rfl, a5, b5⟩ := b4
  obtain ⟨x5, rfl, fx5⟩ := a5
  obtain rfl : w5 = [] := b5
  exact ⟨⟨x1, x2, x3, x4, x5⟩, rfl, ⟨fx1, fx2, fx3, fx4, fx5⟩⟩

end Go.Proofs.YtdbbpibfejchfaaGreatDoor
namespace Go.Proofs.YtdbbpibfejchfaaGreatDoor
open Go.RowKit
set_option linter.unusedVariables false
set_option linter.unusedSimpArgs false
def lineZ : Line := ⟨false, [], []⟩
def winZ : Window := ⟨0, [], lineZ, [], 0, false⟩
def placeZ : Place := ⟨0, [], 0, 0, 0⟩
def idxN (n : Int) : List Window → Nat → Option Nat
  | [], _ => none
  | a :: l, k => if a.id = n then some k else idxN n l (k + 1)
def idxW (l : List Window) (n : Int) : Int := match idxN n l 0 with
  | some k => (k : Int)
  | none => -1
def wAt (l : List Window) (i : Int) : Window := l.getD i.toNat winZ
def seenW (l : List Window) (id : Int) : Bool := decide (0 ≤ idxW l id) && !(wAt l (idxW l id)).gone
def soundW (x : Window) : Bool := decide (x.label.length ≤ 64) && decide (x.text.length ≤ 65536) && rightL x.line && decide (0 ≤ x.opens) && decide (x.opens ≤ 9007199254740991) && !(x.gone && decide (x.opens = 0))
def goodF (next : Int) : Int → List Window → Bool
  | last, [] => true
  | last, x :: t => decide (last < x.id) && decide (x.id < next) && soundW x && goodF next x.id t
def rightW (w : Windows) : Bool := decide (1 ≤ w.next) && decide (w.next ≤ 1048576) && decide (w.l.length ≤ 16) && goodF w.next 0 w.l && (decide (w.focus = 0) || seenW w.l w.focus)
-- files
def nameK (k : Int) : List UInt8 := if k = 1 then [99, 111, 110, 115] else if k = 2 then [99, 111, 110, 115, 99, 116, 108] else if k = 3 then [108, 97, 98, 101, 108] else if k = 4 then [116, 101, 120, 116] else [99, 116, 108]
def modeK (k : Int) : Int := if k = 1 then 438 else if k = 2 then 146 else if k = 3 then 438 else if k = 4 then 292 else 146
def fileF (l : List Window) (id : Int) : Option Place :=
  if id = 1 then some ⟨1, [47], 2147484013, -1, 0⟩
  else if id = 2 then some ⟨2, [102, 111, 99, 117, 115], 438, -1, 0⟩
  else if id < 16 then none
  else if idxW l (divI id 16) < 0 ∨ 6 ≤ modI id 16 ∨ (modI id 16 = 0 ∧ (wAt l (idxW l (divI id 16))).gone = true) then none
  else if modI id 16 = 0 then some ⟨id, textN 10 (divI id 16), 2147484013, idxW l (divI id 16), 0⟩
  else some ⟨id, nameK (modI id 16), modeK (modI id 16), idxW l (divI id 16), modI id 16⟩
def setW (w : Windows) (i : Int) (x : Window) : Windows := ⟨w.next, w.focus, w.l.set i.toNat x⟩
def delW (w : Windows) (i : Int) : Windows := ⟨w.next, w.focus, w.l.eraseIdx i.toNat⟩
def showF (x : Window) (s : List UInt8) : Window := ⟨x.id, x.label, x.line, (x.text ++ s).drop ((x.text ++ s).length - 65536), x.opens, x.gone⟩
def makeF (w : Windows) (name : List UInt8) : Windows × Int × Int :=
  if 64 < name.length then (w, 0, 4) else if 16 ≤ w.l.length ∨ 1048575 < w.next then (w, 0, 22)
  else (⟨w.next + 1, w.next, w.l ++ [⟨w.next, name, lineZ, [], 0, false⟩]⟩, w.next, 0)
def focusF (w : Windows) (id : Int) : Windows × Int := if seenW w.l id = true then (⟨w.next, id, w.l⟩, 0) else (w, 8)
def feedW (x : Window) (s : List UInt8) : Window := showF ⟨x.id, x.label, (feedF x.line s).1, x.text, x.opens, x.gone⟩ (feedF x.line s).2
def typeW (w : Windows) (s : List UInt8) : Windows := if idxW w.l w.focus < 0 then w else setW w (idxW w.l w.focus) (feedW (wAt w.l (idxW w.l w.focus)) s)
def permF (m : Int) : Int × Int :=
  if m = 0 ∨ m = 64 then (4, 0) else if m = 1 ∨ m = 65 then (2, 0) else if m = 2 ∨ m = 66 then (6, 0) else if m = 3 ∨ m = 67 then (1, 0)
  else if m = 16 ∨ m = 80 then (6, 0) else if m = 17 ∨ m = 81 then (2, 0) else if m = 18 ∨ m = 82 then (6, 0) else if m = 19 ∨ m = 83 then (3, 0) else (0, 12)
def dirP (p : Place) : Prop := 2147483648 ≤ p.mode
def openF (w : Windows) (id m : Int) : Windows × Int := match fileF w.l id with
  | none => (w, 8)
  | some p => if 0 ≤ p.window ∧ (wAt w.l p.window).gone = true then (w, 8)
    else if (permF m).2 ≠ 0 then (w, (permF m).2)
    else if 2147483648 ≤ p.mode ∧ m ≠ 0 then (w, 10)
    else if 64 ≤ m ∨ andI .i64 (p.mode % 8) (permF m).1 ≠ (permF m).1 then (w, 11)
    else if p.window < 0 ∨ p.file = 0 then (w, 0)
    else if 9007199254740991 ≤ (wAt w.l p.window).opens then (w, 22)
    else (setW w p.window { wAt w.l p.window with opens := (wAt w.l p.window).opens + 1 }, 0)
def contF (w : Windows) (p : Place) : List UInt8 := if p.id = 2 then textN 10 w.focus else if p.file = 3 then (wAt w.l p.window).label else if p.file = 4 then (wAt w.l p.window).text else []
def readW (w : Windows) (id off cnt : Int) : Windows × List UInt8 × Bool × Int := match fileF w.l id with
  | none => (w, [], false, 8)
  | some p => if 2147483648 ≤ p.mode then (w, [], false, 10)
    else if off < 0 ∨ cnt < 0 then (w, [], false, 1)
    else if p.file = 1 then
      if (readF (wAt w.l p.window).line (min cnt 65536)).2.2 = true then (w, [], !(wAt w.l p.window).gone, 0)
      else (setW w p.window { wAt w.l p.window with line := (readF (wAt w.l p.window).line (min cnt 65536)).1 }, (readF (wAt w.l p.window).line (min cnt 65536)).2.1, false, 0)
    else (w, ((contF w p).drop off.toNat).take (min cnt 65536).toNat, false, 0)
def cmdF (s : List UInt8) : List UInt8 := if s.getLast? = some 10 then s.dropLast else s
def lastF (l : List Window) : Int := l.foldl (fun a x => if x.gone = true then a else x.id) 0
def deletedF (w : Windows) (i : Int) : Windows :=
  if w.focus ≠ (wAt w.l i).id then (if 0 < (wAt w.l i).opens then setW w i { wAt w.l i with gone := true } else delW w i)
  else ⟨w.next, lastF (if 0 < (wAt w.l i).opens then setW w i { wAt w.l i with gone := true } else delW w i).l, (if 0 < (wAt w.l i).opens then setW w i { wAt w.l i with gone := true } else delW w i).l⟩
def controlF (w : Windows) (i k : Int) (c : List UInt8) : Windows × Int :=
  if k = 2 ∧ c = [114, 97, 119, 111, 110] then (setW w i { wAt w.l i with line := setRawF (wAt w.l i).line true }, 0)
  else if k = 2 ∧ c = [114, 97, 119, 111, 102, 102] then (setW w i { wAt w.l i with line := setRawF (wAt w.l i).line false }, 0)
  else if k ≠ 2 ∧ c = [102, 111, 99, 117, 115] then (⟨w.next, (wAt w.l i).id, w.l⟩, 0)
  else if k ≠ 2 ∧ c = [100, 101, 108, 101, 116, 101] then (deletedF w i, 0)
  else (w, 54)
def numF (s : List UInt8) : Option Int := if s = [] ∨ (1 < s.length ∧ s.head? = some 48) then none else parseGo 10 1048575 s 0
def refocusF (w : Windows) (data : List UInt8) : Windows × Int × Int := match numF (cmdF data) with
  | none => (w, 0, 5)
  | some n => if seenW w.l n = true then (⟨w.next, n, w.l⟩, data.length, 0) else (w, 0, 8)
def writeW (w : Windows) (id : Int) (data : List UInt8) : Windows × Int × Int := match fileF w.l id with
  | none => (w, 0, 8)
  | some p => if 2147483648 ≤ p.mode then (w, 0, 10)
    else if p.id = 2 then refocusF w data
    else if (wAt w.l p.window).gone = true then (w, 0, 55)
    else if p.file = 1 then (setW w p.window (showF (wAt w.l p.window) data), data.length, 0)
    else if p.file = 3 then (if 64 < data.length then (w, 0, 4) else (setW w p.window { wAt w.l p.window with label := data }, data.length, 0))
    else if p.file = 4 then (w, 0, 11)
    else if (controlF w p.window p.file (cmdF data)).2 ≠ 0 then (w, 0, (controlF w p.window p.file (cmdF data)).2)
    else ((controlF w p.window p.file (cmdF data)).1, data.length, 0)
def closeW (w : Windows) (id : Int) : Windows := match fileF w.l id with
  | none => w
  | some p => if p.window < 0 ∨ p.file = 0 then w
    else if max ((wAt w.l p.window).opens - 1) 0 = 0 ∧ (wAt w.l p.window).gone = true then delW w p.window
    else setW w p.window { wAt w.l p.window with opens := max ((wAt w.l p.window).opens - 1) 0 }
def dirZ : Dir := ⟨0, 0, 0, 0, 0, 0, 0, 0, 0, [], [], [], []⟩
def statP (id : Int) (p : Place) : Dir := ⟨4, 0, if 2147483648 ≤ p.mode then 128 else 0, 0, id, p.mode, 0, 0, 0, p.name, [], [], []⟩
def statF (l : List Window) (id : Int) : Dir × Int := match fileF l id with
  | none => (dirZ, 8)
  | some p => (statP id p, 0)
def rootF (l : List Window) : List Int := 2 :: (l.filter fun x => !x.gone).map fun x => 16 * x.id
def childF (l : List Window) (p : Place) : List Int := if 0 ≤ p.window then [p.id + 1, p.id + 2, p.id + 3, p.id + 4, p.id + 5] else rootF l
def placeN (l : List Window) (id : Int) : List UInt8 := match fileF l id with
  | none => []
  | some p => p.name
def walkF (l : List Window) (id : Int) (name : List UInt8) : Int × Int := match fileF l id with
  | none => (0, 8)
  | some p => if p.mode < 2147483648 then (0, 9) else if name = [46, 46] then (1, 0)
    else match (childF l p).find? fun k => decide (placeN l k = name) with
      | some k => (k, 0)
      | none => (0, 8)
def listF (l : List Window) (id : Int) : List Dir × Int := match fileF l id with
  | none => ([], 8)
  | some p => if p.mode < 2147483648 then ([], 9) else ((childF l p).map fun k => (statF l k).1, 0)
-- facts about places
theorem idxN_ge {s : Int} : ∀ {l : List Window} {k : Nat}, (∀ a ∈ l, a.id ≠ s) → idxN s l k = none
  | [], k, _ => rfl
  | a :: l, k, h => by
    rw [idxN, if_neg (h a (List.mem_cons_self ..))]
    exact idxN_ge fun b hb => h b (List.mem_cons_of_mem _ hb)
theorem idxN_at {s : Int} : ∀ {l : List Window} {i k : Nat} {f : Window}, l[i]? = some f → f.id = s → (∀ (j : Nat) g, j < i → l[j]? = some g → g.id ≠ s) → idxN s l k = some (k + i)
  | a :: l, 0, k, f, h, hn, _ => by
    obtain rfl : a = f := by simpa using h
    rw [idxN, if_pos hn]; rfl
  | a :: l, i + 1, k, f, h, hn, hp => by
    rw [idxN, if_neg (hp 0 a (by omega) rfl), idxN_at (l := l) (i := i) (by simpa using h) hn fun j g hj hg => hp (j + 1) g (by omega) (by simpa using hg)]
    congr 1; omega
theorem idxN_some {s : Int} : ∀ {l : List Window} {k j : Nat}, idxN s l k = some j → ∃ i f, j = k + i ∧ l[i]? = some f ∧ f.id = s
  | [], k, j, h => by cases h
  | a :: l, k, j, h => by
    rw [idxN] at h
    split at h
    · cases h; exact ⟨0, a, rfl, rfl, ‹_›⟩
    · obtain ⟨i, f, h1, h2, h3⟩ := idxN_some h
      exact ⟨i + 1, f, by omega, by simpa using h2, h3⟩
theorem idxN_set {s : Int} : ∀ {l : List Window} {i k : Nat} {f g : Window}, l[i]? = some f → g.id = f.id → idxN s (l.set i g) k = idxN s l k
  | a :: l, 0, k, f, g, h, hn => by
    obtain rfl : a = f := by simpa using h
    simp only [List.set_cons_zero, idxN, hn]
  | a :: l, i + 1, k, f, g, h, hn => by
    simp only [List.set_cons_succ, idxN]
    rw [idxN_set (l := l) (i := i) (f := f) (by simpa using h) hn]
theorem idxW_none {l : List Window} {s : Int} (h : ∀ a ∈ l, a.id ≠ s) : idxW l s = -1 := by unfold idxW; rw [idxN_ge h]
theorem idxW_at {l : List Window} {s : Int} {i : Nat} {f : Window} (h : l[i]? = some f) (hn : f.id = s) (hp : ∀ (j : Nat) g, j < i → l[j]? = some g → g.id ≠ s) : idxW l s = (i : Int) := by unfold idxW; rw [idxN_at h hn hp]; simp
theorem idxW_ge (l : List Window) (id : Int) : -1 ≤ idxW l id := by
  unfold idxW
  split <;> omega
theorem idxW_found {l : List Window} {id : Int} (h : 0 ≤ idxW l id) : ∃ (i : Nat) (x : Window), idxW l id = (i : Int) ∧ l[i]? = some x ∧ i < l.length ∧ x.id = id ∧ wAt l (i : Int) = x := by
  unfold idxW at h ⊢
  split at h
  · rename_i j hj
    obtain ⟨i, f, h2, h3, h4⟩ := idxN_some hj
    have hi := List.getElem?_eq_some_iff.1 h3
    refine ⟨i, f, by omega, h3, hi.1, h4, ?_⟩
    simp [wAt, List.getD, h3]
  · omega
theorem wAt_nat {l : List Window} {i : Nat} {x : Window} (h : l[i]? = some x) : wAt l (i : Int) = x := by simp [wAt, List.getD, h]
theorem idxW_set {l : List Window} {s : Int} {i : Nat} {f g : Window} (h : l[i]? = some f) (hn : g.id = f.id) : idxW (l.set i g) s = idxW l s := by unfold idxW; rw [idxN_set h hn]
theorem seenW_set {l : List Window} {s : Int} {i : Nat} {f g : Window} (h : l[i]? = some f) (hn : g.id = f.id) (hg : g.gone = f.gone) : seenW (l.set i g) s = seenW l s := by
  unfold seenW
  rw [idxW_set h hn]
  by_cases h0 : 0 ≤ idxW l s
  · obtain ⟨j, x, hj, gx, hlt, hid, hw⟩ := idxW_found h0
    rw [hj, hw]
    by_cases hij : i = j
    · subst hij
      obtain rfl : f = x := Option.some.inj (h.symm.trans gx)
      rw [wAt_nat (x := g) (by rw [List.getElem?_set_self hlt]), hg]
    · rw [wAt_nat (x := x) (by rw [List.getElem?_set_ne hij]; exact gx)]
  · rw [decide_eq_false h0]; rfl
theorem goodF_iff {next : Int} : ∀ {l : List Window} {last : Int}, goodF next last l = true ↔ (∀ x ∈ l, last < x.id ∧ x.id < next ∧ soundW x = true) ∧ l.Pairwise (fun a b => a.id < b.id)
  | [], last => by simp [goodF]
  | x :: t, last => by
    simp only [goodF, Bool.and_eq_true, decide_eq_true_eq, goodF_iff (l := t), List.pairwise_cons, List.mem_cons]
    constructor
    · rintro ⟨⟨⟨h1, h2⟩, h3⟩, h4, h5⟩
      refine ⟨?_, fun y hy => (h4 y hy).1, h5⟩
      rintro y (rfl | hy)
      · exact ⟨h1, h2, h3⟩
      · have := h4 y hy
        exact ⟨by omega, this.2⟩
    · rintro ⟨h1, h2, h3⟩
      have := h1 x (.inl rfl)
      exact ⟨⟨⟨this.1, this.2.1⟩, this.2.2⟩, fun y hy => ⟨h2 y hy, (h1 y (.inr hy)).2⟩, h3⟩
structure RightW (w : Windows) : Prop where
  next0 : 1 ≤ w.next
  next1 : w.next ≤ 1048576
  len : w.l.length ≤ 16
  ids : ∀ x ∈ w.l, 0 < x.id ∧ x.id < w.next
  sound : ∀ x ∈ w.l, soundW x = true
  asc : w.l.Pairwise (fun a b => a.id < b.id)
  focus : w.focus = 0 ∨ seenW w.l w.focus = true
theorem rightW_iff (w : Windows) : rightW w = true ↔ RightW w := by
  unfold rightW
  simp only [Bool.and_eq_true, Bool.or_eq_true, decide_eq_true_eq, goodF_iff]
  constructor
  · rintro ⟨⟨⟨⟨h1, h2⟩, h3⟩, h4, h5⟩, h6⟩
    exact ⟨h1, h2, h3, fun x hx => ⟨(h4 x hx).1, (h4 x hx).2.1⟩, fun x hx => (h4 x hx).2.2, h5, h6⟩
  · rintro ⟨h1, h2, h3, h4, h5, h6, h7⟩
    exact ⟨⟨⟨⟨h1, h2⟩, h3⟩, fun x hx => ⟨(h4 x hx).1, (h4 x hx).2, h5 x hx⟩, h6⟩, h7⟩
theorem asc_ne {l : List Window} (h : l.Pairwise (fun a b => a.id < b.id)) {i j : Nat} {x y : Window} (hx : l[i]? = some x) (hy : l[j]? = some y) (hij : j < i) : y.id < x.id := by
  obtain ⟨h1, rfl⟩ := List.getElem?_eq_some_iff.1 hx
  obtain ⟨h2, rfl⟩ := List.getElem?_eq_some_iff.1 hy
  exact List.pairwise_iff_getElem.1 h j i h2 h1 hij
theorem idxW_asc {l : List Window} (h : l.Pairwise (fun a b => a.id < b.id)) {i : Nat} {x : Window} (hx : l[i]? = some x) : idxW l x.id = (i : Int) :=
  idxW_at hx rfl fun j g hj hg => by have := asc_ne h hx hg hj; omega
theorem seenW_asc {l : List Window} (h : l.Pairwise (fun a b => a.id < b.id)) {i : Nat} {x : Window} (hx : l[i]? = some x) : seenW l x.id = !x.gone := by
  unfold seenW
  rw [idxW_asc h hx, wAt_nat hx, decide_eq_true (by omega)]; rfl
theorem seenW_found {l : List Window} {id : Int} (h : seenW l id = true) : ∃ (i : Nat) (x : Window), idxW l id = (i : Int) ∧ l[i]? = some x ∧ i < l.length ∧ x.id = id ∧ x.gone = false := by
  unfold seenW at h
  simp only [Bool.and_eq_true, decide_eq_true_eq, Bool.not_eq_true'] at h
  obtain ⟨i, x, h1, h2, h3, h4, h5⟩ := idxW_found h.1
  rw [h1, h5] at h
  exact ⟨i, x, h1, h2, h3, h4, h.2⟩
theorem asc_set {l : List Window} (h : l.Pairwise (fun a b => a.id < b.id)) {i : Nat} {f g : Window} (hf : l[i]? = some f) (hn : g.id = f.id) : (l.set i g).Pairwise (fun a b => a.id < b.id) := by
  rw [List.pairwise_iff_getElem]
  intro a b ha hb hab
  rw [List.length_set] at ha hb
  have e : ∀ j (hj : j < l.length), ((l.set i g)[j]'(by rw [List.length_set]; exact hj)).id = (l[j]).id := by
    intro j hj
    by_cases hij : i = j
    · subst hij
      rw [List.getElem_set_self, hn]
      obtain ⟨h1, rfl⟩ := List.getElem?_eq_some_iff.1 hf
      rfl
    · rw [List.getElem_set_ne hij]
  rw [e a ha, e b hb]
  exact List.pairwise_iff_getElem.1 h a b ha hb hab
theorem RightW.set {w : Windows} (h : RightW w) {i : Nat} {f g : Window} (hf : w.l[i]? = some f) (hn : g.id = f.id) (hg : g.gone = f.gone) (hs : soundW g = true) : RightW (setW w (i : Int) g) := by
  unfold setW
  rw [Int.toNat_natCast]
  have hm := List.mem_of_getElem? hf
  refine ⟨h.next0, h.next1, by simpa using h.len, fun x hx => ?_, fun x hx => ?_, asc_set h.asc hf hn, ?_⟩
  · rcases List.mem_or_eq_of_mem_set hx with hx | rfl
    · exact h.ids x hx
    · rw [hn]; exact h.ids f hm
  · rcases List.mem_or_eq_of_mem_set hx with hx | rfl
    · exact h.sound x hx
    · exact hs
  · simp only
    rw [seenW_set hf hn hg]
    exact h.focus
theorem soundW_iff (x : Window) : soundW x = true ↔ x.label.length ≤ 64 ∧ x.text.length ≤ 65536 ∧ rightL x.line = true ∧ 0 ≤ x.opens ∧ x.opens ≤ 9007199254740991 ∧ (x.gone = true → 0 < x.opens) := by
  unfold soundW
  simp only [Bool.and_eq_true, decide_eq_true_eq, Bool.not_eq_true', Bool.and_eq_false_iff, decide_eq_false_iff_not]
  constructor
  · rintro ⟨⟨⟨⟨⟨h1, h2⟩, h3⟩, h4⟩, h5⟩, h6⟩
    refine ⟨h1, h2, h3, h4, h5, fun hg => ?_⟩
    rcases h6 with h6 | h6
    · rw [hg] at h6; cases h6
    · omega
  · rintro ⟨h1, h2, h3, h4, h5, h6⟩
    refine ⟨⟨⟨⟨⟨h1, h2⟩, h3⟩, h4⟩, h5⟩, ?_⟩
    cases hg : x.gone
    · exact .inl rfl
    · right; have := h6 hg; omega
end Go.Proofs.YtdbbpibfejchfaaGreatDoor
namespace Go.Proofs.YtdbbpibfejchfaaGreatDoor
open Go.RowKit
set_option linter.unusedVariables false
set_option linter.unusedSimpArgs false
set_option maxRecDepth 100000
structure Op where
  kind : Int
  id : Int
  mode : Int
  offset : Int
  count : Int
  text : List UInt8
  deriving Inhabited, DecidableEq
def Op.v (x : Op) : List V := [.int .i64 x.kind, .int .i64 x.id, .int .i64 x.mode, .int .i64 x.offset, .int .i64 x.count, .str x.text]
def opV (l : List Op) : List (List V) := l.map Op.v
theorem opV_len (l : List Op) : (opV l).length = l.length := by simp [opV]
theorem opV_row {l : List Op} {i : Nat} {f : Op} (h : l[i]? = some f) : rowAt (opV l) (i : Int) = f.v := by simp [rowAt, opV, List.getD, h]
theorem opV_ok {l : List Op} {i : Nat} (h : i < l.length) : okRow (opV l) i 6 = true := by simp [okRow, opV, List.getElem?_eq_getElem h, Op.v]
theorem opV_lenL (l : List Op) : lenL (opV l) = (l.length : Int) := by simp [lenL, opV]
theorem opV_all (l : List Op) : List.take l.length (opV l) = opV l := List.take_of_length_le (by simp [opV])
theorem opV_all1 (l : List Op) (x : List V) : List.take (l.length + 1) (opV l ++ [x]) = opV l ++ [x] := List.take_of_length_le (by simp [opV])
theorem opV_add (l : List Op) (f : Op) : opV l ++ [f.v] = opV (l ++ [f]) := by simp [opV]
theorem opV_part {l : List Op} {i : Nat} {f : Op} (h : l[i]? = some f) (o n : Nat) : partAt (opV l) i o n = sub f.v o n := by simp [partAt, opV, h]
theorem opV_put {l : List Op} {i : Nat} {f g : Op} (h : l[i]? = some f) {o : Nat} {ys : List V} (e : put f.v o ys = some g.v) : putAt (opV l) i o ys = some (opV (l.set i g)) := by simp [putAt, opV, h, e]
theorem opV_snoc {l : List Op} {j : Nat} {f : Op} (h : l[j]? = some f) : opV (l.take j) ++ [f.v] = opV (l.take (j + 1)) := by
  have := (List.getElem?_eq_some_iff.1 h); obtain ⟨h1, rfl⟩ := this
  unfold opV; rw [List.take_succ_eq_append_getElem h1, List.map_append]; rfl
theorem opV_app (a b : List Op) : opV a ++ opV b = opV (a ++ b) := by simp [opV]
theorem opV_take (a : List Op) (n : Nat) : List.take n (opV a) = opV (a.take n) := by simp [opV]
theorem opV_drop (a : List Op) (n : Nat) : List.drop n (opV a) = opV (a.drop n) := by simp [opV]
theorem opV_set (a : List Op) (n : Nat) (f : Op) : (opV a).set n f.v = opV (a.set n f) := by simp [opV]
theorem opV_head (a : List Op) : headOkP 6 (opV a) = true := by cases a <;> rfl
theorem opV_get (a : List Op) (i : Nat) : (opV a)[i]? = (a[i]?).map Op.v := by simp [opV]
theorem Op.eqv {x y : Op} : x = y ↔ x.kind = y.kind ∧ x.id = y.id ∧ x.mode = y.mode ∧ x.offset = y.offset ∧ x.count = y.count ∧ x.text = y.text := by cases x; cases y; simp
theorem Op.v_inj {x y : Op} : x.v = y.v ↔ x = y := by
  cases x; cases y
  simp [Op.v, and_assoc]
theorem opV_inj {a b : List Op} : opV a = opV b ↔ a = b := List.map_inj_right fun _ _ h => Op.v_inj.1 h
def opSh : Sh := .pair (.int .i64) (.pair (.int .i64) (.pair (.int .i64) (.pair (.int .i64) (.pair (.int .i64) (.pair .str .unit)))))
def Op.fit (x : Op) : Prop := (IntKind.i64.min ≤ x.kind ∧ x.kind ≤ IntKind.i64.max) ∧ (IntKind.i64.min ≤ x.id ∧ x.id ≤ IntKind.i64.max) ∧ (IntKind.i64.min ≤ x.mode ∧ x.mode ≤ IntKind.i64.max) ∧ (IntKind.i64.min ≤ x.offset ∧ x.offset ≤ IntKind.i64.max) ∧ (IntKind.i64.min ≤ x.count ∧ x.count ≤ IntKind.i64.max) ∧ x.text.length ≤ 140737488351232
theorem Op.fits {vs : List V} (h : Fits opSh vs) : ∃ x : Op, vs = x.v ∧ x.fit := by
  unfold opSh at h
  obtain ⟨u1, w1, rfl, a1, b1⟩ := h
  obtain ⟨x1, rfl, fx1⟩ := a1
  obtain ⟨u2, w2, rfl, a2, b2⟩ := b1
  obtain ⟨x2, rfl, fx2⟩ := a2
  obtain ⟨u3, w3, rfl, a3, b3⟩ := b2
  obtain ⟨x3, rfl, fx3⟩ := a3
  obtain ⟨u4, w4, rfl, a4, b4⟩ := b3
  obtain ⟨x4, rfl, fx4⟩ := a4
  obtain ⟨u5, w5, rfl, a5, b5⟩ := b4
  obtain ⟨x5, rfl, fx5⟩ := a5
  obtain ⟨u6, w6, rfl, a6, b6⟩ := b5
  obtain ⟨x6, rfl, fx6⟩ := a6
  obtain rfl : w6 = [] := b6
  exact ⟨⟨x1, x2, x3, x4, x5, x6⟩, rfl, ⟨fx1, fx2, fx3, fx4, fx5, fx6⟩⟩

structure Out where
  n : Int
  text : List UInt8
  blocked : Bool
  err : Int
  deriving Inhabited, DecidableEq
def Out.v (x : Out) : List V := [.int .i64 x.n, .str x.text, .bool x.blocked, .int .i64 x.err]
def outV (l : List Out) : List (List V) := l.map Out.v
theorem outV_len (l : List Out) : (outV l).length = l.length := by simp [outV]
theorem outV_row {l : List Out} {i : Nat} {f : Out} (h : l[i]? = some f) : rowAt (outV l) (i : Int) = f.v := by simp [rowAt, outV, List.getD, h]
theorem outV_ok {l : List Out} {i : Nat} (h : i < l.length) : okRow (outV l) i 4 = true := by simp [okRow, outV, List.getElem?_eq_getElem h, Out.v]
theorem outV_lenL (l : List Out) : lenL (outV l) = (l.length : Int) := by simp [lenL, outV]
theorem outV_all (l : List Out) : List.take l.length (outV l) = outV l := List.take_of_length_le (by simp [outV])
theorem outV_all1 (l : List Out) (x : List V) : List.take (l.length + 1) (outV l ++ [x]) = outV l ++ [x] := List.take_of_length_le (by simp [outV])
theorem outV_add (l : List Out) (f : Out) : outV l ++ [f.v] = outV (l ++ [f]) := by simp [outV]
theorem outV_part {l : List Out} {i : Nat} {f : Out} (h : l[i]? = some f) (o n : Nat) : partAt (outV l) i o n = sub f.v o n := by simp [partAt, outV, h]
theorem outV_put {l : List Out} {i : Nat} {f g : Out} (h : l[i]? = some f) {o : Nat} {ys : List V} (e : put f.v o ys = some g.v) : putAt (outV l) i o ys = some (outV (l.set i g)) := by simp [putAt, outV, h, e]
theorem outV_snoc {l : List Out} {j : Nat} {f : Out} (h : l[j]? = some f) : outV (l.take j) ++ [f.v] = outV (l.take (j + 1)) := by
  have := (List.getElem?_eq_some_iff.1 h); obtain ⟨h1, rfl⟩ := this
  unfold outV; rw [List.take_succ_eq_append_getElem h1, List.map_append]; rfl
theorem outV_app (a b : List Out) : outV a ++ outV b = outV (a ++ b) := by simp [outV]
theorem outV_take (a : List Out) (n : Nat) : List.take n (outV a) = outV (a.take n) := by simp [outV]
theorem outV_drop (a : List Out) (n : Nat) : List.drop n (outV a) = outV (a.drop n) := by simp [outV]
theorem outV_set (a : List Out) (n : Nat) (f : Out) : (outV a).set n f.v = outV (a.set n f) := by simp [outV]
theorem outV_head (a : List Out) : headOkP 4 (outV a) = true := by cases a <;> rfl
theorem outV_get (a : List Out) (i : Nat) : (outV a)[i]? = (a[i]?).map Out.v := by simp [outV]
theorem Out.eqv {x y : Out} : x = y ↔ x.n = y.n ∧ x.text = y.text ∧ x.blocked = y.blocked ∧ x.err = y.err := by cases x; cases y; simp
theorem Out.v_inj {x y : Out} : x.v = y.v ↔ x = y := by
  cases x; cases y
  simp [Out.v, and_assoc]
theorem outV_inj {a b : List Out} : outV a = outV b ↔ a = b := List.map_inj_right fun _ _ h => Out.v_inj.1 h
def outSh : Sh := .pair (.int .i64) (.pair .str (.pair .bool (.pair (.int .i64) .unit)))
def Out.fit (x : Out) : Prop := (IntKind.i64.min ≤ x.n ∧ x.n ≤ IntKind.i64.max) ∧ x.text.length ≤ 140737488351232 ∧ True ∧ (IntKind.i64.min ≤ x.err ∧ x.err ≤ IntKind.i64.max)
theorem Out.fits {vs : List V} (h : Fits outSh vs) : ∃ x : Out, vs = x.v ∧ x.fit := by
  unfold outSh at h
  obtain ⟨u1, w1, rfl, a1, b1⟩ := h
  obtain ⟨x1, rfl, fx1⟩ := a1
  obtain ⟨u2, w2, rfl, a2, b2⟩ := b1
  obtain ⟨x2, rfl, fx2⟩ := a2
  obtain ⟨u3, w3, rfl, a3, b3⟩ := b2
  obtain ⟨x3, rfl⟩ := a3
  obtain ⟨u4, w4, rfl, a4, b4⟩ := b3
  obtain ⟨x4, rfl, fx4⟩ := a4
  obtain rfl : w4 = [] := b4
  exact ⟨⟨x1, x2, x3, x4⟩, rfl, ⟨fx1, fx2, trivial, fx4⟩⟩

theorem file_cases {l : List Window} {id : Int} {p : Place} (h : fileF l id = some p) : (id = 1 ∧ p = ⟨1, [47], 2147484013, -1, 0⟩) ∨ (id = 2 ∧ p = ⟨2, [102, 111, 99, 117, 115], 438, -1, 0⟩) ∨
    (∃ (i : Nat) (x : Window), 16 ≤ id ∧ idxW l (id / 16) = (i : Int) ∧ l[i]? = some x ∧ i < l.length ∧ x.id = id / 16 ∧ wAt l (i : Int) = x ∧ 0 ≤ id % 16 ∧ id % 16 ≤ 5 ∧ p.id = id ∧ p.window = (i : Int) ∧ p.file = id % 16 ∧
      ((id % 16 = 0 ∧ x.gone = false ∧ p.mode = 2147484013 ∧ p.name = textN 10 (id / 16)) ∨ (id % 16 ≠ 0 ∧ p.mode = modeK (id % 16) ∧ p.name = nameK (id % 16)))) := by
  unfold fileF modI divI at h
  split at h
  · injection h with h; subst h; exact .inl ⟨‹_›, rfl⟩
  split at h
  · injection h with h; subst h; exact .inr (.inl ⟨‹_›, rfl⟩)
  split at h
  · cases h
  split at h
  · cases h
  rename_i h1 h2 h3 h4
  simp only [not_or, not_and] at h4
  obtain ⟨i, x, e1, e2, e3, e4, e5⟩ := idxW_found (l := l) (id := id / 16) (by omega)
  right; right
  rw [e1, e5] at h4
  split at h
  · injection h with h; subst h
    exact ⟨i, x, by omega, e1, e2, e3, e4, e5, by omega, by omega, rfl, e1, by simp only; omega, .inl ⟨‹_›, by simpa using h4.2.2 ‹_›, rfl, rfl⟩⟩
  · injection h with h; subst h
    exact ⟨i, x, by omega, e1, e2, e3, e4, e5, by omega, by omega, rfl, e1, rfl, .inr ⟨‹_›, rfl, rfl⟩⟩
theorem modeK_lt (k : Int) : modeK k < 2147483648 ∧ 0 ≤ modeK k := by
  unfold modeK
  split
  · omega
  split
  · omega
  split
  · omega
  split <;> omega
theorem make_right {w : Windows} (h : RightW w) (name : List UInt8) : RightW (makeF w name).1 := by
  unfold makeF
  split
  · exact h
  rename_i hn
  split
  · exact h
  rename_i hl
  have h0 := h.next0
  have h1 := h.next1
  have asc : (w.l ++ ([⟨w.next, name, lineZ, [], 0, false⟩] : List Window)).Pairwise (fun a b : Window => a.id < b.id) := by
    rw [List.pairwise_append]
    refine ⟨h.asc, List.pairwise_singleton _ _, fun a ha b hb => ?_⟩
    simp at hb; subst hb
    exact (h.ids a ha).2
  refine ⟨by simp only; omega, by simp only; omega, by simp; omega, fun x hx => ?_, fun x hx => ?_, asc, .inr ?_⟩
  · rcases List.mem_append.1 hx with hx | hx
    · have := h.ids x hx; simp only; omega
    · simp at hx; subst hx; simp only; omega
  · rcases List.mem_append.1 hx with hx | hx
    · exact h.sound x hx
    · simp at hx; subst hx
      rw [soundW_iff]
      exact ⟨by simp only; omega, by simp, by show rightL lineZ = true; decide, by simp, by simp, by simp⟩
  · have : (w.l ++ [(⟨w.next, name, lineZ, [], 0, false⟩ : Window)])[w.l.length]? = some ⟨w.next, name, lineZ, [], 0, false⟩ := by simp
    exact seenW_asc asc this
theorem focus_right {w : Windows} (h : RightW w) (id : Int) : RightW (focusF w id).1 := by
  unfold focusF
  split
  · exact ⟨h.next0, h.next1, h.len, h.ids, h.sound, h.asc, .inr ‹_›⟩
  · exact h
theorem showF_id (x : Window) (s : List UInt8) : (showF x s).id = x.id := by unfold showF; dsimp only
theorem showF_gone (x : Window) (s : List UInt8) : (showF x s).gone = x.gone := by unfold showF; dsimp only
theorem show_sound {x : Window} (h : soundW x = true) (s : List UInt8) : soundW (showF x s) = true := by
  rw [soundW_iff] at h ⊢
  obtain ⟨h1, h2, h3, h4, h5, h6⟩ := h
  unfold showF
  dsimp only
  exact ⟨h1, by rw [List.length_drop]; omega, h3, h4, h5, h6⟩
theorem line_sound {x : Window} (h : soundW x = true) {l : Line} (hl : rightL l = true) : soundW { x with line := l } = true := by
  rw [soundW_iff] at h ⊢
  obtain ⟨h1, h2, h3, h4, h5, h6⟩ := h
  exact ⟨h1, h2, hl, h4, h5, h6⟩
theorem sound_line {x : Window} (h : soundW x = true) : rightL x.line = true := ((soundW_iff x).1 h).2.2.1
theorem feed_sound {x : Window} (h : soundW x = true) (s : List UInt8) : soundW (feedW x s) = true := by
  unfold feedW
  exact show_sound (line_sound h (feedF_right s (sound_line h))) _
theorem type_right {w : Windows} (h : RightW w) (s : List UInt8) : RightW (typeW w s) := by
  unfold typeW
  split
  · exact h
  · obtain ⟨i, x, e1, e2, e3, e4, e5⟩ := idxW_found (l := w.l) (id := w.focus) (by omega)
    rw [e1, e5]
    exact h.set e2 (showF_id _ _) (showF_gone _ _) (feed_sound (h.sound x (List.mem_of_getElem? e2)) s)
theorem open_right {w : Windows} (h : RightW w) (id m : Int) : RightW (openF w id m).1 := by
  unfold openF
  split
  · exact h
  rename_i p hp
  split
  · exact h
  split
  · exact h
  split
  · exact h
  split
  · exact h
  split
  · exact h
  split
  · exact h
  rename_i h1 h2 h3 h4 h5 h6
  rcases file_cases hp with ⟨_, rfl⟩ | ⟨_, rfl⟩ | ⟨i, x, _, e1, e2, e3, e4, e5, _, _, _, e6, _⟩
  · simp at h5
  · simp at h5
  · rw [e6, e5] at h6 ⊢
    refine h.set e2 rfl rfl ?_
    have := (soundW_iff x).1 (h.sound x (List.mem_of_getElem? e2))
    rw [soundW_iff]
    obtain ⟨g1, g2, g3, g4, g5, g6⟩ := this
    exact ⟨g1, g2, g3, by simp only; omega, by simp only; omega, fun _ => by simp only; omega⟩
theorem read_right {w : Windows} (h : RightW w) (id off cnt : Int) : RightW (readW w id off cnt).1 := by
  unfold readW
  split
  · exact h
  rename_i p hp
  split
  · exact h
  split
  · exact h
  split
  · rename_i hf
    split
    · exact h
    · rcases file_cases hp with ⟨_, rfl⟩ | ⟨_, rfl⟩ | ⟨i, x, _, e1, e2, e3, e4, e5, _, _, _, e6, _⟩
      · simp at hf
      · simp at hf
      · rw [e6, e5]
        have := h.sound x (List.mem_of_getElem? e2)
        exact h.set e2 rfl rfl (line_sound this (readF_right (sound_line this) _))
  · exact h
theorem fold_seen : ∀ (l : List Window) (a : Int), l.foldl (fun a x => if x.gone = true then a else x.id) a = a ∨ ∃ x ∈ l, x.gone = false ∧ l.foldl (fun a x => if x.gone = true then a else x.id) a = x.id
  | [], a => .inl rfl
  | x :: t, a => by
    rw [List.foldl_cons]
    rcases fold_seen t (if x.gone = true then a else x.id) with h | ⟨y, hy, h1, h2⟩
    · rw [h]
      split
      · exact .inl rfl
      · rename_i hh
        exact .inr ⟨x, List.mem_cons_self .., by simpa using hh, rfl⟩
    · exact .inr ⟨y, List.mem_cons_of_mem _ hy, h1, h2⟩
theorem lastF_seen (l : List Window) : lastF l = 0 ∨ ∃ (i : Nat) (x : Window), l[i]? = some x ∧ x.gone = false ∧ lastF l = x.id := by
  rcases fold_seen l 0 with h | ⟨x, hx, h1, h2⟩
  · exact .inl h
  · obtain ⟨i, hi⟩ := List.mem_iff_getElem?.1 hx
    exact .inr ⟨i, x, hi, h1, h2⟩
theorem lastF_right {l : List Window} (h : l.Pairwise (fun a b => a.id < b.id)) : lastF l = 0 ∨ seenW l (lastF l) = true := by
  rcases lastF_seen l with h' | ⟨i, x, h1, h2, h3⟩
  · exact .inl h'
  · right
    rw [h3, seenW_asc h h1, h2]; rfl
theorem asc_erase {l : List Window} (h : l.Pairwise (fun a b => a.id < b.id)) (i : Nat) : (l.eraseIdx i).Pairwise (fun a b => a.id < b.id) := h.sublist (List.eraseIdx_sublist l i)
theorem seen_erase {l : List Window} (h : l.Pairwise (fun a b => a.id < b.id)) {i : Nat} {x : Window} (hx : l[i]? = some x) {n : Int} (hn : n ≠ x.id) (hs : seenW l n = true) : seenW (l.eraseIdx i) n = true := by
  obtain ⟨j, y, h1, h2, h3, h4, h5⟩ := seenW_found hs
  have hij : j ≠ i := by
    rintro rfl
    obtain rfl := Option.some.inj (h2.symm.trans hx)
    exact hn h4.symm
  have : ∃ k : Nat, (l.eraseIdx i)[k]? = some y := by
    rcases Nat.lt_or_ge j i with hlt | hge
    · exact ⟨j, by rw [List.getElem?_eraseIdx_of_lt hlt]; exact h2⟩
    · exact ⟨j - 1, by rw [List.getElem?_eraseIdx_of_ge (by omega), show j - 1 + 1 = j by omega]; exact h2⟩
  obtain ⟨k, hk⟩ := this
  rw [← h4, seenW_asc (asc_erase h i) hk, h5]; rfl
theorem RightW.del {w : Windows} (h : RightW w) {i : Nat} {x : Window} (hx : w.l[i]? = some x) (hf : w.focus = 0 ∨ w.focus ≠ x.id) : RightW (delW w (i : Int)) := by
  unfold delW
  rw [Int.toNat_natCast]
  have hm : ∀ y ∈ w.l.eraseIdx i, y ∈ w.l := fun y hy => List.mem_of_mem_eraseIdx hy
  refine ⟨h.next0, h.next1, ?_, fun y hy => h.ids y (hm y hy), fun y hy => h.sound y (hm y hy), asc_erase h.asc i, ?_⟩
  · have := h.len
    have := (List.eraseIdx_sublist w.l i).length_le
    simp only; omega
  · rcases h.focus with h0 | h0
    · exact .inl h0
    · rcases hf with hf | hf
      · exact .inl hf
      · exact .inr (seen_erase h.asc hx hf h0)
theorem gone_sound {x : Window} (h : soundW x = true) (ho : 0 < x.opens) : soundW { x with gone := true } = true := by
  rw [soundW_iff] at h ⊢
  obtain ⟨h1, h2, h3, h4, h5, h6⟩ := h
  exact ⟨h1, h2, h3, h4, h5, fun _ => ho⟩
theorem seenW_set_ne {l : List Window} {s : Int} {i : Nat} {f g : Window} (h : l[i]? = some f) (hn : g.id = f.id) (hs : s ≠ f.id) : seenW (l.set i g) s = seenW l s := by
  unfold seenW
  rw [idxW_set h hn]
  by_cases h0 : 0 ≤ idxW l s
  · obtain ⟨j, x, hj, gx, hlt, hid, hw⟩ := idxW_found h0
    rw [hj, hw]
    have hij : i ≠ j := by
      rintro rfl
      obtain rfl : f = x := Option.some.inj (h.symm.trans gx)
      exact hs hid.symm
    rw [wAt_nat (x := x) (by rw [List.getElem?_set_ne hij]; exact gx)]
  · rw [decide_eq_false h0]; rfl
theorem deleted_right {w : Windows} (h : RightW w) {i : Nat} {x : Window} (hx : w.l[i]? = some x) : RightW (deletedF w (i : Int)) := by
  have hs := h.sound x (List.mem_of_getElem? hx)
  have hid := h.ids x (List.mem_of_getElem? hx)
  unfold deletedF
  rw [wAt_nat hx]
  have setok : 0 < x.opens → ∀ f : Int, (f = 0 ∨ seenW (w.l.set i { x with gone := true }) f = true) → RightW ⟨w.next, f, w.l.set i { x with gone := true }⟩ := by
    intro ho f hf
    have hm := List.mem_of_getElem? hx
    refine ⟨h.next0, h.next1, by simpa using h.len, fun y hy => ?_, fun y hy => ?_, asc_set h.asc hx rfl, hf⟩
    · rcases List.mem_or_eq_of_mem_set hy with hy | rfl
      · exact h.ids y hy
      · exact hid
    · rcases List.mem_or_eq_of_mem_set hy with hy | rfl
      · exact h.sound y hy
      · exact gone_sound hs ho
  split
  · rename_i hf
    split
    · rename_i ho
      unfold setW
      rw [Int.toNat_natCast]
      refine setok ho _ ?_
      rw [seenW_set_ne (g := { x with gone := true }) hx rfl hf]
      exact h.focus
    · exact h.del hx (.inr hf)
  · rename_i hf
    split
    · rename_i ho
      unfold setW
      simp only [Int.toNat_natCast]
      exact setok ho _ (lastF_right (asc_set h.asc hx rfl))
    · unfold delW
      simp only [Int.toNat_natCast]
      have hm : ∀ y ∈ w.l.eraseIdx i, y ∈ w.l := fun y hy => List.mem_of_mem_eraseIdx hy
      refine ⟨h.next0, h.next1, ?_, fun y hy => h.ids y (hm y hy), fun y hy => h.sound y (hm y hy), asc_erase h.asc i, lastF_right (asc_erase h.asc i)⟩
      have := h.len
      have := (List.eraseIdx_sublist w.l i).length_le
      simp only; omega
theorem control_right {w : Windows} (h : RightW w) {i : Nat} {x : Window} (hx : w.l[i]? = some x) (hg : x.gone = false) (k : Int) (c : List UInt8) : RightW (controlF w (i : Int) k c).1 := by
  have hs := h.sound x (List.mem_of_getElem? hx)
  unfold controlF
  rw [wAt_nat hx]
  split
  · exact h.set hx rfl rfl (line_sound hs (setRawF_right (sound_line hs) _))
  split
  · exact h.set hx rfl rfl (line_sound hs (setRawF_right (sound_line hs) _))
  split
  · refine ⟨h.next0, h.next1, h.len, h.ids, h.sound, h.asc, .inr ?_⟩
    simp only
    rw [seenW_asc h.asc hx, hg]; rfl
  split
  · exact deleted_right h hx
  · exact h
theorem refocus_right {w : Windows} (h : RightW w) (data : List UInt8) : RightW (refocusF w data).1 := by
  unfold refocusF
  split
  · exact h
  · split
    · exact ⟨h.next0, h.next1, h.len, h.ids, h.sound, h.asc, .inr ‹_›⟩
    · exact h
theorem write_right {w : Windows} (h : RightW w) (id : Int) (data : List UInt8) : RightW (writeW w id data).1 := by
  unfold writeW
  split
  · exact h
  rename_i p hp
  split
  · exact h
  rename_i hm
  split
  · exact refocus_right h data
  rename_i hp2
  rcases file_cases hp with ⟨_, rfl⟩ | ⟨_, rfl⟩ | ⟨i, x, _, e1, e2, e3, e4, e5, _, _, _, e6, _⟩
  · simp at hm
  · simp at hp2
  have hs := h.sound x (List.mem_of_getElem? e2)
  rw [e6, e5]
  split
  · exact h
  rename_i hg
  split
  · exact h.set (g := showF x data) e2 (showF_id _ _) (showF_gone _ _) (show_sound hs _)
  split
  · split
    · exact h
    · refine h.set e2 rfl rfl ?_
      rw [soundW_iff] at hs ⊢
      obtain ⟨h1, h2, h3, h4, h5, h6⟩ := hs
      exact ⟨by simp only; omega, h2, h3, h4, h5, h6⟩
  split
  · exact h
  split
  · exact h
  · exact control_right h e2 (by simpa using hg) _ _
theorem close_right {w : Windows} (h : RightW w) (id : Int) : RightW (closeW w id) := by
  unfold closeW
  split
  · exact h
  rename_i p hp
  split
  · exact h
  rename_i hw
  rcases file_cases hp with ⟨_, rfl⟩ | ⟨_, rfl⟩ | ⟨i, x, _, e1, e2, e3, e4, e5, _, _, _, e6, _⟩
  · simp at hw
  · simp at hw
  have hs := h.sound x (List.mem_of_getElem? e2)
  rw [e6, e5]
  split
  · rename_i hc
    refine h.del e2 ?_
    rcases h.focus with h0 | h0
    · exact .inl h0
    · right
      rintro hf
      rw [hf, seenW_asc h.asc e2, hc.2] at h0
      cases h0
  · rename_i hc
    refine h.set e2 rfl rfl ?_
    rw [soundW_iff] at hs ⊢
    obtain ⟨h1, h2, h3, h4, h5, h6⟩ := hs
    refine ⟨h1, h2, h3, by simp only; omega, by simp only; omega, fun hg => ?_⟩
    simp only at hg ⊢
    rcases (by omega : 0 < max (x.opens - 1) 0 ∨ max (x.opens - 1) 0 ≤ 0) with h' | h'
    · exact h'
    · exact absurd ⟨by omega, hg⟩ hc
def didF (w : Windows) (o : Op) : Windows × Out :=
  if o.kind = 1 then ((makeF w o.text).1, ⟨(makeF w o.text).2.1, [], false, (makeF w o.text).2.2⟩)
  else if o.kind = 2 then ((focusF w o.id).1, ⟨0, [], false, (focusF w o.id).2⟩)
  else if o.kind = 3 then (typeW w o.text, ⟨0, [], false, 0⟩)
  else if o.kind = 4 then ((openF w o.id o.mode).1, ⟨0, [], false, (openF w o.id o.mode).2⟩)
  else if o.kind = 5 then ((readW w o.id o.offset o.count).1, ⟨0, (readW w o.id o.offset o.count).2.1, (readW w o.id o.offset o.count).2.2.1, (readW w o.id o.offset o.count).2.2.2⟩)
  else if o.kind = 6 then ((writeW w o.id o.text).1, ⟨(writeW w o.id o.text).2.1, [], false, (writeW w o.id o.text).2.2⟩)
  else if o.kind = 7 then (closeW w o.id, ⟨0, [], false, 0⟩)
  else (w, ⟨0, [], false, 0⟩)
theorem did_right {w : Windows} (h : RightW w) (o : Op) : RightW (didF w o).1 := by
  unfold didF
  split
  · exact make_right h _
  split
  · exact focus_right h _
  split
  · exact type_right h _
  split
  · exact open_right h _ _
  split
  · exact read_right h _ _ _
  split
  · exact write_right h _ _
  split
  · exact close_right h _
  · exact h
end Go.Proofs.YtdbbpibfejchfaaGreatDoor
namespace Go.Proofs.YtdbbpibfejchfaaGreatDoor
open Go.RowKit
theorem awake_ev {n : Nat} (h : 14 ≤ n) : evalF Tryz.prog cfgN n 7 [] [] = some (.bool true, []) := by
  obtain ⟨k, rfl⟩ : ∃ k, n = k + 14 := ⟨n - 14, by omega⟩
  kernel_rfl
end Go.Proofs.YtdbbpibfejchfaaGreatDoor
