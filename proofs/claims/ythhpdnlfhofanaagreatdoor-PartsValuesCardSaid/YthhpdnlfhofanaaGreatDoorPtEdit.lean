/- The line editor: what a text that is typed does (cut from the chapter edit by prune.py). -/
import Derived.Test.YthhpdnlfhofanaaGreatDoorPtBase
import Derived.Test.YthhpdnlfhofanaaGreatDoorEvF
namespace Go.Proofs.YthhpdnlfhofanaaGreatDoor
open Go.RowKit
set_option linter.unusedVariables false
set_option linter.unusedSimpArgs false
structure Line where
  raw : Bool
  text : List UInt8
  ready : List (List UInt8)
  deriving Inhabited, DecidableEq
def Line.v (x : Line) : List V := [.bool x.raw, .str x.text, .lst (strV x.ready)]
def lineV (l : List Line) : List (List V) := l.map Line.v
theorem lineV_len (l : List Line) : (lineV l).length = l.length := by simp [lineV]
theorem lineV_row {l : List Line} {i : Nat} {f : Line} (h : l[i]? = some f) : rowAt (lineV l) (i : Int) = f.v := by simp [rowAt, lineV, List.getD, h]
theorem lineV_ok {l : List Line} {i : Nat} (h : i < l.length) : okRow (lineV l) i 3 = true := by simp [okRow, lineV, List.getElem?_eq_getElem h, Line.v]
theorem lineV_lenL (l : List Line) : lenL (lineV l) = (l.length : Int) := by simp [lenL, lineV]
theorem lineV_all (l : List Line) : List.take l.length (lineV l) = lineV l := List.take_of_length_le (by simp [lineV])
theorem lineV_all1 (l : List Line) (x : List V) : List.take (l.length + 1) (lineV l ++ [x]) = lineV l ++ [x] := List.take_of_length_le (by simp [lineV])
theorem lineV_add (l : List Line) (f : Line) : lineV l ++ [f.v] = lineV (l ++ [f]) := by simp [lineV]
theorem lineV_part {l : List Line} {i : Nat} {f : Line} (h : l[i]? = some f) (o n : Nat) : partAt (lineV l) i o n = sub f.v o n := by simp [partAt, lineV, h]
theorem lineV_put {l : List Line} {i : Nat} {f g : Line} (h : l[i]? = some f) {o : Nat} {ys : List V} (e : put f.v o ys = some g.v) : putAt (lineV l) i o ys = some (lineV (l.set i g)) := by simp [putAt, lineV, h, e]
theorem lineV_snoc {l : List Line} {j : Nat} {f : Line} (h : l[j]? = some f) : lineV (l.take j) ++ [f.v] = lineV (l.take (j + 1)) := by
  have := (List.getElem?_eq_some_iff.1 h); obtain ⟨h1, rfl⟩ := this
  unfold lineV; rw [List.take_succ_eq_append_getElem h1, List.map_append]; rfl
theorem lineV_app (a b : List Line) : lineV a ++ lineV b = lineV (a ++ b) := by simp [lineV]
theorem lineV_take (a : List Line) (n : Nat) : List.take n (lineV a) = lineV (a.take n) := by simp [lineV]
theorem lineV_drop (a : List Line) (n : Nat) : List.drop n (lineV a) = lineV (a.drop n) := by simp [lineV]
theorem lineV_set (a : List Line) (n : Nat) (f : Line) : (lineV a).set n f.v = lineV (a.set n f) := by simp [lineV]
theorem lineV_head (a : List Line) : headOkP 3 (lineV a) = true := by cases a <;> rfl
theorem lineV_get (a : List Line) (i : Nat) : (lineV a)[i]? = (a[i]?).map Line.v := by simp [lineV]
theorem Line.eqv {x y : Line} : x = y ↔ x.raw = y.raw ∧ x.text = y.text ∧ x.ready = y.ready := by cases x; cases y; simp
theorem Line.v_inj {x y : Line} : x.v = y.v ↔ x = y := by
  cases x; cases y
  simp [Line.v, strV_inj, and_assoc]
theorem lineV_inj {a b : List Line} : lineV a = lineV b ↔ a = b := List.map_inj_right fun _ _ h => Line.v_inj.1 h
def lineSh : Sh := .pair .bool (.pair .str (.pair (.slice 16 1 .str) .unit))
def Line.fit (x : Line) : Prop := True ∧ x.text.length ≤ 140737488351232 ∧ (x.ready.length * 16 ≤ 140737488351232 ∧ ∀ a ∈ x.ready, a.length ≤ 140737488351232)
theorem Line.fits {vs : List V} (h : Fits lineSh vs) : ∃ x : Line, vs = x.v ∧ x.fit := by
  unfold lineSh at h
  obtain ⟨u1, w1, rfl, a1, b1⟩ := h
  obtain ⟨x1, rfl⟩ := a1
  obtain ⟨u2, w2, rfl, a2, b2⟩ := b1
  obtain ⟨x2, rfl, fx2⟩ := a2
  obtain ⟨u3, w3, rfl, a3, b3⟩ := b2
  obtain ⟨rx3, rfl, lx3, ex3⟩ := a3
  obtain ⟨x3, rfl, gx3⟩ := rows_of (fun x => [.str x]) (fun a => a.length ≤ 140737488351232) (fun q hq => fits_oneS (ex3 q hq).2)
  rw [List.length_map] at lx3
  obtain rfl : w3 = [] := b3
  exact ⟨⟨x1, x2, x3⟩, rfl, ⟨trivial, fx2, ⟨lx3, gx3⟩⟩⟩

set_option linter.unusedVariables false
set_option linter.unusedSimpArgs false
def prB (n : Int) : Bool := decide (n = 9) || (decide (32 ≤ n) && !decide (n = 127))
def blB (n : Int) : Bool := decide (n = 9) || decide (n = 32)
def nbl (n : Int) : Bool := !blB n
def byteL (n : Int) : List UInt8 := [UInt8.ofNat n.toNat]
def textOk (t : List UInt8) : Bool := t.all fun c => prB c.toNat
def longB (n : Int) : Bool := decide (1025 < n)
def anyLong (ss : List (List UInt8)) : Bool := ss.any fun s => longB s.length
def rightL (l : Line) : Bool := decide (l.text.length ≤ 1024) && !(l.raw && !decide (l.text.length = 0)) && decide (l.ready.length ≤ 1024) && textOk l.text && !anyLong l.ready
theorem rightL_iff (l : Line) : rightL l = true ↔ l.text.length ≤ 1024 ∧ (l.raw = true → l.text = []) ∧ l.ready.length ≤ 1024 ∧ textOk l.text = true ∧ ∀ s ∈ l.ready, s.length ≤ 1025 := by
  unfold rightL anyLong longB
  simp only [Bool.and_eq_true, decide_eq_true_eq, Bool.not_eq_true', Bool.and_eq_false_iff, List.any_eq_false, decide_eq_false_iff_not, Bool.not_eq_false', List.length_eq_zero_iff]
  constructor
  · rintro ⟨⟨⟨⟨h1, h2⟩, h3⟩, h4⟩, h5⟩
    refine ⟨h1, fun hr => ?_, h3, h4, fun s hs => by have := h5 s hs; omega⟩
    rcases h2 with h2 | h2
    · rw [hr] at h2; cases h2
    · exact h2
  · rintro ⟨h1, h2, h3, h4, h5⟩
    refine ⟨⟨⟨⟨h1, ?_⟩, h3⟩, h4⟩, fun s hs => by have := h5 s hs; omega⟩
    cases hr : l.raw
    · exact .inl rfl
    · exact .inr (h2 hr)
/-- How far a text goes when bytes of a kind are taken off its end. -/
def scanB (p : Int → Bool) (s : List UInt8) : Nat → Nat
  | 0 => 0
  | n + 1 => if p ((s.getD n 0).toNat : Int) = true then scanB p s n else n + 1
def wordN (s : List UInt8) : Nat := s.length - scanB nbl s (scanB blB s s.length)
theorem wordN_le (s : List UInt8) : wordN s ≤ s.length := by unfold wordN; omega
def rub (k : Nat) : List UInt8 := Lib.repeatL [8, 32, 8] k
def eraseF (l : Line) (k : Nat) : Line × List UInt8 := (⟨l.raw, l.text.take (l.text.length - k), l.ready⟩, rub k)
def erasedN (t : List UInt8) (n : Int) : Nat := if n = 21 then t.length else if n = 23 then wordN t else min t.length 1
theorem erasedN_le (t : List UInt8) (n : Int) : erasedN t n ≤ t.length := by
  have := wordN_le t
  unfold erasedN; split
  · omega
  split <;> omega
/-- What typing a byte does to a line editor, and its echo. -/
def typeF (l : Line) (n : Int) : Line × List UInt8 :=
  if l.raw = true then (if l.ready.length < 1024 then (⟨l.raw, l.text, l.ready ++ [byteL n]⟩, []) else (l, []))
  else if n = 8 ∨ n = 127 ∨ n = 21 ∨ n = 23 then eraseF l (erasedN l.text n)
  else if n = 10 ∨ n = 13 then (if l.ready.length < 1024 then (⟨l.raw, [], l.ready ++ [l.text ++ [10]]⟩, [10]) else (l, []))
  else if n = 4 then (if l.ready.length < 1024 then (⟨l.raw, [], l.ready ++ [l.text]⟩, []) else (l, []))
  else if prB n = true then (if l.text.length < 1024 then (⟨l.raw, l.text ++ byteL n, l.ready⟩, byteL n) else (l, []))
  else (l, [])
theorem textOk_app (a b : List UInt8) : textOk (a ++ b) = (textOk a && textOk b) := by simp [textOk]
theorem textOk_take (a : List UInt8) (n : Nat) (h : textOk a = true) : textOk (a.take n) = true := by
  unfold textOk at *
  rw [List.all_eq_true] at *
  exact fun c hc => h c (List.mem_of_mem_take hc)
theorem byteL_ok {n : Int} (h0 : 0 ≤ n) (h1 : n ≤ 255) : textOk (byteL n) = prB n := by
  have : ((UInt8.ofNat n.toNat).toNat : Int) = n := by
    rw [UInt8.toNat_ofNat']; omega
  unfold textOk byteL
  rw [List.all_cons, this, List.all_nil, Bool.and_true]
theorem typeF_right {l : Line} (h : rightL l = true) {n : Int} (h0 : 0 ≤ n) (h1 : n ≤ 255) : rightL (typeF l n).1 = true := by
  have h' := h
  rw [rightL_iff] at h
  obtain ⟨a1, a2, a3, a4, a5⟩ := h
  have er : ∀ k, rightL (eraseF l k).1 = true := by
    intro k
    rw [rightL_iff]
    unfold eraseF
    exact ⟨by simp; omega, fun hr => by simp [a2 hr], a3, textOk_take _ _ a4, a5⟩
  have add : ∀ s : List UInt8, s.length ≤ 1025 → ∀ x ∈ l.ready ++ [s], x.length ≤ 1025 := by
    intro s hs x hx
    rcases List.mem_append.1 hx with hx | hx
    · exact a5 x hx
    · simp at hx; subst hx; exact hs
  unfold typeF
  split
  · split
    · rw [rightL_iff]
      exact ⟨a1, a2, by simp; omega, a4, add _ (by simp [byteL])⟩
    · exact h'
  · rename_i hr
    split
    · exact er _
    split
    · split
      · rw [rightL_iff]
        exact ⟨by simp, fun h => rfl, by simp; omega, rfl, add _ (by simp; omega)⟩
      · exact h'
    split
    · split
      · rw [rightL_iff]
        exact ⟨by simp, fun h => rfl, by simp; omega, rfl, add _ (by omega)⟩
      · exact h'
    split
    · rename_i hp
      split
      · rw [rightL_iff]
        exact ⟨by simp [byteL]; omega, fun h => absurd h hr, a3, by rw [textOk_app, a4, byteL_ok h0 h1, hp]; rfl, a5⟩
      · exact h'
    · exact h'
theorem rub_len : ∀ k, (rub k).length = 3 * k
  | 0 => rfl
  | k + 1 => by
    have := rub_len k
    unfold rub at *
    simp [Lib.repeatL] at *
    try omega
theorem typeF_echo {l : Line} (h : rightL l = true) (n : Int) : (typeF l n).2.length ≤ 3072 := by
  obtain ⟨a1, a2, a3, a4, a5⟩ := (rightL_iff l).1 h
  have h2 := erasedN_le l.text n
  have h3 := rub_len (erasedN l.text n)
  unfold typeF eraseF
  split
  · split <;> simp
  split
  · simp only; omega
  split
  · split <;> simp
  split
  · split <;> simp
  split
  · split <;> simp [byteL]
  · simp
/-- All bytes of a text are typed. -/
def feedF : Line → List UInt8 → Line × List UInt8
  | l, [] => (l, [])
  | l, c :: s => ((feedF (typeF l (c.toNat : Int)).1 s).1, (typeF l (c.toNat : Int)).2 ++ (feedF (typeF l (c.toNat : Int)).1 s).2)
theorem feedF_app : ∀ (a : List UInt8) (l : Line) (b : List UInt8), feedF l (a ++ b) = ((feedF (feedF l a).1 b).1, (feedF l a).2 ++ (feedF (feedF l a).1 b).2)
  | [], l, b => by simp [feedF]
  | c :: a, l, b => by
    rw [List.cons_append, feedF, feedF_app a, feedF]
    simp
theorem feedF_snoc (a : List UInt8) (l : Line) (c : UInt8) : feedF l (a ++ [c]) = ((typeF (feedF l a).1 (c.toNat : Int)).1, (feedF l a).2 ++ (typeF (feedF l a).1 (c.toNat : Int)).2) := by
  rw [feedF_app]; simp [feedF]
theorem byte255 (c : UInt8) : 0 ≤ (c.toNat : Int) ∧ (c.toNat : Int) ≤ 255 := by have := c.toNat_lt; omega
theorem feedF_right : ∀ (s : List UInt8) {l : Line}, rightL l = true → rightL (feedF l s).1 = true
  | [], l, h => h
  | c :: s, l, h => feedF_right s (typeF_right h (byte255 c).1 (byte255 c).2)
theorem feedF_echo : ∀ (s : List UInt8) {l : Line}, rightL l = true → (feedF l s).2.length ≤ 3072 * s.length
  | [], l, h => by simp [feedF]
  | c :: s, l, h => by
    have := feedF_echo s (typeF_right h (byte255 c).1 (byte255 c).2)
    have := typeF_echo h (c.toNat : Int)
    simp only [feedF, List.length_append, List.length_cons]
    omega
set_option maxRecDepth 100000
set_option linter.unusedVariables false
set_option linter.unusedSimpArgs false
def prCon : Con := fun vs bs K => match vs, bs with
  | [.int .u8 c], [] => K (.bool (prB c)) []
  | _, _ => False
def blCon : Con := fun vs bs K => match vs, bs with
  | [.int .u8 c], [] => K (.bool (blB c)) []
  | _, _ => False
def ownCon : Con := fun vs bs K => match vs, bs with
  | [.agg [.bool r, .str t, .lst xs]], [] => ∃ l : List (List UInt8), xs = strV l ∧ l.length ≤ 100000 ∧ K (.agg [.bool r, .str t, .ref 0 0 l.length l.length]) [⟨true, false, true, strV l, 0⟩]
  | _, _ => False
def delivCon : Con := fun vs bs K => match vs, bs with
  | [.ptr 0 0 0, .str s], [⟨true, true, true, [[.bool r, .str t, .ref 1 0 n k]], 0⟩, ⟨true, false, true, ys, 0⟩] => ∃ l : List (List UInt8), ys = strV l ∧ n = l.length ∧ k = l.length ∧ l.length ≤ 100000 ∧
      br (ltI l.length 1024) (K (.bool true) [⟨true, true, true, [[.bool r, .str t, .ref 2 0 (l.length + 1) (l.length + 1)]], 0⟩, ⟨false, false, true, [], 0⟩, ⟨true, false, true, strV (l ++ [s]), 0⟩])
        (K (.bool false) [⟨true, true, true, [[.bool r, .str t, .ref 1 0 n k]], 0⟩, ⟨true, false, true, strV l, 0⟩])
  | _, _ => False
def erasedCon : Con := fun vs bs K => match vs, bs with
  | [.str t, .int .u8 c], [] => t.length ≤ 100000 ∧ K (.int .i64 (Int.ofNat (erasedN t c))) []
  | _, _ => False
def typedCon : Con := fun vs bs K => match vs, bs with
  | [.ptr 0 0 0, .int .u8 c], [⟨true, true, true, [[.bool r, .str t, .ref 1 0 n k]], 0⟩, ⟨true, false, true, ys, 0⟩] => ∃ l : List (List UInt8), ys = strV l ∧ n = l.length ∧ k = l.length ∧ rightL ⟨r, t, l⟩ = true ∧ 0 ≤ c ∧ c ≤ 255 ∧
      K (.str (typeF ⟨r, t, l⟩ c).2) [⟨true, true, true, [[.bool (typeF ⟨r, t, l⟩ c).1.raw, .str (typeF ⟨r, t, l⟩ c).1.text, .ref 1 0 (typeF ⟨r, t, l⟩ c).1.ready.length (typeF ⟨r, t, l⟩ c).1.ready.length]], 0⟩, ⟨true, false, true, strV (typeF ⟨r, t, l⟩ c).1.ready, 0⟩] ∧
      K (.str (typeF ⟨r, t, l⟩ c).2) [⟨true, true, true, [[.bool (typeF ⟨r, t, l⟩ c).1.raw, .str (typeF ⟨r, t, l⟩ c).1.text, .ref 2 0 (typeF ⟨r, t, l⟩ c).1.ready.length (typeF ⟨r, t, l⟩ c).1.ready.length]], 0⟩, ⟨false, false, true, [], 0⟩, ⟨true, false, true, strV (typeF ⟨r, t, l⟩ c).1.ready, 0⟩]
  | _, _ => False
def feedCon : Con := fun vs bs K => match vs, bs with
  | [.agg [.bool r, .str t, .lst xs], .str s], [] => ∃ l : List (List UInt8), xs = strV l ∧ rightL ⟨r, t, l⟩ = true ∧ s.length ≤ 100000 ∧ K (.tup [.agg (feedF ⟨r, t, l⟩ s).1.v, .str (feedF ⟨r, t, l⟩ s).2]) []
  | _, _ => False
structure erC where
  t : List UInt8
structure erX where
  n : Int
def erSt (c : erC) (x : erX) : St := ⟨[(0, .str c.t), (5, .int .i64 x.n)], []⟩
set_option maxHeartbeats 4000000 in
def erUn (s : St) : Option (erC × erX) :=
  match s with
  | ⟨[(q0, .str t), (q1, .int .i64 n)], []⟩ => bif Nat.beq q0 0 && Nat.beq q1 5 then some (⟨t⟩, ⟨n⟩) else none
  | _ => none
set_option maxHeartbeats 4000000 in
def erL (inv : erC → erX → erX → Nat → Prop) : LoopS where
  C := erC
  X := erX
  st := erSt
  un := erUn
  ok := by
    intro s c x h
    unfold erUn at h
    split at h
    · simp only [Bool.cond_eq_ite] at h
      split at h
      · rename_i hg
        simp only [Bool.and_eq_true, Nat.beq_eq] at hg
        obtain ⟨rfl, rfl⟩ := hg
        cases h
        rfl
      · cases h
    · cases h
  inv := inv
structure fdC where
  s : List UInt8
  cnt : Int
  bt : Nat
  tw : Nat
structure fdX where
  r : Bool
  t : List UInt8
  n : Nat
  k : Nat
  ys : List (List V)
  bn : Nat
  bk : Nat
  es : List (List V)
  i : Int
def fdSt (c : fdC) (x : fdX) : St := ⟨[(1, .str c.s), (4, .ptr 0 0 0), (6, .ptr 1 0 0), (7, .ptr 2 0 0), (12, .int .i64 c.cnt), (13, .int .i64 x.i)], [(0, ⟨true, true, true, [[.bool false, .str [], .nils]], 0⟩), (1, ⟨true, true, true, [[.bool x.r, .str x.t, .ref 3 0 x.n x.k]], 0⟩), (2, ⟨true, true, true, [[.slf 2, .ref 4 0 x.bn x.bk]], c.bt⟩), (3, ⟨true, false, true, x.ys, 0⟩), (4, ⟨true, false, true, x.es, c.tw⟩)]⟩
set_option maxHeartbeats 4000000 in
def fdUn (s : St) : Option (fdC × fdX) :=
  match s with
  | ⟨[(q0, .str s), (q1, .ptr q2 q3 q4), (q5, .ptr q6 q7 q8), (q9, .ptr q10 q11 q12), (q13, .int .i64 cnt), (q14, .int .i64 i)], [(q15, ⟨true, true, true, [[.bool false, .str [], .nils]], q16⟩), (q17, ⟨true, true, true, [[.bool r, .str t, .ref q18 q19 n k]], q20⟩), (q21, ⟨true, true, true, [[.slf q22, .ref q23 q24 bn bk]], bt⟩), (q25, ⟨true, false, true, ys, q26⟩), (q27, ⟨true, false, true, es, tw⟩)]⟩ => bif Nat.beq q0 1 && Nat.beq q1 4 && Nat.beq q2 0 && Nat.beq q3 0 && Nat.beq q4 0 && Nat.beq q5 6 && Nat.beq q6 1 && Nat.beq q7 0 && Nat.beq q8 0 && Nat.beq q9 7 && Nat.beq q10 2 && Nat.beq q11 0 && Nat.beq q12 0 && Nat.beq q13 12 && Nat.beq q14 13 && Nat.beq q15 0 && Nat.beq q16 0 && Nat.beq q17 1 && Nat.beq q18 3 && Nat.beq q19 0 && Nat.beq q20 0 && Nat.beq q21 2 && Nat.beq q22 2 && Nat.beq q23 4 && Nat.beq q24 0 && Nat.beq q25 3 && Nat.beq q26 0 && Nat.beq q27 4 then some (⟨s, cnt, bt, tw⟩, ⟨r, t, n, k, ys, bn, bk, es, i⟩) else none
  | _ => none
set_option maxHeartbeats 4000000 in
def fdL (inv : fdC → fdX → fdX → Nat → Prop) : LoopS where
  C := fdC
  X := fdX
  st := fdSt
  un := fdUn
  ok := by
    intro s c x h
    unfold fdUn at h
    split at h
    · simp only [Bool.cond_eq_ite] at h
      split at h
      · rename_i hg
        simp only [Bool.and_eq_true, Nat.beq_eq] at hg
        obtain ⟨⟨⟨⟨⟨⟨⟨⟨⟨⟨⟨⟨⟨⟨⟨⟨⟨⟨⟨⟨⟨⟨⟨⟨⟨⟨⟨rfl, rfl⟩, rfl⟩, rfl⟩, rfl⟩, rfl⟩, rfl⟩, rfl⟩, rfl⟩, rfl⟩, rfl⟩, rfl⟩, rfl⟩, rfl⟩, rfl⟩, rfl⟩, rfl⟩, rfl⟩, rfl⟩, rfl⟩, rfl⟩, rfl⟩, rfl⟩, rfl⟩, rfl⟩, rfl⟩, rfl⟩, rfl⟩ := hg
        cases h
        rfl
      · cases h
    · cases h
  inv := inv
theorem pr_vc [MaxL] (c : Int) (K : V → List Bk → Prop) : vcF Tryz.prog cfgN (ctOf []) (lpOf []) 118 [.int .u8 c] [] K = (
  br (eqI c 9) (
    K (V.bool true) []) (
    br (leI 32 c) (
      K (V.bool (notB (eqI c 127))) []) (
      K (V.bool false) []))) := by kernel_rfl
theorem bl_vc [MaxL] (c : Int) (K : V → List Bk → Prop) : vcF Tryz.prog cfgN (ctOf []) (lpOf []) 203 [.int .u8 c] [] K = (
  br (eqI c 9) (
    K (V.bool true) []) (
    K (V.bool (eqI c 32)) [])) := by kernel_rfl
theorem own_vc [MaxL] (r : Bool) (t : List UInt8) (xs : List (List V)) (K : V → List Bk → Prop) : vcF Tryz.prog cfgN (ctOf []) (lpOf []) 38 [.agg [.bool r, .str t, .lst xs]] [] K = (
  need (headOkP 1 xs) (
  need (leN (xs.length * 16) 140737488355328) (
  K (V.agg [V.bool r, V.str t, V.ref 0 0 xs.length xs.length]) [Bk.mk true false true xs 0]))) := by kernel_rfl
theorem dl_vc [MaxL] (r : Bool) (t s : List UInt8) (n k : Nat) (ys : List (List V)) (K : V → List Bk → Prop) : vcF Tryz.prog cfgN (ctOf []) (lpOf []) 115 [.ptr 0 0 0, .str s] [⟨true, true, true, [[.bool r, .str t, .ref 1 0 n k]], 0⟩, ⟨true, false, true, ys, 0⟩] K = (
  br (leI 1024 (Int.ofNat n)) (
    K (V.bool false) [Bk.mk true true true [[V.bool r, V.str t, V.ref 1 0 n k]] 0, Bk.mk true false true ys 0]) (
    need (headOkP 1 ys) (
    br (leN (n + 1) k) (
      K (V.bool true) [Bk.mk true true true [[V.bool r, V.str t, V.ref 1 0 (n + 1) k]] 0, Bk.mk true false true (List.take (0 + n) ys ++ [[V.str s]] ++ List.drop (0 + n + 1) ys) 0]) (
      need (eqN (0 + n) ys.length) (
      need (leN ((n + 1) * 16) 140737488355328) (
      K (V.bool true) [Bk.mk true true true [[V.bool r, V.str t, V.ref 2 0 (n + 1) (n + 1)]] 0, Bk.mk false false true [] 0, Bk.mk true false true (List.drop 0 ys ++ [[V.str s]]) 0])))))) := by kernel_rfl
def er_vc_1 (t : List UInt8) (c : Int) (I J : erC → erX → erX → Nat → Prop) (K : V → List Bk → Prop) (x5 : (erL I).X) : Prop :=
  (
          (∃ m7 : Nat, (((m7 : Nat) < 18446744073709551616)) ∧ (
          J (erC.mk t) (erX.mk x5.1) (erX.mk x5.1) m7)) ∧ (
          ∀ x7 : (erL J).X, ∀ m8 : Nat, (J (erC.mk t) (erX.mk x5.1) x7 m8) → (
          br (ltI 0 x7.1) (
            need (andB (leI 0 (subI IntKind.i64 x7.1 1)) (ltI (subI IntKind.i64 x7.1 1) (lenS t))) (
            br (notB (blB (atS t (subI IntKind.i64 x7.1 1)))) (
              ((erC.mk t : (erL J).C) = erC.mk t) ∧ (
              ∃ m'9 : Nat, (((m'9 : Nat) < m8)) ∧ (
              J (erC.mk t) (erX.mk x5.1) (erX.mk (subI IntKind.i64 x7.1 1)) m'9))) (
              K (V.int IntKind.i64 (subI IntKind.i64 (lenS t) x7.1)) []))) (
            K (V.int IntKind.i64 (subI IntKind.i64 (lenS t) x7.1)) []))))
theorem er_vc [MaxL] (t : List UInt8) (c : Int) (I J : erC → erX → erX → Nat → Prop) (K : V → List Bk → Prop) : vcF Tryz.prog cfgN (ctOf [(203, blCon)]) (lpOf [(6, erL I), (8, erL J)]) 116 [.str t, .int .u8 c] [] K = (
  br (eqI c 21) (
    K (V.int IntKind.i64 (lenS t)) []) (
    br (eqI c 23) (
      (∃ m5 : Nat, (((m5 : Nat) < 18446744073709551616)) ∧ (
      I (erC.mk t) (erX.mk (lenS t)) (erX.mk (lenS t)) m5)) ∧ (
      ∀ x5 : (erL I).X, ∀ m6 : Nat, (I (erC.mk t) (erX.mk (lenS t)) x5 m6) → (
      br (ltI 0 x5.1) (
        need (andB (leI 0 (subI IntKind.i64 x5.1 1)) (ltI (subI IntKind.i64 x5.1 1) (lenS t))) (
        br (blB (atS t (subI IntKind.i64 x5.1 1))) (
          ((erC.mk t : (erL I).C) = erC.mk t) ∧ (
          ∃ m'7 : Nat, (((m'7 : Nat) < m6)) ∧ (
          I (erC.mk t) (erX.mk (lenS t)) (erX.mk (subI IntKind.i64 x5.1 1)) m'7))) (er_vc_1 t c I J K x5))) (er_vc_1 t c I J K x5)))) (
      K (V.int IntKind.i64 (minI (lenS t) 1)) []))) := by kernel_rfl
def ty_vc_1 (r : Bool) (t : List UInt8) (n k : Nat) (ys : List (List V)) (c : Int) (K : V → List Bk → Prop) : Prop :=
  (
      (((t.length : Nat) ≤ 100000)) ∧ (
      need (andB (leI 0 (subI IntKind.i64 (lenS t) (Int.ofNat (erasedN t c)))) (leI (subI IntKind.i64 (lenS t) (Int.ofNat (erasedN t c))) (lenS t))) (
      need (andB (andB true (leI (Int.ofNat (erasedN t c)) 9223372036854775807)) (leN (3 * (Int.ofNat (erasedN t c)).toNat) 140737488355328)) (
      K (V.str (Lib.repeatL (ByteArray.mk #[8, 32, 8]).data.toList (Int.ofNat (erasedN t c)).toNat)) [Bk.mk true true true [[V.bool r, V.str (cutS t 0 (subI IntKind.i64 (lenS t) (Int.ofNat (erasedN t c)))), V.ref 1 0 n k]] 0, Bk.mk true false true ys 0]))))
def ty_vc_2 (r : Bool) (t : List UInt8) (n k : Nat) (ys : List (List V)) (c : Int) (K : V → List Bk → Prop) : Prop :=
  (
              need (catOk t [10]) (
              ∃ l7 : List (List UInt8), ((ys : List (List V)) = strV l7) ∧ (
              ((n : Nat) = l7.length) ∧ (
              ((k : Nat) = l7.length) ∧ (
              (((l7.length : Nat) ≤ 100000)) ∧ (
              br (ltI (Int.ofNat l7.length) 1024) (
                K (V.str [10]) [Bk.mk true true true [[V.bool r, V.str [], V.ref 2 0 (l7.length + 1) (l7.length + 1)]] 0, Bk.mk false false true [] 0, Bk.mk true false true (strV (l7 ++ [catS t [10]])) 0]) (
                K (V.str []) [Bk.mk true true true [[V.bool r, V.str t, V.ref 1 0 n k]] 0, Bk.mk true false true (strV l7) 0])))))))
theorem ty_vc [MaxL] (r : Bool) (t : List UInt8) (n k : Nat) (ys : List (List V)) (c : Int) (K : V → List Bk → Prop) : vcF Tryz.prog cfgN (ctOf [(118, prCon), (115, delivCon), (116, erasedCon)]) (lpOf []) 40 [.ptr 0 0 0, .int .u8 c] [⟨true, true, true, [[.bool r, .str t, .ref 1 0 n k]], 0⟩, ⟨true, false, true, ys, 0⟩] K = (
  br (r) (
    ∃ l7 : List (List UInt8), ((ys : List (List V)) = strV l7) ∧ (
    ((n : Nat) = l7.length) ∧ (
    ((k : Nat) = l7.length) ∧ (
    (((l7.length : Nat) ≤ 100000)) ∧ (
    br (ltI (Int.ofNat l7.length) 1024) (
      K (V.str []) [Bk.mk true true true [[V.bool r, V.str t, V.ref 2 0 (l7.length + 1) (l7.length + 1)]] 0, Bk.mk false false true [] 0, Bk.mk true false true (strV (l7 ++ [[UInt8.ofNat c.toNat]])) 0]) (
      K (V.str []) [Bk.mk true true true [[V.bool r, V.str t, V.ref 1 0 n k]] 0, Bk.mk true false true (strV l7) 0])))))) (
    br (eqI c 8) (ty_vc_1 r t n k ys c K) (
      br (eqI c 127) (ty_vc_1 r t n k ys c K) (
        br (eqI c 21) (ty_vc_1 r t n k ys c K) (
          br (eqI c 23) (ty_vc_1 r t n k ys c K) (
            br (eqI c 10) (ty_vc_2 r t n k ys c K) (
              br (eqI c 13) (ty_vc_2 r t n k ys c K) (
                br (eqI c 4) (
                  ∃ l7 : List (List UInt8), ((ys : List (List V)) = strV l7) ∧ (
                  ((n : Nat) = l7.length) ∧ (
                  ((k : Nat) = l7.length) ∧ (
                  (((l7.length : Nat) ≤ 100000)) ∧ (
                  br (ltI (Int.ofNat l7.length) 1024) (
                    K (V.str []) [Bk.mk true true true [[V.bool r, V.str [], V.ref 2 0 (l7.length + 1) (l7.length + 1)]] 0, Bk.mk false false true [] 0, Bk.mk true false true (strV (l7 ++ [t])) 0]) (
                    K (V.str []) [Bk.mk true true true [[V.bool r, V.str t, V.ref 1 0 n k]] 0, Bk.mk true false true (strV l7) 0])))))) (
                  br (prB c) (
                    br (ltI (lenS t) 1024) (
                      need (catOk t [UInt8.ofNat c.toNat]) (
                      K (V.str [UInt8.ofNat c.toNat]) [Bk.mk true true true [[V.bool r, V.str (catS t [UInt8.ofNat c.toNat]), V.ref 1 0 n k]] 0, Bk.mk true false true ys 0])) (
                      K (V.str []) [Bk.mk true true true [[V.bool r, V.str t, V.ref 1 0 n k]] 0, Bk.mk true false true ys 0])) (
                    K (V.str []) [Bk.mk true true true [[V.bool r, V.str t, V.ref 1 0 n k]] 0, Bk.mk true false true ys 0])))))))))) := by kernel_rfl
def fd_vc_1 [MaxL] (r : Bool) (t : List UInt8) (xs : List (List V)) (s : List UInt8) (I : fdC → fdX → fdX → Nat → Prop) (K : V → List Bk → Prop) (x7 : (fdL I).X) (l9 : List (List UInt8)) (m8 : Nat) (l6 : List (List UInt8)) : Prop :=
  (
    need (headOkP 1 x7.8) (
    br (leN (x7.6 + (List.map (fun c ↦ [V.int IntKind.u8 (Int.ofNat c.toBitVec.toFin.1)]) (typeF (Line.mk x7.r x7.t l9) (atS (fdC.mk s (lenS s) (Bk.mk (Bk.mk true true true [[V.slf (1000 + (2 * 256 + 0) * 8), V.nils]] cfgN.bld).live (Bk.mk true true true [[V.slf (1000 + (2 * 256 + 0) * 8), V.nils]] cfgN.bld).box (Bk.mk true true true [[V.slf (1000 + (2 * 256 + 0) * 8), V.nils]] cfgN.bld).wr [[V.slf (1000 + (2 * 256 + 0) * 8), V.ref (2000000000 + 1000 * (200007 % 100000) + 1) 0 0 0]] (Bk.mk true true true [[V.slf (1000 + (2 * 256 + 0) * 8), V.nils]] cfgN.bld).ty).ty ((Bk.mk true true true [[V.slf (1000 + (2 * 256 + 0) * 8), V.nils]] cfgN.bld).ty % 1000000)).s x7.i)).2).length) x7.7) (
      ((fdC.mk s (lenS s) ((112 + 1) * 1000000 + (5 + 1)) (5 + 1) : (fdL I).C) = fdC.mk s (lenS s) ((112 + 1) * 1000000 + (5 + 1)) (5 + 1)) ∧ (
      ∃ m'10 : Nat, (((m'10 : Nat) < m8)) ∧ (
      I (fdC.mk s (lenS s) ((112 + 1) * 1000000 + (5 + 1)) (5 + 1)) (fdX.mk r t l6.length l6.length (strV l6) 0 0 [] 0) (fdX.mk (typeF (Line.mk x7.r x7.t l9) (atS (fdC.mk s (lenS s) (Bk.mk (Bk.mk true true true [[V.slf (1000 + (2 * 256 + 0) * 8), V.nils]] cfgN.bld).live (Bk.mk true true true [[V.slf (1000 + (2 * 256 + 0) * 8), V.nils]] cfgN.bld).box (Bk.mk true true true [[V.slf (1000 + (2 * 256 + 0) * 8), V.nils]] cfgN.bld).wr [[V.slf (1000 + (2 * 256 + 0) * 8), V.ref (2000000000 + 1000 * (200007 % 100000) + 1) 0 0 0]] (Bk.mk true true true [[V.slf (1000 + (2 * 256 + 0) * 8), V.nils]] cfgN.bld).ty).ty ((Bk.mk true true true [[V.slf (1000 + (2 * 256 + 0) * 8), V.nils]] cfgN.bld).ty % 1000000)).s x7.i)).fst.1 (typeF (Line.mk x7.r x7.t l9) (atS (fdC.mk s (lenS s) (Bk.mk (Bk.mk true true true [[V.slf (1000 + (2 * 256 + 0) * 8), V.nils]] cfgN.bld).live (Bk.mk true true true [[V.slf (1000 + (2 * 256 + 0) * 8), V.nils]] cfgN.bld).box (Bk.mk true true true [[V.slf (1000 + (2 * 256 + 0) * 8), V.nils]] cfgN.bld).wr [[V.slf (1000 + (2 * 256 + 0) * 8), V.ref (2000000000 + 1000 * (200007 % 100000) + 1) 0 0 0]] (Bk.mk true true true [[V.slf (1000 + (2 * 256 + 0) * 8), V.nils]] cfgN.bld).ty).ty ((Bk.mk true true true [[V.slf (1000 + (2 * 256 + 0) * 8), V.nils]] cfgN.bld).ty % 1000000)).s x7.i)).fst.2 (typeF (Line.mk x7.r x7.t l9) (atS (fdC.mk s (lenS s) (Bk.mk (Bk.mk true true true [[V.slf (1000 + (2 * 256 + 0) * 8), V.nils]] cfgN.bld).live (Bk.mk true true true [[V.slf (1000 + (2 * 256 + 0) * 8), V.nils]] cfgN.bld).box (Bk.mk true true true [[V.slf (1000 + (2 * 256 + 0) * 8), V.nils]] cfgN.bld).wr [[V.slf (1000 + (2 * 256 + 0) * 8), V.ref (2000000000 + 1000 * (200007 % 100000) + 1) 0 0 0]] (Bk.mk true true true [[V.slf (1000 + (2 * 256 + 0) * 8), V.nils]] cfgN.bld).ty).ty ((Bk.mk true true true [[V.slf (1000 + (2 * 256 + 0) * 8), V.nils]] cfgN.bld).ty % 1000000)).s x7.i)).fst.3.length (typeF (Line.mk x7.r x7.t l9) (atS (fdC.mk s (lenS s) (Bk.mk (Bk.mk true true true [[V.slf (1000 + (2 * 256 + 0) * 8), V.nils]] cfgN.bld).live (Bk.mk true true true [[V.slf (1000 + (2 * 256 + 0) * 8), V.nils]] cfgN.bld).box (Bk.mk true true true [[V.slf (1000 + (2 * 256 + 0) * 8), V.nils]] cfgN.bld).wr [[V.slf (1000 + (2 * 256 + 0) * 8), V.ref (2000000000 + 1000 * (200007 % 100000) + 1) 0 0 0]] (Bk.mk true true true [[V.slf (1000 + (2 * 256 + 0) * 8), V.nils]] cfgN.bld).ty).ty ((Bk.mk true true true [[V.slf (1000 + (2 * 256 + 0) * 8), V.nils]] cfgN.bld).ty % 1000000)).s x7.i)).fst.3.length (strV (typeF (Line.mk x7.r x7.t l9) (atS (fdC.mk s (lenS s) (Bk.mk (Bk.mk true true true [[V.slf (1000 + (2 * 256 + 0) * 8), V.nils]] cfgN.bld).live (Bk.mk true true true [[V.slf (1000 + (2 * 256 + 0) * 8), V.nils]] cfgN.bld).box (Bk.mk true true true [[V.slf (1000 + (2 * 256 + 0) * 8), V.nils]] cfgN.bld).wr [[V.slf (1000 + (2 * 256 + 0) * 8), V.ref (2000000000 + 1000 * (200007 % 100000) + 1) 0 0 0]] (Bk.mk true true true [[V.slf (1000 + (2 * 256 + 0) * 8), V.nils]] cfgN.bld).ty).ty ((Bk.mk true true true [[V.slf (1000 + (2 * 256 + 0) * 8), V.nils]] cfgN.bld).ty % 1000000)).s x7.i)).fst.3) (x7.6 + (List.map (fun c ↦ [V.int IntKind.u8 (Int.ofNat c.toBitVec.toFin.1)]) (typeF (Line.mk x7.r x7.t l9) (atS (fdC.mk s (lenS s) (Bk.mk (Bk.mk true true true [[V.slf (1000 + (2 * 256 + 0) * 8), V.nils]] cfgN.bld).live (Bk.mk true true true [[V.slf (1000 + (2 * 256 + 0) * 8), V.nils]] cfgN.bld).box (Bk.mk true true true [[V.slf (1000 + (2 * 256 + 0) * 8), V.nils]] cfgN.bld).wr [[V.slf (1000 + (2 * 256 + 0) * 8), V.ref (2000000000 + 1000 * (200007 % 100000) + 1) 0 0 0]] (Bk.mk true true true [[V.slf (1000 + (2 * 256 + 0) * 8), V.nils]] cfgN.bld).ty).ty ((Bk.mk true true true [[V.slf (1000 + (2 * 256 + 0) * 8), V.nils]] cfgN.bld).ty % 1000000)).s x7.i)).2).length) x7.7 (List.take (0 + x7.6) x7.8 ++ List.map (fun c ↦ [V.int IntKind.u8 (Int.ofNat c.toBitVec.toFin.1)]) (typeF (Line.mk x7.r x7.t l9) (atS (fdC.mk s (lenS s) (Bk.mk (Bk.mk true true true [[V.slf (1000 + (2 * 256 + 0) * 8), V.nils]] cfgN.bld).live (Bk.mk true true true [[V.slf (1000 + (2 * 256 + 0) * 8), V.nils]] cfgN.bld).box (Bk.mk true true true [[V.slf (1000 + (2 * 256 + 0) * 8), V.nils]] cfgN.bld).wr [[V.slf (1000 + (2 * 256 + 0) * 8), V.ref (2000000000 + 1000 * (200007 % 100000) + 1) 0 0 0]] (Bk.mk true true true [[V.slf (1000 + (2 * 256 + 0) * 8), V.nils]] cfgN.bld).ty).ty ((Bk.mk true true true [[V.slf (1000 + (2 * 256 + 0) * 8), V.nils]] cfgN.bld).ty % 1000000)).s x7.i)).2 ++ List.drop (0 + x7.6 + (List.map (fun c ↦ [V.int IntKind.u8 (Int.ofNat c.toBitVec.toFin.1)]) (typeF (Line.mk x7.r x7.t l9) (atS (fdC.mk s (lenS s) (Bk.mk (Bk.mk true true true [[V.slf (1000 + (2 * 256 + 0) * 8), V.nils]] cfgN.bld).live (Bk.mk true true true [[V.slf (1000 + (2 * 256 + 0) * 8), V.nils]] cfgN.bld).box (Bk.mk true true true [[V.slf (1000 + (2 * 256 + 0) * 8), V.nils]] cfgN.bld).wr [[V.slf (1000 + (2 * 256 + 0) * 8), V.ref (2000000000 + 1000 * (200007 % 100000) + 1) 0 0 0]] (Bk.mk true true true [[V.slf (1000 + (2 * 256 + 0) * 8), V.nils]] cfgN.bld).ty).ty ((Bk.mk true true true [[V.slf (1000 + (2 * 256 + 0) * 8), V.nils]] cfgN.bld).ty % 1000000)).s x7.i)).2).length) x7.8) (addI IntKind.i64 x7.9 1)) m'10))) (
      need (eqN (0 + x7.6) x7.8.length) (
      need (leN ((x7.6 + (List.map (fun c ↦ [V.int IntKind.u8 (Int.ofNat c.toBitVec.toFin.1)]) (typeF (Line.mk x7.r x7.t l9) (atS (fdC.mk s (lenS s) (Bk.mk (Bk.mk true true true [[V.slf (1000 + (2 * 256 + 0) * 8), V.nils]] cfgN.bld).live (Bk.mk true true true [[V.slf (1000 + (2 * 256 + 0) * 8), V.nils]] cfgN.bld).box (Bk.mk true true true [[V.slf (1000 + (2 * 256 + 0) * 8), V.nils]] cfgN.bld).wr [[V.slf (1000 + (2 * 256 + 0) * 8), V.ref (2000000000 + 1000 * (200007 % 100000) + 1) 0 0 0]] (Bk.mk true true true [[V.slf (1000 + (2 * 256 + 0) * 8), V.nils]] cfgN.bld).ty).ty ((Bk.mk true true true [[V.slf (1000 + (2 * 256 + 0) * 8), V.nils]] cfgN.bld).ty % 1000000)).s x7.i)).2).length) * 1) 140737488355328) (
      ((fdC.mk s (lenS s) ((112 + 1) * 1000000 + (5 + 1)) (5 + 1) : (fdL I).C) = fdC.mk s (lenS s) ((112 + 1) * 1000000 + (5 + 1)) (5 + 1)) ∧ (
      ∃ m'10 : Nat, (((m'10 : Nat) < m8)) ∧ (
      I (fdC.mk s (lenS s) ((112 + 1) * 1000000 + (5 + 1)) (5 + 1)) (fdX.mk r t l6.length l6.length (strV l6) 0 0 [] 0) (fdX.mk (typeF (Line.mk x7.r x7.t l9) (atS (fdC.mk s (lenS s) (Bk.mk (Bk.mk true true true [[V.slf (1000 + (2 * 256 + 0) * 8), V.nils]] cfgN.bld).live (Bk.mk true true true [[V.slf (1000 + (2 * 256 + 0) * 8), V.nils]] cfgN.bld).box (Bk.mk true true true [[V.slf (1000 + (2 * 256 + 0) * 8), V.nils]] cfgN.bld).wr [[V.slf (1000 + (2 * 256 + 0) * 8), V.ref (2000000000 + 1000 * (200007 % 100000) + 1) 0 0 0]] (Bk.mk true true true [[V.slf (1000 + (2 * 256 + 0) * 8), V.nils]] cfgN.bld).ty).ty ((Bk.mk true true true [[V.slf (1000 + (2 * 256 + 0) * 8), V.nils]] cfgN.bld).ty % 1000000)).s x7.i)).fst.1 (typeF (Line.mk x7.r x7.t l9) (atS (fdC.mk s (lenS s) (Bk.mk (Bk.mk true true true [[V.slf (1000 + (2 * 256 + 0) * 8), V.nils]] cfgN.bld).live (Bk.mk true true true [[V.slf (1000 + (2 * 256 + 0) * 8), V.nils]] cfgN.bld).box (Bk.mk true true true [[V.slf (1000 + (2 * 256 + 0) * 8), V.nils]] cfgN.bld).wr [[V.slf (1000 + (2 * 256 + 0) * 8), V.ref (2000000000 + 1000 * (200007 % 100000) + 1) 0 0 0]] (Bk.mk true true true [[V.slf (1000 + (2 * 256 + 0) * 8), V.nils]] cfgN.bld).ty).ty ((Bk.mk true true true [[V.slf (1000 + (2 * 256 + 0) * 8), V.nils]] cfgN.bld).ty % 1000000)).s x7.i)).fst.2 (typeF (Line.mk x7.r x7.t l9) (atS (fdC.mk s (lenS s) (Bk.mk (Bk.mk true true true [[V.slf (1000 + (2 * 256 + 0) * 8), V.nils]] cfgN.bld).live (Bk.mk true true true [[V.slf (1000 + (2 * 256 + 0) * 8), V.nils]] cfgN.bld).box (Bk.mk true true true [[V.slf (1000 + (2 * 256 + 0) * 8), V.nils]] cfgN.bld).wr [[V.slf (1000 + (2 * 256 + 0) * 8), V.ref (2000000000 + 1000 * (200007 % 100000) + 1) 0 0 0]] (Bk.mk true true true [[V.slf (1000 + (2 * 256 + 0) * 8), V.nils]] cfgN.bld).ty).ty ((Bk.mk true true true [[V.slf (1000 + (2 * 256 + 0) * 8), V.nils]] cfgN.bld).ty % 1000000)).s x7.i)).fst.3.length (typeF (Line.mk x7.r x7.t l9) (atS (fdC.mk s (lenS s) (Bk.mk (Bk.mk true true true [[V.slf (1000 + (2 * 256 + 0) * 8), V.nils]] cfgN.bld).live (Bk.mk true true true [[V.slf (1000 + (2 * 256 + 0) * 8), V.nils]] cfgN.bld).box (Bk.mk true true true [[V.slf (1000 + (2 * 256 + 0) * 8), V.nils]] cfgN.bld).wr [[V.slf (1000 + (2 * 256 + 0) * 8), V.ref (2000000000 + 1000 * (200007 % 100000) + 1) 0 0 0]] (Bk.mk true true true [[V.slf (1000 + (2 * 256 + 0) * 8), V.nils]] cfgN.bld).ty).ty ((Bk.mk true true true [[V.slf (1000 + (2 * 256 + 0) * 8), V.nils]] cfgN.bld).ty % 1000000)).s x7.i)).fst.3.length (strV (typeF (Line.mk x7.r x7.t l9) (atS (fdC.mk s (lenS s) (Bk.mk (Bk.mk true true true [[V.slf (1000 + (2 * 256 + 0) * 8), V.nils]] cfgN.bld).live (Bk.mk true true true [[V.slf (1000 + (2 * 256 + 0) * 8), V.nils]] cfgN.bld).box (Bk.mk true true true [[V.slf (1000 + (2 * 256 + 0) * 8), V.nils]] cfgN.bld).wr [[V.slf (1000 + (2 * 256 + 0) * 8), V.ref (2000000000 + 1000 * (200007 % 100000) + 1) 0 0 0]] (Bk.mk true true true [[V.slf (1000 + (2 * 256 + 0) * 8), V.nils]] cfgN.bld).ty).ty ((Bk.mk true true true [[V.slf (1000 + (2 * 256 + 0) * 8), V.nils]] cfgN.bld).ty % 1000000)).s x7.i)).fst.3) (x7.6 + (List.map (fun c ↦ [V.int IntKind.u8 (Int.ofNat c.toBitVec.toFin.1)]) (typeF (Line.mk x7.r x7.t l9) (atS (fdC.mk s (lenS s) (Bk.mk (Bk.mk true true true [[V.slf (1000 + (2 * 256 + 0) * 8), V.nils]] cfgN.bld).live (Bk.mk true true true [[V.slf (1000 + (2 * 256 + 0) * 8), V.nils]] cfgN.bld).box (Bk.mk true true true [[V.slf (1000 + (2 * 256 + 0) * 8), V.nils]] cfgN.bld).wr [[V.slf (1000 + (2 * 256 + 0) * 8), V.ref (2000000000 + 1000 * (200007 % 100000) + 1) 0 0 0]] (Bk.mk true true true [[V.slf (1000 + (2 * 256 + 0) * 8), V.nils]] cfgN.bld).ty).ty ((Bk.mk true true true [[V.slf (1000 + (2 * 256 + 0) * 8), V.nils]] cfgN.bld).ty % 1000000)).s x7.i)).2).length) (x7.6 + (List.map (fun c ↦ [V.int IntKind.u8 (Int.ofNat c.toBitVec.toFin.1)]) (typeF (Line.mk x7.r x7.t l9) (atS (fdC.mk s (lenS s) (Bk.mk (Bk.mk true true true [[V.slf (1000 + (2 * 256 + 0) * 8), V.nils]] cfgN.bld).live (Bk.mk true true true [[V.slf (1000 + (2 * 256 + 0) * 8), V.nils]] cfgN.bld).box (Bk.mk true true true [[V.slf (1000 + (2 * 256 + 0) * 8), V.nils]] cfgN.bld).wr [[V.slf (1000 + (2 * 256 + 0) * 8), V.ref (2000000000 + 1000 * (200007 % 100000) + 1) 0 0 0]] (Bk.mk true true true [[V.slf (1000 + (2 * 256 + 0) * 8), V.nils]] cfgN.bld).ty).ty ((Bk.mk true true true [[V.slf (1000 + (2 * 256 + 0) * 8), V.nils]] cfgN.bld).ty % 1000000)).s x7.i)).2).length) (List.drop 0 x7.8 ++ List.map (fun c ↦ [V.int IntKind.u8 (Int.ofNat c.toBitVec.toFin.1)]) (typeF (Line.mk x7.r x7.t l9) (atS (fdC.mk s (lenS s) (Bk.mk (Bk.mk true true true [[V.slf (1000 + (2 * 256 + 0) * 8), V.nils]] cfgN.bld).live (Bk.mk true true true [[V.slf (1000 + (2 * 256 + 0) * 8), V.nils]] cfgN.bld).box (Bk.mk true true true [[V.slf (1000 + (2 * 256 + 0) * 8), V.nils]] cfgN.bld).wr [[V.slf (1000 + (2 * 256 + 0) * 8), V.ref (2000000000 + 1000 * (200007 % 100000) + 1) 0 0 0]] (Bk.mk true true true [[V.slf (1000 + (2 * 256 + 0) * 8), V.nils]] cfgN.bld).ty).ty ((Bk.mk true true true [[V.slf (1000 + (2 * 256 + 0) * 8), V.nils]] cfgN.bld).ty % 1000000)).s x7.i)).2) (addI IntKind.i64 x7.9 1)) m'10)))))))
theorem fd_vc [MaxL] (r : Bool) (t : List UInt8) (xs : List (List V)) (s : List UInt8) (I : fdC → fdX → fdX → Nat → Prop) (K : V → List Bk → Prop) : vcF Tryz.prog cfgN (ctOf [(38, ownCon), (40, typedCon), (39, inlC Tryz.prog cfgN (ctOf []) 39)]) (lpOf [(4, fdL I)]) 10 [.agg [.bool r, .str t, .lst xs], .str s] [] K = (
  ∃ l6 : List (List UInt8), ((xs : List (List V)) = strV l6) ∧ (
  (((l6.length : Nat) ≤ 100000)) ∧ (
  (∃ m7 : Nat, (((m7 : Nat) < 18446744073709551616)) ∧ (
  I (fdC.mk s (lenS s) ((112 + 1) * 1000000 + (5 + 1)) (5 + 1)) (fdX.mk r t l6.length l6.length (strV l6) 0 0 [] 0) (fdX.mk r t l6.length l6.length (strV l6) 0 0 [] 0) m7)) ∧ (
  ∀ x7 : (fdL I).X, ∀ m8 : Nat, (I (fdC.mk s (lenS s) ((112 + 1) * 1000000 + (5 + 1)) (5 + 1)) (fdX.mk r t l6.length l6.length (strV l6) 0 0 [] 0) x7 m8) → (
  br (ltI x7.9 (lenS s)) (
    need (andB (leI 0 x7.9) (ltI x7.9 (lenS s))) (
    ∃ l9 : List (List UInt8), ((x7.5 : List (List V)) = strV l9) ∧ (
    ((x7.3 : Nat) = l9.length) ∧ (
    ((x7.4 : Nat) = l9.length) ∧ (
    ((rightL (Line.mk x7.1 x7.2 l9) : Bool) = true) ∧ (
    (((0 : Int) ≤ atS s x7.9)) ∧ (
    (((atS s x7.9 : Int) ≤ 255)) ∧ (
    (need (headOkP 1 (List.map (fun c ↦ [V.int IntKind.u8 (Int.ofNat c.toBitVec.toFin.1)]) (typeF (Line.mk x7.r x7.t l9) (atS (fdC.mk s (lenS s) (Bk.mk (Bk.mk true true true [[V.slf (1000 + (2 * 256 + 0) * 8), V.nils]] cfgN.bld).live (Bk.mk true true true [[V.slf (1000 + (2 * 256 + 0) * 8), V.nils]] cfgN.bld).box (Bk.mk true true true [[V.slf (1000 + (2 * 256 + 0) * 8), V.nils]] cfgN.bld).wr [[V.slf (1000 + (2 * 256 + 0) * 8), V.ref (2000000000 + 1000 * (200007 % 100000) + 1) 0 0 0]] (Bk.mk true true true [[V.slf (1000 + (2 * 256 + 0) * 8), V.nils]] cfgN.bld).ty).ty ((Bk.mk true true true [[V.slf (1000 + (2 * 256 + 0) * 8), V.nils]] cfgN.bld).ty % 1000000)).s x7.i)).2)) (fd_vc_1 r t xs s I K x7 l9 m8 l6)) ∧ (
    need (headOkP 1 (List.map (fun c ↦ [V.int IntKind.u8 (Int.ofNat c.toBitVec.toFin.1)]) (typeF (Line.mk x7.r x7.t l9) (atS (fdC.mk s (lenS s) (Bk.mk (Bk.mk true true true [[V.slf (1000 + (2 * 256 + 0) * 8), V.nils]] cfgN.bld).live (Bk.mk true true true [[V.slf (1000 + (2 * 256 + 0) * 8), V.nils]] cfgN.bld).box (Bk.mk true true true [[V.slf (1000 + (2 * 256 + 0) * 8), V.nils]] cfgN.bld).wr [[V.slf (1000 + (2 * 256 + 0) * 8), V.ref (2000000000 + 1000 * (200007 % 100000) + 1) 0 0 0]] (Bk.mk true true true [[V.slf (1000 + (2 * 256 + 0) * 8), V.nils]] cfgN.bld).ty).ty ((Bk.mk true true true [[V.slf (1000 + (2 * 256 + 0) * 8), V.nils]] cfgN.bld).ty % 1000000)).s x7.i)).2)) (fd_vc_1 r t xs s I K x7 l9 m8 l6)))))))))) (
    need (okBytes (List.take x7.6 x7.8)) (
    need (exactB (List.take x7.6 x7.8)) (
    need (leN x7.6 140737488355328) (
    K (V.tup [V.agg [V.bool x7.1, V.str x7.2, V.lst (List.take x7.3 (List.drop 0 x7.5))], V.str (bytesOf (List.take x7.6 x7.8))]) []))))))))) := by kernel_rfl
set_option maxRecDepth 100000
set_option linter.unusedVariables false
set_option linter.unusedSimpArgs false
theorem rowsB_fold (s : List UInt8) : List.map (fun c : UInt8 => [V.int IntKind.u8 (Int.ofNat c.toBitVec.toFin.1)]) s = rowsB s := rfl
theorem rowsB_app (a b : List UInt8) : rowsB a ++ rowsB b = rowsB (a ++ b) := by simp [rowsB]
theorem rowsB_head (s : List UInt8) : headOkP 1 (rowsB s) = true := by cases s <;> rfl
theorem exactB_rowsB : ∀ s : List UInt8, exactB (rowsB s) = true
  | [] => rfl
  | c :: s => by
    rw [rowsB_cons]
    have := c.toNat_lt
    simp only [exactB, exactB_rowsB s, Bool.and_true, Bool.and_eq_true, decide_eq_true_eq]
    omega
theorem take_rowsB (s : List UInt8) : List.take s.length (rowsB s) = rowsB s := List.take_of_length_le (by rw [rowsB_len]; omega)
theorem pr_con [MaxL] {n : Nat} (hn : 1 ≤ n) : ConOk (evalF Tryz.prog cfgN n) 118 prCon := by
  intro vs bs K h
  unfold prCon at h
  split at h
  · rename_i c
    refine run_of (lp := lpOf []) hn (fun k _ => noCt_ok _) ?_
    rw [pr_vc]
    have e : prB c = (eqI c 9 || (leI 32 c && notB (eqI c 127))) := rfl
    rw [e] at h
    cases h1 : eqI c 9 <;> cases h2 : leI 32 c <;> (rw [h1, h2] at h; exact h)
  · exact h.elim
theorem bl_con [MaxL] {n : Nat} (hn : 1 ≤ n) : ConOk (evalF Tryz.prog cfgN n) 203 blCon := by
  intro vs bs K h
  unfold blCon at h
  split at h
  · rename_i c
    refine run_of (lp := lpOf []) hn (fun k _ => noCt_ok _) ?_
    rw [bl_vc]
    have e : blB c = (eqI c 9 || eqI c 32) := rfl
    rw [e] at h
    cases h1 : eqI c 9 <;> (rw [h1] at h; exact h)
  · exact h.elim
theorem own_con [MaxL] {n : Nat} (hn : 1 ≤ n) : ConOk (evalF Tryz.prog cfgN n) 38 ownCon := by
  intro vs bs K h
  unfold ownCon at h
  split at h
  · obtain ⟨l, rfl, h1, hK⟩ := h
    refine run_of (lp := lpOf []) hn (fun k _ => noCt_ok _) ?_
    rw [own_vc, need_iff, need_iff, strV_len]
    exact ⟨strV_head _, by simp only [br_iff, need_iff, andB_t, andB_f, orB_t, orB_f, notB_t, notB_f, leI_t, leI_f, ltI_t, ltI_f, eqI_t, eqI_f, leN_t, leN_f, eqN_t, eqN_f, eqS_t, eqS_f, eqB_t, eqB_f, catOk_t, leC_t]; omega, hK⟩
  · exact h.elim
theorem strV_one (s : List UInt8) : [[V.str s]] = strV [s] := rfl
theorem dl_con [MaxL] {n : Nat} (hn : 1 ≤ n) : ConOk (evalF Tryz.prog cfgN n) 115 delivCon := by
  intro vs bs K h
  unfold delivCon at h
  split at h
  · rename_i s r t n' k ys
    obtain ⟨l, rfl, rfl, rfl, h1, hK⟩ := h
    refine run_of (lp := lpOf []) hn (fun k _ => noCt_ok _) ?_
    rw [dl_vc]
    rw [br_iff] at hK ⊢
    refine ⟨fun g => hK.2 (by simp only [br_iff, need_iff, andB_t, andB_f, orB_t, orB_f, notB_t, notB_f, leI_t, leI_f, ltI_t, ltI_f, eqI_t, eqI_f, leN_t, leN_f, eqN_t, eqN_f, eqS_t, eqS_f, eqB_t, eqB_f, catOk_t, leC_t] at g ⊢; exact g), fun g => ?_⟩
    have hK := hK.1 (by simp only [br_iff, need_iff, andB_t, andB_f, orB_t, orB_f, notB_t, notB_f, leI_t, leI_f, ltI_t, ltI_f, eqI_t, eqI_f, leN_t, leN_f, eqN_t, eqN_f, eqS_t, eqS_f, eqB_t, eqB_f, catOk_t, leC_t] at g ⊢; exact g)
    simp only [leN_succ, eqN_self, leI_self, br_ff, br_tt, need_tt, andB_tt, List.drop_zero, List.nil_append, List.append_nil, Nat.zero_add, Nat.add_zero, Nat.sub_zero, List.take_length, Int.ofNat_eq_natCast, Int.toNat_natCast, Int.toNat_zero, strV_len, strV_one, strV_app]
    rw [need_iff, need_iff]
    exact ⟨strV_head _, by simp only [br_iff, need_iff, andB_t, andB_f, orB_t, orB_f, notB_t, notB_f, leI_t, leI_f, ltI_t, ltI_f, eqI_t, eqI_f, leN_t, leN_f, eqN_t, eqN_f, eqS_t, eqS_f, eqB_t, eqB_f, catOk_t, leC_t]; omega, hK⟩
  · exact h.elim
theorem er_con [MaxL] {n : Nat} (hn : 2 ≤ n) : ConOk (evalF Tryz.prog cfgN n) 116 erasedCon := by
  intro vs bs K h
  unfold erasedCon at h
  split at h
  · rename_i t c
    obtain ⟨hb, hK⟩ := h
    refine run_of (lp := lpOf [(6, erL fun _ _ x m => ∃ j : Nat, x = ⟨(j : Int)⟩ ∧ j = m ∧ j ≤ t.length ∧ scanB blB t t.length = scanB blB t j), (8, erL fun _ _ x m => ∃ j : Nat, x = ⟨(j : Int)⟩ ∧ j = m ∧ j ≤ t.length ∧ scanB nbl t (scanB blB t t.length) = scanB nbl t j)]) (by omega)
      (ct := ctOf [(203, blCon)]) (fun k hk => ctOf_ok (ctOf_cons (bl_con (by omega)) (ctOf_nil _))) ?_
    rw [er_vc]
    rw [br_iff]
    refine ⟨fun g => ?_, fun g => ?_⟩
    · simp only [br_iff, need_iff, andB_t, andB_f, orB_t, orB_f, notB_t, notB_f, leI_t, leI_f, ltI_t, ltI_f, eqI_t, eqI_f, leN_t, leN_f, eqN_t, eqN_f, eqS_t, eqS_f, eqB_t, eqB_f, catOk_t, leC_t] at g
      unfold erasedN at hK
      rw [if_pos g] at hK; exact hK
    have g21 : ¬ c = 21 := by simpa only [br_iff, need_iff, andB_t, andB_f, orB_t, orB_f, notB_t, notB_f, leI_t, leI_f, ltI_t, ltI_f, eqI_t, eqI_f, leN_t, leN_f, eqN_t, eqN_f, eqS_t, eqS_f, eqB_t, eqB_f, catOk_t, leC_t] using g
    rw [br_iff]
    refine ⟨fun g => ?_, fun g => ?_⟩
    · have g23 : c = 23 := by simpa only [br_iff, need_iff, andB_t, andB_f, orB_t, orB_f, notB_t, notB_f, leI_t, leI_f, ltI_t, ltI_f, eqI_t, eqI_f, leN_t, leN_f, eqN_t, eqN_f, eqS_t, eqS_f, eqB_t, eqB_f, catOk_t, leC_t] using g
      unfold erasedN at hK
      rw [if_neg g21, if_pos g23] at hK
      have main : ∀ j : Nat, j ≤ t.length → scanB blB t t.length = j → er_vc_1 t c (fun _ _ x m => ∃ j : Nat, x = ⟨(j : Int)⟩ ∧ j = m ∧ j ≤ t.length ∧ scanB blB t t.length = scanB blB t j) (fun _ _ x m => ∃ j : Nat, x = ⟨(j : Int)⟩ ∧ j = m ∧ j ≤ t.length ∧ scanB nbl t (scanB blB t t.length) = scanB nbl t j) K ⟨(j : Int)⟩ := by
        intro j hj he
        unfold er_vc_1
        refine ⟨⟨j, by omega, j, rfl, rfl, hj, by rw [he]⟩, ?_⟩
        rintro _ m ⟨i, rfl, rfl, hi, hp⟩
        dsimp only
        have fin : scanB nbl t i = i → K (.int .i64 (subI .i64 (lenS t) (i : Int))) [] := by
          intro e
          have : wordN t = t.length - i := by unfold wordN; rw [hp, e]
          rw [this] at hK
          rw [subI_i64 (by unfold lenS; omega) (by unfold lenS; omega)]
          rw [show lenS t - (i : Int) = Int.ofNat (t.length - i) by unfold lenS; simp; omega]
          exact hK
        rw [br_iff]
        refine ⟨fun q => ?_, fun q => fin (by simp only [br_iff, need_iff, andB_t, andB_f, orB_t, orB_f, notB_t, notB_f, leI_t, leI_f, ltI_t, ltI_f, eqI_t, eqI_f, leN_t, leN_f, eqN_t, eqN_f, eqS_t, eqS_f, eqB_t, eqB_f, catOk_t, leC_t] at q; obtain rfl : i = 0 := by omega
                                              rfl)⟩
        obtain ⟨k, rfl⟩ : ∃ k, i = k + 1 := ⟨i - 1, by simp only [br_iff, need_iff, andB_t, andB_f, orB_t, orB_f, notB_t, notB_f, leI_t, leI_f, ltI_t, ltI_f, eqI_t, eqI_f, leN_t, leN_f, eqN_t, eqN_f, eqS_t, eqS_f, eqB_t, eqB_f, catOk_t, leC_t] at q; omega⟩
        have e1 : subI .i64 ((k + 1 : Nat) : Int) 1 = (k : Int) := by rw [subI_i64 (by omega) (by omega)]; omega
        rw [e1, need_iff]
        refine ⟨by simp only [br_iff, need_iff, andB_t, andB_f, orB_t, orB_f, notB_t, notB_f, leI_t, leI_f, ltI_t, ltI_f, eqI_t, eqI_f, leN_t, leN_f, eqN_t, eqN_f, eqS_t, eqS_f, eqB_t, eqB_f, catOk_t, leC_t, lenS]; omega, ?_⟩
        rw [br_iff]
        refine ⟨fun w => ⟨by trivial, k, by omega, k, rfl, rfl, by omega, ?_⟩, fun w => fin ?_⟩
        · rw [hp, scanB, if_pos (show nbl ((t.getD k 0).toNat : Int) = true from w)]
        · rw [scanB, if_neg (show ¬ nbl ((t.getD k 0).toNat : Int) = true by rw [show nbl ((t.getD k 0).toNat : Int) = false from w]; simp)]
      refine ⟨⟨t.length, by omega, t.length, rfl, rfl, by omega, rfl⟩, ?_⟩
      rintro _ m ⟨i, rfl, rfl, hi, hp⟩
      dsimp only
      rw [br_iff]
      refine ⟨fun q => ?_, fun q => main i hi (by simp only [br_iff, need_iff, andB_t, andB_f, orB_t, orB_f, notB_t, notB_f, leI_t, leI_f, ltI_t, ltI_f, eqI_t, eqI_f, leN_t, leN_f, eqN_t, eqN_f, eqS_t, eqS_f, eqB_t, eqB_f, catOk_t, leC_t] at q; obtain rfl : i = 0 := by omega
                                                  rw [hp]; rfl)⟩
      obtain ⟨k, rfl⟩ : ∃ k, i = k + 1 := ⟨i - 1, by simp only [br_iff, need_iff, andB_t, andB_f, orB_t, orB_f, notB_t, notB_f, leI_t, leI_f, ltI_t, ltI_f, eqI_t, eqI_f, leN_t, leN_f, eqN_t, eqN_f, eqS_t, eqS_f, eqB_t, eqB_f, catOk_t, leC_t] at q; omega⟩
      have e1 : subI .i64 ((k + 1 : Nat) : Int) 1 = (k : Int) := by rw [subI_i64 (by omega) (by omega)]; omega
      rw [e1, need_iff]
      refine ⟨by simp only [br_iff, need_iff, andB_t, andB_f, orB_t, orB_f, notB_t, notB_f, leI_t, leI_f, ltI_t, ltI_f, eqI_t, eqI_f, leN_t, leN_f, eqN_t, eqN_f, eqS_t, eqS_f, eqB_t, eqB_f, catOk_t, leC_t, lenS]; omega, ?_⟩
      rw [br_iff]
      refine ⟨fun w => ⟨by trivial, k, by omega, k, rfl, rfl, by omega, ?_⟩, fun w => main _ hi ?_⟩
      · rw [hp, scanB, if_pos (show blB ((t.getD k 0).toNat : Int) = true from w)]
      · rw [hp, scanB, if_neg (show ¬ blB ((t.getD k 0).toNat : Int) = true by rw [show blB ((t.getD k 0).toNat : Int) = false from w]; simp)]
    · have g23 : ¬ c = 23 := by simpa only [br_iff, need_iff, andB_t, andB_f, orB_t, orB_f, notB_t, notB_f, leI_t, leI_f, ltI_t, ltI_f, eqI_t, eqI_f, leN_t, leN_f, eqN_t, eqN_f, eqS_t, eqS_f, eqB_t, eqB_f, catOk_t, leC_t] using g
      unfold erasedN at hK
      rw [if_neg g21, if_neg g23] at hK
      have : minI (lenS t) 1 = Int.ofNat (min t.length 1) := by unfold minI lenS; simp; omega
      rw [this]; exact hK
  · exact h.elim
set_option maxRecDepth 100000
set_option linter.unusedVariables false
set_option linter.unusedSimpArgs false
theorem ty_con [MaxL] {n : Nat} (hn : 3 ≤ n) : ConOk (evalF Tryz.prog cfgN n) 40 typedCon := by
  intro vs bs K h
  unfold typedCon at h
  split at h
  · rename_i c r t n' k ys
    obtain ⟨l, rfl, rfl, rfl, hR, h0, h1, hA, hB⟩ := h
    refine run_of (lp := lpOf []) (by omega) (ct := ctOf [(118, prCon), (115, delivCon), (116, erasedCon)])
      (fun k hk => ctOf_ok (ctOf_cons (pr_con (by omega)) (ctOf_cons (dl_con (by omega)) (ctOf_cons (er_con (by omega)) (ctOf_nil _))))) ?_
    rw [ty_vc]
    obtain ⟨a1, a2, a3, a4, a5⟩ := (rightL_iff _).1 hR
    dsimp only at a1 a2 a3 a4 a5
    have fA : ∀ {l' : Line} {e : List UInt8}, typeF ⟨r, t, l⟩ c = (l', e) → K (.str e) [⟨true, true, true, [[.bool l'.raw, .str l'.text, .ref 1 0 l'.ready.length l'.ready.length]], 0⟩, ⟨true, false, true, strV l'.ready, 0⟩] := fun h => by rw [h] at hA; exact hA
    have fB : ∀ {l' : Line} {e : List UInt8}, typeF ⟨r, t, l⟩ c = (l', e) → K (.str e) [⟨true, true, true, [[.bool l'.raw, .str l'.text, .ref 2 0 l'.ready.length l'.ready.length]], 0⟩, ⟨false, false, true, [], 0⟩, ⟨true, false, true, strV l'.ready, 0⟩] := fun h => by rw [h] at hB; exact hB
    clear hA hB
    rw [br_iff]
    refine ⟨fun hr => ?_, fun hr => ?_⟩
    · subst hr
      refine ⟨l, rfl, rfl, rfl, by omega, ?_⟩
      rw [br_iff]
      refine ⟨fun g => ?_, fun g => ?_⟩
      · have := fB (l' := ⟨true, t, l ++ [byteL c]⟩) (e := []) (by unfold typeF; rw [if_pos rfl, if_pos (by simp only [br_iff, need_iff, andB_t, andB_f, orB_t, orB_f, notB_t, notB_f, leI_t, leI_f, ltI_t, ltI_f, eqI_t, eqI_f, leN_t, leN_f, eqN_t, eqN_f, eqS_t, eqS_f, eqB_t, eqB_f, catOk_t, leC_t, Int.ofNat_eq_natCast] at g; show l.length < 1024; omega)])
        simp only [List.length_append, List.length_cons, List.length_nil, Nat.zero_add] at this; exact this
      · exact fA (l' := ⟨true, t, l⟩) (e := []) (by unfold typeF; rw [if_pos rfl, if_neg (by simp only [br_iff, need_iff, andB_t, andB_f, orB_t, orB_f, notB_t, notB_f, leI_t, leI_f, ltI_t, ltI_f, eqI_t, eqI_f, leN_t, leN_f, eqN_t, eqN_f, eqS_t, eqS_f, eqB_t, eqB_f, catOk_t, leC_t, Int.ofNat_eq_natCast] at g; show ¬ l.length < 1024; omega)])
    subst hr
    have era : c = 8 ∨ c = 127 ∨ c = 21 ∨ c = 23 → ty_vc_1 false t l.length l.length (strV l) c K := by
      intro hc
      have hle := erasedN_le t c
      unfold ty_vc_1
      refine ⟨by omega, ?_⟩
      have e1 : subI .i64 (lenS t) (Int.ofNat (erasedN t c)) = ((t.length - erasedN t c : Nat) : Int) := by
        rw [subI_i64 (by unfold lenS; simp; omega) (by unfold lenS; simp; omega)]
        unfold lenS; simp; omega
      rw [need_iff, e1]; refine ⟨by simp only [br_iff, need_iff, andB_t, andB_f, orB_t, orB_f, notB_t, notB_f, leI_t, leI_f, ltI_t, ltI_f, eqI_t, eqI_f, leN_t, leN_f, eqN_t, eqN_f, eqS_t, eqS_f, eqB_t, eqB_f, catOk_t, leC_t, lenS]; omega, ?_⟩
      rw [need_iff]; refine ⟨by simp only [br_iff, need_iff, andB_t, andB_f, orB_t, orB_f, notB_t, notB_f, leI_t, leI_f, ltI_t, ltI_f, eqI_t, eqI_f, leN_t, leN_f, eqN_t, eqN_f, eqS_t, eqS_f, eqB_t, eqB_f, catOk_t, leC_t, andB_tt, Int.ofNat_eq_natCast, Int.toNat_natCast]; omega, ?_⟩
      have := fA (l' := ⟨false, t.take (t.length - erasedN t c), l⟩) (e := rub (erasedN t c)) (by unfold typeF; rw [if_neg (by simp), if_pos hc]; rfl)
      exact this
    have nl : c = 10 ∨ c = 13 → ty_vc_2 false t l.length l.length (strV l) c K := by
      intro hc
      unfold ty_vc_2
      rw [need_iff]; refine ⟨by simp only [br_iff, need_iff, andB_t, andB_f, orB_t, orB_f, notB_t, notB_f, leI_t, leI_f, ltI_t, ltI_f, eqI_t, eqI_f, leN_t, leN_f, eqN_t, eqN_f, eqS_t, eqS_f, eqB_t, eqB_f, catOk_t, leC_t, List.length_singleton]; omega, l, rfl, rfl, rfl, by omega, ?_⟩
      rw [br_iff]
      refine ⟨fun g => ?_, fun g => ?_⟩
      · have := fB (l' := ⟨false, [], l ++ [t ++ [10]]⟩) (e := [10]) (by unfold typeF; rw [if_neg (by simp), if_neg (by omega), if_pos hc, if_pos (by simp only [br_iff, need_iff, andB_t, andB_f, orB_t, orB_f, notB_t, notB_f, leI_t, leI_f, ltI_t, ltI_f, eqI_t, eqI_f, leN_t, leN_f, eqN_t, eqN_f, eqS_t, eqS_f, eqB_t, eqB_f, catOk_t, leC_t, Int.ofNat_eq_natCast] at g; show l.length < 1024; omega)])
        simp only [List.length_append, List.length_cons, List.length_nil, Nat.zero_add] at this; exact this
      · exact fA (l' := ⟨false, t, l⟩) (e := []) (by unfold typeF; rw [if_neg (by simp), if_neg (by omega), if_pos hc, if_neg (by simp only [br_iff, need_iff, andB_t, andB_f, orB_t, orB_f, notB_t, notB_f, leI_t, leI_f, ltI_t, ltI_f, eqI_t, eqI_f, leN_t, leN_f, eqN_t, eqN_f, eqS_t, eqS_f, eqB_t, eqB_f, catOk_t, leC_t, Int.ofNat_eq_natCast] at g; show ¬ l.length < 1024; omega)])
    rw [br_iff]; refine ⟨fun g => era (by simp only [br_iff, need_iff, andB_t, andB_f, orB_t, orB_f, notB_t, notB_f, leI_t, leI_f, ltI_t, ltI_f, eqI_t, eqI_f, leN_t, leN_f, eqN_t, eqN_f, eqS_t, eqS_f, eqB_t, eqB_f, catOk_t, leC_t] at g; omega), fun g8 => ?_⟩
    rw [br_iff]; refine ⟨fun g => era (by simp only [br_iff, need_iff, andB_t, andB_f, orB_t, orB_f, notB_t, notB_f, leI_t, leI_f, ltI_t, ltI_f, eqI_t, eqI_f, leN_t, leN_f, eqN_t, eqN_f, eqS_t, eqS_f, eqB_t, eqB_f, catOk_t, leC_t] at g; omega), fun g127 => ?_⟩
    rw [br_iff]; refine ⟨fun g => era (by simp only [br_iff, need_iff, andB_t, andB_f, orB_t, orB_f, notB_t, notB_f, leI_t, leI_f, ltI_t, ltI_f, eqI_t, eqI_f, leN_t, leN_f, eqN_t, eqN_f, eqS_t, eqS_f, eqB_t, eqB_f, catOk_t, leC_t] at g; omega), fun g21 => ?_⟩
    rw [br_iff]; refine ⟨fun g => era (by simp only [br_iff, need_iff, andB_t, andB_f, orB_t, orB_f, notB_t, notB_f, leI_t, leI_f, ltI_t, ltI_f, eqI_t, eqI_f, leN_t, leN_f, eqN_t, eqN_f, eqS_t, eqS_f, eqB_t, eqB_f, catOk_t, leC_t] at g; omega), fun g23 => ?_⟩
    rw [br_iff]; refine ⟨fun g => nl (by simp only [br_iff, need_iff, andB_t, andB_f, orB_t, orB_f, notB_t, notB_f, leI_t, leI_f, ltI_t, ltI_f, eqI_t, eqI_f, leN_t, leN_f, eqN_t, eqN_f, eqS_t, eqS_f, eqB_t, eqB_f, catOk_t, leC_t] at g; omega), fun g10 => ?_⟩
    rw [br_iff]; refine ⟨fun g => nl (by simp only [br_iff, need_iff, andB_t, andB_f, orB_t, orB_f, notB_t, notB_f, leI_t, leI_f, ltI_t, ltI_f, eqI_t, eqI_f, leN_t, leN_f, eqN_t, eqN_f, eqS_t, eqS_f, eqB_t, eqB_f, catOk_t, leC_t] at g; omega), fun g13 => ?_⟩
    simp only [br_iff, need_iff, andB_t, andB_f, orB_t, orB_f, notB_t, notB_f, leI_t, leI_f, ltI_t, ltI_f, eqI_t, eqI_f, leN_t, leN_f, eqN_t, eqN_f, eqS_t, eqS_f, eqB_t, eqB_f, catOk_t, leC_t] at g8 g127 g21 g23 g10 g13
    rw [br_iff]; refine ⟨fun g => ?_, fun g4 => ?_⟩
    · have hc : c = 4 := by simpa only [br_iff, need_iff, andB_t, andB_f, orB_t, orB_f, notB_t, notB_f, leI_t, leI_f, ltI_t, ltI_f, eqI_t, eqI_f, leN_t, leN_f, eqN_t, eqN_f, eqS_t, eqS_f, eqB_t, eqB_f, catOk_t, leC_t] using g
      refine ⟨l, rfl, rfl, rfl, by omega, ?_⟩
      rw [br_iff]
      refine ⟨fun g => ?_, fun g => ?_⟩
      · have := fB (l' := ⟨false, [], l ++ [t]⟩) (e := []) (by unfold typeF; rw [if_neg (by simp), if_neg (by omega), if_neg (by omega), if_pos hc, if_pos (by simp only [br_iff, need_iff, andB_t, andB_f, orB_t, orB_f, notB_t, notB_f, leI_t, leI_f, ltI_t, ltI_f, eqI_t, eqI_f, leN_t, leN_f, eqN_t, eqN_f, eqS_t, eqS_f, eqB_t, eqB_f, catOk_t, leC_t, Int.ofNat_eq_natCast] at g; show l.length < 1024; omega)])
        simp only [List.length_append, List.length_cons, List.length_nil, Nat.zero_add] at this; exact this
      · exact fA (l' := ⟨false, t, l⟩) (e := []) (by unfold typeF; rw [if_neg (by simp), if_neg (by omega), if_neg (by omega), if_pos hc, if_neg (by simp only [br_iff, need_iff, andB_t, andB_f, orB_t, orB_f, notB_t, notB_f, leI_t, leI_f, ltI_t, ltI_f, eqI_t, eqI_f, leN_t, leN_f, eqN_t, eqN_f, eqS_t, eqS_f, eqB_t, eqB_f, catOk_t, leC_t, Int.ofNat_eq_natCast] at g; show ¬ l.length < 1024; omega)])
    simp only [br_iff, need_iff, andB_t, andB_f, orB_t, orB_f, notB_t, notB_f, leI_t, leI_f, ltI_t, ltI_f, eqI_t, eqI_f, leN_t, leN_f, eqN_t, eqN_f, eqS_t, eqS_f, eqB_t, eqB_f, catOk_t, leC_t] at g4
    rw [br_iff]; refine ⟨fun gp => ?_, fun gp => ?_⟩
    · rw [br_iff]; refine ⟨fun g => ?_, fun g => ?_⟩
      · rw [need_iff]; refine ⟨by simp only [br_iff, need_iff, andB_t, andB_f, orB_t, orB_f, notB_t, notB_f, leI_t, leI_f, ltI_t, ltI_f, eqI_t, eqI_f, leN_t, leN_f, eqN_t, eqN_f, eqS_t, eqS_f, eqB_t, eqB_f, catOk_t, leC_t, List.length_singleton]; omega, ?_⟩
        exact fA (l' := ⟨false, t ++ byteL c, l⟩) (e := byteL c) (by unfold typeF; rw [if_neg (by simp), if_neg (by omega), if_neg (by omega), if_neg g4, if_pos gp, if_pos (by simp only [br_iff, need_iff, andB_t, andB_f, orB_t, orB_f, notB_t, notB_f, leI_t, leI_f, ltI_t, ltI_f, eqI_t, eqI_f, leN_t, leN_f, eqN_t, eqN_f, eqS_t, eqS_f, eqB_t, eqB_f, catOk_t, leC_t, lenS] at g; simp only; omega)])
      · exact fA (l' := ⟨false, t, l⟩) (e := []) (by unfold typeF; rw [if_neg (by simp), if_neg (by omega), if_neg (by omega), if_neg g4, if_pos gp, if_neg (by simp only [br_iff, need_iff, andB_t, andB_f, orB_t, orB_f, notB_t, notB_f, leI_t, leI_f, ltI_t, ltI_f, eqI_t, eqI_f, leN_t, leN_f, eqN_t, eqN_f, eqS_t, eqS_f, eqB_t, eqB_f, catOk_t, leC_t, lenS] at g; simp only; omega)])
    · exact fA (l' := ⟨false, t, l⟩) (e := []) (by unfold typeF; rw [if_neg (by simp), if_neg (by omega), if_neg (by omega), if_neg g4, if_neg (by rw [gp]; simp)])
  · exact h.elim
theorem feedF_take {l : Line} {s : List UInt8} {k : Nat} (h : k < s.length) : feedF l (s.take (k + 1)) = ((typeF (feedF l (s.take k)).1 (atS s (k : Int))).1, (feedF l (s.take k)).2 ++ (typeF (feedF l (s.take k)).1 (atS s (k : Int))).2) := by
  rw [List.take_succ_eq_append_getElem h, feedF_snoc, atS_at h]
def fdI (l : Line) (s : List UInt8) (x : fdX) (m : Nat) : Prop := ∃ k : Nat, k + m = s.length ∧
  x = ⟨(feedF l (s.take k)).1.raw, (feedF l (s.take k)).1.text, (feedF l (s.take k)).1.ready.length, (feedF l (s.take k)).1.ready.length, strV (feedF l (s.take k)).1.ready,
    (feedF l (s.take k)).2.length, (feedF l (s.take k)).2.length, rowsB (feedF l (s.take k)).2, (k : Int)⟩
theorem fd_con [MaxL] {n : Nat} (hn : 4 ≤ n) : ConOk (evalF Tryz.prog cfgN n) 10 feedCon := by
  intro vs bs K h
  unfold feedCon at h
  split at h
  · rename_i r t xs s
    obtain ⟨l, rfl, hR, hs, hK⟩ := h
    obtain ⟨a1, a2, a3, a4, a5⟩ := (rightL_iff _).1 hR
    dsimp only at a1 a2 a3 a4 a5
    refine run_of (lp := lpOf [(4, fdL fun _ _ x m => fdI ⟨r, t, l⟩ s x m)]) (by omega) (ct := ctOf [(38, ownCon), (40, typedCon), (39, inlC Tryz.prog cfgN (ctOf []) 39)])
      (fun k hk => ctOf_ok (ctOf_cons (own_con (by omega)) (ctOf_cons (ty_con (by omega)) (ctOf_cons (inl_ok (by omega) (fun _ _ => noCt_ok _)) (ctOf_nil _))))) ?_
    rw [fd_vc]
    refine ⟨l, rfl, by omega, ⟨s.length, by omega, 0, by omega, rfl⟩, ?_⟩
    rintro _ m ⟨k, hk, rfl⟩
    have hR' := feedF_right (s.take k) hR
    have hE := feedF_echo (s.take k) hR
    rw [List.length_take] at hE
    generalize hq : feedF ⟨r, t, l⟩ (s.take k) = q at hR' hE ⊢
    obtain ⟨⟨r', t', l'⟩, e⟩ := q
    dsimp only at hR' hE ⊢
    rw [br_iff]
    refine ⟨fun hlt => ?_, fun hge => ?_⟩
    · have hlt : k < s.length := by simp only [br_iff, need_iff, andB_t, andB_f, orB_t, orB_f, notB_t, notB_f, leI_t, leI_f, ltI_t, ltI_f, eqI_t, eqI_f, leN_t, leN_f, eqN_t, eqN_f, eqS_t, eqS_f, eqB_t, eqB_f, catOk_t, leC_t, lenS] at hlt; omega
      have hb : 0 ≤ atS s (k : Int) ∧ atS s (k : Int) ≤ 255 := by rw [atS_at hlt]; exact byte255 _
      have hstep := feedF_take (l := ⟨r, t, l⟩) hlt
      rw [hq] at hstep
      dsimp only at hstep
      rw [need_iff]; refine ⟨by simp only [br_iff, need_iff, andB_t, andB_f, orB_t, orB_f, notB_t, notB_f, leI_t, leI_f, ltI_t, ltI_f, eqI_t, eqI_f, leN_t, leN_f, eqN_t, eqN_f, eqS_t, eqS_f, eqB_t, eqB_f, catOk_t, leC_t, lenS]; omega, l', rfl, rfl, rfl, hR', hb.1, hb.2, ?_⟩
      have hE2 := typeF_echo hR' (atS s (k : Int))
      have main : need (headOkP 1 (rowsB (typeF ⟨r', t', l'⟩ (atS s (k : Int))).2)) (fd_vc_1 r t (strV l) s (fun _ _ x m => fdI ⟨r, t, l⟩ s x m) K ⟨r', t', l'.length, l'.length, strV l', e.length, e.length, rowsB e, (k : Int)⟩ l' m l) := by
        rw [need_iff]; refine ⟨rowsB_head _, ?_⟩
        unfold fd_vc_1
        simp only [rowsB_fold]
        generalize hw : typeF ⟨r', t', l'⟩ (atS s (k : Int)) = w at hE2 hstep ⊢
        obtain ⟨⟨r2, t2, l2⟩, e2⟩ := w
        dsimp only at hE2 hstep ⊢
        have ek : addI .i64 (k : Int) 1 = ((k + 1 : Nat) : Int) := by rw [addI_i64 (by omega) (by omega)]; rfl
        rw [ek]
        simp only [rowsB_len]
        rw [need_iff]; refine ⟨rowsB_head _, ?_⟩
        rw [br_iff]
        refine ⟨fun g => ⟨by trivial, m - 1, by omega, k + 1, by omega, ?_⟩, fun g => ?_⟩
        · have g : e2.length = 0 := by simp only [br_iff, need_iff, andB_t, andB_f, orB_t, orB_f, notB_t, notB_f, leI_t, leI_f, ltI_t, ltI_f, eqI_t, eqI_f, leN_t, leN_f, eqN_t, eqN_f, eqS_t, eqS_f, eqB_t, eqB_f, catOk_t, leC_t] at g; omega
          obtain rfl := List.length_eq_zero_iff.1 g
          rw [hstep]
          simp only [leN_succ, eqN_self, leI_self, br_ff, br_tt, need_tt, andB_tt, List.drop_zero, List.nil_append, List.append_nil, Nat.zero_add, Nat.add_zero, Nat.sub_zero, List.take_length, Int.ofNat_eq_natCast, Int.toNat_natCast, Int.toNat_zero, take_rowsB, rowsB_len, List.length_nil, show rowsB [] = [] from rfl]
          rw [List.drop_of_length_le (by rw [rowsB_len]; omega), List.append_nil]
        · rw [need_iff]; refine ⟨by simp only [br_iff, need_iff, andB_t, andB_f, orB_t, orB_f, notB_t, notB_f, leI_t, leI_f, ltI_t, ltI_f, eqI_t, eqI_f, leN_t, leN_f, eqN_t, eqN_f, eqS_t, eqS_f, eqB_t, eqB_f, catOk_t, leC_t, rowsB_len]; omega, ?_⟩
          rw [need_iff]; refine ⟨by simp only [br_iff, need_iff, andB_t, andB_f, orB_t, orB_f, notB_t, notB_f, leI_t, leI_f, ltI_t, ltI_f, eqI_t, eqI_f, leN_t, leN_f, eqN_t, eqN_f, eqS_t, eqS_f, eqB_t, eqB_f, catOk_t, leC_t]; omega, by trivial, m - 1, by omega, k + 1, by omega, ?_⟩
          rw [hstep]
          simp only [leN_succ, eqN_self, leI_self, br_ff, br_tt, need_tt, andB_tt, List.drop_zero, List.nil_append, List.append_nil, Nat.zero_add, Nat.add_zero, Nat.sub_zero, List.take_length, Int.ofNat_eq_natCast, Int.toNat_natCast, Int.toNat_zero, rowsB_app, List.length_append]
      exact ⟨main, main⟩
    · have hk2 : k = s.length := by simp only [br_iff, need_iff, andB_t, andB_f, orB_t, orB_f, notB_t, notB_f, leI_t, leI_f, ltI_t, ltI_f, eqI_t, eqI_f, leN_t, leN_f, eqN_t, eqN_f, eqS_t, eqS_f, eqB_t, eqB_f, catOk_t, leC_t, lenS] at hge; omega
      subst hk2
      rw [List.take_length] at hq
      rw [hq] at hK
      simp only [take_rowsB, leN_succ, eqN_self, leI_self, br_ff, br_tt, need_tt, andB_tt, List.drop_zero, List.nil_append, List.append_nil, Nat.zero_add, Nat.add_zero, Nat.sub_zero, List.take_length, Int.ofNat_eq_natCast, Int.toNat_natCast, Int.toNat_zero, strV_all]
      rw [need_iff]; refine ⟨okBytes_rowsB _, ?_⟩
      rw [need_iff]; refine ⟨exactB_rowsB _, ?_⟩
      rw [need_iff]; refine ⟨by simp only [br_iff, need_iff, andB_t, andB_f, orB_t, orB_f, notB_t, notB_f, leI_t, leI_f, ltI_t, ltI_f, eqI_t, eqI_f, leN_t, leN_f, eqN_t, eqN_f, eqS_t, eqS_f, eqB_t, eqB_f, catOk_t, leC_t]; omega, ?_⟩
      rw [bytesOf_rowsB]
      exact hK
  · exact h.elim
set_option maxRecDepth 100000
set_option linter.unusedVariables false
set_option linter.unusedSimpArgs false
set_option maxRecDepth 100000
set_option linter.unusedVariables false
set_option linter.unusedSimpArgs false
end Go.Proofs.YthhpdnlfhofanaaGreatDoor
